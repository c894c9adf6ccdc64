/- The walk of owner.drop. -/
import Derived.Test.YtjibdbnpkfghhaaGreatDoorOwS
import Derived.Test.YtjibdbnpkfghhaaGreatDoorWout
set_option linter.all false
namespace Go.Proofs.YtjibdbnpkfghhaaGreatDoor
open Go.RowKit
attribute [local go_sem ↓] Go.wp_at_zero Go.wp_at_succ
theorem dropV_cons (a : ByteArray) (r : List ByteArray) (v : V) : dropV (a :: r) v = match v.member a with
    | none => v
    | some old => if r = [] then v.del a else if (dropV r old).k = 5 ∧ (dropV r old).l = [] ∧ old.l ≠ [] then v.del a else v.put a (dropV r old) := rfl
set_option maxRecDepth 100000 in
set_option maxHeartbeats 8000000 in
theorem drop_any : ∀ (l : List ByteArray) (v : V) (ka : Option Addr) (kc : Nat) (la : Option Addr) (lc : Nat) (b o n c : Nat) (S : Nat → Prop) (w : World), l ≠ [] → l.length = n → v.sound → v.size ≤ 1073741824 → n ≤ 1073741824 → n ≤ c → c ≤ maxLen →
    (∀ i (h : i < l.length), w.cell? ⟨b, o + i, none⟩ = some (.string l[i])) → v.In w S ka kc la lc →
    Calls Tryz.prog 57 #[v.val ka kc la lc, .slice (some ⟨b, o, none⟩) n c] w (RetV S (dropV l v) w) := by
  intro l
  induction l with
  | nil => intro v _ _ _ _ _ _ _ _ _ _ h; exact absurd rfl h
  | cons a r ih =>
    intro v ka kc la lc b o n c S w _ hn hso hsz hnb hnc hcb hC hin
    have hk : w.cell? ⟨b, o, none⟩ = some (.string a) := hC 0 (by simp)
    have HC := Lib.hid (show ∀ i (h : i < r.length), w.cell? ⟨b, o + 1 + i, none⟩ = some (.string r[i]) from fun i h => by
      have := hC (i + 1) (by simpa using h)
      rw [show o + 1 + i = o + (i + 1) by omega]
      simpa using this)
    have hbl := cell_lt hk
    have Hin := Lib.hid (hin.mono (T := fun b => S b ∧ b < w.heap.size) (fun b h hl => ⟨h, hl⟩))
    have hi0 : (0 : Int) < (n : Int) := by simp at hn; omega
    have hi0n : 0 < n := by omega
    have hi0c : ¬ n = 0 := by omega
    have hi0d : ¬ n ≤ 0 := by omega
    have Hdrop := Lib.hid (dropV_cons a r v)
    have Hn := Lib.hid (show r.length + 1 = n by simpa using hn)
    have Hso := Lib.hid hso
    obtain ⟨z, hz0⟩ : ∃ z, v.memD a = z := ⟨_, rfl⟩
    have hzz : z.size ≤ 1073741824 := by
      rcases memD_size v a with h | h
      · rw [← hz0, h]; decide +kernel
      · rw [← hz0]; omega
    have Hzg := Lib.hid (show (v.member a).getD V.zero = z from hz0)
    obtain ⟨mb, hmb⟩ : ∃ mb, (v.member a).isSome = mb := ⟨_, rfl⟩
    have Hz0 := Lib.hid hz0
    have Hmb := Lib.hid hmb
    clear hin hC hn hso hz0 hmb
    go_enter Tryz.func57, Tryz.ntmps57
    go_upto_region 1 with fail
    refine gen_world (R := fun wx => Box wx w.heap.size #[.int .i64 v.k, .int .i64 v.n, .string v.s, .slice ka v.keys.length kc, .slice la v.l.length lc] 25 ∧ Box wx (w.heap.size + 1) #[.int .i64 0, .int .i64 0, .string ⟨#[]⟩, .slice none 0 0, .slice none 0 0] 25 ∧ Ext w wx) ⟨Bxt, Bxt, Xt⟩ ?_
    rintro wa ⟨hB0, hB1, hxa⟩
    have hka := hxa.cell hk
    have hza := hB1.lt
    have Hin0 := Lib.hid (Hin.out.ext hxa)
    clear hk
    refine meetO ?G1 (fun bt k3 c3 l3 d3 wy => Box wy bt #[.int .i64 z.k, .int .i64 z.n, .string z.s, .slice k3 z.keys.length c3, .slice l3 z.l.length d3] 25 ∧ z.In wy (Plus (fun b => S b ∧ b < w.heap.size) wa) k3 c3 l3 d3 ∧ wa.heap.size ≤ bt ∧ Ext wa wy) (fun cont => ?reg1) ?rest1
    case reg1 =>
      have Sof : ∀ w', Ext wa w' → (w'.cell? ⟨w.heap.size, 0, none⟩ = some (.int .i64 v.k) ∧ w'.cell? ⟨w.heap.size, 1, none⟩ = some (.int .i64 v.n) ∧ w'.cell? ⟨w.heap.size, 2, none⟩ = some (.string v.s) ∧ w'.cell? ⟨w.heap.size, 3, none⟩ = some (.slice ka v.keys.length kc) ∧ w'.cell? ⟨w.heap.size, 4, none⟩ = some (.slice la v.l.length lc) ∧ w'.cell? ⟨b, o, none⟩ = some (.string a)) := fun w' e => ⟨e.cell (hB0.cells 0), e.cell (hB0.cells 1), e.cell (hB0.cells 2), e.cell (hB0.cells 3), e.cell (hB0.cells 4), e.cell (hka)⟩
      refine wp_region_till (S := fun w' => w'.cell? ⟨w.heap.size, 0, none⟩ = some (.int .i64 v.k) ∧ w'.cell? ⟨w.heap.size, 1, none⟩ = some (.int .i64 v.n) ∧ w'.cell? ⟨w.heap.size, 2, none⟩ = some (.string v.s) ∧ w'.cell? ⟨w.heap.size, 3, none⟩ = some (.slice ka v.keys.length kc) ∧ w'.cell? ⟨w.heap.size, 4, none⟩ = some (.slice la v.l.length lc) ∧ w'.cell? ⟨b, o, none⟩ = some (.string a)) (c := 10) (by kernel_rfl) ?_
      (refine wpAnyT_take (i := 0) (v := ?_) [4, 9, 10] (Array.getElem?_eq_getElem (by decide)) (by kernel_rfl) (by kernel_rfl) (by kernel_rfl) (by kernel_rfl) rfl rfl (by kernel_rfl) (fun _ _ _ h => h) (Or.inl ⟨by kernel_rfl, ?_⟩) (Sof _ Xt) ?_); rotate_left; (focus (intro w hSw; (try dsimp only at hSw); (try simp only [rl]); go_simp; (try with_reducible rfl))); (try simp only [rl])
      (refine wpAnyT_take (i := 1) (v := ?_) [2, 3, 4, 9, 10] (Array.getElem?_eq_getElem (by decide)) (by kernel_rfl) (by kernel_rfl) (by kernel_rfl) (by kernel_rfl) rfl rfl (by kernel_rfl) (fun _ _ _ h => h) (Or.inl ⟨by kernel_rfl, ?_⟩) (Sof _ Xt) ?_); rotate_left; (focus (intro w hSw; (try dsimp only at hSw); (try simp only [rl]); go_simp; (try with_reducible rfl))); (try simp only [rl])
      (refine wpAnyT_take (i := 2) (v := ?_) [3, 4, 9, 10] (Array.getElem?_eq_getElem (by decide)) (by kernel_rfl) (by kernel_rfl) (by kernel_rfl) (by kernel_rfl) rfl rfl (by kernel_rfl) (fun _ _ _ h => h) (Or.inl ⟨by kernel_rfl, ?_⟩) (Sof _ Xt) ?_); rotate_left; (focus (intro w hSw; (try dsimp only at hSw); (try simp only [rl]); go_simp; (try with_reducible rfl))); (try simp only [rl])
      (refine wpAnyT_take (i := 3) (v := ?_) [4, 9, 10] (Array.getElem?_eq_getElem (by decide)) (by kernel_rfl) (by kernel_rfl) (by kernel_rfl) (by kernel_rfl) rfl rfl (by kernel_rfl) (fun _ _ _ h => h) (Or.inl ⟨by kernel_rfl, ?_⟩) (Sof _ Xt) ?_); rotate_left; (focus (intro w hSw; (try dsimp only at hSw); (try simp only [rl]); go_simp; (try with_reducible rfl))); (try simp only [rl])
      refine wpAnyT_ready (rs := [4, 8]) (by kernel_rfl) (by simp) ?_
      refine AllReadyT.cons (Array.getElem?_eq_getElem (by decide)) (fun K hK => ?_) (AllReadyT.cons (Array.getElem?_eq_getElem (by decide)) (fun K hK => ?_) AllReadyT.nil)
      · (try simp only [rl])
        (try go_simp)
        (refine (member_any v a ka kc la lc _ _ hsz (Hin0.out.ext Xt)).mono ?_)
        rw [Hz0.out, Hmb.out]
        rintro e w1 ⟨k3, c3, l3, d3, rfl, hinz, h1⟩
        (try go_simp)
        have hxz : Ext wa w1 := Xt
        refine hK.out _ _ (fun _ => Sof _ Xt) ?_; clear hK K; (try simp only [rl])
        have hz1 := hxz.size
        (refine wpAnyT_take (i := 5) (v := ?_) [6, 9, 10] (Array.getElem?_eq_getElem (by decide)) (by kernel_rfl) (by kernel_rfl) (by kernel_rfl) (by kernel_rfl) rfl rfl (by kernel_rfl) (fun _ _ _ h => h) (Or.inl ⟨by kernel_rfl, ?_⟩) (Sof _ Xt) ?_); rotate_left; (focus (intro w hSw; (try dsimp only at hSw); (try simp only [rl]); go_simp; (try with_reducible rfl))); (try simp only [rl])
        (refine wpAnyT_take (i := 6) (v := ?_) [9, 10] (Array.getElem?_eq_getElem (by decide)) (by kernel_rfl) (by kernel_rfl) (by kernel_rfl) (by kernel_rfl) rfl rfl (by kernel_rfl) (fun _ _ _ h => h) (Or.inl ⟨by kernel_rfl, ?_⟩) (Sof _ Xt) ?_); rotate_left; (focus (intro w hSw; (try dsimp only at hSw); (try simp only [rl]); go_simp; (try with_reducible rfl))); (try simp only [rl])
        (refine wpAnyT_take (i := 7) (v := ?_) [10] (Array.getElem?_eq_getElem (by decide)) (by kernel_rfl) (by kernel_rfl) (by kernel_rfl) (by kernel_rfl) rfl rfl (by kernel_rfl) (fun _ _ _ h => h) (Or.inl ⟨by kernel_rfl, ?_⟩) (Sof _ Xt) ?_); rotate_left; (focus (intro w hSw; (try dsimp only at hSw); (try simp only [rl]); go_simp; (try with_reducible rfl))); (try simp only [rl])
        (refine wpAnyT_one (i := 8) (by kernel_rfl) (Array.getElem?_eq_getElem (by decide)) fun K hK => ?_); (try simp only [rl])
        go_simp
        refine hK.out _ _ (fun _ => Sof _ Xt) ?_; clear hK K; (try simp only [rl])
        (refine wpAnyT_one (i := 9) (by kernel_rfl) (Array.getElem?_eq_getElem (by decide)) fun K hK => ?_); (try simp only [rl])
        go_simp
        refine hK.out _ _ (fun _ => Sof _ Xt) ?_; clear hK K; (try simp only [rl])
        (refine wpAnyT_one (i := 10) (by kernel_rfl) (Array.getElem?_eq_getElem (by decide)) fun K hK => ?_); (try simp only [rl])
        go_simp
        (refine hK.out _ _ (fun h => Bool.noConfusion (show true = false from h)) ?_); clear hK K; (try simp only [rl])
        refine wpAnyT_done (by kernel_rfl) ?_ _
        have HP : ∀ wy, wy = (w1.alloc (.cells #[.int .i64 z.k, .int .i64 z.n, .string z.s, .slice k3 z.keys.length c3, .slice l3 z.l.length d3] 25)) → Box wy w1.heap.size #[.int .i64 z.k, .int .i64 z.n, .string z.s, .slice k3 z.keys.length c3, .slice l3 z.l.length d3] 25 ∧ z.In wy (Plus (fun b => S b ∧ b < w.heap.size) wa) k3 c3 l3 d3 ∧ wa.heap.size ≤ w1.heap.size ∧ Ext wa wy := by
          rintro wy rfl
          refine ⟨Bxt, V.In.ext (w := w1) hinz Xt, hxz.size, Xt⟩
        obtain ⟨wy, hwy⟩ : ∃ wy, wy = (w1.alloc (.cells #[.int .i64 z.k, .int .i64 z.n, .string z.s, .slice k3 z.keys.length c3, .slice l3 z.l.length d3] 25)) := ⟨_, rfl⟩
        have HP := HP wy hwy
        rw [← hwy]
        clear hwy
        generalize w1.heap.size = bt at HP ⊢
        exact cont bt k3 c3 l3 d3 wy HP
      · (try simp only [rl])
        go_simp
        refine hK.out _ _ (fun _ => Sof _ Xt) ?_; clear hK K; (try simp only [rl])
        (refine wpAnyT_one (i := 4) (by kernel_rfl) (Array.getElem?_eq_getElem (by decide)) fun K hK => ?_); (try simp only [rl])
        (try go_simp)
        (refine (member_any v a ka kc la lc _ _ hsz (Hin0.out.ext Xt)).mono ?_)
        rw [Hz0.out, Hmb.out]
        rintro e w1 ⟨k3, c3, l3, d3, rfl, hinz, h1⟩
        (try go_simp)
        have hBt : Box w1 wa.heap.size #[.int .i64 0, .int .i64 0, .string ⟨#[]⟩, .slice none 0 0, .slice none 0 0] 25 := Box.ext (w := (wa).alloc (.cells #[.int .i64 0, .int .i64 0, .string ⟨#[]⟩, .slice none 0 0, .slice none 0 0] 25)) Xt Bxt
        have hxz : Ext wa w1 := Xt
        refine hK.out _ _ (fun _ => Sof _ Xt) ?_; clear hK K; (try simp only [rl])
        have hct := hBt.cells; have hft := hBt.free; have hlt := hBt.lt
        (refine wpAnyT_take (i := 5) (v := ?_) [6, 9, 10] (Array.getElem?_eq_getElem (by decide)) (by kernel_rfl) (by kernel_rfl) (by kernel_rfl) (by kernel_rfl) rfl rfl (by kernel_rfl) (fun _ _ _ h => h) (Or.inl ⟨by kernel_rfl, ?_⟩) (Sof _ Xt) ?_); rotate_left; (focus (intro w hSw; (try dsimp only at hSw); (try simp only [rl]); go_simp; (try with_reducible rfl))); (try simp only [rl])
        (refine wpAnyT_take (i := 6) (v := ?_) [9, 10] (Array.getElem?_eq_getElem (by decide)) (by kernel_rfl) (by kernel_rfl) (by kernel_rfl) (by kernel_rfl) rfl rfl (by kernel_rfl) (fun _ _ _ h => h) (Or.inl ⟨by kernel_rfl, ?_⟩) (Sof _ Xt) ?_); rotate_left; (focus (intro w hSw; (try dsimp only at hSw); (try simp only [rl]); go_simp; (try with_reducible rfl))); (try simp only [rl])
        (refine wpAnyT_take (i := 7) (v := ?_) [10] (Array.getElem?_eq_getElem (by decide)) (by kernel_rfl) (by kernel_rfl) (by kernel_rfl) (by kernel_rfl) rfl rfl (by kernel_rfl) (fun _ _ _ h => h) (Or.inl ⟨by kernel_rfl, ?_⟩) (Sof _ Xt) ?_); rotate_left; (focus (intro w hSw; (try dsimp only at hSw); (try simp only [rl]); go_simp; (try with_reducible rfl))); (try simp only [rl])
        (refine wpAnyT_one (i := 9) (by kernel_rfl) (Array.getElem?_eq_getElem (by decide)) fun K hK => ?_); (try simp only [rl])
        go_simp
        refine hK.out _ _ (fun _ => Sof _ Xt) ?_; clear hK K; (try simp only [rl])
        (refine wpAnyT_one (i := 10) (by kernel_rfl) (Array.getElem?_eq_getElem (by decide)) fun K hK => ?_); (try simp only [rl])
        go_simp
        (refine hK.out _ _ (fun h => Bool.noConfusion (show true = false from h)) ?_); clear hK K; (try simp only [rl])
        refine wpAnyT_done (by kernel_rfl) ?_ _
        have HP : ∀ wy, wy = ((((((w1).setCell ⟨wa.heap.size, 0, none⟩ (.int .i64 z.k)).setCell ⟨wa.heap.size, 1, none⟩ (.int .i64 z.n)).setCell ⟨wa.heap.size, 2, none⟩ (.string z.s)).setCell ⟨wa.heap.size, 3, none⟩ (.slice k3 z.keys.length c3)).setCell ⟨wa.heap.size, 4, none⟩ (.slice l3 z.l.length d3)) → Box wy wa.heap.size #[.int .i64 z.k, .int .i64 z.n, .string z.s, .slice k3 z.keys.length c3, .slice l3 z.l.length d3] 25 ∧ z.In wy (Plus (fun b => S b ∧ b < w.heap.size) wa) k3 c3 l3 d3 ∧ wa.heap.size ≤ wa.heap.size ∧ Ext wa wy := by
          rintro wy rfl
          refine ⟨Bxt, V.In.keep (S := fun b => b ≠ wa.heap.size ∧ Plus (fun b => S b ∧ b < w.heap.size) wa b) (hinz.mono (fun b h _ => by rcases h with h | h; exact ⟨by omega, .inl h⟩; simp at h; exact ⟨by omega, .inr (by omega)⟩)) (Held.kept (a := w1) (T := fun b => b ≠ wa.heap.size ∧ Plus (fun b => S b ∧ b < w.heap.size) wa b) Hxt) (fun b h _ => h.2), Nat.le_refl _, Xt⟩
        exact cont _ _ _ _ _ _ (HP _ rfl)
    case rest1 =>
      rintro bt k3 c3 l3 d3 wy ⟨hBz, hinz, hbt, hxy⟩
      have Hz := Lib.hid hinz
      clear hinz
      have hxw : Ext w wy := hxa.trans hxy
      have hB0 := Box.ext hxy hB0
      have hB1 := Box.ext hxy hB1
      have hka := hxy.cell hka
      have Hin0 := Lib.hid (V.In.ext Hin0.out hxy)
      have hxas := hxa.size
      have hzy := hxy.size
      clear hxa
      cases hmm : v.member a with
      | none =>
        have hmf : mb = false := by rw [← Hmb.out, hmm]; rfl
        have Hres := Lib.hid (show dropV (a :: r) v = v by rw [Hdrop.out, hmm])
        subst hmf
        clear hmm
        have hc0 := hB0.cells; have hf0 := hB0.free; have hl0 := hB0.lt
        have hc1 := hB1.cells; have hf1 := hB1.free; have hl1 := hB1.lt
        go_wp2_with fail
        (with_reducible apply bp_ret); (focus (go_light; simp [results, Tryz.results57, go_sem, *]; rfl))
        rw [Hres.out]
        exact ⟨ka, kc, la, lc, rfl, V.In.keep (S := fun b => S b ∧ b < w.heap.size) Hin0.out (Held.kept (a := wy) (T := fun b => S b ∧ b < w.heap.size) Hxt) (fun b h _ => .inl h.1), Xt⟩
      | some old =>
        have hmt : mb = true := by rw [← Hmb.out, hmm]; rfl
        have hzo : old = z := by have := Hzg.out; rw [hmm] at this; exact this
        subst hmt
        subst hzo
        have Hob := Lib.hid (sound_obj Hso.out (member_plain Hso.out hmm).2)
        have Hzs := Lib.hid (member_sound Hso.out hmm)
        have Hd2 := Lib.hid (show dropV (a :: r) v = if r = [] then v.del a else if (dropV r old).k = 5 ∧ (dropV r old).l = [] ∧ old.l ≠ [] then v.del a else v.put a (dropV r old) by rw [Hdrop.out, hmm])
        clear hmm
        by_cases hr : r = []
        · have hn1 : n = 1 := by have := Hn.out; rw [hr] at this; simpa using this.symm
          have hn1i : ((n : Int) == 1) = true := by rw [hn1]; rfl
          have Hres := Lib.hid (show dropV (a :: r) v = v.del a by rw [Hd2.out]; simp only [hr, if_true])
          clear hr hn1
          go_upto_region 5 with fail
          have Sof : ∀ w', Ext wy w' → (w'.cell? ⟨w.heap.size, 0, none⟩ = some (.int .i64 v.k) ∧ w'.cell? ⟨w.heap.size, 1, none⟩ = some (.int .i64 v.n) ∧ w'.cell? ⟨w.heap.size, 2, none⟩ = some (.string v.s) ∧ w'.cell? ⟨w.heap.size, 3, none⟩ = some (.slice ka v.keys.length kc) ∧ w'.cell? ⟨w.heap.size, 4, none⟩ = some (.slice la v.l.length lc) ∧ w'.cell? ⟨b, o, none⟩ = some (.string a)) := fun w' e => ⟨e.cell (hB0.cells 0), e.cell (hB0.cells 1), e.cell (hB0.cells 2), e.cell (hB0.cells 3), e.cell (hB0.cells 4), e.cell (hka)⟩
          refine wp_region_till (S := fun w' => w'.cell? ⟨w.heap.size, 0, none⟩ = some (.int .i64 v.k) ∧ w'.cell? ⟨w.heap.size, 1, none⟩ = some (.int .i64 v.n) ∧ w'.cell? ⟨w.heap.size, 2, none⟩ = some (.string v.s) ∧ w'.cell? ⟨w.heap.size, 3, none⟩ = some (.slice ka v.keys.length kc) ∧ w'.cell? ⟨w.heap.size, 4, none⟩ = some (.slice la v.l.length lc) ∧ w'.cell? ⟨b, o, none⟩ = some (.string a)) (c := 5) (by kernel_rfl) ?_
          (refine wpAnyT_take (i := 0) (v := ?_) [4, 5] (Array.getElem?_eq_getElem (by decide)) (by kernel_rfl) (by kernel_rfl) (by kernel_rfl) (by kernel_rfl) rfl rfl (by kernel_rfl) (fun _ _ _ h => h) (Or.inl ⟨by kernel_rfl, ?_⟩) (Sof _ Xt) ?_); rotate_left; (focus (intro w hSw; (try dsimp only at hSw); (try simp only [rl]); go_simp; (try with_reducible rfl))); (try simp only [rl])
          (refine wpAnyT_take (i := 1) (v := ?_) [2, 3, 4, 5] (Array.getElem?_eq_getElem (by decide)) (by kernel_rfl) (by kernel_rfl) (by kernel_rfl) (by kernel_rfl) rfl rfl (by kernel_rfl) (fun _ _ _ h => h) (Or.inl ⟨by kernel_rfl, ?_⟩) (Sof _ Xt) ?_); rotate_left; (focus (intro w hSw; (try dsimp only at hSw); (try simp only [rl]); go_simp; (try with_reducible rfl))); (try simp only [rl])
          (refine wpAnyT_take (i := 2) (v := ?_) [3, 4, 5] (Array.getElem?_eq_getElem (by decide)) (by kernel_rfl) (by kernel_rfl) (by kernel_rfl) (by kernel_rfl) rfl rfl (by kernel_rfl) (fun _ _ _ h => h) (Or.inl ⟨by kernel_rfl, ?_⟩) (Sof _ Xt) ?_); rotate_left; (focus (intro w hSw; (try dsimp only at hSw); (try simp only [rl]); go_simp; (try with_reducible rfl))); (try simp only [rl])
          (refine wpAnyT_take (i := 3) (v := ?_) [4, 5] (Array.getElem?_eq_getElem (by decide)) (by kernel_rfl) (by kernel_rfl) (by kernel_rfl) (by kernel_rfl) rfl rfl (by kernel_rfl) (fun _ _ _ h => h) (Or.inl ⟨by kernel_rfl, ?_⟩) (Sof _ Xt) ?_); rotate_left; (focus (intro w hSw; (try dsimp only at hSw); (try simp only [rl]); go_simp; (try with_reducible rfl))); (try simp only [rl])
          (refine wpAnyT_one (i := 4) (by kernel_rfl) (Array.getElem?_eq_getElem (by decide)) fun K hK => ?_); (try simp only [rl])
          (try go_simp)
          (refine (without_any v ka kc la lc a (fun b => S b ∧ b < w.heap.size) _ hsz Hob.out.rise (Hin0.out.ext Xt)).mono ?_)
          rintro e w5 ⟨k5, c5, l5, d5, rfl, hin5, h5⟩
          (try go_simp)
          have hx5 : Ext wy w5 := Xt
          have hB15 := Box.ext hx5 hB1
          have hxw5 : Ext w w5 := hxw.trans hx5
          have hz5 := hx5.size
          refine hK.out _ _ (fun _ => Sof _ Xt) ?_; clear hK K; (try simp only [rl])
          have hc1 := hB15.cells; have hf1 := hB15.free; have hl1 := hB15.lt
          (refine wpAnyT_one (i := 5) (by kernel_rfl) (Array.getElem?_eq_getElem (by decide)) fun K hK => ?_); (try simp only [rl])
          go_simp
          (refine hK.out _ _ (fun h => Bool.noConfusion (show true = false from h)) ?_); clear hK K; (try simp only [rl])
          refine wpAnyT_done (by kernel_rfl) ?_ _
          go_wp2_with fail
          (with_reducible apply bp_ret); (focus (go_light; simp [results, Tryz.results57, go_sem, *]; rfl))
          rw [Hres.out]
          exact ⟨k5, c5, l5, d5, rfl, V.In.keep (S := fun b => b ≠ w.heap.size + 1 ∧ ((S b ∧ b < w.heap.size) ∨ w.heap.size + 2 ≤ b)) (hin5.mono (fun b h _ => by rcases h with h | h; exact ⟨by omega, .inl h⟩; (try simp at h); exact ⟨by omega, .inr (by omega)⟩)) (Held.kept (a := w5) (T := fun b => b ≠ w.heap.size + 1 ∧ ((S b ∧ b < w.heap.size) ∨ w.heap.size + 2 ≤ b)) Hxt) (fun b h _ => by rcases h.2 with h | h; exact .inl h.1; exact .inr (by omega)), Xt⟩
        · have hn1i : ((n : Int) == 1) = false := beq_eq_false_iff_ne.2 (by have := Hn.out; have := List.length_pos_iff.2 hr; omega)
          have hn2 : (1 : Int) < (n : Int) := by have := Hn.out; have := List.length_pos_iff.2 hr; omega
          have hn3 : (1 : Int) ≤ (n : Int) := by omega
          have hcne : ¬ c = 1 := by omega
          have hn4 : (n : Int) ≤ (c : Int) := by omega
          have hrn : r.length = n - 1 := by have := Hn.out; omega
          have Hr := Lib.hid hr
          have Hrn := Lib.hid hrn
          rw [if_neg hr] at Hd2
          clear hr hrn
          obtain ⟨y, hy⟩ : ∃ y, dropV r old = y := ⟨_, rfl⟩
          rw [hy] at Hd2
          have Hy := Lib.hid hy
          clear hy
          go_upto_region 6 with fail
          refine meetO ?G2 (fun bu k4 c4 l4 d4 wz => Box wz bu #[.int .i64 y.k, .int .i64 y.n, .string y.s, .slice k4 y.keys.length c4, .slice l4 y.l.length d4] 25 ∧ y.In wz (Plus (Plus (fun b => S b ∧ b < w.heap.size) wa) wy) k4 c4 l4 d4 ∧ Ext wy wz) (fun cont => ?reg2) ?rest2
          case reg2 =>
            have hC8 := fun i h => Ext.cell (a := w) hxw (HC.out i h)
            have HC8 := Lib.hid hC8
            clear hC8
            have Sof : ∀ w', Ext wy w' → (w'.cell? ⟨bt, 0, none⟩ = some (.int .i64 old.k) ∧ w'.cell? ⟨bt, 1, none⟩ = some (.int .i64 old.n) ∧ w'.cell? ⟨bt, 2, none⟩ = some (.string old.s) ∧ w'.cell? ⟨bt, 3, none⟩ = some (.slice k3 old.keys.length c3) ∧ w'.cell? ⟨bt, 4, none⟩ = some (.slice l3 old.l.length d3)) := fun w' e => ⟨e.cell (hBz.cells 0), e.cell (hBz.cells 1), e.cell (hBz.cells 2), e.cell (hBz.cells 3), e.cell (hBz.cells 4)⟩
            refine wp_region_till (S := fun w' => w'.cell? ⟨bt, 0, none⟩ = some (.int .i64 old.k) ∧ w'.cell? ⟨bt, 1, none⟩ = some (.int .i64 old.n) ∧ w'.cell? ⟨bt, 2, none⟩ = some (.string old.s) ∧ w'.cell? ⟨bt, 3, none⟩ = some (.slice k3 old.keys.length c3) ∧ w'.cell? ⟨bt, 4, none⟩ = some (.slice l3 old.l.length d3)) (c := 5) (by kernel_rfl) ?_
            (refine wpAnyT_take (i := 0) (v := ?_) [3, 5] (Array.getElem?_eq_getElem (by decide)) (by kernel_rfl) (by kernel_rfl) (by kernel_rfl) (by kernel_rfl) rfl rfl (by kernel_rfl) (fun _ _ _ h => h) (Or.inl ⟨by kernel_rfl, ?_⟩) (Sof _ Xt) ?_); rotate_left; (focus (intro w hSw; (try dsimp only at hSw); (try simp only [rl]); go_simp; (try with_reducible rfl))); (try simp only [rl])
            (refine wpAnyT_take (i := 1) (v := ?_) [2, 3, 5] (Array.getElem?_eq_getElem (by decide)) (by kernel_rfl) (by kernel_rfl) (by kernel_rfl) (by kernel_rfl) rfl rfl (by kernel_rfl) (fun _ _ _ h => h) (Or.inl ⟨by kernel_rfl, ?_⟩) (Sof _ Xt) ?_); rotate_left; (focus (intro w hSw; (try dsimp only at hSw); (try simp only [rl]); go_simp; (try with_reducible rfl))); (try simp only [rl])
            (refine wpAnyT_take (i := 2) (v := ?_) [3, 5] (Array.getElem?_eq_getElem (by decide)) (by kernel_rfl) (by kernel_rfl) (by kernel_rfl) (by kernel_rfl) rfl rfl (by kernel_rfl) (fun _ _ _ h => h) (Or.inl ⟨by kernel_rfl, ?_⟩) (Sof _ Xt) ?_); rotate_left; (focus (intro w hSw; (try dsimp only at hSw); (try simp only [rl]); go_simp; (try with_reducible rfl))); (try simp only [rl])
            refine wpAnyT_ready (rs := [3, 4]) (by kernel_rfl) (by simp) ?_
            refine AllReadyT.cons (Array.getElem?_eq_getElem (by decide)) (fun K hK => ?_) (AllReadyT.cons (Array.getElem?_eq_getElem (by decide)) (fun K hK => ?_) AllReadyT.nil)
            · (try simp only [rl])
              (try go_simp)
              (refine (ih old k3 c3 l3 d3 b (o + 1) (n - 1) (c - 1) (fun b => Plus (fun b => S b ∧ b < w.heap.size) wa b ∧ b < wy.heap.size) _ Hr.out Hrn.out Hzs.out hzz (by omega) (by omega) (by omega) (fun i h => Ext.cell (a := wy) Xt (HC8.out i h)) ((Hz.out.mono (fun b h hl => ⟨h, hl⟩)).ext Xt)).mono ?_)
              rw [Hy.out]
              rintro e w4 ⟨k4, c4, l4, d4, rfl, hin4, h4⟩
              (try go_simp)
              have hx4 : Ext wy w4 := Xt
              have hz4 := hx4.size
              refine hK.out _ _ (fun _ => Sof _ Xt) ?_; clear hK K; (try simp only [rl])
              (refine wpAnyT_one (i := 4) (by kernel_rfl) (Array.getElem?_eq_getElem (by decide)) fun K hK => ?_); (try simp only [rl])
              go_simp
              refine hK.out _ _ (fun _ => Sof _ Xt) ?_; clear hK K; (try simp only [rl])
              (refine wpAnyT_one (i := 5) (by kernel_rfl) (Array.getElem?_eq_getElem (by decide)) fun K hK => ?_); (try simp only [rl])
              go_simp
              (refine hK.out _ _ (fun h => Bool.noConfusion (show true = false from h)) ?_); clear hK K; (try simp only [rl])
              refine wpAnyT_done (by kernel_rfl) ?_ _
              have HP : ∀ wz, wz = (w4.alloc (.cells #[.int .i64 y.k, .int .i64 y.n, .string y.s, .slice k4 y.keys.length c4, .slice l4 y.l.length d4] 25)) → Box wz w4.heap.size #[.int .i64 y.k, .int .i64 y.n, .string y.s, .slice k4 y.keys.length c4, .slice l4 y.l.length d4] 25 ∧ y.In wz (Plus (Plus (fun b => S b ∧ b < w.heap.size) wa) wy) k4 c4 l4 d4 ∧ Ext wy wz := by
                rintro wz rfl
                refine ⟨Bxt, (V.In.mono hin4 (T := Plus (Plus (fun b => S b ∧ b < w.heap.size) wa) wy) (fun b h _ => by rcases h with h | h; exact .inl h.1; (try simp at h); exact .inr (by omega))).ext Xt, Xt⟩
              obtain ⟨wz, hwz⟩ : ∃ wz, wz = (w4.alloc (.cells #[.int .i64 y.k, .int .i64 y.n, .string y.s, .slice k4 y.keys.length c4, .slice l4 y.l.length d4] 25)) := ⟨_, rfl⟩
              have HP := HP wz hwz
              rw [← hwz]
              clear hwz
              generalize w4.heap.size = bu at HP ⊢
              exact cont bu k4 c4 l4 d4 wz HP
            · (try simp only [rl])
              go_simp
              refine hK.out _ _ (fun _ => Sof _ Xt) ?_; clear hK K; (try simp only [rl])
              (refine wpAnyT_one (i := 3) (by kernel_rfl) (Array.getElem?_eq_getElem (by decide)) fun K hK => ?_); (try simp only [rl])
              (try go_simp)
              (refine (ih old k3 c3 l3 d3 b (o + 1) (n - 1) (c - 1) (fun b => Plus (fun b => S b ∧ b < w.heap.size) wa b ∧ b < wy.heap.size) _ Hr.out Hrn.out Hzs.out hzz (by omega) (by omega) (by omega) (fun i h => Ext.cell (a := wy) Xt (HC8.out i h)) ((Hz.out.mono (fun b h hl => ⟨h, hl⟩)).ext Xt)).mono ?_)
              rw [Hy.out]
              rintro e w4 ⟨k4, c4, l4, d4, rfl, hin4, h4⟩
              (try go_simp)
              have hBu : Box w4 wy.heap.size #[.int .i64 0, .int .i64 0, .string ⟨#[]⟩, .slice none 0 0, .slice none 0 0] 25 := Box.ext (w := wy.alloc (.cells #[.int .i64 0, .int .i64 0, .string ⟨#[]⟩, .slice none 0 0, .slice none 0 0] 25)) Xt Bxt
              have hx4 : Ext wy w4 := Xt
              have hz4 := hx4.size
              have hz0 := hBz.lt
              refine hK.out _ _ (fun _ => Sof _ Xt) ?_; clear hK K; (try simp only [rl])
              have hcu := hBu.cells; have hfu := hBu.free; have hlu := hBu.lt
              (refine wpAnyT_one (i := 5) (by kernel_rfl) (Array.getElem?_eq_getElem (by decide)) fun K hK => ?_); (try simp only [rl])
              go_simp
              (refine hK.out _ _ (fun h => Bool.noConfusion (show true = false from h)) ?_); clear hK K; (try simp only [rl])
              refine wpAnyT_done (by kernel_rfl) ?_ _
              have HP : ∀ wz, wz = (((((w4.setCell ⟨wy.heap.size, 0, none⟩ (.int .i64 y.k)).setCell ⟨wy.heap.size, 1, none⟩ (.int .i64 y.n)).setCell ⟨wy.heap.size, 2, none⟩ (.string y.s)).setCell ⟨wy.heap.size, 3, none⟩ (.slice k4 y.keys.length c4)).setCell ⟨wy.heap.size, 4, none⟩ (.slice l4 y.l.length d4)) → Box wz wy.heap.size #[.int .i64 y.k, .int .i64 y.n, .string y.s, .slice k4 y.keys.length c4, .slice l4 y.l.length d4] 25 ∧ y.In wz (Plus (Plus (fun b => S b ∧ b < w.heap.size) wa) wy) k4 c4 l4 d4 ∧ Ext wy wz := by
                rintro wz rfl
                refine ⟨Bxt, V.In.keep (S := fun b => b ≠ wy.heap.size ∧ Plus (Plus (fun b => S b ∧ b < w.heap.size) wa) wy b) (hin4.mono (T := fun b => b ≠ wy.heap.size ∧ Plus (Plus (fun b => S b ∧ b < w.heap.size) wa) wy b) ?_) (Held.kept (a := w4) (T := fun b => b ≠ wy.heap.size ∧ Plus (Plus (fun b => S b ∧ b < w.heap.size) wa) wy b) Hxt) (fun b h _ => h.2), Xt⟩
                intro b h hl
                rcases h with h | h
                · exact ⟨by omega, .inl h.1⟩
                · simp at h; exact ⟨by omega, .inr (by omega)⟩
              exact cont _ _ _ _ _ _ (HP _ rfl)
          case rest2 =>
            rintro bu k4 c4 l4 d4 wz ⟨hBu, hin4, hxz⟩
            have Hin4 := Lib.hid hin4
            have hBz := Box.ext hxz hBz
            have hxw : Ext w wz := hxw.trans hxz
            have hB0 := Box.ext hxz hB0
            have hB1 := Box.ext hxz hB1
            have hka := hxz.cell hka
            have Hin0 := Lib.hid (V.In.ext Hin0.out hxz)
            have hzz2 := hxz.size
            clear hin4
            have hq : ((y.k == 5) = true ∧ ((y.l.length : Int) == 0) = true ∧ (0 : Int) < (old.l.length : Int) ∧ dropV (a :: r) v = v.del a) ∨ (((y.k == 5) = false ∨ ((y.k == 5) = true ∧ ((y.l.length : Int) == 0) = false) ∨ ((y.k == 5) = true ∧ ((y.l.length : Int) == 0) = true ∧ ¬ (0 : Int) < (old.l.length : Int))) ∧ dropV (a :: r) v = v.put a y) := by
              rw [Hd2.out]
              by_cases q1 : y.k = 5
              · by_cases q2 : y.l = []
                · by_cases q3 : old.l = []
                  · exact .inr ⟨.inr (.inr ⟨by simpa using q1, by rw [q2]; rfl, by rw [q3]; simp⟩), if_neg (fun h => h.2.2 q3)⟩
                  · exact .inl ⟨by simpa using q1, by rw [q2]; rfl, by have := List.length_pos_iff.2 q3; omega, if_pos ⟨q1, q2, q3⟩⟩
                · exact .inr ⟨.inr (.inl ⟨by simpa using q1, beq_eq_false_iff_ne.2 (by have := List.length_pos_iff.2 q2; omega)⟩), if_neg (fun h => q2 h.2.1)⟩
              · exact .inr ⟨.inl (by simpa using q1), if_neg (fun h => q1 h.1)⟩
            rcases hq with ⟨q1, q2, q3, hres⟩ | ⟨hq, hres⟩
            · have Hres := Lib.hid hres
              clear hres
              have hcu := hBu.cells; have hfu := hBu.free; have hlu := hBu.lt
              have hcz := hBz.cells; have hfz := hBz.free; have hlz := hBz.lt
              go_upto_region 8 with fail
              refine gen_world (R := fun wx => Ext wz wx) (by exact Xt) ?_
              rintro wv hxv
              have hxw : Ext w wv := hxw.trans hxv
              have hB0 := Box.ext hxv hB0
              have hB1 := Box.ext hxv hB1
              have hBu := Box.ext hxv hBu
              have hka := hxv.cell hka
              have Hin0 := Lib.hid (V.In.ext Hin0.out hxv)
              have Hin4 := Lib.hid (V.In.ext Hin4.out hxv)
              have hzv := hxv.size
              clear hcu hfu hlu hcz hfz hlz
              have Sof : ∀ w', Ext wv w' → (w'.cell? ⟨w.heap.size, 0, none⟩ = some (.int .i64 v.k) ∧ w'.cell? ⟨w.heap.size, 1, none⟩ = some (.int .i64 v.n) ∧ w'.cell? ⟨w.heap.size, 2, none⟩ = some (.string v.s) ∧ w'.cell? ⟨w.heap.size, 3, none⟩ = some (.slice ka v.keys.length kc) ∧ w'.cell? ⟨w.heap.size, 4, none⟩ = some (.slice la v.l.length lc) ∧ w'.cell? ⟨b, o, none⟩ = some (.string a)) := fun w' e => ⟨e.cell (hB0.cells 0), e.cell (hB0.cells 1), e.cell (hB0.cells 2), e.cell (hB0.cells 3), e.cell (hB0.cells 4), e.cell (hka)⟩
              refine wp_region_till (S := fun w' => w'.cell? ⟨w.heap.size, 0, none⟩ = some (.int .i64 v.k) ∧ w'.cell? ⟨w.heap.size, 1, none⟩ = some (.int .i64 v.n) ∧ w'.cell? ⟨w.heap.size, 2, none⟩ = some (.string v.s) ∧ w'.cell? ⟨w.heap.size, 3, none⟩ = some (.slice ka v.keys.length kc) ∧ w'.cell? ⟨w.heap.size, 4, none⟩ = some (.slice la v.l.length lc) ∧ w'.cell? ⟨b, o, none⟩ = some (.string a)) (c := 5) (by kernel_rfl) ?_
              (refine wpAnyT_take (i := 0) (v := ?_) [4, 5] (Array.getElem?_eq_getElem (by decide)) (by kernel_rfl) (by kernel_rfl) (by kernel_rfl) (by kernel_rfl) rfl rfl (by kernel_rfl) (fun _ _ _ h => h) (Or.inl ⟨by kernel_rfl, ?_⟩) (Sof _ Xt) ?_); rotate_left; (focus (intro w hSw; (try dsimp only at hSw); (try simp only [rl]); go_simp; (try with_reducible rfl))); (try simp only [rl])
              (refine wpAnyT_take (i := 1) (v := ?_) [2, 3, 4, 5] (Array.getElem?_eq_getElem (by decide)) (by kernel_rfl) (by kernel_rfl) (by kernel_rfl) (by kernel_rfl) rfl rfl (by kernel_rfl) (fun _ _ _ h => h) (Or.inl ⟨by kernel_rfl, ?_⟩) (Sof _ Xt) ?_); rotate_left; (focus (intro w hSw; (try dsimp only at hSw); (try simp only [rl]); go_simp; (try with_reducible rfl))); (try simp only [rl])
              (refine wpAnyT_take (i := 2) (v := ?_) [3, 4, 5] (Array.getElem?_eq_getElem (by decide)) (by kernel_rfl) (by kernel_rfl) (by kernel_rfl) (by kernel_rfl) rfl rfl (by kernel_rfl) (fun _ _ _ h => h) (Or.inl ⟨by kernel_rfl, ?_⟩) (Sof _ Xt) ?_); rotate_left; (focus (intro w hSw; (try dsimp only at hSw); (try simp only [rl]); go_simp; (try with_reducible rfl))); (try simp only [rl])
              (refine wpAnyT_take (i := 3) (v := ?_) [4, 5] (Array.getElem?_eq_getElem (by decide)) (by kernel_rfl) (by kernel_rfl) (by kernel_rfl) (by kernel_rfl) rfl rfl (by kernel_rfl) (fun _ _ _ h => h) (Or.inl ⟨by kernel_rfl, ?_⟩) (Sof _ Xt) ?_); rotate_left; (focus (intro w hSw; (try dsimp only at hSw); (try simp only [rl]); go_simp; (try with_reducible rfl))); (try simp only [rl])
              (refine wpAnyT_one (i := 4) (by kernel_rfl) (Array.getElem?_eq_getElem (by decide)) fun K hK => ?_); (try simp only [rl])
              (try go_simp)
              (refine (without_any v ka kc la lc a (fun b => S b ∧ b < w.heap.size) _ hsz Hob.out.rise (Hin0.out.ext Xt)).mono ?_)
              rintro e w5 ⟨k5, c5, l5, d5, rfl, hin5, h5⟩
              (try go_simp)
              have hx5 : Ext wv w5 := Xt
              have hB15 := Box.ext hx5 hB1
              have hxw5 : Ext w w5 := hxw.trans hx5
              have hz5 := hx5.size
              refine hK.out _ _ (fun _ => Sof _ Xt) ?_; clear hK K; (try simp only [rl])
              have hc1 := hB15.cells; have hf1 := hB15.free; have hl1 := hB15.lt
              (refine wpAnyT_one (i := 5) (by kernel_rfl) (Array.getElem?_eq_getElem (by decide)) fun K hK => ?_); (try simp only [rl])
              go_simp
              (refine hK.out _ _ (fun h => Bool.noConfusion (show true = false from h)) ?_); clear hK K; (try simp only [rl])
              refine wpAnyT_done (by kernel_rfl) ?_ _
              go_wp2_with fail
              (with_reducible apply bp_ret); (focus (go_light; simp [results, Tryz.results57, go_sem, *]; rfl))
              rw [Hres.out]
              exact ⟨k5, c5, l5, d5, rfl, V.In.keep (S := fun b => b ≠ w.heap.size + 1 ∧ ((S b ∧ b < w.heap.size) ∨ w.heap.size + 2 ≤ b)) (hin5.mono (fun b h _ => by rcases h with h | h; exact ⟨by omega, .inl h⟩; (try simp at h); exact ⟨by omega, .inr (by omega)⟩)) (Held.kept (a := w5) (T := fun b => b ≠ w.heap.size + 1 ∧ ((S b ∧ b < w.heap.size) ∨ w.heap.size + 2 ≤ b)) Hxt) (fun b h _ => by rcases h.2 with h | h; exact .inl h.1; exact .inr (by omega)), Xt⟩
            · have Hres := Lib.hid hres
              clear hres
              rcases hq with q1 | ⟨q1, q2⟩ | ⟨q1, q2, q3⟩
              all_goals
                have hcu := hBu.cells; have hfu := hBu.free; have hlu := hBu.lt
                have hcz := hBz.cells; have hfz := hBz.free; have hlz := hBz.lt
                go_upto_region 9 with fail
                refine gen_world (R := fun wx => Ext wz wx) (by exact Xt) ?_
                rintro wv hxv
                have hxw : Ext w wv := hxw.trans hxv
                have hB0 := Box.ext hxv hB0
                have hB1 := Box.ext hxv hB1
                have hBu := Box.ext hxv hBu
                have hka := hxv.cell hka
                have Hin0 := Lib.hid (V.In.ext Hin0.out hxv)
                have Hin4 := Lib.hid (V.In.ext Hin4.out hxv)
                have hzv := hxv.size
                clear hcu hfu hlu hcz hfz hlz
                have Sof : ∀ w', Ext wv w' → (w'.cell? ⟨w.heap.size, 0, none⟩ = some (.int .i64 v.k) ∧ w'.cell? ⟨w.heap.size, 1, none⟩ = some (.int .i64 v.n) ∧ w'.cell? ⟨w.heap.size, 2, none⟩ = some (.string v.s) ∧ w'.cell? ⟨w.heap.size, 3, none⟩ = some (.slice ka v.keys.length kc) ∧ w'.cell? ⟨w.heap.size, 4, none⟩ = some (.slice la v.l.length lc) ∧ w'.cell? ⟨b, o, none⟩ = some (.string a) ∧ w'.cell? ⟨bu, 0, none⟩ = some (.int .i64 y.k) ∧ w'.cell? ⟨bu, 1, none⟩ = some (.int .i64 y.n) ∧ w'.cell? ⟨bu, 2, none⟩ = some (.string y.s) ∧ w'.cell? ⟨bu, 3, none⟩ = some (.slice k4 y.keys.length c4) ∧ w'.cell? ⟨bu, 4, none⟩ = some (.slice l4 y.l.length d4)) := fun w' e => ⟨e.cell (hB0.cells 0), e.cell (hB0.cells 1), e.cell (hB0.cells 2), e.cell (hB0.cells 3), e.cell (hB0.cells 4), e.cell (hka), e.cell (hBu.cells 0), e.cell (hBu.cells 1), e.cell (hBu.cells 2), e.cell (hBu.cells 3), e.cell (hBu.cells 4)⟩
                refine wp_region_till (S := fun w' => w'.cell? ⟨w.heap.size, 0, none⟩ = some (.int .i64 v.k) ∧ w'.cell? ⟨w.heap.size, 1, none⟩ = some (.int .i64 v.n) ∧ w'.cell? ⟨w.heap.size, 2, none⟩ = some (.string v.s) ∧ w'.cell? ⟨w.heap.size, 3, none⟩ = some (.slice ka v.keys.length kc) ∧ w'.cell? ⟨w.heap.size, 4, none⟩ = some (.slice la v.l.length lc) ∧ w'.cell? ⟨b, o, none⟩ = some (.string a) ∧ w'.cell? ⟨bu, 0, none⟩ = some (.int .i64 y.k) ∧ w'.cell? ⟨bu, 1, none⟩ = some (.int .i64 y.n) ∧ w'.cell? ⟨bu, 2, none⟩ = some (.string y.s) ∧ w'.cell? ⟨bu, 3, none⟩ = some (.slice k4 y.keys.length c4) ∧ w'.cell? ⟨bu, 4, none⟩ = some (.slice l4 y.l.length d4)) (c := 6) (by kernel_rfl) ?_
                (refine wpAnyT_take (i := 0) (v := ?_) [5, 6] (Array.getElem?_eq_getElem (by decide)) (by kernel_rfl) (by kernel_rfl) (by kernel_rfl) (by kernel_rfl) rfl rfl (by kernel_rfl) (fun _ _ _ h => h) (Or.inl ⟨by kernel_rfl, ?_⟩) (Sof _ Xt) ?_); rotate_left; (focus (intro w hSw; (try dsimp only at hSw); (try simp only [rl]); go_simp; (try with_reducible rfl))); (try simp only [rl])
                (refine wpAnyT_take (i := 1) (v := ?_) [2, 3, 5, 6] (Array.getElem?_eq_getElem (by decide)) (by kernel_rfl) (by kernel_rfl) (by kernel_rfl) (by kernel_rfl) rfl rfl (by kernel_rfl) (fun _ _ _ h => h) (Or.inl ⟨by kernel_rfl, ?_⟩) (Sof _ Xt) ?_); rotate_left; (focus (intro w hSw; (try dsimp only at hSw); (try simp only [rl]); go_simp; (try with_reducible rfl))); (try simp only [rl])
                (refine wpAnyT_take (i := 2) (v := ?_) [3, 5, 6] (Array.getElem?_eq_getElem (by decide)) (by kernel_rfl) (by kernel_rfl) (by kernel_rfl) (by kernel_rfl) rfl rfl (by kernel_rfl) (fun _ _ _ h => h) (Or.inl ⟨by kernel_rfl, ?_⟩) (Sof _ Xt) ?_); rotate_left; (focus (intro w hSw; (try dsimp only at hSw); (try simp only [rl]); go_simp; (try with_reducible rfl))); (try simp only [rl])
                (refine wpAnyT_take (i := 3) (v := ?_) [5, 6] (Array.getElem?_eq_getElem (by decide)) (by kernel_rfl) (by kernel_rfl) (by kernel_rfl) (by kernel_rfl) rfl rfl (by kernel_rfl) (fun _ _ _ h => h) (Or.inl ⟨by kernel_rfl, ?_⟩) (Sof _ Xt) ?_); rotate_left; (focus (intro w hSw; (try dsimp only at hSw); (try simp only [rl]); go_simp; (try with_reducible rfl))); (try simp only [rl])
                (refine wpAnyT_take (i := 4) (v := ?_) [5, 6] (Array.getElem?_eq_getElem (by decide)) (by kernel_rfl) (by kernel_rfl) (by kernel_rfl) (by kernel_rfl) rfl rfl (by kernel_rfl) (fun _ _ _ h => h) (Or.inl ⟨by kernel_rfl, ?_⟩) (Sof _ Xt) ?_); rotate_left; (focus (intro w hSw; (try dsimp only at hSw); (try simp only [rl]); go_simp; (try with_reducible rfl))); (try simp only [rl])
                (refine wpAnyT_one (i := 5) (by kernel_rfl) (Array.getElem?_eq_getElem (by decide)) fun K hK => ?_); (try simp only [rl])
                (try go_simp)
                (refine (with_any v ka kc la lc a y k4 c4 l4 d4 (Plus (Plus (fun b => S b ∧ b < w.heap.size) wa) wy) _ hsz Hob.out.rise ((Hin0.out.mono (fun b h _ => .inl (.inl h))).ext Xt) (Hin4.out.ext Xt)).mono ?_)
                rintro e w5 ⟨k5, c5, l5, d5, rfl, hin5, h5⟩
                (try go_simp)
                have hx5 : Ext wv w5 := Xt
                have hB15 := Box.ext hx5 hB1
                have hxw5 : Ext w w5 := hxw.trans hx5
                have hz5 := hx5.size
                refine hK.out _ _ (fun _ => Sof _ Xt) ?_; clear hK K; (try simp only [rl])
                have hc1 := hB15.cells; have hf1 := hB15.free; have hl1 := hB15.lt
                (refine wpAnyT_one (i := 6) (by kernel_rfl) (Array.getElem?_eq_getElem (by decide)) fun K hK => ?_); (try simp only [rl])
                go_simp
                (refine hK.out _ _ (fun h => Bool.noConfusion (show true = false from h)) ?_); clear hK K; (try simp only [rl])
                refine wpAnyT_done (by kernel_rfl) ?_ _
                go_wp2_with fail
                (with_reducible apply bp_ret); (focus (go_light; simp [results, Tryz.results57, go_sem, *]; rfl))
                rw [Hres.out]
                exact ⟨k5, c5, l5, d5, rfl, V.In.keep (S := fun b => b ≠ w.heap.size + 1 ∧ ((S b ∧ b < w.heap.size) ∨ w.heap.size + 2 ≤ b)) (hin5.mono (fun b h _ => by rcases h with ((h | h) | h) | h; exact ⟨by omega, .inl h⟩; (try simp at h); exact ⟨by omega, .inr (by omega)⟩; (try simp at h); exact ⟨by omega, .inr (by omega)⟩; (try simp at h); exact ⟨by omega, .inr (by omega)⟩)) (Held.kept (a := w5) (T := fun b => b ≠ w.heap.size + 1 ∧ ((S b ∧ b < w.heap.size) ∨ w.heap.size + 2 ≤ b)) Hxt) (fun b h _ => by rcases h.2 with h | h; exact .inl h.1; exact .inr (by omega)), Xt⟩
end Go.Proofs.YtjibdbnpkfghhaaGreatDoor
