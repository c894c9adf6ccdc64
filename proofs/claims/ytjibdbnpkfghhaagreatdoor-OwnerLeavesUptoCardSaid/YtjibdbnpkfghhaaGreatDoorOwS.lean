/- The walk of owner.set. -/
import Derived.Test.YtjibdbnpkfghhaaGreatDoorPkR
import Derived.Test.YtjibdbnpkfghhaaGreatDoorWith
import Derived.Test.YtjibdbnpkfghhaaGreatDoorPkQ
set_option linter.all false
namespace Go.Proofs.YtjibdbnpkfghhaaGreatDoor
open Go.RowKit
attribute [local go_sem ↓] Go.wp_at_zero Go.wp_at_succ
theorem meetO {P : Prop} (G : Nat → Option Addr → Nat → Option Addr → Nat → World → Prop) (H : Nat → Option Addr → Nat → Option Addr → Nat → World → Prop) (reg : (∀ a b c d e w, H a b c d e w → G a b c d e w) → P) (rest : ∀ a b c d e w, H a b c d e w → G a b c d e w) : P := reg rest
theorem setV_cons (a : ByteArray) (r : List ByteArray) (v x : V) : setV (a :: r) v x = if r ≠ [] then v.base.put a (setV r ((v.base.member a).getD V.zero) x) else
    match v.base.member a with | some old => if likeB old x = true then v.base else v.base.put a x | none => v.base.put a x := rfl
set_option maxRecDepth 100000 in
set_option maxHeartbeats 8000000 in
theorem set_any : ∀ (l : List ByteArray) (v x : V) (ka : Option Addr) (kc : Nat) (la : Option Addr) (lc : Nat) (kb : Option Addr) (kd : Nat) (lb : Option Addr) (ld : Nat) (b o n c : Nat) (S : Nat → Prop) (w : World), l ≠ [] → l.length = n → v.sound → v.size ≤ 1073741824 → x.size ≤ 1073741824 → n ≤ 1073741824 → n ≤ c → c ≤ maxLen →
    (∀ i (h : i < l.length), w.cell? ⟨b, o + i, none⟩ = some (.string l[i])) → v.In w S ka kc la lc → x.In w S kb kd lb ld →
    Calls Tryz.prog 59 #[v.val ka kc la lc, .slice (some ⟨b, o, none⟩) n c, x.val kb kd lb ld] w (RetV S (setV l v x) w) := by
  intro l
  induction l with
  | nil => intro v x _ _ _ _ _ _ _ _ _ _ _ _ _ _ h; exact absurd rfl h
  | cons a r ih =>
    intro v x ka kc la lc kb kd lb ld b o n c S w _ hn hso hsz hxz hnb hnc hcb hC hin hjn
    have hk : w.cell? ⟨b, o, none⟩ = some (.string a) := hC 0 (by simp)
    have HC := Lib.hid (show ∀ i (h : i < r.length), w.cell? ⟨b, o + 1 + i, none⟩ = some (.string r[i]) from fun i h => by
      have := hC (i + 1) (by simpa using h)
      rw [show o + 1 + i = o + (i + 1) by omega]
      simpa using this)
    have hbl := cell_lt hk
    have Hin := Lib.hid (hin.mono (T := fun b => S b ∧ b < w.heap.size) (fun b h hl => ⟨h, hl⟩))
    have Hjn := Lib.hid (hjn.mono (T := fun b => S b ∧ b < w.heap.size) (fun b h hl => ⟨h, hl⟩))
    have hi0 : (0 : Int) < (n : Int) := by simp at hn; omega
    have hi0n : 0 < n := by omega
    have hi0c : ¬ n = 0 := by omega
    have hi0d : ¬ n ≤ 0 := by omega
    have Hset := Lib.hid (setV_cons a r v x)
    have Hn := Lib.hid (show r.length + 1 = n by simpa using hn)
    have Hob := Lib.hid (base_obj hso)
    have hus : v.base.size ≤ 1073741824 := by unfold V.base; split; exact hsz; decide +kernel
    have Hgs := Lib.hid (getD_sound (base_sound hso) a)
    obtain ⟨z, hz0⟩ : ∃ z, v.base.memD a = z := ⟨_, rfl⟩
    have hzz : z.size ≤ 1073741824 := by
      rcases memD_size v.base a with h | h
      · rw [← hz0, h]; decide +kernel
      · rw [← hz0]; omega
    have hzg : (v.base.member a).getD V.zero = z := hz0
    obtain ⟨mb, hmb⟩ : ∃ mb, (v.base.member a).isSome = mb := ⟨_, rfl⟩
    have Hzg := Lib.hid hzg
    rw [hzg] at Hset Hgs
    clear hin hjn hC hn hso hzg
    by_cases h5 : v.k = 5
    · have hu : v.base = v := base_of h5
      have h5n : (v.k != 5) = false := by simpa using h5
      rw [hu] at hz0 hmb hus Hob Hset Hzg
      have Hz0 := Lib.hid hz0
      have Hmb := Lib.hid hmb
      clear hz0 hmb hu h5
      go_enter Tryz.func59, Tryz.ntmps59
      go_upto_region 3 with fail
      refine gen_world (R := fun wx => Box wx w.heap.size #[.int .i64 v.k, .int .i64 v.n, .string v.s, .slice ka v.keys.length kc, .slice la v.l.length lc] 25 ∧ Box wx (w.heap.size + 1) #[.int .i64 x.k, .int .i64 x.n, .string x.s, .slice kb x.keys.length kd, .slice lb x.l.length ld] 25 ∧ Box wx (w.heap.size + 2) #[.int .i64 0, .int .i64 0, .string ⟨#[]⟩, .slice none 0 0, .slice none 0 0] 25 ∧ Ext w wx) ⟨Bxt, Bxt, Bxt, Xt⟩ ?_
      rintro wa ⟨hB0, hB1, hB2, hxa⟩
      have hka := hxa.cell hk
      have hza := hB2.lt
      have Hin0 := Lib.hid (Hin.out.ext hxa)
      have Hjn0 := Lib.hid (Hjn.out.ext hxa)
      clear hk
      refine meetO ?G1 (fun bt k3 c3 l3 d3 wy => Box wy bt #[.int .i64 z.k, .int .i64 z.n, .string z.s, .slice k3 z.keys.length c3, .slice l3 z.l.length d3] 25 ∧ z.In wy (Plus (fun b => S b ∧ b < w.heap.size) wa) k3 c3 l3 d3 ∧ wa.heap.size ≤ bt ∧ Ext wa wy) (fun cont => ?reg1) ?rest1
      case reg1 =>
        have Sof : ∀ w', Ext wa w' → (w'.cell? ⟨w.heap.size, 0, none⟩ = some (.int .i64 v.k) ∧ w'.cell? ⟨w.heap.size, 1, none⟩ = some (.int .i64 v.n) ∧ w'.cell? ⟨w.heap.size, 2, none⟩ = some (.string v.s) ∧ w'.cell? ⟨w.heap.size, 3, none⟩ = some (.slice ka v.keys.length kc) ∧ w'.cell? ⟨w.heap.size, 4, none⟩ = some (.slice la v.l.length lc) ∧ w'.cell? ⟨b, o, none⟩ = some (.string a)) := fun w' e => ⟨e.cell (hB0.cells 0), e.cell (hB0.cells 1), e.cell (hB0.cells 2), e.cell (hB0.cells 3), e.cell (hB0.cells 4), e.cell (hka)⟩
        refine wp_region_till (S := fun w' => w'.cell? ⟨w.heap.size, 0, none⟩ = some (.int .i64 v.k) ∧ w'.cell? ⟨w.heap.size, 1, none⟩ = some (.int .i64 v.n) ∧ w'.cell? ⟨w.heap.size, 2, none⟩ = some (.string v.s) ∧ w'.cell? ⟨w.heap.size, 3, none⟩ = some (.slice ka v.keys.length kc) ∧ w'.cell? ⟨w.heap.size, 4, none⟩ = some (.slice la v.l.length lc) ∧ w'.cell? ⟨b, o, none⟩ = some (.string a)) (c := 10) (by kernel_rfl) ?_
        (refine wpAnyT_take (i := 0) (v := ?_) [4, 9, 10] (Array.getElem?_eq_getElem (by decide)) (by kernel_rfl) (by kernel_rfl) (by kernel_rfl) (by kernel_rfl) rfl rfl (by kernel_rfl) (fun _ _ _ h => h) (Or.inl ⟨by kernel_rfl, ?_⟩) (Sof _ Xt) ?_); rotate_left; (focus (intro w hSw; (try dsimp only at hSw); (try simp only [rl]); go_simp; (try with_reducible rfl))); (try simp only [rl])
        (refine wpAnyT_take (i := 1) (v := ?_) [2, 3, 4, 9, 10] (Array.getElem?_eq_getElem (by decide)) (by kernel_rfl) (by kernel_rfl) (by kernel_rfl) (by kernel_rfl) rfl rfl (by kernel_rfl) (fun _ _ _ h => h) (Or.inl ⟨by kernel_rfl, ?_⟩) (Sof _ Xt) ?_); rotate_left; (focus (intro w hSw; (try dsimp only at hSw); (try simp only [rl]); go_simp; (try with_reducible rfl))); (try simp only [rl])
        (refine wpAnyT_take (i := 2) (v := ?_) [3, 4, 9, 10] (Array.getElem?_eq_getElem (by decide)) (by kernel_rfl) (by kernel_rfl) (by kernel_rfl) (by kernel_rfl) rfl rfl (by kernel_rfl) (fun _ _ _ h => h) (Or.inl ⟨by kernel_rfl, ?_⟩) (Sof _ Xt) ?_); rotate_left; (focus (intro w hSw; (try dsimp only at hSw); (try simp only [rl]); go_simp; (try with_reducible rfl))); (try simp only [rl])
        (refine wpAnyT_take (i := 3) (v := ?_) [4, 9, 10] (Array.getElem?_eq_getElem (by decide)) (by kernel_rfl) (by kernel_rfl) (by kernel_rfl) (by kernel_rfl) rfl rfl (by kernel_rfl) (fun _ _ _ h => h) (Or.inl ⟨by kernel_rfl, ?_⟩) (Sof _ Xt) ?_); rotate_left; (focus (intro w hSw; (try dsimp only at hSw); (try simp only [rl]); go_simp; (try with_reducible rfl))); (try simp only [rl])
        refine wpAnyT_ready (rs := [4, 8]) (by kernel_rfl) (by simp) ?_
        refine AllReadyT.cons (Array.getElem?_eq_getElem (by decide)) (fun K hK => ?_) (AllReadyT.cons (Array.getElem?_eq_getElem (by decide)) (fun K hK => ?_) AllReadyT.nil)
        · (try simp only [rl])
          (try go_simp)
          (refine (member_any v a ka kc la lc _ _ hus (Hin0.out.ext Xt)).mono ?_)
          rw [Hz0.out, Hmb.out]
          rintro e w1 ⟨k3, c3, l3, d3, rfl, hinz, h1⟩
          (try go_simp)
          have hxz : Ext wa w1 := Xt
          refine hK.out _ _ (fun _ => Sof _ Xt) ?_; clear hK K; (try simp only [rl])
          have hz1 := hxz.size
          (refine wpAnyT_take (i := 5) (v := ?_) [6, 9, 10] (Array.getElem?_eq_getElem (by decide)) (by kernel_rfl) (by kernel_rfl) (by kernel_rfl) (by kernel_rfl) rfl rfl (by kernel_rfl) (fun _ _ _ h => h) (Or.inl ⟨by kernel_rfl, ?_⟩) (Sof _ Xt) ?_); rotate_left; (focus (intro w hSw; (try dsimp only at hSw); (try simp only [rl]); go_simp; (try with_reducible rfl))); (try simp only [rl])
          (refine wpAnyT_take (i := 6) (v := ?_) [9, 10] (Array.getElem?_eq_getElem (by decide)) (by kernel_rfl) (by kernel_rfl) (by kernel_rfl) (by kernel_rfl) rfl rfl (by kernel_rfl) (fun _ _ _ h => h) (Or.inl ⟨by kernel_rfl, ?_⟩) (Sof _ Xt) ?_); rotate_left; (focus (intro w hSw; (try dsimp only at hSw); (try simp only [rl]); go_simp; (try with_reducible rfl))); (try simp only [rl])
          (refine wpAnyT_take (i := 7) (v := ?_) [10] (Array.getElem?_eq_getElem (by decide)) (by kernel_rfl) (by kernel_rfl) (by kernel_rfl) (by kernel_rfl) rfl rfl (by kernel_rfl) (fun _ _ _ h => h) (Or.inl ⟨by kernel_rfl, ?_⟩) (Sof _ Xt) ?_); rotate_left; (focus (intro w hSw; (try dsimp only at hSw); (try simp only [rl]); go_simp; (try with_reducible rfl))); (try simp only [rl])
          (refine wpAnyT_one (i := 8) (by kernel_rfl) (Array.getElem?_eq_getElem (by decide)) fun K hK => ?_); (try simp only [rl])
          go_simp
          refine hK.out _ _ (fun _ => Sof _ Xt) ?_; clear hK K; (try simp only [rl])
          (refine wpAnyT_one (i := 9) (by kernel_rfl) (Array.getElem?_eq_getElem (by decide)) fun K hK => ?_); (try simp only [rl])
          go_simp
          refine hK.out _ _ (fun _ => Sof _ Xt) ?_; clear hK K; (try simp only [rl])
          (refine wpAnyT_one (i := 10) (by kernel_rfl) (Array.getElem?_eq_getElem (by decide)) fun K hK => ?_); (try simp only [rl])
          go_simp
          (refine hK.out _ _ (fun h => Bool.noConfusion (show true = false from h)) ?_); clear hK K; (try simp only [rl])
          refine wpAnyT_done (by kernel_rfl) ?_ _
          have HP : ∀ wy, wy = (w1.alloc (.cells #[.int .i64 z.k, .int .i64 z.n, .string z.s, .slice k3 z.keys.length c3, .slice l3 z.l.length d3] 25)) → Box wy w1.heap.size #[.int .i64 z.k, .int .i64 z.n, .string z.s, .slice k3 z.keys.length c3, .slice l3 z.l.length d3] 25 ∧ z.In wy (Plus (fun b => S b ∧ b < w.heap.size) wa) k3 c3 l3 d3 ∧ wa.heap.size ≤ w1.heap.size ∧ Ext wa wy := by
            rintro wy rfl
            refine ⟨Bxt, V.In.ext (w := w1) hinz Xt, hxz.size, Xt⟩
          obtain ⟨wy, hwy⟩ : ∃ wy, wy = (w1.alloc (.cells #[.int .i64 z.k, .int .i64 z.n, .string z.s, .slice k3 z.keys.length c3, .slice l3 z.l.length d3] 25)) := ⟨_, rfl⟩
          have HP := HP wy hwy
          rw [← hwy]
          clear hwy
          generalize w1.heap.size = bt at HP ⊢
          exact cont bt k3 c3 l3 d3 wy HP
        · (try simp only [rl])
          go_simp
          refine hK.out _ _ (fun _ => Sof _ Xt) ?_; clear hK K; (try simp only [rl])
          (refine wpAnyT_one (i := 4) (by kernel_rfl) (Array.getElem?_eq_getElem (by decide)) fun K hK => ?_); (try simp only [rl])
          (try go_simp)
          (refine (member_any v a ka kc la lc _ _ hus (Hin0.out.ext Xt)).mono ?_)
          rw [Hz0.out, Hmb.out]
          rintro e w1 ⟨k3, c3, l3, d3, rfl, hinz, h1⟩
          (try go_simp)
          have hBt : Box w1 wa.heap.size #[.int .i64 0, .int .i64 0, .string ⟨#[]⟩, .slice none 0 0, .slice none 0 0] 25 := Box.ext (w := (wa).alloc (.cells #[.int .i64 0, .int .i64 0, .string ⟨#[]⟩, .slice none 0 0, .slice none 0 0] 25)) Xt Bxt
          have hxz : Ext wa w1 := Xt
          refine hK.out _ _ (fun _ => Sof _ Xt) ?_; clear hK K; (try simp only [rl])
          have hct := hBt.cells; have hft := hBt.free; have hlt := hBt.lt
          (refine wpAnyT_take (i := 5) (v := ?_) [6, 9, 10] (Array.getElem?_eq_getElem (by decide)) (by kernel_rfl) (by kernel_rfl) (by kernel_rfl) (by kernel_rfl) rfl rfl (by kernel_rfl) (fun _ _ _ h => h) (Or.inl ⟨by kernel_rfl, ?_⟩) (Sof _ Xt) ?_); rotate_left; (focus (intro w hSw; (try dsimp only at hSw); (try simp only [rl]); go_simp; (try with_reducible rfl))); (try simp only [rl])
          (refine wpAnyT_take (i := 6) (v := ?_) [9, 10] (Array.getElem?_eq_getElem (by decide)) (by kernel_rfl) (by kernel_rfl) (by kernel_rfl) (by kernel_rfl) rfl rfl (by kernel_rfl) (fun _ _ _ h => h) (Or.inl ⟨by kernel_rfl, ?_⟩) (Sof _ Xt) ?_); rotate_left; (focus (intro w hSw; (try dsimp only at hSw); (try simp only [rl]); go_simp; (try with_reducible rfl))); (try simp only [rl])
          (refine wpAnyT_take (i := 7) (v := ?_) [10] (Array.getElem?_eq_getElem (by decide)) (by kernel_rfl) (by kernel_rfl) (by kernel_rfl) (by kernel_rfl) rfl rfl (by kernel_rfl) (fun _ _ _ h => h) (Or.inl ⟨by kernel_rfl, ?_⟩) (Sof _ Xt) ?_); rotate_left; (focus (intro w hSw; (try dsimp only at hSw); (try simp only [rl]); go_simp; (try with_reducible rfl))); (try simp only [rl])
          (refine wpAnyT_one (i := 9) (by kernel_rfl) (Array.getElem?_eq_getElem (by decide)) fun K hK => ?_); (try simp only [rl])
          go_simp
          refine hK.out _ _ (fun _ => Sof _ Xt) ?_; clear hK K; (try simp only [rl])
          (refine wpAnyT_one (i := 10) (by kernel_rfl) (Array.getElem?_eq_getElem (by decide)) fun K hK => ?_); (try simp only [rl])
          go_simp
          (refine hK.out _ _ (fun h => Bool.noConfusion (show true = false from h)) ?_); clear hK K; (try simp only [rl])
          refine wpAnyT_done (by kernel_rfl) ?_ _
          have HP : ∀ wy, wy = ((((((w1).setCell ⟨wa.heap.size, 0, none⟩ (.int .i64 z.k)).setCell ⟨wa.heap.size, 1, none⟩ (.int .i64 z.n)).setCell ⟨wa.heap.size, 2, none⟩ (.string z.s)).setCell ⟨wa.heap.size, 3, none⟩ (.slice k3 z.keys.length c3)).setCell ⟨wa.heap.size, 4, none⟩ (.slice l3 z.l.length d3)) → Box wy wa.heap.size #[.int .i64 z.k, .int .i64 z.n, .string z.s, .slice k3 z.keys.length c3, .slice l3 z.l.length d3] 25 ∧ z.In wy (Plus (fun b => S b ∧ b < w.heap.size) wa) k3 c3 l3 d3 ∧ wa.heap.size ≤ wa.heap.size ∧ Ext wa wy := by
            rintro wy rfl
            refine ⟨Bxt, V.In.keep (S := fun b => b ≠ wa.heap.size ∧ Plus (fun b => S b ∧ b < w.heap.size) wa b) (hinz.mono (fun b h _ => by rcases h with h | h; exact ⟨by omega, .inl h⟩; simp at h; exact ⟨by omega, .inr (by omega)⟩)) (Held.kept (a := w1) (T := fun b => b ≠ wa.heap.size ∧ Plus (fun b => S b ∧ b < w.heap.size) wa b) Hxt) (fun b h _ => h.2), Nat.le_refl _, Xt⟩
          exact cont _ _ _ _ _ _ (HP _ rfl)
      case rest1 =>
        rintro bt k3 c3 l3 d3 wy ⟨hBz, hinz, hbt, hxy⟩
        have Hz := Lib.hid hinz
        clear hinz
        have hxw : Ext w wy := hxa.trans hxy
        have hB0 := Box.ext hxy hB0
        have hB1 := Box.ext hxy hB1
        have hB2 := Box.ext hxy hB2
        have hka := hxy.cell hka
        have Hin0 := Lib.hid (V.In.ext Hin0.out hxy)
        have Hjn0 := Lib.hid (V.In.ext Hjn0.out hxy)
        have hxas := hxa.size
        clear hxa
        by_cases hr : r = []
        · have hn1 : n = 1 := by have := Hn.out; rw [hr] at this; simpa using this.symm
          have hn1i : ¬ (1 : Int) < (n : Int) := by omega
          rw [if_neg (by simp [hr])] at Hset
          clear hr hn1
          cases hmm : v.member a with
          | none =>
            have hmf : mb = false := by rw [← Hmb.out, hmm]; rfl
            have Hres := Lib.hid (show setV (a :: r) v x = v.put a x by rw [Hset.out, hmm])
            subst hmf
            clear hmm
            go_upto_region 8 with fail
            have Sof : ∀ w', Ext wy w' → (w'.cell? ⟨w.heap.size, 0, none⟩ = some (.int .i64 v.k) ∧ w'.cell? ⟨w.heap.size, 1, none⟩ = some (.int .i64 v.n) ∧ w'.cell? ⟨w.heap.size, 2, none⟩ = some (.string v.s) ∧ w'.cell? ⟨w.heap.size, 3, none⟩ = some (.slice ka v.keys.length kc) ∧ w'.cell? ⟨w.heap.size, 4, none⟩ = some (.slice la v.l.length lc) ∧ w'.cell? ⟨b, o, none⟩ = some (.string a) ∧ w'.cell? ⟨w.heap.size + 1, 0, none⟩ = some (.int .i64 x.k) ∧ w'.cell? ⟨w.heap.size + 1, 1, none⟩ = some (.int .i64 x.n) ∧ w'.cell? ⟨w.heap.size + 1, 2, none⟩ = some (.string x.s) ∧ w'.cell? ⟨w.heap.size + 1, 3, none⟩ = some (.slice kb x.keys.length kd) ∧ w'.cell? ⟨w.heap.size + 1, 4, none⟩ = some (.slice lb x.l.length ld)) := fun w' e => ⟨e.cell (hB0.cells 0), e.cell (hB0.cells 1), e.cell (hB0.cells 2), e.cell (hB0.cells 3), e.cell (hB0.cells 4), e.cell (hka), e.cell (hB1.cells 0), e.cell (hB1.cells 1), e.cell (hB1.cells 2), e.cell (hB1.cells 3), e.cell (hB1.cells 4)⟩
            refine wp_region_till (S := fun w' => w'.cell? ⟨w.heap.size, 0, none⟩ = some (.int .i64 v.k) ∧ w'.cell? ⟨w.heap.size, 1, none⟩ = some (.int .i64 v.n) ∧ w'.cell? ⟨w.heap.size, 2, none⟩ = some (.string v.s) ∧ w'.cell? ⟨w.heap.size, 3, none⟩ = some (.slice ka v.keys.length kc) ∧ w'.cell? ⟨w.heap.size, 4, none⟩ = some (.slice la v.l.length lc) ∧ w'.cell? ⟨b, o, none⟩ = some (.string a) ∧ w'.cell? ⟨w.heap.size + 1, 0, none⟩ = some (.int .i64 x.k) ∧ w'.cell? ⟨w.heap.size + 1, 1, none⟩ = some (.int .i64 x.n) ∧ w'.cell? ⟨w.heap.size + 1, 2, none⟩ = some (.string x.s) ∧ w'.cell? ⟨w.heap.size + 1, 3, none⟩ = some (.slice kb x.keys.length kd) ∧ w'.cell? ⟨w.heap.size + 1, 4, none⟩ = some (.slice lb x.l.length ld)) (c := 6) (by kernel_rfl) ?_
            (refine wpAnyT_take (i := 0) (v := ?_) [5, 6] (Array.getElem?_eq_getElem (by decide)) (by kernel_rfl) (by kernel_rfl) (by kernel_rfl) (by kernel_rfl) rfl rfl (by kernel_rfl) (fun _ _ _ h => h) (Or.inl ⟨by kernel_rfl, ?_⟩) (Sof _ Xt) ?_); rotate_left; (focus (intro w hSw; (try dsimp only at hSw); (try simp only [rl]); go_simp; (try with_reducible rfl))); (try simp only [rl])
            (refine wpAnyT_take (i := 1) (v := ?_) [2, 3, 5, 6] (Array.getElem?_eq_getElem (by decide)) (by kernel_rfl) (by kernel_rfl) (by kernel_rfl) (by kernel_rfl) rfl rfl (by kernel_rfl) (fun _ _ _ h => h) (Or.inl ⟨by kernel_rfl, ?_⟩) (Sof _ Xt) ?_); rotate_left; (focus (intro w hSw; (try dsimp only at hSw); (try simp only [rl]); go_simp; (try with_reducible rfl))); (try simp only [rl])
            (refine wpAnyT_take (i := 2) (v := ?_) [3, 5, 6] (Array.getElem?_eq_getElem (by decide)) (by kernel_rfl) (by kernel_rfl) (by kernel_rfl) (by kernel_rfl) rfl rfl (by kernel_rfl) (fun _ _ _ h => h) (Or.inl ⟨by kernel_rfl, ?_⟩) (Sof _ Xt) ?_); rotate_left; (focus (intro w hSw; (try dsimp only at hSw); (try simp only [rl]); go_simp; (try with_reducible rfl))); (try simp only [rl])
            (refine wpAnyT_take (i := 3) (v := ?_) [5, 6] (Array.getElem?_eq_getElem (by decide)) (by kernel_rfl) (by kernel_rfl) (by kernel_rfl) (by kernel_rfl) rfl rfl (by kernel_rfl) (fun _ _ _ h => h) (Or.inl ⟨by kernel_rfl, ?_⟩) (Sof _ Xt) ?_); rotate_left; (focus (intro w hSw; (try dsimp only at hSw); (try simp only [rl]); go_simp; (try with_reducible rfl))); (try simp only [rl])
            (refine wpAnyT_take (i := 4) (v := ?_) [5, 6] (Array.getElem?_eq_getElem (by decide)) (by kernel_rfl) (by kernel_rfl) (by kernel_rfl) (by kernel_rfl) rfl rfl (by kernel_rfl) (fun _ _ _ h => h) (Or.inl ⟨by kernel_rfl, ?_⟩) (Sof _ Xt) ?_); rotate_left; (focus (intro w hSw; (try dsimp only at hSw); (try simp only [rl]); go_simp; (try with_reducible rfl))); (try simp only [rl])
            (refine wpAnyT_one (i := 5) (by kernel_rfl) (Array.getElem?_eq_getElem (by decide)) fun K hK => ?_); (try simp only [rl])
            (try go_simp)
            (refine (with_any v ka kc la lc a x kb kd lb ld (fun b => S b ∧ b < w.heap.size) _ hus Hob.out.rise (Hin0.out.ext Xt) (Hjn0.out.ext Xt)).mono ?_)
            rintro e w5 ⟨k5, c5, l5, d5, rfl, hin5, h5⟩
            (try go_simp)
            have hx5 : Ext wy w5 := Xt
            have hB25 := Box.ext hx5 hB2
            have hxw5 : Ext w w5 := hxw.trans hx5
            have hzy := hxy.size
            have hz5 := hx5.size
            refine hK.out _ _ (fun _ => Sof _ Xt) ?_; clear hK K; (try simp only [rl])
            have hc2 := hB25.cells; have hf2 := hB25.free; have hl2 := hB25.lt
            (refine wpAnyT_one (i := 6) (by kernel_rfl) (Array.getElem?_eq_getElem (by decide)) fun K hK => ?_); (try simp only [rl])
            go_simp
            (refine hK.out _ _ (fun h => Bool.noConfusion (show true = false from h)) ?_); clear hK K; (try simp only [rl])
            refine wpAnyT_done (by kernel_rfl) ?_ _
            go_wp2_with fail
            (with_reducible apply bp_ret); (focus (go_light; simp [results, Tryz.results59, go_sem, *]; rfl))
            rw [Hres.out]
            exact ⟨k5, c5, l5, d5, rfl, V.In.keep (S := fun b => b ≠ w.heap.size + 2 ∧ ((S b ∧ b < w.heap.size) ∨ w.heap.size + 3 ≤ b)) (hin5.mono (fun b h _ => by rcases h with h | h; exact ⟨by omega, .inl h⟩; (try simp at h); exact ⟨by omega, .inr (by omega)⟩)) (Held.kept (a := w5) (T := fun b => b ≠ w.heap.size + 2 ∧ ((S b ∧ b < w.heap.size) ∨ w.heap.size + 3 ≤ b)) Hxt) (fun b h _ => by rcases h.2 with h | h; exact .inl h.1; exact .inr (by omega)), Xt⟩
          | some old =>
            have hmt : mb = true := by rw [← Hmb.out, hmm]; rfl
            have hzo : old = z := by have := Hzg.out; rw [hmm] at this; exact this
            subst hmt
            subst hzo
            cases hlk : likeB old x with
            | true =>
              have Hlk := Lib.hid hlk
              have Hres := Lib.hid (show setV (a :: r) v x = v by rw [Hset.out, hmm]; simp only [hlk, if_true])
              clear hmm hlk
              have hcz := hBz.cells; have hfz := hBz.free; have hlz := hBz.lt
              have hc1 := hB1.cells; have hf1 := hB1.free; have hl1 := hB1.lt
              go_wp2_with fail
              (refine (like_any old x k3 c3 l3 d3 _ kb kd lb ld _ _ hzz hxz (Hz.out.ext Xt) (Hjn0.out.ext Xt)).mono ?_)
              rw [Hlk.out]
              rintro e w6 ⟨rfl, h6⟩
              have hx6 : Ext wy w6 := Xt
              clear h6 hcz hfz hlz hc1 hf1 hl1
              have hB0 := Box.ext hx6 hB0
              have hB2 := Box.ext hx6 hB2
              have hxw6 : Ext w w6 := hxw.trans hx6
              have hzy := hxy.size
              have hz6 := hx6.size
              have hc0 := hB0.cells; have hf0 := hB0.free; have hl0 := hB0.lt
              have hc2 := hB2.cells; have hf2 := hB2.free; have hl2 := hB2.lt
              go_wp2_with fail
              (with_reducible apply bp_ret); (focus (go_light; simp [results, Tryz.results59, go_sem, *]; rfl))
              rw [Hres.out]
              exact ⟨ka, kc, la, lc, rfl, V.In.keep (S := fun b => S b ∧ b < w.heap.size) (Hin0.out.ext hx6) (Held.kept (a := w6) (T := fun b => S b ∧ b < w.heap.size) Hxt) (fun b h _ => .inl h.1), Xt⟩
            | false =>
              have Hlk := Lib.hid hlk
              have Hres := Lib.hid (show setV (a :: r) v x = v.put a x by rw [Hset.out, hmm]; simp [hlk])
              clear hmm hlk
              have hcz := hBz.cells; have hfz := hBz.free; have hlz := hBz.lt
              have hc1 := hB1.cells; have hf1 := hB1.free; have hl1 := hB1.lt
              go_wp2_with fail
              (refine (like_any old x k3 c3 l3 d3 _ kb kd lb ld _ _ hzz hxz (Hz.out.ext Xt) (Hjn0.out.ext Xt)).mono ?_)
              rw [Hlk.out]
              rintro e w6 ⟨rfl, h6⟩
              have hx6 : Ext wy w6 := Xt
              clear h6 hcz hfz hlz hc1 hf1 hl1
              go_upto_region 8 with fail
              refine gen_world (R := fun wx => Ext wy wx) (by exact Xt) ?_
              clear hx6
              rintro wz hxz6
              have hxw : Ext w wz := hxw.trans hxz6
              have hB0 := Box.ext hxz6 hB0
              have hB1 := Box.ext hxz6 hB1
              have hB2 := Box.ext hxz6 hB2
              have hka := hxz6.cell hka
              have Hin0 := Lib.hid (V.In.ext Hin0.out hxz6)
              have Hjn0 := Lib.hid (V.In.ext Hjn0.out hxz6)
              have hxy : Ext wa wz := hxy.trans hxz6
              clear hxz6
              have Sof : ∀ w', Ext wz w' → (w'.cell? ⟨w.heap.size, 0, none⟩ = some (.int .i64 v.k) ∧ w'.cell? ⟨w.heap.size, 1, none⟩ = some (.int .i64 v.n) ∧ w'.cell? ⟨w.heap.size, 2, none⟩ = some (.string v.s) ∧ w'.cell? ⟨w.heap.size, 3, none⟩ = some (.slice ka v.keys.length kc) ∧ w'.cell? ⟨w.heap.size, 4, none⟩ = some (.slice la v.l.length lc) ∧ w'.cell? ⟨b, o, none⟩ = some (.string a) ∧ w'.cell? ⟨w.heap.size + 1, 0, none⟩ = some (.int .i64 x.k) ∧ w'.cell? ⟨w.heap.size + 1, 1, none⟩ = some (.int .i64 x.n) ∧ w'.cell? ⟨w.heap.size + 1, 2, none⟩ = some (.string x.s) ∧ w'.cell? ⟨w.heap.size + 1, 3, none⟩ = some (.slice kb x.keys.length kd) ∧ w'.cell? ⟨w.heap.size + 1, 4, none⟩ = some (.slice lb x.l.length ld)) := fun w' e => ⟨e.cell (hB0.cells 0), e.cell (hB0.cells 1), e.cell (hB0.cells 2), e.cell (hB0.cells 3), e.cell (hB0.cells 4), e.cell (hka), e.cell (hB1.cells 0), e.cell (hB1.cells 1), e.cell (hB1.cells 2), e.cell (hB1.cells 3), e.cell (hB1.cells 4)⟩
              refine wp_region_till (S := fun w' => w'.cell? ⟨w.heap.size, 0, none⟩ = some (.int .i64 v.k) ∧ w'.cell? ⟨w.heap.size, 1, none⟩ = some (.int .i64 v.n) ∧ w'.cell? ⟨w.heap.size, 2, none⟩ = some (.string v.s) ∧ w'.cell? ⟨w.heap.size, 3, none⟩ = some (.slice ka v.keys.length kc) ∧ w'.cell? ⟨w.heap.size, 4, none⟩ = some (.slice la v.l.length lc) ∧ w'.cell? ⟨b, o, none⟩ = some (.string a) ∧ w'.cell? ⟨w.heap.size + 1, 0, none⟩ = some (.int .i64 x.k) ∧ w'.cell? ⟨w.heap.size + 1, 1, none⟩ = some (.int .i64 x.n) ∧ w'.cell? ⟨w.heap.size + 1, 2, none⟩ = some (.string x.s) ∧ w'.cell? ⟨w.heap.size + 1, 3, none⟩ = some (.slice kb x.keys.length kd) ∧ w'.cell? ⟨w.heap.size + 1, 4, none⟩ = some (.slice lb x.l.length ld)) (c := 6) (by kernel_rfl) ?_
              (refine wpAnyT_take (i := 0) (v := ?_) [5, 6] (Array.getElem?_eq_getElem (by decide)) (by kernel_rfl) (by kernel_rfl) (by kernel_rfl) (by kernel_rfl) rfl rfl (by kernel_rfl) (fun _ _ _ h => h) (Or.inl ⟨by kernel_rfl, ?_⟩) (Sof _ Xt) ?_); rotate_left; (focus (intro w hSw; (try dsimp only at hSw); (try simp only [rl]); go_simp; (try with_reducible rfl))); (try simp only [rl])
              (refine wpAnyT_take (i := 1) (v := ?_) [2, 3, 5, 6] (Array.getElem?_eq_getElem (by decide)) (by kernel_rfl) (by kernel_rfl) (by kernel_rfl) (by kernel_rfl) rfl rfl (by kernel_rfl) (fun _ _ _ h => h) (Or.inl ⟨by kernel_rfl, ?_⟩) (Sof _ Xt) ?_); rotate_left; (focus (intro w hSw; (try dsimp only at hSw); (try simp only [rl]); go_simp; (try with_reducible rfl))); (try simp only [rl])
              (refine wpAnyT_take (i := 2) (v := ?_) [3, 5, 6] (Array.getElem?_eq_getElem (by decide)) (by kernel_rfl) (by kernel_rfl) (by kernel_rfl) (by kernel_rfl) rfl rfl (by kernel_rfl) (fun _ _ _ h => h) (Or.inl ⟨by kernel_rfl, ?_⟩) (Sof _ Xt) ?_); rotate_left; (focus (intro w hSw; (try dsimp only at hSw); (try simp only [rl]); go_simp; (try with_reducible rfl))); (try simp only [rl])
              (refine wpAnyT_take (i := 3) (v := ?_) [5, 6] (Array.getElem?_eq_getElem (by decide)) (by kernel_rfl) (by kernel_rfl) (by kernel_rfl) (by kernel_rfl) rfl rfl (by kernel_rfl) (fun _ _ _ h => h) (Or.inl ⟨by kernel_rfl, ?_⟩) (Sof _ Xt) ?_); rotate_left; (focus (intro w hSw; (try dsimp only at hSw); (try simp only [rl]); go_simp; (try with_reducible rfl))); (try simp only [rl])
              (refine wpAnyT_take (i := 4) (v := ?_) [5, 6] (Array.getElem?_eq_getElem (by decide)) (by kernel_rfl) (by kernel_rfl) (by kernel_rfl) (by kernel_rfl) rfl rfl (by kernel_rfl) (fun _ _ _ h => h) (Or.inl ⟨by kernel_rfl, ?_⟩) (Sof _ Xt) ?_); rotate_left; (focus (intro w hSw; (try dsimp only at hSw); (try simp only [rl]); go_simp; (try with_reducible rfl))); (try simp only [rl])
              (refine wpAnyT_one (i := 5) (by kernel_rfl) (Array.getElem?_eq_getElem (by decide)) fun K hK => ?_); (try simp only [rl])
              (try go_simp)
              (refine (with_any v ka kc la lc a x kb kd lb ld (fun b => S b ∧ b < w.heap.size) _ hus Hob.out.rise (Hin0.out.ext Xt) (Hjn0.out.ext Xt)).mono ?_)
              rintro e w5 ⟨k5, c5, l5, d5, rfl, hin5, h5⟩
              (try go_simp)
              have hx5 : Ext wz w5 := Xt
              have hB25 := Box.ext hx5 hB2
              have hxw5 : Ext w w5 := hxw.trans hx5
              have hzy := hxy.size
              have hz5 := hx5.size
              refine hK.out _ _ (fun _ => Sof _ Xt) ?_; clear hK K; (try simp only [rl])
              have hc2 := hB25.cells; have hf2 := hB25.free; have hl2 := hB25.lt
              (refine wpAnyT_one (i := 6) (by kernel_rfl) (Array.getElem?_eq_getElem (by decide)) fun K hK => ?_); (try simp only [rl])
              go_simp
              (refine hK.out _ _ (fun h => Bool.noConfusion (show true = false from h)) ?_); clear hK K; (try simp only [rl])
              refine wpAnyT_done (by kernel_rfl) ?_ _
              go_wp2_with fail
              (with_reducible apply bp_ret); (focus (go_light; simp [results, Tryz.results59, go_sem, *]; rfl))
              rw [Hres.out]
              exact ⟨k5, c5, l5, d5, rfl, V.In.keep (S := fun b => b ≠ w.heap.size + 2 ∧ ((S b ∧ b < w.heap.size) ∨ w.heap.size + 3 ≤ b)) (hin5.mono (fun b h _ => by rcases h with h | h; exact ⟨by omega, .inl h⟩; (try simp at h); exact ⟨by omega, .inr (by omega)⟩)) (Held.kept (a := w5) (T := fun b => b ≠ w.heap.size + 2 ∧ ((S b ∧ b < w.heap.size) ∨ w.heap.size + 3 ≤ b)) Hxt) (fun b h _ => by rcases h.2 with h | h; exact .inl h.1; exact .inr (by omega)), Xt⟩
        · have hn2 : (1 : Int) < (n : Int) := by have := Hn.out; have := List.length_pos_iff.2 hr; omega
          have hn3 : (1 : Int) ≤ (n : Int) := by omega
          have hcne : ¬ c = 1 := by omega
          have hn4 : (n : Int) ≤ (c : Int) := by omega
          have hrn : r.length = n - 1 := by have := Hn.out; omega
          have Hres := Lib.hid (show setV (a :: r) v x = v.put a (setV r z x) by rw [Hset.out, if_pos hr])
          have Hr := Lib.hid hr
          have Hrn := Lib.hid hrn
          clear hr hrn
          go_upto_region 5 with fail
          have Sof : ∀ w', Ext wy w' → (w'.cell? ⟨w.heap.size, 0, none⟩ = some (.int .i64 v.k) ∧ w'.cell? ⟨w.heap.size, 1, none⟩ = some (.int .i64 v.n) ∧ w'.cell? ⟨w.heap.size, 2, none⟩ = some (.string v.s) ∧ w'.cell? ⟨w.heap.size, 3, none⟩ = some (.slice ka v.keys.length kc) ∧ w'.cell? ⟨w.heap.size, 4, none⟩ = some (.slice la v.l.length lc) ∧ w'.cell? ⟨b, o, none⟩ = some (.string a) ∧ w'.cell? ⟨w.heap.size + 1, 0, none⟩ = some (.int .i64 x.k) ∧ w'.cell? ⟨w.heap.size + 1, 1, none⟩ = some (.int .i64 x.n) ∧ w'.cell? ⟨w.heap.size + 1, 2, none⟩ = some (.string x.s) ∧ w'.cell? ⟨w.heap.size + 1, 3, none⟩ = some (.slice kb x.keys.length kd) ∧ w'.cell? ⟨w.heap.size + 1, 4, none⟩ = some (.slice lb x.l.length ld) ∧ w'.cell? ⟨bt, 0, none⟩ = some (.int .i64 z.k) ∧ w'.cell? ⟨bt, 1, none⟩ = some (.int .i64 z.n) ∧ w'.cell? ⟨bt, 2, none⟩ = some (.string z.s) ∧ w'.cell? ⟨bt, 3, none⟩ = some (.slice k3 z.keys.length c3) ∧ w'.cell? ⟨bt, 4, none⟩ = some (.slice l3 z.l.length d3)) := fun w' e => ⟨e.cell (hB0.cells 0), e.cell (hB0.cells 1), e.cell (hB0.cells 2), e.cell (hB0.cells 3), e.cell (hB0.cells 4), e.cell (hka), e.cell (hB1.cells 0), e.cell (hB1.cells 1), e.cell (hB1.cells 2), e.cell (hB1.cells 3), e.cell (hB1.cells 4), e.cell (hBz.cells 0), e.cell (hBz.cells 1), e.cell (hBz.cells 2), e.cell (hBz.cells 3), e.cell (hBz.cells 4)⟩
          refine wp_region_till (S := fun w' => w'.cell? ⟨w.heap.size, 0, none⟩ = some (.int .i64 v.k) ∧ w'.cell? ⟨w.heap.size, 1, none⟩ = some (.int .i64 v.n) ∧ w'.cell? ⟨w.heap.size, 2, none⟩ = some (.string v.s) ∧ w'.cell? ⟨w.heap.size, 3, none⟩ = some (.slice ka v.keys.length kc) ∧ w'.cell? ⟨w.heap.size, 4, none⟩ = some (.slice la v.l.length lc) ∧ w'.cell? ⟨b, o, none⟩ = some (.string a) ∧ w'.cell? ⟨w.heap.size + 1, 0, none⟩ = some (.int .i64 x.k) ∧ w'.cell? ⟨w.heap.size + 1, 1, none⟩ = some (.int .i64 x.n) ∧ w'.cell? ⟨w.heap.size + 1, 2, none⟩ = some (.string x.s) ∧ w'.cell? ⟨w.heap.size + 1, 3, none⟩ = some (.slice kb x.keys.length kd) ∧ w'.cell? ⟨w.heap.size + 1, 4, none⟩ = some (.slice lb x.l.length ld) ∧ w'.cell? ⟨bt, 0, none⟩ = some (.int .i64 z.k) ∧ w'.cell? ⟨bt, 1, none⟩ = some (.int .i64 z.n) ∧ w'.cell? ⟨bt, 2, none⟩ = some (.string z.s) ∧ w'.cell? ⟨bt, 3, none⟩ = some (.slice k3 z.keys.length c3) ∧ w'.cell? ⟨bt, 4, none⟩ = some (.slice l3 z.l.length d3)) (c := 10) (by kernel_rfl) ?_
          (refine wpAnyT_take (i := 0) (v := ?_) [9, 10] (Array.getElem?_eq_getElem (by decide)) (by kernel_rfl) (by kernel_rfl) (by kernel_rfl) (by kernel_rfl) rfl rfl (by kernel_rfl) (fun _ _ _ h => h) (Or.inl ⟨by kernel_rfl, ?_⟩) (Sof _ Xt) ?_); rotate_left; (focus (intro w hSw; (try dsimp only at hSw); (try simp only [rl]); go_simp; (try with_reducible rfl))); (try simp only [rl])
          (refine wpAnyT_take (i := 1) (v := ?_) [2, 3, 9, 10] (Array.getElem?_eq_getElem (by decide)) (by kernel_rfl) (by kernel_rfl) (by kernel_rfl) (by kernel_rfl) rfl rfl (by kernel_rfl) (fun _ _ _ h => h) (Or.inl ⟨by kernel_rfl, ?_⟩) (Sof _ Xt) ?_); rotate_left; (focus (intro w hSw; (try dsimp only at hSw); (try simp only [rl]); go_simp; (try with_reducible rfl))); (try simp only [rl])
          (refine wpAnyT_take (i := 2) (v := ?_) [3, 9, 10] (Array.getElem?_eq_getElem (by decide)) (by kernel_rfl) (by kernel_rfl) (by kernel_rfl) (by kernel_rfl) rfl rfl (by kernel_rfl) (fun _ _ _ h => h) (Or.inl ⟨by kernel_rfl, ?_⟩) (Sof _ Xt) ?_); rotate_left; (focus (intro w hSw; (try dsimp only at hSw); (try simp only [rl]); go_simp; (try with_reducible rfl))); (try simp only [rl])
          (refine wpAnyT_take (i := 3) (v := ?_) [9, 10] (Array.getElem?_eq_getElem (by decide)) (by kernel_rfl) (by kernel_rfl) (by kernel_rfl) (by kernel_rfl) rfl rfl (by kernel_rfl) (fun _ _ _ h => h) (Or.inl ⟨by kernel_rfl, ?_⟩) (Sof _ Xt) ?_); rotate_left; (focus (intro w hSw; (try dsimp only at hSw); (try simp only [rl]); go_simp; (try with_reducible rfl))); (try simp only [rl])
          (refine wpAnyT_take (i := 4) (v := ?_) [8, 10] (Array.getElem?_eq_getElem (by decide)) (by kernel_rfl) (by kernel_rfl) (by kernel_rfl) (by kernel_rfl) rfl rfl (by kernel_rfl) (fun _ _ _ h => h) (Or.inl ⟨by kernel_rfl, ?_⟩) (Sof _ Xt) ?_); rotate_left; (focus (intro w hSw; (try dsimp only at hSw); (try simp only [rl]); go_simp; (try with_reducible rfl))); (try simp only [rl])
          (refine wpAnyT_take (i := 5) (v := ?_) [6, 8, 10] (Array.getElem?_eq_getElem (by decide)) (by kernel_rfl) (by kernel_rfl) (by kernel_rfl) (by kernel_rfl) rfl rfl (by kernel_rfl) (fun _ _ _ h => h) (Or.inl ⟨by kernel_rfl, ?_⟩) (Sof _ Xt) ?_); rotate_left; (focus (intro w hSw; (try dsimp only at hSw); (try simp only [rl]); go_simp; (try with_reducible rfl))); (try simp only [rl])
          (refine wpAnyT_take (i := 6) (v := ?_) [8, 10] (Array.getElem?_eq_getElem (by decide)) (by kernel_rfl) (by kernel_rfl) (by kernel_rfl) (by kernel_rfl) rfl rfl (by kernel_rfl) (fun _ _ _ h => h) (Or.inl ⟨by kernel_rfl, ?_⟩) (Sof _ Xt) ?_); rotate_left; (focus (intro w hSw; (try dsimp only at hSw); (try simp only [rl]); go_simp; (try with_reducible rfl))); (try simp only [rl])
          (refine wpAnyT_take (i := 7) (v := ?_) [8, 10] (Array.getElem?_eq_getElem (by decide)) (by kernel_rfl) (by kernel_rfl) (by kernel_rfl) (by kernel_rfl) rfl rfl (by kernel_rfl) (fun _ _ _ h => h) (Or.inl ⟨by kernel_rfl, ?_⟩) (Sof _ Xt) ?_); rotate_left; (focus (intro w hSw; (try dsimp only at hSw); (try simp only [rl]); go_simp; (try with_reducible rfl))); (try simp only [rl])
          (refine wpAnyT_one (i := 8) (by kernel_rfl) (Array.getElem?_eq_getElem (by decide)) fun K hK => ?_); (try simp only [rl])
          (try go_simp)
          have hC8 := fun i h => Ext.cell (a := w) hxw (HC.out i h)
          (refine (ih z x k3 c3 l3 d3 kb kd lb ld b (o + 1) (n - 1) (c - 1) (Plus (fun b => S b ∧ b < w.heap.size) wa) _ Hr.out Hrn.out Hgs.out hzz hxz (by omega) (by omega) (by omega) (fun i h => Ext.cell (a := wy) Xt (hC8 i h)) (Hz.out.ext Xt) ((Hjn0.out.mono (fun b h _ => .inl h)).ext Xt)).mono ?_)
          rintro e w4 ⟨k4, c4, l4, d4, rfl, hin4, h4⟩
          (try go_simp)
          have hx4 : Ext wy w4 := Xt
          have hz4 := hx4.size
          have hzy := hxy.size
          have Hin4 := Lib.hid hin4
          clear hC8 hin4
          refine hK.out _ _ (fun _ => Sof _ Xt) ?_; clear hK K; (try simp only [rl])
          (refine wpAnyT_one (i := 9) (by kernel_rfl) (Array.getElem?_eq_getElem (by decide)) fun K hK => ?_); (try simp only [rl])
          (try go_simp)
          (refine (with_any v ka kc la lc a (setV r z x) k4 c4 l4 d4 _ _ hus Hob.out.rise ((Hin0.out.mono (fun b h _ => .inl (.inl h))).ext Xt) (Hin4.out.ext Xt)).mono ?_)
          rintro e w5 ⟨k5, c5, l5, d5, rfl, hin5, h5⟩
          (try go_simp)
          have hx5 : Ext wy w5 := Xt
          have hB25 := Box.ext hx5 hB2
          have hxw5 : Ext w w5 := hxw.trans hx5
          have hz5 := hx5.size
          refine hK.out _ _ (fun _ => Sof _ Xt) ?_; clear hK K; (try simp only [rl])
          have hc2 := hB25.cells; have hf2 := hB25.free; have hl2 := hB25.lt
          (refine wpAnyT_one (i := 10) (by kernel_rfl) (Array.getElem?_eq_getElem (by decide)) fun K hK => ?_); (try simp only [rl])
          go_simp
          (refine hK.out _ _ (fun h => Bool.noConfusion (show true = false from h)) ?_); clear hK K; (try simp only [rl])
          refine wpAnyT_done (by kernel_rfl) ?_ _
          go_wp2_with fail
          (with_reducible apply bp_ret); (focus (go_light; simp [results, Tryz.results59, go_sem, *]; rfl))
          rw [Hres.out]
          exact ⟨k5, c5, l5, d5, rfl, V.In.keep (S := fun b => b ≠ w.heap.size + 2 ∧ ((S b ∧ b < w.heap.size) ∨ w.heap.size + 3 ≤ b)) (hin5.mono (fun b h _ => by rcases h with ((h | h) | h) | h; exact ⟨by omega, .inl h⟩; (try simp at h); exact ⟨by omega, .inr (by omega)⟩; (try simp at h); exact ⟨by omega, .inr (by omega)⟩; (try simp at h); exact ⟨by omega, .inr (by omega)⟩)) (Held.kept (a := w5) (T := fun b => b ≠ w.heap.size + 2 ∧ ((S b ∧ b < w.heap.size) ∨ w.heap.size + 3 ≤ b)) Hxt) (fun b h _ => by rcases h.2 with h | h; exact .inl h.1; exact .inr (by omega)), Xt⟩
    · have hu : v.base = V.none5 := base_not h5
      have h5n : (v.k != 5) = true := by simpa using h5
      rw [hu] at hz0 hmb hus Hob Hset Hzg
      have hmf : mb = false := by rw [← hmb, member_none5]; rfl
      have Hz0 := Lib.hid hz0
      have Hmb := Lib.hid hmb
      clear hz0 hmb hu h5
      go_enter Tryz.func59, Tryz.ntmps59
      go_upto_region 3 with fail
      refine gen_world (R := fun wx => Box wx w.heap.size #[.int .i64 5, .int .i64 0, .string ⟨#[]⟩, .slice none 0 0, .slice none 0 0] 25 ∧ Box wx (w.heap.size + 1) #[.int .i64 x.k, .int .i64 x.n, .string x.s, .slice kb x.keys.length kd, .slice lb x.l.length ld] 25 ∧ Box wx (w.heap.size + 2) #[.int .i64 0, .int .i64 0, .string ⟨#[]⟩, .slice none 0 0, .slice none 0 0] 25 ∧ Ext w wx) ⟨Bxt, Bxt, Bxt, Xt⟩ ?_
      rintro wa ⟨hB0, hB1, hB2, hxa⟩
      have hka := hxa.cell hk
      have hza := hB2.lt
      have Hin0 := Lib.hid ((show V.none5.In wa (fun b => S b ∧ b < w.heap.size) none 0 none 0 from (V.in_iff ..).2 ⟨SlOk.nil, SlOk.nil, .inl rfl, .inl rfl⟩))
      have Hjn0 := Lib.hid (Hjn.out.ext hxa)
      clear hk
      refine meetO ?G2 (fun bt k3 c3 l3 d3 wy => Box wy bt #[.int .i64 z.k, .int .i64 z.n, .string z.s, .slice k3 z.keys.length c3, .slice l3 z.l.length d3] 25 ∧ z.In wy (Plus (fun b => S b ∧ b < w.heap.size) wa) k3 c3 l3 d3 ∧ wa.heap.size ≤ bt ∧ Ext wa wy) (fun cont => ?reg2) ?rest2
      case reg2 =>
        have Sof : ∀ w', Ext wa w' → (w'.cell? ⟨w.heap.size, 0, none⟩ = some (.int .i64 5) ∧ w'.cell? ⟨w.heap.size, 1, none⟩ = some (.int .i64 0) ∧ w'.cell? ⟨w.heap.size, 2, none⟩ = some (.string ⟨#[]⟩) ∧ w'.cell? ⟨w.heap.size, 3, none⟩ = some (.slice none 0 0) ∧ w'.cell? ⟨w.heap.size, 4, none⟩ = some (.slice none 0 0) ∧ w'.cell? ⟨b, o, none⟩ = some (.string a)) := fun w' e => ⟨e.cell (hB0.cells 0), e.cell (hB0.cells 1), e.cell (hB0.cells 2), e.cell (hB0.cells 3), e.cell (hB0.cells 4), e.cell (hka)⟩
        refine wp_region_till (S := fun w' => w'.cell? ⟨w.heap.size, 0, none⟩ = some (.int .i64 5) ∧ w'.cell? ⟨w.heap.size, 1, none⟩ = some (.int .i64 0) ∧ w'.cell? ⟨w.heap.size, 2, none⟩ = some (.string ⟨#[]⟩) ∧ w'.cell? ⟨w.heap.size, 3, none⟩ = some (.slice none 0 0) ∧ w'.cell? ⟨w.heap.size, 4, none⟩ = some (.slice none 0 0) ∧ w'.cell? ⟨b, o, none⟩ = some (.string a)) (c := 10) (by kernel_rfl) ?_
        (refine wpAnyT_take (i := 0) (v := ?_) [4, 9, 10] (Array.getElem?_eq_getElem (by decide)) (by kernel_rfl) (by kernel_rfl) (by kernel_rfl) (by kernel_rfl) rfl rfl (by kernel_rfl) (fun _ _ _ h => h) (Or.inl ⟨by kernel_rfl, ?_⟩) (Sof _ Xt) ?_); rotate_left; (focus (intro w hSw; (try dsimp only at hSw); (try simp only [rl]); go_simp; (try with_reducible rfl))); (try simp only [rl])
        (refine wpAnyT_take (i := 1) (v := ?_) [2, 3, 4, 9, 10] (Array.getElem?_eq_getElem (by decide)) (by kernel_rfl) (by kernel_rfl) (by kernel_rfl) (by kernel_rfl) rfl rfl (by kernel_rfl) (fun _ _ _ h => h) (Or.inl ⟨by kernel_rfl, ?_⟩) (Sof _ Xt) ?_); rotate_left; (focus (intro w hSw; (try dsimp only at hSw); (try simp only [rl]); go_simp; (try with_reducible rfl))); (try simp only [rl])
        (refine wpAnyT_take (i := 2) (v := ?_) [3, 4, 9, 10] (Array.getElem?_eq_getElem (by decide)) (by kernel_rfl) (by kernel_rfl) (by kernel_rfl) (by kernel_rfl) rfl rfl (by kernel_rfl) (fun _ _ _ h => h) (Or.inl ⟨by kernel_rfl, ?_⟩) (Sof _ Xt) ?_); rotate_left; (focus (intro w hSw; (try dsimp only at hSw); (try simp only [rl]); go_simp; (try with_reducible rfl))); (try simp only [rl])
        (refine wpAnyT_take (i := 3) (v := ?_) [4, 9, 10] (Array.getElem?_eq_getElem (by decide)) (by kernel_rfl) (by kernel_rfl) (by kernel_rfl) (by kernel_rfl) rfl rfl (by kernel_rfl) (fun _ _ _ h => h) (Or.inl ⟨by kernel_rfl, ?_⟩) (Sof _ Xt) ?_); rotate_left; (focus (intro w hSw; (try dsimp only at hSw); (try simp only [rl]); go_simp; (try with_reducible rfl))); (try simp only [rl])
        refine wpAnyT_ready (rs := [4, 8]) (by kernel_rfl) (by simp) ?_
        refine AllReadyT.cons (Array.getElem?_eq_getElem (by decide)) (fun K hK => ?_) (AllReadyT.cons (Array.getElem?_eq_getElem (by decide)) (fun K hK => ?_) AllReadyT.nil)
        · (try simp only [rl])
          (try go_simp)
          (refine (member_any V.none5 a none 0 none 0 _ _ hus (Hin0.out.ext Xt)).mono ?_)
          rw [Hz0.out, Hmb.out]
          rintro e w1 ⟨k3, c3, l3, d3, rfl, hinz, h1⟩
          (try go_simp)
          have hxz : Ext wa w1 := Xt
          refine hK.out _ _ (fun _ => Sof _ Xt) ?_; clear hK K; (try simp only [rl])
          have hz1 := hxz.size
          (refine wpAnyT_take (i := 5) (v := ?_) [6, 9, 10] (Array.getElem?_eq_getElem (by decide)) (by kernel_rfl) (by kernel_rfl) (by kernel_rfl) (by kernel_rfl) rfl rfl (by kernel_rfl) (fun _ _ _ h => h) (Or.inl ⟨by kernel_rfl, ?_⟩) (Sof _ Xt) ?_); rotate_left; (focus (intro w hSw; (try dsimp only at hSw); (try simp only [rl]); go_simp; (try with_reducible rfl))); (try simp only [rl])
          (refine wpAnyT_take (i := 6) (v := ?_) [9, 10] (Array.getElem?_eq_getElem (by decide)) (by kernel_rfl) (by kernel_rfl) (by kernel_rfl) (by kernel_rfl) rfl rfl (by kernel_rfl) (fun _ _ _ h => h) (Or.inl ⟨by kernel_rfl, ?_⟩) (Sof _ Xt) ?_); rotate_left; (focus (intro w hSw; (try dsimp only at hSw); (try simp only [rl]); go_simp; (try with_reducible rfl))); (try simp only [rl])
          (refine wpAnyT_take (i := 7) (v := ?_) [10] (Array.getElem?_eq_getElem (by decide)) (by kernel_rfl) (by kernel_rfl) (by kernel_rfl) (by kernel_rfl) rfl rfl (by kernel_rfl) (fun _ _ _ h => h) (Or.inl ⟨by kernel_rfl, ?_⟩) (Sof _ Xt) ?_); rotate_left; (focus (intro w hSw; (try dsimp only at hSw); (try simp only [rl]); go_simp; (try with_reducible rfl))); (try simp only [rl])
          (refine wpAnyT_one (i := 8) (by kernel_rfl) (Array.getElem?_eq_getElem (by decide)) fun K hK => ?_); (try simp only [rl])
          go_simp
          refine hK.out _ _ (fun _ => Sof _ Xt) ?_; clear hK K; (try simp only [rl])
          (refine wpAnyT_one (i := 9) (by kernel_rfl) (Array.getElem?_eq_getElem (by decide)) fun K hK => ?_); (try simp only [rl])
          go_simp
          refine hK.out _ _ (fun _ => Sof _ Xt) ?_; clear hK K; (try simp only [rl])
          (refine wpAnyT_one (i := 10) (by kernel_rfl) (Array.getElem?_eq_getElem (by decide)) fun K hK => ?_); (try simp only [rl])
          go_simp
          (refine hK.out _ _ (fun h => Bool.noConfusion (show true = false from h)) ?_); clear hK K; (try simp only [rl])
          refine wpAnyT_done (by kernel_rfl) ?_ _
          have HP : ∀ wy, wy = (w1.alloc (.cells #[.int .i64 z.k, .int .i64 z.n, .string z.s, .slice k3 z.keys.length c3, .slice l3 z.l.length d3] 25)) → Box wy w1.heap.size #[.int .i64 z.k, .int .i64 z.n, .string z.s, .slice k3 z.keys.length c3, .slice l3 z.l.length d3] 25 ∧ z.In wy (Plus (fun b => S b ∧ b < w.heap.size) wa) k3 c3 l3 d3 ∧ wa.heap.size ≤ w1.heap.size ∧ Ext wa wy := by
            rintro wy rfl
            refine ⟨Bxt, V.In.ext (w := w1) hinz Xt, hxz.size, Xt⟩
          obtain ⟨wy, hwy⟩ : ∃ wy, wy = (w1.alloc (.cells #[.int .i64 z.k, .int .i64 z.n, .string z.s, .slice k3 z.keys.length c3, .slice l3 z.l.length d3] 25)) := ⟨_, rfl⟩
          have HP := HP wy hwy
          rw [← hwy]
          clear hwy
          generalize w1.heap.size = bt at HP ⊢
          exact cont bt k3 c3 l3 d3 wy HP
        · (try simp only [rl])
          go_simp
          refine hK.out _ _ (fun _ => Sof _ Xt) ?_; clear hK K; (try simp only [rl])
          (refine wpAnyT_one (i := 4) (by kernel_rfl) (Array.getElem?_eq_getElem (by decide)) fun K hK => ?_); (try simp only [rl])
          (try go_simp)
          (refine (member_any V.none5 a none 0 none 0 _ _ hus (Hin0.out.ext Xt)).mono ?_)
          rw [Hz0.out, Hmb.out]
          rintro e w1 ⟨k3, c3, l3, d3, rfl, hinz, h1⟩
          (try go_simp)
          have hBt : Box w1 wa.heap.size #[.int .i64 0, .int .i64 0, .string ⟨#[]⟩, .slice none 0 0, .slice none 0 0] 25 := Box.ext (w := (wa).alloc (.cells #[.int .i64 0, .int .i64 0, .string ⟨#[]⟩, .slice none 0 0, .slice none 0 0] 25)) Xt Bxt
          have hxz : Ext wa w1 := Xt
          refine hK.out _ _ (fun _ => Sof _ Xt) ?_; clear hK K; (try simp only [rl])
          have hct := hBt.cells; have hft := hBt.free; have hlt := hBt.lt
          (refine wpAnyT_take (i := 5) (v := ?_) [6, 9, 10] (Array.getElem?_eq_getElem (by decide)) (by kernel_rfl) (by kernel_rfl) (by kernel_rfl) (by kernel_rfl) rfl rfl (by kernel_rfl) (fun _ _ _ h => h) (Or.inl ⟨by kernel_rfl, ?_⟩) (Sof _ Xt) ?_); rotate_left; (focus (intro w hSw; (try dsimp only at hSw); (try simp only [rl]); go_simp; (try with_reducible rfl))); (try simp only [rl])
          (refine wpAnyT_take (i := 6) (v := ?_) [9, 10] (Array.getElem?_eq_getElem (by decide)) (by kernel_rfl) (by kernel_rfl) (by kernel_rfl) (by kernel_rfl) rfl rfl (by kernel_rfl) (fun _ _ _ h => h) (Or.inl ⟨by kernel_rfl, ?_⟩) (Sof _ Xt) ?_); rotate_left; (focus (intro w hSw; (try dsimp only at hSw); (try simp only [rl]); go_simp; (try with_reducible rfl))); (try simp only [rl])
          (refine wpAnyT_take (i := 7) (v := ?_) [10] (Array.getElem?_eq_getElem (by decide)) (by kernel_rfl) (by kernel_rfl) (by kernel_rfl) (by kernel_rfl) rfl rfl (by kernel_rfl) (fun _ _ _ h => h) (Or.inl ⟨by kernel_rfl, ?_⟩) (Sof _ Xt) ?_); rotate_left; (focus (intro w hSw; (try dsimp only at hSw); (try simp only [rl]); go_simp; (try with_reducible rfl))); (try simp only [rl])
          (refine wpAnyT_one (i := 9) (by kernel_rfl) (Array.getElem?_eq_getElem (by decide)) fun K hK => ?_); (try simp only [rl])
          go_simp
          refine hK.out _ _ (fun _ => Sof _ Xt) ?_; clear hK K; (try simp only [rl])
          (refine wpAnyT_one (i := 10) (by kernel_rfl) (Array.getElem?_eq_getElem (by decide)) fun K hK => ?_); (try simp only [rl])
          go_simp
          (refine hK.out _ _ (fun h => Bool.noConfusion (show true = false from h)) ?_); clear hK K; (try simp only [rl])
          refine wpAnyT_done (by kernel_rfl) ?_ _
          have HP : ∀ wy, wy = ((((((w1).setCell ⟨wa.heap.size, 0, none⟩ (.int .i64 z.k)).setCell ⟨wa.heap.size, 1, none⟩ (.int .i64 z.n)).setCell ⟨wa.heap.size, 2, none⟩ (.string z.s)).setCell ⟨wa.heap.size, 3, none⟩ (.slice k3 z.keys.length c3)).setCell ⟨wa.heap.size, 4, none⟩ (.slice l3 z.l.length d3)) → Box wy wa.heap.size #[.int .i64 z.k, .int .i64 z.n, .string z.s, .slice k3 z.keys.length c3, .slice l3 z.l.length d3] 25 ∧ z.In wy (Plus (fun b => S b ∧ b < w.heap.size) wa) k3 c3 l3 d3 ∧ wa.heap.size ≤ wa.heap.size ∧ Ext wa wy := by
            rintro wy rfl
            refine ⟨Bxt, V.In.keep (S := fun b => b ≠ wa.heap.size ∧ Plus (fun b => S b ∧ b < w.heap.size) wa b) (hinz.mono (fun b h _ => by rcases h with h | h; exact ⟨by omega, .inl h⟩; simp at h; exact ⟨by omega, .inr (by omega)⟩)) (Held.kept (a := w1) (T := fun b => b ≠ wa.heap.size ∧ Plus (fun b => S b ∧ b < w.heap.size) wa b) Hxt) (fun b h _ => h.2), Nat.le_refl _, Xt⟩
          exact cont _ _ _ _ _ _ (HP _ rfl)
      case rest2 =>
        rintro bt k3 c3 l3 d3 wy ⟨hBz, hinz, hbt, hxy⟩
        have Hz := Lib.hid hinz
        clear hinz
        have hxw : Ext w wy := hxa.trans hxy
        have hB0 := Box.ext hxy hB0
        have hB1 := Box.ext hxy hB1
        have hB2 := Box.ext hxy hB2
        have hka := hxy.cell hka
        have Hin0 := Lib.hid (V.In.ext Hin0.out hxy)
        have Hjn0 := Lib.hid (V.In.ext Hjn0.out hxy)
        have hxas := hxa.size
        clear hxa
        by_cases hr : r = []
        · have hn1 : n = 1 := by have := Hn.out; rw [hr] at this; simpa using this.symm
          have hn1i : ¬ (1 : Int) < (n : Int) := by omega
          rw [if_neg (by simp [hr])] at Hset
          clear hr hn1
          have Hres := Lib.hid (show setV (a :: r) v x = V.none5.put a x by rw [Hset.out, member_none5])
          subst hmf
          go_upto_region 8 with fail
          have Sof : ∀ w', Ext wy w' → (w'.cell? ⟨w.heap.size, 0, none⟩ = some (.int .i64 5) ∧ w'.cell? ⟨w.heap.size, 1, none⟩ = some (.int .i64 0) ∧ w'.cell? ⟨w.heap.size, 2, none⟩ = some (.string ⟨#[]⟩) ∧ w'.cell? ⟨w.heap.size, 3, none⟩ = some (.slice none 0 0) ∧ w'.cell? ⟨w.heap.size, 4, none⟩ = some (.slice none 0 0) ∧ w'.cell? ⟨b, o, none⟩ = some (.string a) ∧ w'.cell? ⟨w.heap.size + 1, 0, none⟩ = some (.int .i64 x.k) ∧ w'.cell? ⟨w.heap.size + 1, 1, none⟩ = some (.int .i64 x.n) ∧ w'.cell? ⟨w.heap.size + 1, 2, none⟩ = some (.string x.s) ∧ w'.cell? ⟨w.heap.size + 1, 3, none⟩ = some (.slice kb x.keys.length kd) ∧ w'.cell? ⟨w.heap.size + 1, 4, none⟩ = some (.slice lb x.l.length ld)) := fun w' e => ⟨e.cell (hB0.cells 0), e.cell (hB0.cells 1), e.cell (hB0.cells 2), e.cell (hB0.cells 3), e.cell (hB0.cells 4), e.cell (hka), e.cell (hB1.cells 0), e.cell (hB1.cells 1), e.cell (hB1.cells 2), e.cell (hB1.cells 3), e.cell (hB1.cells 4)⟩
          refine wp_region_till (S := fun w' => w'.cell? ⟨w.heap.size, 0, none⟩ = some (.int .i64 5) ∧ w'.cell? ⟨w.heap.size, 1, none⟩ = some (.int .i64 0) ∧ w'.cell? ⟨w.heap.size, 2, none⟩ = some (.string ⟨#[]⟩) ∧ w'.cell? ⟨w.heap.size, 3, none⟩ = some (.slice none 0 0) ∧ w'.cell? ⟨w.heap.size, 4, none⟩ = some (.slice none 0 0) ∧ w'.cell? ⟨b, o, none⟩ = some (.string a) ∧ w'.cell? ⟨w.heap.size + 1, 0, none⟩ = some (.int .i64 x.k) ∧ w'.cell? ⟨w.heap.size + 1, 1, none⟩ = some (.int .i64 x.n) ∧ w'.cell? ⟨w.heap.size + 1, 2, none⟩ = some (.string x.s) ∧ w'.cell? ⟨w.heap.size + 1, 3, none⟩ = some (.slice kb x.keys.length kd) ∧ w'.cell? ⟨w.heap.size + 1, 4, none⟩ = some (.slice lb x.l.length ld)) (c := 6) (by kernel_rfl) ?_
          (refine wpAnyT_take (i := 0) (v := ?_) [5, 6] (Array.getElem?_eq_getElem (by decide)) (by kernel_rfl) (by kernel_rfl) (by kernel_rfl) (by kernel_rfl) rfl rfl (by kernel_rfl) (fun _ _ _ h => h) (Or.inl ⟨by kernel_rfl, ?_⟩) (Sof _ Xt) ?_); rotate_left; (focus (intro w hSw; (try dsimp only at hSw); (try simp only [rl]); go_simp; (try with_reducible rfl))); (try simp only [rl])
          (refine wpAnyT_take (i := 1) (v := ?_) [2, 3, 5, 6] (Array.getElem?_eq_getElem (by decide)) (by kernel_rfl) (by kernel_rfl) (by kernel_rfl) (by kernel_rfl) rfl rfl (by kernel_rfl) (fun _ _ _ h => h) (Or.inl ⟨by kernel_rfl, ?_⟩) (Sof _ Xt) ?_); rotate_left; (focus (intro w hSw; (try dsimp only at hSw); (try simp only [rl]); go_simp; (try with_reducible rfl))); (try simp only [rl])
          (refine wpAnyT_take (i := 2) (v := ?_) [3, 5, 6] (Array.getElem?_eq_getElem (by decide)) (by kernel_rfl) (by kernel_rfl) (by kernel_rfl) (by kernel_rfl) rfl rfl (by kernel_rfl) (fun _ _ _ h => h) (Or.inl ⟨by kernel_rfl, ?_⟩) (Sof _ Xt) ?_); rotate_left; (focus (intro w hSw; (try dsimp only at hSw); (try simp only [rl]); go_simp; (try with_reducible rfl))); (try simp only [rl])
          (refine wpAnyT_take (i := 3) (v := ?_) [5, 6] (Array.getElem?_eq_getElem (by decide)) (by kernel_rfl) (by kernel_rfl) (by kernel_rfl) (by kernel_rfl) rfl rfl (by kernel_rfl) (fun _ _ _ h => h) (Or.inl ⟨by kernel_rfl, ?_⟩) (Sof _ Xt) ?_); rotate_left; (focus (intro w hSw; (try dsimp only at hSw); (try simp only [rl]); go_simp; (try with_reducible rfl))); (try simp only [rl])
          (refine wpAnyT_take (i := 4) (v := ?_) [5, 6] (Array.getElem?_eq_getElem (by decide)) (by kernel_rfl) (by kernel_rfl) (by kernel_rfl) (by kernel_rfl) rfl rfl (by kernel_rfl) (fun _ _ _ h => h) (Or.inl ⟨by kernel_rfl, ?_⟩) (Sof _ Xt) ?_); rotate_left; (focus (intro w hSw; (try dsimp only at hSw); (try simp only [rl]); go_simp; (try with_reducible rfl))); (try simp only [rl])
          (refine wpAnyT_one (i := 5) (by kernel_rfl) (Array.getElem?_eq_getElem (by decide)) fun K hK => ?_); (try simp only [rl])
          (try go_simp)
          (refine (with_any V.none5 none 0 none 0 a x kb kd lb ld (fun b => S b ∧ b < w.heap.size) _ hus Hob.out.rise (Hin0.out.ext Xt) (Hjn0.out.ext Xt)).mono ?_)
          rintro e w5 ⟨k5, c5, l5, d5, rfl, hin5, h5⟩
          (try go_simp)
          have hx5 : Ext wy w5 := Xt
          have hB25 := Box.ext hx5 hB2
          have hxw5 : Ext w w5 := hxw.trans hx5
          have hzy := hxy.size
          have hz5 := hx5.size
          refine hK.out _ _ (fun _ => Sof _ Xt) ?_; clear hK K; (try simp only [rl])
          have hc2 := hB25.cells; have hf2 := hB25.free; have hl2 := hB25.lt
          (refine wpAnyT_one (i := 6) (by kernel_rfl) (Array.getElem?_eq_getElem (by decide)) fun K hK => ?_); (try simp only [rl])
          go_simp
          (refine hK.out _ _ (fun h => Bool.noConfusion (show true = false from h)) ?_); clear hK K; (try simp only [rl])
          refine wpAnyT_done (by kernel_rfl) ?_ _
          go_wp2_with fail
          (with_reducible apply bp_ret); (focus (go_light; simp [results, Tryz.results59, go_sem, *]; rfl))
          rw [Hres.out]
          exact ⟨k5, c5, l5, d5, rfl, V.In.keep (S := fun b => b ≠ w.heap.size + 2 ∧ ((S b ∧ b < w.heap.size) ∨ w.heap.size + 3 ≤ b)) (hin5.mono (fun b h _ => by rcases h with h | h; exact ⟨by omega, .inl h⟩; (try simp at h); exact ⟨by omega, .inr (by omega)⟩)) (Held.kept (a := w5) (T := fun b => b ≠ w.heap.size + 2 ∧ ((S b ∧ b < w.heap.size) ∨ w.heap.size + 3 ≤ b)) Hxt) (fun b h _ => by rcases h.2 with h | h; exact .inl h.1; exact .inr (by omega)), Xt⟩
        · have hn2 : (1 : Int) < (n : Int) := by have := Hn.out; have := List.length_pos_iff.2 hr; omega
          have hn3 : (1 : Int) ≤ (n : Int) := by omega
          have hcne : ¬ c = 1 := by omega
          have hn4 : (n : Int) ≤ (c : Int) := by omega
          have hrn : r.length = n - 1 := by have := Hn.out; omega
          have Hres := Lib.hid (show setV (a :: r) v x = V.none5.put a (setV r z x) by rw [Hset.out, if_pos hr])
          have Hr := Lib.hid hr
          have Hrn := Lib.hid hrn
          clear hr hrn
          go_upto_region 5 with fail
          have Sof : ∀ w', Ext wy w' → (w'.cell? ⟨w.heap.size, 0, none⟩ = some (.int .i64 5) ∧ w'.cell? ⟨w.heap.size, 1, none⟩ = some (.int .i64 0) ∧ w'.cell? ⟨w.heap.size, 2, none⟩ = some (.string ⟨#[]⟩) ∧ w'.cell? ⟨w.heap.size, 3, none⟩ = some (.slice none 0 0) ∧ w'.cell? ⟨w.heap.size, 4, none⟩ = some (.slice none 0 0) ∧ w'.cell? ⟨b, o, none⟩ = some (.string a) ∧ w'.cell? ⟨w.heap.size + 1, 0, none⟩ = some (.int .i64 x.k) ∧ w'.cell? ⟨w.heap.size + 1, 1, none⟩ = some (.int .i64 x.n) ∧ w'.cell? ⟨w.heap.size + 1, 2, none⟩ = some (.string x.s) ∧ w'.cell? ⟨w.heap.size + 1, 3, none⟩ = some (.slice kb x.keys.length kd) ∧ w'.cell? ⟨w.heap.size + 1, 4, none⟩ = some (.slice lb x.l.length ld) ∧ w'.cell? ⟨bt, 0, none⟩ = some (.int .i64 z.k) ∧ w'.cell? ⟨bt, 1, none⟩ = some (.int .i64 z.n) ∧ w'.cell? ⟨bt, 2, none⟩ = some (.string z.s) ∧ w'.cell? ⟨bt, 3, none⟩ = some (.slice k3 z.keys.length c3) ∧ w'.cell? ⟨bt, 4, none⟩ = some (.slice l3 z.l.length d3)) := fun w' e => ⟨e.cell (hB0.cells 0), e.cell (hB0.cells 1), e.cell (hB0.cells 2), e.cell (hB0.cells 3), e.cell (hB0.cells 4), e.cell (hka), e.cell (hB1.cells 0), e.cell (hB1.cells 1), e.cell (hB1.cells 2), e.cell (hB1.cells 3), e.cell (hB1.cells 4), e.cell (hBz.cells 0), e.cell (hBz.cells 1), e.cell (hBz.cells 2), e.cell (hBz.cells 3), e.cell (hBz.cells 4)⟩
          refine wp_region_till (S := fun w' => w'.cell? ⟨w.heap.size, 0, none⟩ = some (.int .i64 5) ∧ w'.cell? ⟨w.heap.size, 1, none⟩ = some (.int .i64 0) ∧ w'.cell? ⟨w.heap.size, 2, none⟩ = some (.string ⟨#[]⟩) ∧ w'.cell? ⟨w.heap.size, 3, none⟩ = some (.slice none 0 0) ∧ w'.cell? ⟨w.heap.size, 4, none⟩ = some (.slice none 0 0) ∧ w'.cell? ⟨b, o, none⟩ = some (.string a) ∧ w'.cell? ⟨w.heap.size + 1, 0, none⟩ = some (.int .i64 x.k) ∧ w'.cell? ⟨w.heap.size + 1, 1, none⟩ = some (.int .i64 x.n) ∧ w'.cell? ⟨w.heap.size + 1, 2, none⟩ = some (.string x.s) ∧ w'.cell? ⟨w.heap.size + 1, 3, none⟩ = some (.slice kb x.keys.length kd) ∧ w'.cell? ⟨w.heap.size + 1, 4, none⟩ = some (.slice lb x.l.length ld) ∧ w'.cell? ⟨bt, 0, none⟩ = some (.int .i64 z.k) ∧ w'.cell? ⟨bt, 1, none⟩ = some (.int .i64 z.n) ∧ w'.cell? ⟨bt, 2, none⟩ = some (.string z.s) ∧ w'.cell? ⟨bt, 3, none⟩ = some (.slice k3 z.keys.length c3) ∧ w'.cell? ⟨bt, 4, none⟩ = some (.slice l3 z.l.length d3)) (c := 10) (by kernel_rfl) ?_
          (refine wpAnyT_take (i := 0) (v := ?_) [9, 10] (Array.getElem?_eq_getElem (by decide)) (by kernel_rfl) (by kernel_rfl) (by kernel_rfl) (by kernel_rfl) rfl rfl (by kernel_rfl) (fun _ _ _ h => h) (Or.inl ⟨by kernel_rfl, ?_⟩) (Sof _ Xt) ?_); rotate_left; (focus (intro w hSw; (try dsimp only at hSw); (try simp only [rl]); go_simp; (try with_reducible rfl))); (try simp only [rl])
          (refine wpAnyT_take (i := 1) (v := ?_) [2, 3, 9, 10] (Array.getElem?_eq_getElem (by decide)) (by kernel_rfl) (by kernel_rfl) (by kernel_rfl) (by kernel_rfl) rfl rfl (by kernel_rfl) (fun _ _ _ h => h) (Or.inl ⟨by kernel_rfl, ?_⟩) (Sof _ Xt) ?_); rotate_left; (focus (intro w hSw; (try dsimp only at hSw); (try simp only [rl]); go_simp; (try with_reducible rfl))); (try simp only [rl])
          (refine wpAnyT_take (i := 2) (v := ?_) [3, 9, 10] (Array.getElem?_eq_getElem (by decide)) (by kernel_rfl) (by kernel_rfl) (by kernel_rfl) (by kernel_rfl) rfl rfl (by kernel_rfl) (fun _ _ _ h => h) (Or.inl ⟨by kernel_rfl, ?_⟩) (Sof _ Xt) ?_); rotate_left; (focus (intro w hSw; (try dsimp only at hSw); (try simp only [rl]); go_simp; (try with_reducible rfl))); (try simp only [rl])
          (refine wpAnyT_take (i := 3) (v := ?_) [9, 10] (Array.getElem?_eq_getElem (by decide)) (by kernel_rfl) (by kernel_rfl) (by kernel_rfl) (by kernel_rfl) rfl rfl (by kernel_rfl) (fun _ _ _ h => h) (Or.inl ⟨by kernel_rfl, ?_⟩) (Sof _ Xt) ?_); rotate_left; (focus (intro w hSw; (try dsimp only at hSw); (try simp only [rl]); go_simp; (try with_reducible rfl))); (try simp only [rl])
          (refine wpAnyT_take (i := 4) (v := ?_) [8, 10] (Array.getElem?_eq_getElem (by decide)) (by kernel_rfl) (by kernel_rfl) (by kernel_rfl) (by kernel_rfl) rfl rfl (by kernel_rfl) (fun _ _ _ h => h) (Or.inl ⟨by kernel_rfl, ?_⟩) (Sof _ Xt) ?_); rotate_left; (focus (intro w hSw; (try dsimp only at hSw); (try simp only [rl]); go_simp; (try with_reducible rfl))); (try simp only [rl])
          (refine wpAnyT_take (i := 5) (v := ?_) [6, 8, 10] (Array.getElem?_eq_getElem (by decide)) (by kernel_rfl) (by kernel_rfl) (by kernel_rfl) (by kernel_rfl) rfl rfl (by kernel_rfl) (fun _ _ _ h => h) (Or.inl ⟨by kernel_rfl, ?_⟩) (Sof _ Xt) ?_); rotate_left; (focus (intro w hSw; (try dsimp only at hSw); (try simp only [rl]); go_simp; (try with_reducible rfl))); (try simp only [rl])
          (refine wpAnyT_take (i := 6) (v := ?_) [8, 10] (Array.getElem?_eq_getElem (by decide)) (by kernel_rfl) (by kernel_rfl) (by kernel_rfl) (by kernel_rfl) rfl rfl (by kernel_rfl) (fun _ _ _ h => h) (Or.inl ⟨by kernel_rfl, ?_⟩) (Sof _ Xt) ?_); rotate_left; (focus (intro w hSw; (try dsimp only at hSw); (try simp only [rl]); go_simp; (try with_reducible rfl))); (try simp only [rl])
          (refine wpAnyT_take (i := 7) (v := ?_) [8, 10] (Array.getElem?_eq_getElem (by decide)) (by kernel_rfl) (by kernel_rfl) (by kernel_rfl) (by kernel_rfl) rfl rfl (by kernel_rfl) (fun _ _ _ h => h) (Or.inl ⟨by kernel_rfl, ?_⟩) (Sof _ Xt) ?_); rotate_left; (focus (intro w hSw; (try dsimp only at hSw); (try simp only [rl]); go_simp; (try with_reducible rfl))); (try simp only [rl])
          (refine wpAnyT_one (i := 8) (by kernel_rfl) (Array.getElem?_eq_getElem (by decide)) fun K hK => ?_); (try simp only [rl])
          (try go_simp)
          have hC8 := fun i h => Ext.cell (a := w) hxw (HC.out i h)
          (refine (ih z x k3 c3 l3 d3 kb kd lb ld b (o + 1) (n - 1) (c - 1) (Plus (fun b => S b ∧ b < w.heap.size) wa) _ Hr.out Hrn.out Hgs.out hzz hxz (by omega) (by omega) (by omega) (fun i h => Ext.cell (a := wy) Xt (hC8 i h)) (Hz.out.ext Xt) ((Hjn0.out.mono (fun b h _ => .inl h)).ext Xt)).mono ?_)
          rintro e w4 ⟨k4, c4, l4, d4, rfl, hin4, h4⟩
          (try go_simp)
          have hx4 : Ext wy w4 := Xt
          have hz4 := hx4.size
          have hzy := hxy.size
          have Hin4 := Lib.hid hin4
          clear hC8 hin4
          refine hK.out _ _ (fun _ => Sof _ Xt) ?_; clear hK K; (try simp only [rl])
          (refine wpAnyT_one (i := 9) (by kernel_rfl) (Array.getElem?_eq_getElem (by decide)) fun K hK => ?_); (try simp only [rl])
          (try go_simp)
          (refine (with_any V.none5 none 0 none 0 a (setV r z x) k4 c4 l4 d4 _ _ hus Hob.out.rise ((Hin0.out.mono (fun b h _ => .inl (.inl h))).ext Xt) (Hin4.out.ext Xt)).mono ?_)
          rintro e w5 ⟨k5, c5, l5, d5, rfl, hin5, h5⟩
          (try go_simp)
          have hx5 : Ext wy w5 := Xt
          have hB25 := Box.ext hx5 hB2
          have hxw5 : Ext w w5 := hxw.trans hx5
          have hz5 := hx5.size
          refine hK.out _ _ (fun _ => Sof _ Xt) ?_; clear hK K; (try simp only [rl])
          have hc2 := hB25.cells; have hf2 := hB25.free; have hl2 := hB25.lt
          (refine wpAnyT_one (i := 10) (by kernel_rfl) (Array.getElem?_eq_getElem (by decide)) fun K hK => ?_); (try simp only [rl])
          go_simp
          (refine hK.out _ _ (fun h => Bool.noConfusion (show true = false from h)) ?_); clear hK K; (try simp only [rl])
          refine wpAnyT_done (by kernel_rfl) ?_ _
          go_wp2_with fail
          (with_reducible apply bp_ret); (focus (go_light; simp [results, Tryz.results59, go_sem, *]; rfl))
          rw [Hres.out]
          exact ⟨k5, c5, l5, d5, rfl, V.In.keep (S := fun b => b ≠ w.heap.size + 2 ∧ ((S b ∧ b < w.heap.size) ∨ w.heap.size + 3 ≤ b)) (hin5.mono (fun b h _ => by rcases h with ((h | h) | h) | h; exact ⟨by omega, .inl h⟩; (try simp at h); exact ⟨by omega, .inr (by omega)⟩; (try simp at h); exact ⟨by omega, .inr (by omega)⟩; (try simp at h); exact ⟨by omega, .inr (by omega)⟩)) (Held.kept (a := w5) (T := fun b => b ≠ w.heap.size + 2 ∧ ((S b ∧ b < w.heap.size) ∨ w.heap.size + 3 ≤ b)) Hxt) (fun b h _ => by rcases h.2 with h | h; exact .inl h.1; exact .inr (by omega)), Xt⟩
end Go.Proofs.YtjibdbnpkfghhaaGreatDoor
