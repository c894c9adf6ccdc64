/- The walks of the reference's differ and DiffOf. -/
import Derived.Test.YtnbappeiebameaaGreatDoorMergeR
import Derived.Test.YtnbappeiebameaaGreatDoorSameR
set_option linter.all false
namespace Go.Proofs.YtnbappeiebameaaGreatDoor
open Go.RowKit
attribute [local go_sem ↓] Go.wp_at_zero Go.wp_at_succ

/-- append of whatever slice to a row of the call's own. -/
theorem wp_append_any {P : Program} {w : World} {o : Oper} {a : Act} {K : Act → World → Prop} {Q : Exit → Act → World → Prop} (s x : Operand) (t : TypeId)
    (ho : o.op = .call { callee := .builtin .append, args := #[s, x], argTypes := #[t, t] })
    (base : Nat) (e : TypeId) (i : TypeInfo) (z : Value) (size bytes : Nat) (ht : P.underlying t = some (.slice e)) (hi : P.info? e = some i) (hz : i.zero = some z)
    (hsize : i.size = size) (hby : i.bytes = bytes) (hzs : z.cells.size = size) (hsz : 0 < size)
    (v : Value) (n : Nat) (xs : List Value) (hs : a.eval s = v) (hown : w.ownsRow base e size v n xs) (ad : Option Addr) (m c : Nat) (news : List Value) (hx : a.eval x = .slice ad m c) (hok : SlOk ad m c) (hl : news.length = m * size)
    (hsrc : m = 0 ∨ ∃ b, ad = some b ∧ ∀ j u, news[j]? = some u → w.cell? (b.add j) = some u) (h1 : ∀ u ∈ news, u.oneCell' = true) (h63 : n + m ≤ maxLen) (hbytes : (n + m) * bytes ≤ 140737488355328) (hbase : base ≤ w.heap.size)
    (h : ∀ a' c' w', w'.ownsRow base e size (.slice a' (n + m) c') (n + m) (xs ++ news) → SlOk a' (n + m) c' → w.grownBy w' v.ownBlock → K (a.put o.dst (.slice a' (n + m) c')) w') : o.wp P a w K Q := by
  have key : ∃ v' w', (Builtin.append_ #[t, t] o.type #[v, .slice ad m c]).run P w = .ok v' w' ∧ w'.ownsRow base e size v' (n + m) (xs ++ news) ∧ w.grownBy w' v.ownBlock := by
    cases ad with
    | none =>
      have hc := hok.2.2 rfl
      have hm : m = 0 := by have := hok.1; omega
      subst hc hm
      have hx : news = [] := List.eq_nil_of_length_eq_zero (by simpa using hl)
      subst hx
      exact ⟨_, w, run_append_owned_none (P := P) (w := w) base t o.type e i size ht hi v n xs hown, by simpa using hown, ⟨rfl, rfl, rfl, Nat.le_refl _, fun _ _ _ => rfl⟩⟩
    | some b =>
      obtain ⟨v', w', hr, h2, h3, -⟩ := run_append_own (P := P) (w := w) base t o.type e i z size bytes ht hi hz hsize hby hzs hsz v n xs hown b m c news hl (by
        rcases hsrc with h0 | ⟨ad', he, h⟩
        · subst h0
          have hx : news = [] := List.eq_nil_of_length_eq_zero (by simpa using hl)
          subst hx
          intro j u hj; simp at hj
        · simp only [Option.some.injEq] at he; subst he; exact h) h1 h63 hbytes hbase
      exact ⟨v', w', hr, h2, h3⟩
  obtain ⟨v', w', hr, h2, h3⟩ := key
  unfold Oper.wp execOp
  simp only [ho, resolve, invoke, builtin, Sem.run_bind, Sem.run_pure, Result.andThen_ok, List.map_toArray, List.map_cons, List.map_nil, hs, hx, hr]
  obtain ⟨a', c', rfl, hok'⟩ := owns_form h2
  exact h a' c' w' h2 hok' h3
set_option maxRecDepth 100000 in
set_option maxHeartbeats 16000000 in
theorem differ_any (m : Nat) : ∀ (a b : V) (ka : Option Addr) (kc : Nat) (la : Option Addr) (lc : Nat) (kb : Option Addr) (kd : Nat) (lb : Option Addr) (ld : Nat) (S : Nat → Prop) (w : World), b.size ≤ m → a.sound → b.sound → a.count ≤ 120 → b.count ≤ 120 → a.In w S ka kc la lc → b.In w S kb kd lb ld →
    Calls Tryz.prog 104 #[a.val ka kc la lc, b.val kb kd lb ld] w (RetV S (b.dif a) w) := by
  induction m with
  | zero => intro _ b _ _ _ _ _ _ _ _ _ _ h; have := b.size_pos; omega
  | succ m ih =>
    intro a b ka kc la lc kb kd lb ld S w hm ha hb hac hbc hin hjn
    have Ih := Lib.hid ih
    obtain ⟨SS, hSS⟩ : ∃ SS : Nat → Prop, SS = fun q => (S q ∧ q < w.heap.size) ∨ w.heap.size + 4 ≤ q := ⟨_, rfl⟩
    have Hin := Lib.hid (show a.In w SS ka kc la lc from hin.mono fun q h hl => by rw [hSS]; exact .inl ⟨h, hl⟩)
    have Hjn := Lib.hid (show b.In w SS kb kd lb ld from hjn.mono fun q h hl => by rw [hSS]; exact .inl ⟨h, hl⟩)
    have HSn := Lib.hid (show ∀ q, w.heap.size + 4 ≤ q → SS q from fun q h => by rw [hSS]; exact .inr h)
    have HSo := Lib.hid (show ∀ q, SS q → q ≠ w.heap.size + 3 from fun q h => by rw [hSS] at h; rcases h with h | h <;> omega)
    have HSr := Lib.hid (show ∀ q, SS q → q ≠ w.heap.size + 2 from fun q h => by rw [hSS] at h; rcases h with h | h <;> omega)
    have HSp := Lib.hid (show ∀ q, SS q → Plus S w q from fun q h => by rw [hSS] at h; exact h.elim (fun h => .inl h.1) (fun h => .inr (by omega)))
    clear hSS
    have hak := a.len_keys
    have hbk := b.len_keys
    have hasz : a.size ≤ 14640 := by have := sound_size ha; omega
    have hbsz : b.size ≤ 14640 := by have := sound_size hb; omega
    have Ha := Lib.hid ha
    have Hb := Lib.hid hb
    clear ih hin hjn
    by_cases a5 : a.k = 5
    · have a5b : (a.k != 5) = false := by simpa using a5
      have a5c : (a.k == 5) = true := by simpa using a5
      by_cases b5 : b.k = 5
      · have b5b : (b.k != 5) = false := by simpa using b5
        have b5c : (b.k == 5) = true := by simpa using b5
        have Hend := Lib.hid (dif_ref ha hb a5 b5)
        obtain ⟨ks, hks⟩ : ∃ ks, a.keys ++ b.keys = ks := ⟨_, rfl⟩
        have Hks := Lib.hid hks
        have Hkl := Lib.hid (show ks.length = a.keys.length + b.keys.length by rw [← hks, List.length_append])
        have Hkp := Lib.hid (show ∀ k (h : k < ks.length), plainB ks[k] = true from fun k h => by
          have h2 : ks[k] ∈ a.keys ++ b.keys := by rw [hks]; exact List.getElem_mem h
          rcases List.mem_append.1 h2 with h3 | h3
          · exact ha.flat.kp _ h3
          · exact hb.flat.kp _ h3)
        have hkn : ks.length ≤ 240 := by
          have h1 := ha.flat.len a5
          have h2 := hb.flat.len b5
          have h3 := V.count_eq a
          have h4 := V.count_eq b
          have h5 := sum_len V.count V.count_pos a.l
          have h6 := sum_len V.count V.count_pos b.l
          have := Hkl.out
          omega
        obtain ⟨i0, hi, hz0, hz1, hz2⟩ := info_parts Tryz.infoS
        obtain ⟨hko, -, hkst, -⟩ := (V.in_iff ..).1 Hin.out
        obtain ⟨hjo, -, hjst, -⟩ := (V.in_iff ..).1 Hjn.out
        have Hko := Lib.hid hko
        have Hjo := Lib.hid hjo
        have Hkst := Lib.hid hkst
        have Hjst := Lib.hid hjst
        clear ha hb a5 b5 hks hko hjo hkst hjst
        go_enter Tryz.func104, Tryz.ntmps104
        go_upto_region 4 with fail
        refine gen_world (R := fun wx => Box wx w.heap.size #[.int .i64 a.k, .int .i64 a.n, .string a.s, .slice ka a.keys.length kc, .slice la a.l.length lc] 25 ∧ Box wx (w.heap.size + 1) #[.int .i64 b.k, .int .i64 b.n, .string b.s, .slice kb b.keys.length kd, .slice lb b.l.length ld] 25 ∧ Box wx (w.heap.size + 2) #[.int .i64 0, .int .i64 0, .string ⟨#[]⟩, .slice none 0 0, .slice none 0 0] 25 ∧ Box wx (w.heap.size + 3) #[.int .i64 5, .int .i64 0, .string ⟨#[]⟩, .slice none 0 0, .slice none 0 0] 25 ∧ Ext w wx) ⟨Bxt, Bxt, Bxt, Bxt, Xt⟩ ?_
        rintro wa ⟨hB0, hB1, hB2, hB3, hxa⟩
        have hz3 := hB3.lt
        have Sof : ∀ w', Ext wa w' → (w'.cell? ⟨w.heap.size, 3, none⟩ = some (.slice ka a.keys.length kc) ∧ w'.cell? ⟨w.heap.size + 1, 3, none⟩ = some (.slice kb b.keys.length kd)) := fun w' e => ⟨e.cell (hB0.cells 3), e.cell (hB1.cells 3)⟩
        refine wp_region_held_drew (S := fun w' => w'.cell? ⟨w.heap.size, 3, none⟩ = some (.slice ka a.keys.length kc) ∧ w'.cell? ⟨w.heap.size + 1, 3, none⟩ = some (.slice kb b.keys.length kd)) (by kernel_rfl) (Sof _ Xt) (fun hHeld => ?_)
        (refine wpAnyH_take (i := 0) (v := ?_) (Array.getElem?_eq_getElem (by decide)) (by kernel_rfl) (by kernel_rfl) (by kernel_rfl) (fun _ _ _ h => h) (Or.inl ⟨by kernel_rfl, ?_⟩) (by assumption) ?_); rotate_left; (focus (intro w hSw; (try dsimp only at hSw); (try simp only [rl]); go_simp; (try with_reducible rfl))); (try simp only [rl])
        (refine wpAnyH_take (i := 1) (v := ?_) (Array.getElem?_eq_getElem (by decide)) (by kernel_rfl) (by kernel_rfl) (by kernel_rfl) (fun _ _ _ h => h) (Or.inl ⟨by kernel_rfl, ?_⟩) (by assumption) ?_); rotate_left; (focus (intro w hSw; (try dsimp only at hSw); (try simp only [rl]); go_simp; (try with_reducible rfl))); (try simp only [rl])
        (refine wpAnyH_take (i := 3) (v := ?_) (Array.getElem?_eq_getElem (by decide)) (by kernel_rfl) (by kernel_rfl) (by kernel_rfl) (fun _ _ _ h => h) (Or.inl ⟨by kernel_rfl, ?_⟩) (by assumption) ?_); rotate_left; (focus (intro w hSw; (try dsimp only at hSw); (try simp only [rl]); go_simp; (try with_reducible rfl))); (try simp only [rl])
        (refine wpAnyH_take (i := 4) (v := ?_) (Array.getElem?_eq_getElem (by decide)) (by kernel_rfl) (by kernel_rfl) (by kernel_rfl) (fun _ _ _ h => h) (Or.inl ⟨by kernel_rfl, ?_⟩) (by assumption) ?_); rotate_left; (focus (intro w hSw; (try dsimp only at hSw); (try simp only [rl]); go_simp; (try with_reducible rfl))); (try simp only [rl])
        (refine wpAnyH_take (i := 7) (v := ?_) (Array.getElem?_eq_getElem (by decide)) (by kernel_rfl) (by kernel_rfl) (by kernel_rfl) (fun _ _ _ h => h) (Or.inl ⟨by kernel_rfl, ?_⟩) (by assumption) ?_); rotate_left; (focus (intro w hSw; (try dsimp only at hSw); (try simp only [rl]); go_simp; (try with_reducible rfl))); (try simp only [rl])
        (refine wpAnyH_ready (rs := [2]) (by kernel_rfl) (by simp) ?_); (refine AllReadyH.cons (Array.getElem?_eq_getElem (by decide)) (fun K hK => ?_) AllReadyH.nil); (try simp only [rl])
        rw [if_pos (by simp [Region.wanted])]
        refine wp_copy_nil _ _ 22 (by rfl) wa.heap.size 9 i0 _ 1 16 Tryz.underlying22 hi hz0 hz1 hz2 rfl (by decide) (by rfl) ka a.keys.length kc (a.keys.map Value.string) (by rfl) Hko.out (by simp) (strs_src (Hkst.out.ext Xt)) (strs_one _) (by omega) (by simp) ?_
        intro a4 c4 w4 hown4 hok4 hgrow4
        have h4 := grown_ext hgrow4
        have hy4 : Ext wa w4 := Xt
        have hx4 := hxa.trans hy4
        clear hgrow4 h4
        refine hK.out _ _ (Sof _ hy4) (fun hHeld => ?_)
        clear hK K
        (try simp only [rl])
        (refine wpAnyH_ready (rs := [5]) (by kernel_rfl) (by simp) ?_); (refine AllReadyH.cons (Array.getElem?_eq_getElem (by decide)) (fun K hK => ?_) AllReadyH.nil); (try simp only [rl])
        rw [if_pos (by simp [Region.wanted])]
        refine wp_append_any _ _ 22 (by rfl) wa.heap.size 9 i0 _ 1 16 Tryz.underlying22 hi hz0 hz1 hz2 rfl (by decide) (.slice a4 a.keys.length c4) a.keys.length (a.keys.map Value.string) (by rfl) hown4 kb b.keys.length kd (b.keys.map Value.string) (by rfl) Hjo.out (by simp) (strs_src (Hjst.out.ext hx4)) (strs_one _) (by unfold maxLen; omega) (by omega) hy4.size ?_
        intro a5 c5 w5 hown5 hok5 hgrow5
        have hy5 : Ext wa w5 := Ext.grown hy4 hgrow5 (fun g hg => (hown4.lt g hg).1)
        have hx5 := hxa.trans hy5
        have Hst5 := Lib.hid (show StrsIn w5 (fun q => w.heap.size + 4 ≤ q) a5 ks by
          have ho : OwnS w5 wa.heap.size (.slice a5 (a.keys.length + b.keys.length) c5) (a.keys.length + b.keys.length) (a.keys ++ b.keys) := ⟨by simp, by simpa using hown5⟩
          obtain ⟨a6, c6, he, -, -, hs⟩ := ho.strs
          simp only [Value.slice.injEq, true_and] at he
          obtain ⟨rfl, rfl⟩ := he
          rw [Hks.out] at hs
          exact hs.keep (fun _ _ _ => rfl) (fun q h _ => by omega))
        rw [← Hkl.out]
        clear hown4 hok4 hown5 hok5 hgrow5 hx4 hy4
        refine hK.out _ _ (Sof _ hy5) (fun hHeld => ?_)
        clear hK K
        (try simp only [rl])
        (refine wpAnyH_take (i := 6) (v := ?_) (Array.getElem?_eq_getElem (by decide)) (by kernel_rfl) (by kernel_rfl) (by kernel_rfl) (fun _ _ _ h => h) (Or.inl ⟨by kernel_rfl, ?_⟩) (by assumption) ?_); rotate_left; (focus (intro w hSw; (try dsimp only at hSw); (try simp only [rl]); go_simp; (try with_reducible rfl))); (try simp only [rl])
        refine wpAnyH_done (by kernel_rfl) ?_ _
        have hB0 := Box.ext hy5 hB0
        have hB1 := Box.ext hy5 hB1
        have hB2 := Box.ext hy5 hB2
        have hB3 := Box.ext hy5 hB3
        have hz5 := hy5.size
        have n5c : V.none5.count = 1 := by rw [V.count_eq]; simp [V.none5]
        clear Sof hHeld hy5 hxa Hko Hjo Hkst Hjst
        go_wp2_with fail
        go_loopg [7, 8, 9, 10, 11, 29] ks.length (fun g _ _ _ _ _ i wr => ∃ (k : Nat) (acc : V) (a2 : Option Addr) (c2 : Nat) (a3 : Option Addr) (c3 : Nat), k ≤ ks.length ∧ i = .int .i64 k ∧ g = ks.length - k ∧ Hid (difL a b (ks.take k) V.none5 = acc) ∧ Hid (acc.sound ∧ acc.k = 5 ∧ acc.count ≤ 1 + 14520 * k) ∧ Hid (acc.In wr SS a2 c2 a3 c3) ∧ Hid (StrsIn wr (fun q => w.heap.size + 4 ≤ q) a5 ks) ∧
          Box wr w.heap.size #[.int .i64 a.k, .int .i64 a.n, .string a.s, .slice ka a.keys.length kc, .slice la a.l.length lc] 25 ∧ Box wr (w.heap.size + 1) #[.int .i64 b.k, .int .i64 b.n, .string b.s, .slice kb b.keys.length kd, .slice lb b.l.length ld] 25 ∧ Box wr (w.heap.size + 2) #[.int .i64 0, .int .i64 0, .string ⟨#[]⟩, .slice none 0 0, .slice none 0 0] 25 ∧ Box wr (w.heap.size + 3) #[.int .i64 acc.k, .int .i64 acc.n, .string acc.s, .slice a2 acc.keys.length c2, .slice a3 acc.l.length c3] 25 ∧ Ext w wr ∧ w.heap.size + 4 ≤ wr.heap.size)
        case atStart => exact ⟨0, V.none5, none, 0, none, 0, by omega, rfl, rfl, Lib.hid (by simp [difL]), Lib.hid ⟨none5_sound, rfl, by simp [n5c]⟩, Lib.hid ((V.in_iff ..).2 ⟨SlOk.nil, SlOk.nil, .inl rfl, .inl rfl⟩), Hst5, hB0, hB1, hB2, hB3, hx5, by omega⟩
        case round =>
          clear hB0 hB1 hB2 hB3 hx5 Hst5
          obtain ⟨k, acc, a2, c2, a3, c3, hk, rfl, rfl, Hacc, Hac, Hain, Hst, hB0, hB1, hB2, hB3, hx, hzr⟩ := hrel
          have hacz : acc.size ≤ 1073741824 := by have h1 := sound_size Hac.out.1; have h2 := Hac.out.2.2; have h3 : acc.count ≤ 1 + 14520 * 240 := Nat.le_trans h2 (by have := Nat.mul_le_mul_left 14520 (Nat.le_trans hk hkn); omega); omega
          by_cases hlt : k < ks.length
          · obtain ⟨bk, ok, rfl, hSk, eall⟩ := Hst.out.resolve_left (by intro h; rw [h] at hlt; simp at hlt)
            have e0 := eall k hlt
            clear eall
            have hki0 : (0 : Int) ≤ (k : Int) := by omega
            have hki2 : (k : Int) < (ks.length : Int) := by omega
            have Hn := Lib.hid (difL_next hlt Hacc.out)
            have Hfa := Lib.hid (fstep_facts (k := ks[k]) Ha.out Hb.out hac hbc Hac.out.1 Hac.out.2.1 (Hkp.out k hlt))
            have hac2 := Hac.out.2.2
            obtain ⟨key, hkey⟩ : ∃ key, ks[k] = key := ⟨_, rfl⟩
            rw [hkey] at Hn Hfa
            have Hkey := Lib.hid hkey
            rw [hkey] at e0
            clear hkey
            have hmo : (∃ x, a.member key = some x) ∨ a.member key = none := by cases a.member key with | none => exact .inr rfl | some q => exact .inl ⟨q, rfl⟩
            have hno : (∃ y, b.member key = some y) ∨ b.member key = none := by cases b.member key with | none => exact .inr rfl | some q => exact .inl ⟨q, rfl⟩
            have hc0 := hB0.cells; have hf0 := hB0.free; have hl0 := hB0.lt
            rcases hno with ⟨y, hmb⟩ | hmb
            · rcases hmo with ⟨x, hma⟩ | hma
              · have Hma := Lib.hid hma
                have Hmb := Lib.hid hmb
                have Hxy := Lib.hid (show x.sound ∧ y.sound ∧ x.count ≤ 120 ∧ y.count ≤ 120 ∧ x.size ≤ 14640 ∧ y.size < b.size from ⟨member_sound Ha.out hma, member_sound Hb.out hmb, by have := member_count hma; omega, by have := member_count hmb; omega, by have := member_size hma; omega, member_size hmb⟩)
                cases hsm : x.same y with
                | true =>
                  have Hsm := Lib.hid hsm
                  have Hn2 := Lib.hid (Hn.out.trans (show a.fstep b key acc = acc by unfold V.fstep; rw [hmb]; simp only; rw [hma]; simp only; rw [if_pos hsm]))
                  clear Hn Hfa hma hmb hsm
                  go_wp2_with fail
                  (refine (memberOf_some Hma.out ka kc la lc SS _ (by omega) (Hin.out.ext Xt)).mono ?_)
                  rintro e w1 ⟨ka7, kc7, la7, lc7, rfl, hin7, h1⟩
                  have Hin7 := Lib.hid (show x.In w1 SS ka7 kc7 la7 lc7 from hin7.mono fun q h _ => by rcases h with h | h; exact h; exact HSn.out q (by (try simp at h); omega))
                  clear hin7
                  clear hc0 hf0 hl0
                  have hB0 := Box.ext h1 hB0
                  have hB1 := Box.ext h1 hB1
                  have hB2 := Box.ext h1 hB2
                  have hB3 := Box.ext h1 hB3
                  have Hain := Lib.hid (Hain.out.ext h1)
                  have Hst := Lib.hid (Hst.out.ext h1)
                  have hx := hx.trans h1
                  have hzr := Nat.le_trans hzr h1.size
                  clear h1
                  have hB7 : Box (w1.alloc (.cells #[.int .i64 x.k, .int .i64 x.n, .string x.s, .slice ka7 x.keys.length kc7, .slice la7 x.l.length lc7] 25)) w1.heap.size #[.int .i64 x.k, .int .i64 x.n, .string x.s, .slice ka7 x.keys.length kc7, .slice la7 x.l.length lc7] 25 := Box.new _ _ _ rfl
                  clear hB7
                  go_upto_region 8 with fail
                  refine gen_world (R := fun wx => Box wx w.heap.size #[.int .i64 a.k, .int .i64 a.n, .string a.s, .slice ka a.keys.length kc, .slice la a.l.length lc] 25 ∧ Box wx (w.heap.size + 1) #[.int .i64 b.k, .int .i64 b.n, .string b.s, .slice kb b.keys.length kd, .slice lb b.l.length ld] 25 ∧ Box wx (w.heap.size + 2) #[.int .i64 0, .int .i64 0, .string ⟨#[]⟩, .slice none 0 0, .slice none 0 0] 25 ∧ Box wx (w.heap.size + 3) #[.int .i64 acc.k, .int .i64 acc.n, .string acc.s, .slice a2 acc.keys.length c2, .slice a3 acc.l.length c3] 25 ∧ acc.In wx SS a2 c2 a3 c3 ∧ StrsIn wx (fun q => w.heap.size + 4 ≤ q) (some ⟨bk, ok, none⟩) ks ∧ x.In wx SS ka7 kc7 la7 lc7 ∧ Box wx w1.heap.size #[.int .i64 x.k, .int .i64 x.n, .string x.s, .slice ka7 x.keys.length kc7, .slice la7 x.l.length lc7] 25 ∧ Ext w wx ∧ w.heap.size + 4 ≤ wx.heap.size) ⟨Bxt, Bxt, Bxt, Bxt, Hain.out.ext Xt, Hst.out.ext Xt, Hin7.out.ext Xt, Bxt, Xt, by (try simp); omega⟩ ?_
                  clear hB0 hB1 hB2 hB3 Hain Hst hx hzr Hin7
                  rintro wb ⟨hB0, hB1, hB2, hB3, hain, hst, hin7, hB7, hx, hzr⟩
                  have Hain := Lib.hid hain
                  have Hst := Lib.hid hst
                  have Hin7 := Lib.hid hin7
                  clear hain hst hin7
                  have hc1 := hB1.cells; have hf1 := hB1.free; have hl1 := hB1.lt
                  go_wp2_with fail
                  (refine (memberOf_some Hmb.out kb kd lb ld SS _ (by omega) (Hjn.out.ext Xt)).mono ?_)
                  rintro e w2 ⟨ka8, kc8, la8, lc8, rfl, hin8, h1⟩
                  have Hin8 := Lib.hid (show y.In w2 SS ka8 kc8 la8 lc8 from hin8.mono fun q h _ => by rcases h with h | h; exact h; exact HSn.out q (by (try simp at h); omega))
                  clear hin8
                  clear hc1 hf1 hl1
                  have hB0 := Box.ext h1 hB0
                  have hB1 := Box.ext h1 hB1
                  have hB2 := Box.ext h1 hB2
                  have hB3 := Box.ext h1 hB3
                  have Hain := Lib.hid (Hain.out.ext h1)
                  have Hst := Lib.hid (Hst.out.ext h1)
                  have Hin7 := Lib.hid (Hin7.out.ext h1)
                  have hB7 := Box.ext h1 hB7
                  have hx := hx.trans h1
                  have hzr := Nat.le_trans hzr h1.size
                  clear h1
                  go_upto_region 13 with fail
                  refine gen_world (R := fun wx => Box wx w.heap.size #[.int .i64 a.k, .int .i64 a.n, .string a.s, .slice ka a.keys.length kc, .slice la a.l.length lc] 25 ∧ Box wx (w.heap.size + 1) #[.int .i64 b.k, .int .i64 b.n, .string b.s, .slice kb b.keys.length kd, .slice lb b.l.length ld] 25 ∧ Box wx (w.heap.size + 2) #[.int .i64 0, .int .i64 0, .string ⟨#[]⟩, .slice none 0 0, .slice none 0 0] 25 ∧ Box wx (w.heap.size + 3) #[.int .i64 acc.k, .int .i64 acc.n, .string acc.s, .slice a2 acc.keys.length c2, .slice a3 acc.l.length c3] 25 ∧ acc.In wx SS a2 c2 a3 c3 ∧ StrsIn wx (fun q => w.heap.size + 4 ≤ q) (some ⟨bk, ok, none⟩) ks ∧ x.In wx SS ka7 kc7 la7 lc7 ∧ Box wx w1.heap.size #[.int .i64 x.k, .int .i64 x.n, .string x.s, .slice ka7 x.keys.length kc7, .slice la7 x.l.length lc7] 25 ∧ y.In wx SS ka8 kc8 la8 lc8 ∧ Box wx w2.heap.size #[.int .i64 y.k, .int .i64 y.n, .string y.s, .slice ka8 y.keys.length kc8, .slice la8 y.l.length lc8] 25 ∧ Ext w wx ∧ w.heap.size + 4 ≤ wx.heap.size) ⟨Bxt, Bxt, Bxt, Bxt, Hain.out.ext Xt, Hst.out.ext Xt, Hin7.out.ext Xt, Bxt, Hin8.out.ext Xt, Bxt, Xt, by (try simp); omega⟩ ?_
                  clear hB0 hB1 hB2 hB3 Hain Hst hx hzr Hin7 hB7 Hin8
                  rintro wc ⟨hB0, hB1, hB2, hB3, hain, hst, hin7, hB7, hin8, hB8, hx, hzr⟩
                  have Hain := Lib.hid hain
                  have Hst := Lib.hid hst
                  have Hin7 := Lib.hid hin7
                  have Hin8 := Lib.hid hin8
                  clear hain hst hin7 hin8
                  have hc7 := hB7.cells; have hf7 := hB7.free; have hl7 := hB7.lt
                  have hc8 := hB8.cells; have hf8 := hB8.free; have hl8 := hB8.lt
                  go_wp2_with fail
                  (refine (sameR_any x y ka7 kc7 la7 lc7 SS ka8 kc8 la8 lc8 SS _ (by have := Hxy.out.2.2.2.2.1; omega) (by have := Hxy.out.2.2.2.2.2; omega) (Hin7.out.ext Xt) (Hin8.out.ext Xt)).mono ?_)
                  rw [Hsm.out]
                  rintro e w3 ⟨rfl, h1⟩
                  clear hc7 hf7 hl7 hc8 hf8 hl8
                  have hB0 := Box.ext h1 hB0
                  have hB1 := Box.ext h1 hB1
                  have hB2 := Box.ext h1 hB2
                  have hB3 := Box.ext h1 hB3
                  have Hain := Lib.hid (Hain.out.ext h1)
                  have Hst := Lib.hid (Hst.out.ext h1)
                  have Hin7 := Lib.hid (Hin7.out.ext h1)
                  have Hin8 := Lib.hid (Hin8.out.ext h1)
                  have hB7 := Box.ext h1 hB7
                  have hB8 := Box.ext h1 hB8
                  have hx := hx.trans h1
                  have hzr := Nat.le_trans hzr h1.size
                  clear h1
                  go_wp2_with fail
                  go_roundg (ks.length - (k + 1))
                  case measure => omega
                  case rel => exact ⟨k + 1, acc, a2, c2, a3, c3, by omega, by go_num, rfl, Hn2, Lib.hid ⟨Hac.out.1, Hac.out.2.1, by omega⟩, Hain, Hst, hB0, hB1, hB2, hB3, hx, hzr⟩
                | false =>
                  have Hsm := Lib.hid hsm
                  obtain ⟨acc2, hacc2⟩ : ∃ acc2, acc.put key (y.dif x) = acc2 := ⟨_, rfl⟩
                  have Hacc2 := Lib.hid hacc2
                  have hst : a.fstep b key acc = acc2 := by unfold V.fstep; rw [hmb]; simp only; rw [hma]; simp only; rw [if_neg (by rw [hsm]; decide)]; exact hacc2
                  have Hn2 := Lib.hid (Hn.out.trans hst)
                  have Hfa2 := Lib.hid (show acc2.sound ∧ acc2.k = 5 ∧ acc2.count ≤ 1 + 14520 * (k + 1) by
                    have h := Hfa.out
                    rw [hst] at h
                    exact ⟨h.1, h.2.1, by omega⟩)
                  clear Hn Hfa hst hacc2
                  clear hma hmb hsm
                  go_wp2_with fail
                  (refine (memberOf_some Hma.out ka kc la lc SS _ (by omega) (Hin.out.ext Xt)).mono ?_)
                  rintro e w1 ⟨ka7, kc7, la7, lc7, rfl, hin7, h1⟩
                  have Hin7 := Lib.hid (show x.In w1 SS ka7 kc7 la7 lc7 from hin7.mono fun q h _ => by rcases h with h | h; exact h; exact HSn.out q (by (try simp at h); omega))
                  clear hin7
                  clear hc0 hf0 hl0
                  have hB0 := Box.ext h1 hB0
                  have hB1 := Box.ext h1 hB1
                  have hB2 := Box.ext h1 hB2
                  have hB3 := Box.ext h1 hB3
                  have Hain := Lib.hid (Hain.out.ext h1)
                  have Hst := Lib.hid (Hst.out.ext h1)
                  have hx := hx.trans h1
                  have hzr := Nat.le_trans hzr h1.size
                  clear h1
                  have hB7 : Box (w1.alloc (.cells #[.int .i64 x.k, .int .i64 x.n, .string x.s, .slice ka7 x.keys.length kc7, .slice la7 x.l.length lc7] 25)) w1.heap.size #[.int .i64 x.k, .int .i64 x.n, .string x.s, .slice ka7 x.keys.length kc7, .slice la7 x.l.length lc7] 25 := Box.new _ _ _ rfl
                  clear hB7
                  go_upto_region 8 with fail
                  refine gen_world (R := fun wx => Box wx w.heap.size #[.int .i64 a.k, .int .i64 a.n, .string a.s, .slice ka a.keys.length kc, .slice la a.l.length lc] 25 ∧ Box wx (w.heap.size + 1) #[.int .i64 b.k, .int .i64 b.n, .string b.s, .slice kb b.keys.length kd, .slice lb b.l.length ld] 25 ∧ Box wx (w.heap.size + 2) #[.int .i64 0, .int .i64 0, .string ⟨#[]⟩, .slice none 0 0, .slice none 0 0] 25 ∧ Box wx (w.heap.size + 3) #[.int .i64 acc.k, .int .i64 acc.n, .string acc.s, .slice a2 acc.keys.length c2, .slice a3 acc.l.length c3] 25 ∧ acc.In wx SS a2 c2 a3 c3 ∧ StrsIn wx (fun q => w.heap.size + 4 ≤ q) (some ⟨bk, ok, none⟩) ks ∧ x.In wx SS ka7 kc7 la7 lc7 ∧ Box wx w1.heap.size #[.int .i64 x.k, .int .i64 x.n, .string x.s, .slice ka7 x.keys.length kc7, .slice la7 x.l.length lc7] 25 ∧ Ext w wx ∧ w.heap.size + 4 ≤ wx.heap.size) ⟨Bxt, Bxt, Bxt, Bxt, Hain.out.ext Xt, Hst.out.ext Xt, Hin7.out.ext Xt, Bxt, Xt, by (try simp); omega⟩ ?_
                  clear hB0 hB1 hB2 hB3 Hain Hst hx hzr Hin7
                  rintro wb ⟨hB0, hB1, hB2, hB3, hain, hst, hin7, hB7, hx, hzr⟩
                  have Hain := Lib.hid hain
                  have Hst := Lib.hid hst
                  have Hin7 := Lib.hid hin7
                  clear hain hst hin7
                  have hc1 := hB1.cells; have hf1 := hB1.free; have hl1 := hB1.lt
                  go_wp2_with fail
                  (refine (memberOf_some Hmb.out kb kd lb ld SS _ (by omega) (Hjn.out.ext Xt)).mono ?_)
                  rintro e w2 ⟨ka8, kc8, la8, lc8, rfl, hin8, h1⟩
                  have Hin8 := Lib.hid (show y.In w2 SS ka8 kc8 la8 lc8 from hin8.mono fun q h _ => by rcases h with h | h; exact h; exact HSn.out q (by (try simp at h); omega))
                  clear hin8
                  clear hc1 hf1 hl1
                  have hB0 := Box.ext h1 hB0
                  have hB1 := Box.ext h1 hB1
                  have hB2 := Box.ext h1 hB2
                  have hB3 := Box.ext h1 hB3
                  have Hain := Lib.hid (Hain.out.ext h1)
                  have Hst := Lib.hid (Hst.out.ext h1)
                  have Hin7 := Lib.hid (Hin7.out.ext h1)
                  have hB7 := Box.ext h1 hB7
                  have hx := hx.trans h1
                  have hzr := Nat.le_trans hzr h1.size
                  clear h1
                  go_upto_region 13 with fail
                  refine gen_world (R := fun wx => Box wx w.heap.size #[.int .i64 a.k, .int .i64 a.n, .string a.s, .slice ka a.keys.length kc, .slice la a.l.length lc] 25 ∧ Box wx (w.heap.size + 1) #[.int .i64 b.k, .int .i64 b.n, .string b.s, .slice kb b.keys.length kd, .slice lb b.l.length ld] 25 ∧ Box wx (w.heap.size + 2) #[.int .i64 0, .int .i64 0, .string ⟨#[]⟩, .slice none 0 0, .slice none 0 0] 25 ∧ Box wx (w.heap.size + 3) #[.int .i64 acc.k, .int .i64 acc.n, .string acc.s, .slice a2 acc.keys.length c2, .slice a3 acc.l.length c3] 25 ∧ acc.In wx SS a2 c2 a3 c3 ∧ StrsIn wx (fun q => w.heap.size + 4 ≤ q) (some ⟨bk, ok, none⟩) ks ∧ x.In wx SS ka7 kc7 la7 lc7 ∧ Box wx w1.heap.size #[.int .i64 x.k, .int .i64 x.n, .string x.s, .slice ka7 x.keys.length kc7, .slice la7 x.l.length lc7] 25 ∧ y.In wx SS ka8 kc8 la8 lc8 ∧ Box wx w2.heap.size #[.int .i64 y.k, .int .i64 y.n, .string y.s, .slice ka8 y.keys.length kc8, .slice la8 y.l.length lc8] 25 ∧ Ext w wx ∧ w.heap.size + 4 ≤ wx.heap.size) ⟨Bxt, Bxt, Bxt, Bxt, Hain.out.ext Xt, Hst.out.ext Xt, Hin7.out.ext Xt, Bxt, Hin8.out.ext Xt, Bxt, Xt, by (try simp); omega⟩ ?_
                  clear hB0 hB1 hB2 hB3 Hain Hst hx hzr Hin7 hB7 Hin8
                  rintro wc ⟨hB0, hB1, hB2, hB3, hain, hst, hin7, hB7, hin8, hB8, hx, hzr⟩
                  have Hain := Lib.hid hain
                  have Hst := Lib.hid hst
                  have Hin7 := Lib.hid hin7
                  have Hin8 := Lib.hid hin8
                  clear hain hst hin7 hin8
                  have hc7 := hB7.cells; have hf7 := hB7.free; have hl7 := hB7.lt
                  have hc8 := hB8.cells; have hf8 := hB8.free; have hl8 := hB8.lt
                  go_wp2_with fail
                  (refine (sameR_any x y ka7 kc7 la7 lc7 SS ka8 kc8 la8 lc8 SS _ (by have := Hxy.out.2.2.2.2.1; omega) (by have := Hxy.out.2.2.2.2.2; omega) (Hin7.out.ext Xt) (Hin8.out.ext Xt)).mono ?_)
                  rw [Hsm.out]
                  rintro e w3 ⟨rfl, h1⟩
                  clear hc7 hf7 hl7 hc8 hf8 hl8
                  have hB0 := Box.ext h1 hB0
                  have hB1 := Box.ext h1 hB1
                  have hB2 := Box.ext h1 hB2
                  have hB3 := Box.ext h1 hB3
                  have Hain := Lib.hid (Hain.out.ext h1)
                  have Hst := Lib.hid (Hst.out.ext h1)
                  have Hin7 := Lib.hid (Hin7.out.ext h1)
                  have Hin8 := Lib.hid (Hin8.out.ext h1)
                  have hB7 := Box.ext h1 hB7
                  have hB8 := Box.ext h1 hB8
                  have hx := hx.trans h1
                  have hzr := Nat.le_trans hzr h1.size
                  clear h1
                  go_upto_region 14 with fail
                  refine gen_world (R := fun wx => Box wx w.heap.size #[.int .i64 a.k, .int .i64 a.n, .string a.s, .slice ka a.keys.length kc, .slice la a.l.length lc] 25 ∧ Box wx (w.heap.size + 1) #[.int .i64 b.k, .int .i64 b.n, .string b.s, .slice kb b.keys.length kd, .slice lb b.l.length ld] 25 ∧ Box wx (w.heap.size + 2) #[.int .i64 0, .int .i64 0, .string ⟨#[]⟩, .slice none 0 0, .slice none 0 0] 25 ∧ Box wx (w.heap.size + 3) #[.int .i64 acc.k, .int .i64 acc.n, .string acc.s, .slice a2 acc.keys.length c2, .slice a3 acc.l.length c3] 25 ∧ acc.In wx SS a2 c2 a3 c3 ∧ StrsIn wx (fun q => w.heap.size + 4 ≤ q) (some ⟨bk, ok, none⟩) ks ∧ x.In wx SS ka7 kc7 la7 lc7 ∧ Box wx w1.heap.size #[.int .i64 x.k, .int .i64 x.n, .string x.s, .slice ka7 x.keys.length kc7, .slice la7 x.l.length lc7] 25 ∧ y.In wx SS ka8 kc8 la8 lc8 ∧ Box wx w2.heap.size #[.int .i64 y.k, .int .i64 y.n, .string y.s, .slice ka8 y.keys.length kc8, .slice la8 y.l.length lc8] 25 ∧ Ext w wx ∧ w.heap.size + 4 ≤ wx.heap.size) ⟨Bxt, Bxt, Bxt, Bxt, Hain.out.ext Xt, Hst.out.ext Xt, Hin7.out.ext Xt, Bxt, Hin8.out.ext Xt, Bxt, Xt, by (try simp); omega⟩ ?_
                  clear hB0 hB1 hB2 hB3 Hain Hst hx hzr Hin7 hB7 Hin8 hB8
                  rintro wd ⟨hB0, hB1, hB2, hB3, hain, hst, hin7, hB7, hin8, hB8, hx, hzr⟩
                  have Hain := Lib.hid hain
                  have Hst := Lib.hid hst
                  have Hin7 := Lib.hid hin7
                  have Hin8 := Lib.hid hin8
                  clear hain hst hin7 hin8
                  have Sof : ∀ w', Ext wd w' → (w'.cell? ⟨w.heap.size + 3, 0, none⟩ = some (.int .i64 acc.k) ∧ w'.cell? ⟨w.heap.size + 3, 1, none⟩ = some (.int .i64 acc.n) ∧ w'.cell? ⟨w.heap.size + 3, 2, none⟩ = some (.string acc.s) ∧ w'.cell? ⟨w.heap.size + 3, 3, none⟩ = some (.slice a2 acc.keys.length c2) ∧ w'.cell? ⟨w.heap.size + 3, 4, none⟩ = some (.slice a3 acc.l.length c3) ∧ w'.cell? ⟨w1.heap.size, 0, none⟩ = some (.int .i64 x.k) ∧ w'.cell? ⟨w1.heap.size, 1, none⟩ = some (.int .i64 x.n) ∧ w'.cell? ⟨w1.heap.size, 2, none⟩ = some (.string x.s) ∧ w'.cell? ⟨w1.heap.size, 3, none⟩ = some (.slice ka7 x.keys.length kc7) ∧ w'.cell? ⟨w1.heap.size, 4, none⟩ = some (.slice la7 x.l.length lc7) ∧ w'.cell? ⟨w2.heap.size, 0, none⟩ = some (.int .i64 y.k) ∧ w'.cell? ⟨w2.heap.size, 1, none⟩ = some (.int .i64 y.n) ∧ w'.cell? ⟨w2.heap.size, 2, none⟩ = some (.string y.s) ∧ w'.cell? ⟨w2.heap.size, 3, none⟩ = some (.slice ka8 y.keys.length kc8) ∧ w'.cell? ⟨w2.heap.size, 4, none⟩ = some (.slice la8 y.l.length lc8)) := fun w' e => ⟨e.cell (hB3.cells 0), e.cell (hB3.cells 1), e.cell (hB3.cells 2), e.cell (hB3.cells 3), e.cell (hB3.cells 4), e.cell (hB7.cells 0), e.cell (hB7.cells 1), e.cell (hB7.cells 2), e.cell (hB7.cells 3), e.cell (hB7.cells 4), e.cell (hB8.cells 0), e.cell (hB8.cells 1), e.cell (hB8.cells 2), e.cell (hB8.cells 3), e.cell (hB8.cells 4)⟩
                  refine wp_region_till (S := fun w' => w'.cell? ⟨w.heap.size + 3, 0, none⟩ = some (.int .i64 acc.k) ∧ w'.cell? ⟨w.heap.size + 3, 1, none⟩ = some (.int .i64 acc.n) ∧ w'.cell? ⟨w.heap.size + 3, 2, none⟩ = some (.string acc.s) ∧ w'.cell? ⟨w.heap.size + 3, 3, none⟩ = some (.slice a2 acc.keys.length c2) ∧ w'.cell? ⟨w.heap.size + 3, 4, none⟩ = some (.slice a3 acc.l.length c3) ∧ w'.cell? ⟨w1.heap.size, 0, none⟩ = some (.int .i64 x.k) ∧ w'.cell? ⟨w1.heap.size, 1, none⟩ = some (.int .i64 x.n) ∧ w'.cell? ⟨w1.heap.size, 2, none⟩ = some (.string x.s) ∧ w'.cell? ⟨w1.heap.size, 3, none⟩ = some (.slice ka7 x.keys.length kc7) ∧ w'.cell? ⟨w1.heap.size, 4, none⟩ = some (.slice la7 x.l.length lc7) ∧ w'.cell? ⟨w2.heap.size, 0, none⟩ = some (.int .i64 y.k) ∧ w'.cell? ⟨w2.heap.size, 1, none⟩ = some (.int .i64 y.n) ∧ w'.cell? ⟨w2.heap.size, 2, none⟩ = some (.string y.s) ∧ w'.cell? ⟨w2.heap.size, 3, none⟩ = some (.slice ka8 y.keys.length kc8) ∧ w'.cell? ⟨w2.heap.size, 4, none⟩ = some (.slice la8 y.l.length lc8)) (c := 6) (by kernel_rfl) ?_
                  (refine wpAnyT_take (i := 0) (v := ?_) [6] (Array.getElem?_eq_getElem (by decide)) (by kernel_rfl) (by kernel_rfl) (by kernel_rfl) (by kernel_rfl) rfl rfl (by kernel_rfl) (fun _ _ _ h => h) (Or.inl ⟨by kernel_rfl, ?_⟩) (Sof _ Xt) ?_); rotate_left; (focus (intro w hSw; (try dsimp only at hSw); (try simp only [rl]); go_simp; (try with_reducible rfl))); (try simp only [rl])
                  (refine wpAnyT_take (i := 1) (v := ?_) [6] (Array.getElem?_eq_getElem (by decide)) (by kernel_rfl) (by kernel_rfl) (by kernel_rfl) (by kernel_rfl) rfl rfl (by kernel_rfl) (fun _ _ _ h => h) (Or.inl ⟨by kernel_rfl, ?_⟩) (Sof _ Xt) ?_); rotate_left; (focus (intro w hSw; (try dsimp only at hSw); (try simp only [rl]); go_simp; (try with_reducible rfl))); (try simp only [rl])
                  (refine wpAnyT_take (i := 2) (v := ?_) [6] (Array.getElem?_eq_getElem (by decide)) (by kernel_rfl) (by kernel_rfl) (by kernel_rfl) (by kernel_rfl) rfl rfl (by kernel_rfl) (fun _ _ _ h => h) (Or.inl ⟨by kernel_rfl, ?_⟩) (Sof _ Xt) ?_); rotate_left; (focus (intro w hSw; (try dsimp only at hSw); (try simp only [rl]); go_simp; (try with_reducible rfl))); (try simp only [rl])
                  (refine wpAnyT_take (i := 3) (v := ?_) [6] (Array.getElem?_eq_getElem (by decide)) (by kernel_rfl) (by kernel_rfl) (by kernel_rfl) (by kernel_rfl) rfl rfl (by kernel_rfl) (fun _ _ _ h => h) (Or.inl ⟨by kernel_rfl, ?_⟩) (Sof _ Xt) ?_); rotate_left; (focus (intro w hSw; (try dsimp only at hSw); (try simp only [rl]); go_simp; (try with_reducible rfl))); (try simp only [rl])
                  (refine wpAnyT_one (i := 4) (by kernel_rfl) (Array.getElem?_eq_getElem (by decide)) fun K hK => ?_); (try simp only [rl])
                  (try go_simp)
                  (refine (Ih.out x y ka7 kc7 la7 lc7 ka8 kc8 la8 lc8 SS _ (by have := Hxy.out.2.2.2.2.2; omega) Hxy.out.1 Hxy.out.2.1 Hxy.out.2.2.1 Hxy.out.2.2.2.1 (Hin7.out.ext Xt) (Hin8.out.ext Xt)).mono ?_)
                  rintro e w5 ⟨ka5, kc5, la5, lc5, rfl, hin5, h5x⟩
                  have hy5 : Ext wd w5 := Xt
                  have hz5 := hy5.size
                  clear h5x
                  have Hin5 := Lib.hid (show (y.dif x).In w5 SS ka5 kc5 la5 lc5 from hin5.mono fun q h _ => by rcases h with h | h; exact h; exact HSn.out q (by (try simp at h); omega))
                  clear hin5
                  (try go_simp)
                  refine hK.out _ _ (fun _ => Sof _ Xt) ?_; clear hK K; (try simp only [rl])
                  (refine wpAnyT_one (i := 5) (by kernel_rfl) (Array.getElem?_eq_getElem (by decide)) fun K hK => ?_); (try simp only [rl])
                  (try go_simp)
                  (refine (withR_any acc a2 c2 a3 c3 key (y.dif x) ka5 kc5 la5 lc5 SS _ hacz (sound_obj Hac.out.1 Hac.out.2.1).k5 (sound_obj Hac.out.1 Hac.out.2.1).len (sound_obj Hac.out.1 Hac.out.2.1).n0 (sound_obj Hac.out.1 Hac.out.2.1).s0 (sound_obj Hac.out.1 Hac.out.2.1).rise (Hain.out.ext Xt) (Hin5.out.ext Xt)).mono ?_)
                  rw [Hacc2.out]
                  rintro e w6 ⟨ka6, kc6, la6, lc6, rfl, hin6, h1⟩
                  have hy6 : Ext wd w6 := Xt
                  have hz6 := hy6.size
                  clear h1 hy5
                  have Hin6 := Lib.hid (show acc2.In w6 SS ka6 kc6 la6 lc6 from hin6.mono fun q h _ => by rcases h with h | h; exact h; exact HSn.out q (by (try simp at h); omega))
                  clear hin6
                  have hh1 := hy6
                  have hB3w := Box.ext hy6 hB3
                  have hc3 := hB3w.cells; have hf3 := hB3w.free; have hl3 := hB3w.lt
                  (try go_simp)
                  refine hK.out _ _ (fun _ => Sof _ hy6) ?_
                  clear hK K
                  (try simp only [rl])
                  (refine wpAnyT_one (i := 6) (by kernel_rfl) (Array.getElem?_eq_getElem (by decide)) fun K hK => ?_); (try simp only [rl])
                  go_simp
                  (refine hK.out _ _ (fun h => Bool.noConfusion (show true = false from h)) ?_); clear hK K; (try simp only [rl])
                  refine wpAnyT_done (by kernel_rfl) ?_ _
                  have h1 := hy6
                  clear Sof hh1 hy6 hB3w
                  have hB0 := Box.ext h1 hB0
                  have hB1 := Box.ext h1 hB1
                  have hB2 := Box.ext h1 hB2
                  have hB3 := Box.ext h1 hB3
                  have Hain := Lib.hid (Hain.out.ext h1)
                  have Hst := Lib.hid (Hst.out.ext h1)
                  have hx := hx.trans h1
                  have hzr := Nat.le_trans hzr h1.size
                  clear h1
                  obtain ⟨wy, hwy⟩ : ∃ wy, (((((w6.setCell ⟨w.heap.size + 1 + 1 + 1, 0, none⟩ (Value.int .i64 acc2.k)).setCell ⟨w.heap.size + 1 + 1 + 1, 1, none⟩ (Value.int .i64 acc2.n)).setCell ⟨w.heap.size + 1 + 1 + 1, 2, none⟩ (Value.string acc2.s)).setCell ⟨w.heap.size + 1 + 1 + 1, 3, none⟩ (Value.slice ka6 acc2.keys.length kc6)).setCell ⟨w.heap.size + 1 + 1 + 1, 4, none⟩ (Value.slice la6 acc2.l.length lc6)) = wy := ⟨_, rfl⟩
                  have hB0y : Box wy w.heap.size #[.int .i64 a.k, .int .i64 a.n, .string a.s, .slice ka a.keys.length kc, .slice la a.l.length lc] 25 := by rw [← hwy]; exact Bxt
                  have hB1y : Box wy (w.heap.size + 1) #[.int .i64 b.k, .int .i64 b.n, .string b.s, .slice kb b.keys.length kd, .slice lb b.l.length ld] 25 := by rw [← hwy]; exact Bxt
                  have hB2y : Box wy (w.heap.size + 2) #[.int .i64 0, .int .i64 0, .string ⟨#[]⟩, .slice none 0 0, .slice none 0 0] 25 := by rw [← hwy]; exact Bxt
                  have hB3y : Box wy (w.heap.size + 3) #[.int .i64 acc2.k, .int .i64 acc2.n, .string acc2.s, .slice ka6 acc2.keys.length kc6, .slice la6 acc2.l.length lc6] 25 := by rw [← hwy]; exact Box.to (((((hB3.set 0 (.int .i64 acc2.k)).set 1 (.int .i64 acc2.n)).set 2 (.string acc2.s)).set 3 (.slice ka6 acc2.keys.length kc6)).set 4 (.slice la6 acc2.l.length lc6)) (by simp)
                  have hhy : Held (fun q => q ≠ w.heap.size + 3) w6 wy := by rw [← hwy]; exact Hxt
                  have hxy : Ext w wy := by rw [← hwy]; exact Xt
                  rw [hwy]
                  have Hin6 := Lib.hid (Hin6.out.keep (Held.kept (Held.mono hhy (fun q h => HSo.out q h))) (fun _ h _ => h))
                  have Hst6 := Lib.hid (Hst.out.keep (Held.kept (Held.mono hhy (T := fun q => w.heap.size + 4 ≤ q) (fun q h => by simp; omega))) (fun _ h _ => h))
                  have hzy := hhy.size
                  clear hwy hhy hc3 hf3 hl3
                  go_wp2_with fail
                  go_roundg (ks.length - (k + 1))
                  case measure => omega
                  case rel => exact ⟨k + 1, acc2, ka6, kc6, la6, lc6, by omega, by go_num, rfl, Hn2, Hfa2, Hin6, Hst6, hB0y, hB1y, hB2y, hB3y, hxy, by omega⟩
              · have Hma := Lib.hid hma
                have Hmb := Lib.hid hmb
                obtain ⟨acc2, hacc2⟩ : ∃ acc2, acc.put key y = acc2 := ⟨_, rfl⟩
                have Hacc2 := Lib.hid hacc2
                have hst : a.fstep b key acc = acc2 := by unfold V.fstep; rw [hmb]; simp only; rw [hma]; exact hacc2
                have Hn2 := Lib.hid (Hn.out.trans hst)
                have Hfa2 := Lib.hid (show acc2.sound ∧ acc2.k = 5 ∧ acc2.count ≤ 1 + 14520 * (k + 1) by
                  have h := Hfa.out
                  rw [hst] at h
                  exact ⟨h.1, h.2.1, by omega⟩)
                clear Hn Hfa hst hacc2
                clear hma hmb
                go_wp2_with fail
                (refine (memberOf_none Hma.out ka kc la lc SS _ (by omega) (Hin.out.ext Xt)).mono ?_)
                rintro e w1 ⟨rfl, h1⟩
                clear hc0 hf0 hl0
                have hB0 := Box.ext h1 hB0
                have hB1 := Box.ext h1 hB1
                have hB2 := Box.ext h1 hB2
                have hB3 := Box.ext h1 hB3
                have Hain := Lib.hid (Hain.out.ext h1)
                have Hst := Lib.hid (Hst.out.ext h1)
                have hx := hx.trans h1
                have hzr := Nat.le_trans hzr h1.size
                clear h1
                go_upto_region 8 with fail
                refine gen_world (R := fun wx => Box wx w.heap.size #[.int .i64 a.k, .int .i64 a.n, .string a.s, .slice ka a.keys.length kc, .slice la a.l.length lc] 25 ∧ Box wx (w.heap.size + 1) #[.int .i64 b.k, .int .i64 b.n, .string b.s, .slice kb b.keys.length kd, .slice lb b.l.length ld] 25 ∧ Box wx (w.heap.size + 2) #[.int .i64 0, .int .i64 0, .string ⟨#[]⟩, .slice none 0 0, .slice none 0 0] 25 ∧ Box wx (w.heap.size + 3) #[.int .i64 acc.k, .int .i64 acc.n, .string acc.s, .slice a2 acc.keys.length c2, .slice a3 acc.l.length c3] 25 ∧ acc.In wx SS a2 c2 a3 c3 ∧ StrsIn wx (fun q => w.heap.size + 4 ≤ q) (some ⟨bk, ok, none⟩) ks ∧ Ext w wx ∧ w.heap.size + 4 ≤ wx.heap.size) ⟨Bxt, Bxt, Bxt, Bxt, Hain.out.ext Xt, Hst.out.ext Xt, Xt, by (try simp); omega⟩ ?_
                clear hB0 hB1 hB2 hB3 Hain Hst hx hzr 
                rintro wb ⟨hB0, hB1, hB2, hB3, hain, hst, hx, hzr⟩
                have Hain := Lib.hid hain
                have Hst := Lib.hid hst
                clear hain hst
                have hc1 := hB1.cells; have hf1 := hB1.free; have hl1 := hB1.lt
                go_wp2_with fail
                (refine (memberOf_some Hmb.out kb kd lb ld SS _ (by omega) (Hjn.out.ext Xt)).mono ?_)
                rintro e w2 ⟨ka8, kc8, la8, lc8, rfl, hin8, h1⟩
                have Hin8 := Lib.hid (show y.In w2 SS ka8 kc8 la8 lc8 from hin8.mono fun q h _ => by rcases h with h | h; exact h; exact HSn.out q (by (try simp at h); omega))
                clear hin8
                clear hc1 hf1 hl1
                have hB0 := Box.ext h1 hB0
                have hB1 := Box.ext h1 hB1
                have hB2 := Box.ext h1 hB2
                have hB3 := Box.ext h1 hB3
                have Hain := Lib.hid (Hain.out.ext h1)
                have Hst := Lib.hid (Hst.out.ext h1)
                have hx := hx.trans h1
                have hzr := Nat.le_trans hzr h1.size
                clear h1
                go_upto_region 12 with fail
                refine gen_world (R := fun wx => Box wx w.heap.size #[.int .i64 a.k, .int .i64 a.n, .string a.s, .slice ka a.keys.length kc, .slice la a.l.length lc] 25 ∧ Box wx (w.heap.size + 1) #[.int .i64 b.k, .int .i64 b.n, .string b.s, .slice kb b.keys.length kd, .slice lb b.l.length ld] 25 ∧ Box wx (w.heap.size + 2) #[.int .i64 0, .int .i64 0, .string ⟨#[]⟩, .slice none 0 0, .slice none 0 0] 25 ∧ Box wx (w.heap.size + 3) #[.int .i64 acc.k, .int .i64 acc.n, .string acc.s, .slice a2 acc.keys.length c2, .slice a3 acc.l.length c3] 25 ∧ acc.In wx SS a2 c2 a3 c3 ∧ StrsIn wx (fun q => w.heap.size + 4 ≤ q) (some ⟨bk, ok, none⟩) ks ∧ y.In wx SS ka8 kc8 la8 lc8 ∧ Box wx w2.heap.size #[.int .i64 y.k, .int .i64 y.n, .string y.s, .slice ka8 y.keys.length kc8, .slice la8 y.l.length lc8] 25 ∧ Ext w wx ∧ w.heap.size + 4 ≤ wx.heap.size) ⟨Bxt, Bxt, Bxt, Bxt, Hain.out.ext Xt, Hst.out.ext Xt, Hin8.out.ext Xt, Bxt, Xt, by (try simp); omega⟩ ?_
                clear hB0 hB1 hB2 hB3 Hain Hst hx hzr Hin8
                rintro wc ⟨hB0, hB1, hB2, hB3, hain, hst, hin8, hB8, hx, hzr⟩
                have Hain := Lib.hid hain
                have Hst := Lib.hid hst
                have Hin8 := Lib.hid hin8
                clear hain hst hin8
                have hc3 := hB3.cells; have hf3 := hB3.free; have hl3 := hB3.lt
                have hc8 := hB8.cells; have hf8 := hB8.free; have hl8 := hB8.lt
                go_wp2_with fail
                (refine (withR_any acc a2 c2 a3 c3 key y ka8 kc8 la8 lc8 SS _ hacz (sound_obj Hac.out.1 Hac.out.2.1).k5 (sound_obj Hac.out.1 Hac.out.2.1).len (sound_obj Hac.out.1 Hac.out.2.1).n0 (sound_obj Hac.out.1 Hac.out.2.1).s0 (sound_obj Hac.out.1 Hac.out.2.1).rise (Hain.out.ext Xt) (Hin8.out.ext Xt)).mono ?_)
                rw [Hacc2.out]
                rintro e w6 ⟨ka6, kc6, la6, lc6, rfl, hin6, h1⟩
                have Hin6 := Lib.hid (show acc2.In w6 SS ka6 kc6 la6 lc6 from hin6.mono fun q h _ => by rcases h with h | h; exact h; exact HSn.out q (by (try simp at h); omega))
                clear hin6
                clear hc3 hf3 hl3 hc8 hf8 hl8
                have hB0 := Box.ext h1 hB0
                have hB1 := Box.ext h1 hB1
                have hB2 := Box.ext h1 hB2
                have hB3 := Box.ext h1 hB3
                have Hain := Lib.hid (Hain.out.ext h1)
                have Hst := Lib.hid (Hst.out.ext h1)
                have hx := hx.trans h1
                have hzr := Nat.le_trans hzr h1.size
                clear h1
                have hc3 := hB3.cells; have hf3 := hB3.free; have hl3 := hB3.lt
                go_upto_region 15 with fail
                obtain ⟨wy, hwy⟩ : ∃ wy, (((((w6.setCell ⟨w.heap.size + 1 + 1 + 1, 0, none⟩ (Value.int .i64 acc2.k)).setCell ⟨w.heap.size + 1 + 1 + 1, 1, none⟩ (Value.int .i64 acc2.n)).setCell ⟨w.heap.size + 1 + 1 + 1, 2, none⟩ (Value.string acc2.s)).setCell ⟨w.heap.size + 1 + 1 + 1, 3, none⟩ (Value.slice ka6 acc2.keys.length kc6)).setCell ⟨w.heap.size + 1 + 1 + 1, 4, none⟩ (Value.slice la6 acc2.l.length lc6)) = wy := ⟨_, rfl⟩
                have hB0y : Box wy w.heap.size #[.int .i64 a.k, .int .i64 a.n, .string a.s, .slice ka a.keys.length kc, .slice la a.l.length lc] 25 := by rw [← hwy]; exact Bxt
                have hB1y : Box wy (w.heap.size + 1) #[.int .i64 b.k, .int .i64 b.n, .string b.s, .slice kb b.keys.length kd, .slice lb b.l.length ld] 25 := by rw [← hwy]; exact Bxt
                have hB2y : Box wy (w.heap.size + 2) #[.int .i64 0, .int .i64 0, .string ⟨#[]⟩, .slice none 0 0, .slice none 0 0] 25 := by rw [← hwy]; exact Bxt
                have hB3y : Box wy (w.heap.size + 3) #[.int .i64 acc2.k, .int .i64 acc2.n, .string acc2.s, .slice ka6 acc2.keys.length kc6, .slice la6 acc2.l.length lc6] 25 := by rw [← hwy]; exact Box.to (((((hB3.set 0 (.int .i64 acc2.k)).set 1 (.int .i64 acc2.n)).set 2 (.string acc2.s)).set 3 (.slice ka6 acc2.keys.length kc6)).set 4 (.slice la6 acc2.l.length lc6)) (by simp)
                have hhy : Held (fun q => q ≠ w.heap.size + 3) w6 wy := by rw [← hwy]; exact Hxt
                have hxy : Ext w wy := by rw [← hwy]; exact Xt
                rw [hwy]
                have Hin6 := Lib.hid (Hin6.out.keep (Held.kept (Held.mono hhy (fun q h => HSo.out q h))) (fun _ h _ => h))
                have Hst6 := Lib.hid (Hst.out.keep (Held.kept (Held.mono hhy (T := fun q => w.heap.size + 4 ≤ q) (fun q h => by simp; omega))) (fun _ h _ => h))
                have hzy := hhy.size
                clear hwy hhy hc3 hf3 hl3
                go_wp2_with fail
                go_roundg (ks.length - (k + 1))
                case measure => omega
                case rel => exact ⟨k + 1, acc2, ka6, kc6, la6, lc6, by omega, by go_num, rfl, Hn2, Hfa2, Hin6, Hst6, hB0y, hB1y, hB2y, hB3y, hxy, by omega⟩
            · rcases hmo with ⟨x, hma⟩ | hma
              · skip
                have Hma := Lib.hid hma
                have Hmb := Lib.hid hmb
                obtain ⟨acc2, hacc2⟩ : ∃ acc2, acc.put key V.zero = acc2 := ⟨_, rfl⟩
                have Hacc2 := Lib.hid hacc2
                have hst : a.fstep b key acc = acc2 := by unfold V.fstep; rw [hmb]; exact hacc2
                have Hn2 := Lib.hid (Hn.out.trans hst)
                have Hfa2 := Lib.hid (show acc2.sound ∧ acc2.k = 5 ∧ acc2.count ≤ 1 + 14520 * (k + 1) by
                  have h := Hfa.out
                  rw [hst] at h
                  exact ⟨h.1, h.2.1, by omega⟩)
                clear Hn Hfa hst hacc2
                clear hma hmb
                go_wp2_with fail
                (refine (memberOf_some Hma.out ka kc la lc SS _ (by omega) (Hin.out.ext Xt)).mono ?_)
                rintro e w1 ⟨ka7, kc7, la7, lc7, rfl, hin7, h1⟩
                have Hin7 := Lib.hid (show x.In w1 SS ka7 kc7 la7 lc7 from hin7.mono fun q h _ => by rcases h with h | h; exact h; exact HSn.out q (by (try simp at h); omega))
                clear hin7
                clear hc0 hf0 hl0
                have hB0 := Box.ext h1 hB0
                have hB1 := Box.ext h1 hB1
                have hB2 := Box.ext h1 hB2
                have hB3 := Box.ext h1 hB3
                have Hain := Lib.hid (Hain.out.ext h1)
                have Hst := Lib.hid (Hst.out.ext h1)
                have hx := hx.trans h1
                have hzr := Nat.le_trans hzr h1.size
                clear h1
                have hB7 : Box (w1.alloc (.cells #[.int .i64 x.k, .int .i64 x.n, .string x.s, .slice ka7 x.keys.length kc7, .slice la7 x.l.length lc7] 25)) w1.heap.size #[.int .i64 x.k, .int .i64 x.n, .string x.s, .slice ka7 x.keys.length kc7, .slice la7 x.l.length lc7] 25 := Box.new _ _ _ rfl
                clear hB7
                go_upto_region 8 with fail
                refine gen_world (R := fun wx => Box wx w.heap.size #[.int .i64 a.k, .int .i64 a.n, .string a.s, .slice ka a.keys.length kc, .slice la a.l.length lc] 25 ∧ Box wx (w.heap.size + 1) #[.int .i64 b.k, .int .i64 b.n, .string b.s, .slice kb b.keys.length kd, .slice lb b.l.length ld] 25 ∧ Box wx (w.heap.size + 2) #[.int .i64 0, .int .i64 0, .string ⟨#[]⟩, .slice none 0 0, .slice none 0 0] 25 ∧ Box wx (w.heap.size + 3) #[.int .i64 acc.k, .int .i64 acc.n, .string acc.s, .slice a2 acc.keys.length c2, .slice a3 acc.l.length c3] 25 ∧ acc.In wx SS a2 c2 a3 c3 ∧ StrsIn wx (fun q => w.heap.size + 4 ≤ q) (some ⟨bk, ok, none⟩) ks ∧ x.In wx SS ka7 kc7 la7 lc7 ∧ Box wx w1.heap.size #[.int .i64 x.k, .int .i64 x.n, .string x.s, .slice ka7 x.keys.length kc7, .slice la7 x.l.length lc7] 25 ∧ Ext w wx ∧ w.heap.size + 4 ≤ wx.heap.size) ⟨Bxt, Bxt, Bxt, Bxt, Hain.out.ext Xt, Hst.out.ext Xt, Hin7.out.ext Xt, Bxt, Xt, by (try simp); omega⟩ ?_
                clear hB0 hB1 hB2 hB3 Hain Hst hx hzr Hin7
                rintro wb ⟨hB0, hB1, hB2, hB3, hain, hst, hin7, hB7, hx, hzr⟩
                have Hain := Lib.hid hain
                have Hst := Lib.hid hst
                have Hin7 := Lib.hid hin7
                clear hain hst hin7
                have hc1 := hB1.cells; have hf1 := hB1.free; have hl1 := hB1.lt
                go_wp2_with fail
                (refine (memberOf_none Hmb.out kb kd lb ld SS _ (by omega) (Hjn.out.ext Xt)).mono ?_)
                rintro e w2 ⟨rfl, h1⟩
                clear hc1 hf1 hl1
                have hB0 := Box.ext h1 hB0
                have hB1 := Box.ext h1 hB1
                have hB2 := Box.ext h1 hB2
                have hB3 := Box.ext h1 hB3
                have Hain := Lib.hid (Hain.out.ext h1)
                have Hst := Lib.hid (Hst.out.ext h1)
                have Hin7 := Lib.hid (Hin7.out.ext h1)
                have hB7 := Box.ext h1 hB7
                have hx := hx.trans h1
                have hzr := Nat.le_trans hzr h1.size
                clear h1
                go_upto_region 10 with fail
                refine gen_world (R := fun wx => Box wx w.heap.size #[.int .i64 a.k, .int .i64 a.n, .string a.s, .slice ka a.keys.length kc, .slice la a.l.length lc] 25 ∧ Box wx (w.heap.size + 1) #[.int .i64 b.k, .int .i64 b.n, .string b.s, .slice kb b.keys.length kd, .slice lb b.l.length ld] 25 ∧ Box wx (w.heap.size + 2) #[.int .i64 0, .int .i64 0, .string ⟨#[]⟩, .slice none 0 0, .slice none 0 0] 25 ∧ Box wx (w.heap.size + 3) #[.int .i64 acc.k, .int .i64 acc.n, .string acc.s, .slice a2 acc.keys.length c2, .slice a3 acc.l.length c3] 25 ∧ acc.In wx SS a2 c2 a3 c3 ∧ StrsIn wx (fun q => w.heap.size + 4 ≤ q) (some ⟨bk, ok, none⟩) ks ∧ x.In wx SS ka7 kc7 la7 lc7 ∧ Box wx w1.heap.size #[.int .i64 x.k, .int .i64 x.n, .string x.s, .slice ka7 x.keys.length kc7, .slice la7 x.l.length lc7] 25 ∧ Ext w wx ∧ w.heap.size + 4 ≤ wx.heap.size) ⟨Bxt, Bxt, Bxt, Bxt, Hain.out.ext Xt, Hst.out.ext Xt, Hin7.out.ext Xt, Bxt, Xt, by (try simp); omega⟩ ?_
                clear hB0 hB1 hB2 hB3 Hain Hst hx hzr Hin7 hB7
                rintro wc ⟨hB0, hB1, hB2, hB3, hain, hst, hin7, hB7, hx, hzr⟩
                have Hain := Lib.hid hain
                have Hst := Lib.hid hst
                have Hin7 := Lib.hid hin7
                clear hain hst hin7
                have hc3 := hB3.cells; have hf3 := hB3.free; have hl3 := hB3.lt
                go_wp2_with fail
                (refine (withR_any acc a2 c2 a3 c3 key V.zero none 0 none 0 SS _ hacz (sound_obj Hac.out.1 Hac.out.2.1).k5 (sound_obj Hac.out.1 Hac.out.2.1).len (sound_obj Hac.out.1 Hac.out.2.1).n0 (sound_obj Hac.out.1 Hac.out.2.1).s0 (sound_obj Hac.out.1 Hac.out.2.1).rise (Hain.out.ext Xt) (V.zero_in _ _)).mono ?_)
                rw [Hacc2.out]
                rintro e w6 ⟨ka6, kc6, la6, lc6, rfl, hin6, h1⟩
                have Hin6 := Lib.hid (show acc2.In w6 SS ka6 kc6 la6 lc6 from hin6.mono fun q h _ => by rcases h with h | h; exact h; exact HSn.out q (by (try simp at h); omega))
                clear hin6
                clear hc3 hf3 hl3
                have hB0 := Box.ext h1 hB0
                have hB1 := Box.ext h1 hB1
                have hB2 := Box.ext h1 hB2
                have hB3 := Box.ext h1 hB3
                have Hain := Lib.hid (Hain.out.ext h1)
                have Hst := Lib.hid (Hst.out.ext h1)
                have hx := hx.trans h1
                have hzr := Nat.le_trans hzr h1.size
                clear h1
                have hc3 := hB3.cells; have hf3 := hB3.free; have hl3 := hB3.lt
                go_upto_region 15 with fail
                obtain ⟨wy, hwy⟩ : ∃ wy, (((((w6.setCell ⟨w.heap.size + 1 + 1 + 1, 0, none⟩ (Value.int .i64 acc2.k)).setCell ⟨w.heap.size + 1 + 1 + 1, 1, none⟩ (Value.int .i64 acc2.n)).setCell ⟨w.heap.size + 1 + 1 + 1, 2, none⟩ (Value.string acc2.s)).setCell ⟨w.heap.size + 1 + 1 + 1, 3, none⟩ (Value.slice ka6 acc2.keys.length kc6)).setCell ⟨w.heap.size + 1 + 1 + 1, 4, none⟩ (Value.slice la6 acc2.l.length lc6)) = wy := ⟨_, rfl⟩
                have hB0y : Box wy w.heap.size #[.int .i64 a.k, .int .i64 a.n, .string a.s, .slice ka a.keys.length kc, .slice la a.l.length lc] 25 := by rw [← hwy]; exact Bxt
                have hB1y : Box wy (w.heap.size + 1) #[.int .i64 b.k, .int .i64 b.n, .string b.s, .slice kb b.keys.length kd, .slice lb b.l.length ld] 25 := by rw [← hwy]; exact Bxt
                have hB2y : Box wy (w.heap.size + 2) #[.int .i64 0, .int .i64 0, .string ⟨#[]⟩, .slice none 0 0, .slice none 0 0] 25 := by rw [← hwy]; exact Bxt
                have hB3y : Box wy (w.heap.size + 3) #[.int .i64 acc2.k, .int .i64 acc2.n, .string acc2.s, .slice ka6 acc2.keys.length kc6, .slice la6 acc2.l.length lc6] 25 := by rw [← hwy]; exact Box.to (((((hB3.set 0 (.int .i64 acc2.k)).set 1 (.int .i64 acc2.n)).set 2 (.string acc2.s)).set 3 (.slice ka6 acc2.keys.length kc6)).set 4 (.slice la6 acc2.l.length lc6)) (by simp)
                have hhy : Held (fun q => q ≠ w.heap.size + 3) w6 wy := by rw [← hwy]; exact Hxt
                have hxy : Ext w wy := by rw [← hwy]; exact Xt
                rw [hwy]
                have Hin6 := Lib.hid (Hin6.out.keep (Held.kept (Held.mono hhy (fun q h => HSo.out q h))) (fun _ h _ => h))
                have Hst6 := Lib.hid (Hst.out.keep (Held.kept (Held.mono hhy (T := fun q => w.heap.size + 4 ≤ q) (fun q h => by simp; omega))) (fun _ h _ => h))
                have hzy := hhy.size
                clear hwy hhy hc3 hf3 hl3
                go_wp2_with fail
                go_roundg (ks.length - (k + 1))
                case measure => omega
                case rel => exact ⟨k + 1, acc2, ka6, kc6, la6, lc6, by omega, by go_num, rfl, Hn2, Hfa2, Hin6, Hst6, hB0y, hB1y, hB2y, hB3y, hxy, by omega⟩
              · skip
                have Hma := Lib.hid hma
                have Hmb := Lib.hid hmb
                obtain ⟨acc2, hacc2⟩ : ∃ acc2, acc.put key V.zero = acc2 := ⟨_, rfl⟩
                have Hacc2 := Lib.hid hacc2
                have hst : a.fstep b key acc = acc2 := by unfold V.fstep; rw [hmb]; exact hacc2
                have Hn2 := Lib.hid (Hn.out.trans hst)
                have Hfa2 := Lib.hid (show acc2.sound ∧ acc2.k = 5 ∧ acc2.count ≤ 1 + 14520 * (k + 1) by
                  have h := Hfa.out
                  rw [hst] at h
                  exact ⟨h.1, h.2.1, by omega⟩)
                clear Hn Hfa hst hacc2
                clear hma hmb
                go_wp2_with fail
                (refine (memberOf_none Hma.out ka kc la lc SS _ (by omega) (Hin.out.ext Xt)).mono ?_)
                rintro e w1 ⟨rfl, h1⟩
                clear hc0 hf0 hl0
                have hB0 := Box.ext h1 hB0
                have hB1 := Box.ext h1 hB1
                have hB2 := Box.ext h1 hB2
                have hB3 := Box.ext h1 hB3
                have Hain := Lib.hid (Hain.out.ext h1)
                have Hst := Lib.hid (Hst.out.ext h1)
                have hx := hx.trans h1
                have hzr := Nat.le_trans hzr h1.size
                clear h1
                go_upto_region 8 with fail
                refine gen_world (R := fun wx => Box wx w.heap.size #[.int .i64 a.k, .int .i64 a.n, .string a.s, .slice ka a.keys.length kc, .slice la a.l.length lc] 25 ∧ Box wx (w.heap.size + 1) #[.int .i64 b.k, .int .i64 b.n, .string b.s, .slice kb b.keys.length kd, .slice lb b.l.length ld] 25 ∧ Box wx (w.heap.size + 2) #[.int .i64 0, .int .i64 0, .string ⟨#[]⟩, .slice none 0 0, .slice none 0 0] 25 ∧ Box wx (w.heap.size + 3) #[.int .i64 acc.k, .int .i64 acc.n, .string acc.s, .slice a2 acc.keys.length c2, .slice a3 acc.l.length c3] 25 ∧ acc.In wx SS a2 c2 a3 c3 ∧ StrsIn wx (fun q => w.heap.size + 4 ≤ q) (some ⟨bk, ok, none⟩) ks ∧ Ext w wx ∧ w.heap.size + 4 ≤ wx.heap.size) ⟨Bxt, Bxt, Bxt, Bxt, Hain.out.ext Xt, Hst.out.ext Xt, Xt, by (try simp); omega⟩ ?_
                clear hB0 hB1 hB2 hB3 Hain Hst hx hzr 
                rintro wb ⟨hB0, hB1, hB2, hB3, hain, hst, hx, hzr⟩
                have Hain := Lib.hid hain
                have Hst := Lib.hid hst
                clear hain hst
                have hc1 := hB1.cells; have hf1 := hB1.free; have hl1 := hB1.lt
                go_wp2_with fail
                (refine (memberOf_none Hmb.out kb kd lb ld SS _ (by omega) (Hjn.out.ext Xt)).mono ?_)
                rintro e w2 ⟨rfl, h1⟩
                clear hc1 hf1 hl1
                have hB0 := Box.ext h1 hB0
                have hB1 := Box.ext h1 hB1
                have hB2 := Box.ext h1 hB2
                have hB3 := Box.ext h1 hB3
                have Hain := Lib.hid (Hain.out.ext h1)
                have Hst := Lib.hid (Hst.out.ext h1)
                have hx := hx.trans h1
                have hzr := Nat.le_trans hzr h1.size
                clear h1
                go_upto_region 10 with fail
                refine gen_world (R := fun wx => Box wx w.heap.size #[.int .i64 a.k, .int .i64 a.n, .string a.s, .slice ka a.keys.length kc, .slice la a.l.length lc] 25 ∧ Box wx (w.heap.size + 1) #[.int .i64 b.k, .int .i64 b.n, .string b.s, .slice kb b.keys.length kd, .slice lb b.l.length ld] 25 ∧ Box wx (w.heap.size + 2) #[.int .i64 0, .int .i64 0, .string ⟨#[]⟩, .slice none 0 0, .slice none 0 0] 25 ∧ Box wx (w.heap.size + 3) #[.int .i64 acc.k, .int .i64 acc.n, .string acc.s, .slice a2 acc.keys.length c2, .slice a3 acc.l.length c3] 25 ∧ acc.In wx SS a2 c2 a3 c3 ∧ StrsIn wx (fun q => w.heap.size + 4 ≤ q) (some ⟨bk, ok, none⟩) ks ∧ Ext w wx ∧ w.heap.size + 4 ≤ wx.heap.size) ⟨Bxt, Bxt, Bxt, Bxt, Hain.out.ext Xt, Hst.out.ext Xt, Xt, by (try simp); omega⟩ ?_
                clear hB0 hB1 hB2 hB3 Hain Hst hx hzr 
                rintro wc ⟨hB0, hB1, hB2, hB3, hain, hst, hx, hzr⟩
                have Hain := Lib.hid hain
                have Hst := Lib.hid hst
                clear hain hst
                have hc3 := hB3.cells; have hf3 := hB3.free; have hl3 := hB3.lt
                go_wp2_with fail
                (refine (withR_any acc a2 c2 a3 c3 key V.zero none 0 none 0 SS _ hacz (sound_obj Hac.out.1 Hac.out.2.1).k5 (sound_obj Hac.out.1 Hac.out.2.1).len (sound_obj Hac.out.1 Hac.out.2.1).n0 (sound_obj Hac.out.1 Hac.out.2.1).s0 (sound_obj Hac.out.1 Hac.out.2.1).rise (Hain.out.ext Xt) (V.zero_in _ _)).mono ?_)
                rw [Hacc2.out]
                rintro e w6 ⟨ka6, kc6, la6, lc6, rfl, hin6, h1⟩
                have Hin6 := Lib.hid (show acc2.In w6 SS ka6 kc6 la6 lc6 from hin6.mono fun q h _ => by rcases h with h | h; exact h; exact HSn.out q (by (try simp at h); omega))
                clear hin6
                clear hc3 hf3 hl3
                have hB0 := Box.ext h1 hB0
                have hB1 := Box.ext h1 hB1
                have hB2 := Box.ext h1 hB2
                have hB3 := Box.ext h1 hB3
                have Hain := Lib.hid (Hain.out.ext h1)
                have Hst := Lib.hid (Hst.out.ext h1)
                have hx := hx.trans h1
                have hzr := Nat.le_trans hzr h1.size
                clear h1
                have hc3 := hB3.cells; have hf3 := hB3.free; have hl3 := hB3.lt
                go_upto_region 15 with fail
                obtain ⟨wy, hwy⟩ : ∃ wy, (((((w6.setCell ⟨w.heap.size + 1 + 1 + 1, 0, none⟩ (Value.int .i64 acc2.k)).setCell ⟨w.heap.size + 1 + 1 + 1, 1, none⟩ (Value.int .i64 acc2.n)).setCell ⟨w.heap.size + 1 + 1 + 1, 2, none⟩ (Value.string acc2.s)).setCell ⟨w.heap.size + 1 + 1 + 1, 3, none⟩ (Value.slice ka6 acc2.keys.length kc6)).setCell ⟨w.heap.size + 1 + 1 + 1, 4, none⟩ (Value.slice la6 acc2.l.length lc6)) = wy := ⟨_, rfl⟩
                have hB0y : Box wy w.heap.size #[.int .i64 a.k, .int .i64 a.n, .string a.s, .slice ka a.keys.length kc, .slice la a.l.length lc] 25 := by rw [← hwy]; exact Bxt
                have hB1y : Box wy (w.heap.size + 1) #[.int .i64 b.k, .int .i64 b.n, .string b.s, .slice kb b.keys.length kd, .slice lb b.l.length ld] 25 := by rw [← hwy]; exact Bxt
                have hB2y : Box wy (w.heap.size + 2) #[.int .i64 0, .int .i64 0, .string ⟨#[]⟩, .slice none 0 0, .slice none 0 0] 25 := by rw [← hwy]; exact Bxt
                have hB3y : Box wy (w.heap.size + 3) #[.int .i64 acc2.k, .int .i64 acc2.n, .string acc2.s, .slice ka6 acc2.keys.length kc6, .slice la6 acc2.l.length lc6] 25 := by rw [← hwy]; exact Box.to (((((hB3.set 0 (.int .i64 acc2.k)).set 1 (.int .i64 acc2.n)).set 2 (.string acc2.s)).set 3 (.slice ka6 acc2.keys.length kc6)).set 4 (.slice la6 acc2.l.length lc6)) (by simp)
                have hhy : Held (fun q => q ≠ w.heap.size + 3) w6 wy := by rw [← hwy]; exact Hxt
                have hxy : Ext w wy := by rw [← hwy]; exact Xt
                rw [hwy]
                have Hin6 := Lib.hid (Hin6.out.keep (Held.kept (Held.mono hhy (fun q h => HSo.out q h))) (fun _ h _ => h))
                have Hst6 := Lib.hid (Hst.out.keep (Held.kept (Held.mono hhy (T := fun q => w.heap.size + 4 ≤ q) (fun q h => by simp; omega))) (fun _ h _ => h))
                have hzy := hhy.size
                clear hwy hhy hc3 hf3 hl3
                go_wp2_with fail
                go_roundg (ks.length - (k + 1))
                case measure => omega
                case rel => exact ⟨k + 1, acc2, ka6, kc6, la6, lc6, by omega, by go_num, rfl, Hn2, Hfa2, Hin6, Hst6, hB0y, hB1y, hB2y, hB3y, hxy, by omega⟩
          · have Hfin := Lib.hid (show b.dif a = acc by
              have h := Hacc.out
              rw [List.take_of_length_le (by omega)] at h
              rw [← Hend.out, Hks.out, h])
            have hc3 := hB3.cells; have hf3 := hB3.free; have hl3 := hB3.lt
            have hc2 := hB2.cells; have hf2 := hB2.free; have hl2 := hB2.lt
            go_wp2_with fail
            (with_reducible apply bp_ret); (focus (go_light; simp [results, Tryz.results104, go_sem, *]; rfl))
            rw [Hfin.out]
            exact ⟨a2, c2, a3, c3, rfl, (Hain.out.keep (Held.kept (Held.mono (a := wr) (S := fun q => q ≠ w.heap.size + 2) Hxt (fun q h => HSr.out q h))) (fun _ h _ => h)).mono (fun q h _ => HSp.out q h), Xt⟩
      · have b5b : (b.k != 5) = true := by simpa using b5
        have b5c : (b.k == 5) = false := by simpa using b5
        have Hend := Lib.hid (show b.dif a = b by rw [dif_eq, if_pos (.inr b5)])
        clear a5 b5 ha hb
        go_enter Tryz.func104, Tryz.ntmps104
        go_wp2_with fail
        (with_reducible apply bp_ret); (focus (go_light; simp [results, Tryz.results104, go_sem, *]; rfl))
        rw [Hend.out]
        exact ⟨kb, kd, lb, ld, rfl, (Hjn.out.ext Xt).mono (fun q h _ => HSp.out q h), Xt⟩
    · have a5b : (a.k != 5) = true := by simpa using a5
      have a5c : (a.k == 5) = false := by simpa using a5
      have Hend := Lib.hid (show b.dif a = b by rw [dif_eq, if_pos (.inl a5)])
      clear a5 ha hb
      go_enter Tryz.func104, Tryz.ntmps104
      go_wp2_with fail
      (with_reducible apply bp_ret); (focus (go_light; simp [results, Tryz.results104, go_sem, *]; rfl))
      rw [Hend.out]
      exact ⟨kb, kd, lb, ld, rfl, (Hjn.out.ext Xt).mono (fun q h _ => HSp.out q h), Xt⟩
end Go.Proofs.YtnbappeiebameaaGreatDoor
