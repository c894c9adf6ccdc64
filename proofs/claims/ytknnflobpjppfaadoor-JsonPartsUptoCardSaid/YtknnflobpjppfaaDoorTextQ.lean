/- What is printed is read as it: plain. No program in sight. -/
import Derived.Test.YtknnflobpjppfaaDoorTextP
set_option linter.all false
namespace Go.Proofs.YtknnflobpjppfaaDoor

/-! Numbers. -/
theorem pu_app : ∀ (l r : List UInt8) (acc v : Nat), Lib.parseUint10 acc l = .ok v → Lib.parseUint10 acc (l ++ r) = Lib.parseUint10 v r
  | [], r, acc, v, h => by simp only [Lib.parseUint10, Lib.NumEnd.ok.injEq] at h; subst h; rfl
  | c :: l, r, acc, v, h => by
    simp only [Lib.parseUint10, List.cons_append] at h ⊢
    split at h
    · rename_i hc
      rw [if_pos hc]
      split at h
      · cases h
      · rename_i h1
        rw [if_neg h1]
        split at h
        · cases h
        · rename_i h2
          rw [if_neg h2]
          exact pu_app l r _ v h
    · cases h
theorem dg_nat {u : Nat} (h : u < 10) : (UInt8.ofNat (48 + u)).toNat = 48 + u := by
  rw [UInt8.toNat_ofNat']; omega
theorem pu_one {acc u : Nat} (h : u < 10) (ha : acc * 10 + u < 1000000000000000000) : Lib.parseUint10 acc [UInt8.ofNat (48 + u)] = .ok (acc * 10 + u) := by
  have e := dg_nat h
  simp only [Lib.parseUint10, e]
  rw [if_pos (by omega), if_neg (by omega), if_neg (by omega)]
  congr 1; omega
theorem pu_dec (u : Nat) (h : u < 1000000000000000000) : Lib.parseUint10 0 (Lib.decDigits u) = .ok u := by
  induction u using Nat.strongRecOn with
  | _ u ih =>
    by_cases hu : u < 10
    · rw [Lib.decDigits, dif_pos hu, pu_one hu (by omega)]; simp
    · rw [Lib.decDigits, dif_neg hu, pu_app _ _ _ _ (ih (u / 10) (by omega) (by omega)), pu_one (by omega) (by omega)]
      congr 1; omega
theorem dec_dg (u : Nat) : ∀ c ∈ Lib.decDigits u, isDg c = true := by
  induction u using Nat.strongRecOn with
  | _ u ih =>
    by_cases hu : u < 10
    · rw [Lib.decDigits, dif_pos hu]
      intro c hc
      obtain rfl := List.mem_singleton.1 hc
      simp [isDg, dg_nat hu]; omega
    · rw [Lib.decDigits, dif_neg hu]
      intro c hc
      rcases List.mem_append.1 hc with hc | hc
      · exact ih (u / 10) (by omega) c hc
      · obtain rfl := List.mem_singleton.1 hc
        have := dg_nat (u := u % 10) (by omega)
        simp [isDg, this]; omega
theorem dec_cons (u : Nat) : ∃ c t, Lib.decDigits u = c :: t ∧ isDg c = true := by
  cases h : Lib.decDigits u with
  | nil => have := Lib.decDigits_length u; have := Lib.nDigits_pos u; rw [h] at *; simp at *; omega
  | cons c t => exact ⟨c, t, rfl, dec_dg u c (by rw [h]; simp)⟩
theorem dec_len : ∀ (k u : Nat), u < 10 ^ (k + 1) → Lib.nDigits u ≤ k + 1
  | 0, u, h => by rw [Lib.nDigits_small (by simpa using h)]; omega
  | k + 1, u, h => by
    by_cases hu : u < 10
    · rw [Lib.nDigits_small hu]; omega
    · rw [Lib.nDigits_big hu]
      have := dec_len k (u / 10) (by rw [Nat.pow_succ] at h; omega)
      omega
theorem isDg_iff {c : UInt8} : isDg c = true ↔ 48 ≤ c.toNat ∧ c.toNat ≤ 57 := by simp [isDg]
theorem atoi_itoa (n : Int) (h0 : -9007199254740992 ≤ n) (h1 : n ≤ 9007199254740992) : Lib.atoiAll (Lib.itoa n) = .ok n := by
  unfold Lib.itoa
  by_cases hn : n < 0
  · rw [if_pos hn]
    obtain ⟨c, t, he, -⟩ := dec_cons n.natAbs
    have hp := pu_dec n.natAbs (by omega)
    unfold Lib.atoiAll
    simp only [show (45 : UInt8).toNat = 45 from rfl, or_true, if_true, Lib.parseMag]
    rw [if_neg (by rw [he]; simp), hp]
    simp only [not_true_eq_false, false_and, if_false, true_and, if_true]
    rw [if_neg (by omega)]
    congr 1; omega
  · rw [if_neg hn]
    obtain ⟨c, t, he, hc⟩ := dec_cons n.toNat
    have hp := pu_dec n.toNat (by omega)
    rw [isDg_iff] at hc
    rw [he] at hp ⊢
    unfold Lib.atoiAll
    simp only
    rw [if_neg (by omega)]
    simp only [Lib.parseMag]
    rw [if_neg (by simp), hp]
    simp only
    rw [if_neg (by omega), if_neg (by omega), if_neg (by omega)]
    congr 1; omega

/-- No digit stands in front. -/
def Stop (s : Bytes) : Prop := ∀ c t, s = c :: t → isDg c = false
theorem takeWhile_dg {l r : Bytes} (h : ∀ c ∈ l, isDg c = true) (hr : Stop r) : (l ++ r).takeWhile isDg = l := by
  induction l with
  | nil =>
    cases r with
    | nil => rfl
    | cons c t => simp [hr c t rfl]
  | cons a l ih => rw [List.cons_append, List.takeWhile_cons, if_pos (h a (by simp)), ih (fun c hc => h c (by simp [hc]))]
theorem numN_itoa (n : Int) {r : Bytes} (hr : Stop r) : numN (Lib.itoa n ++ r) = (Lib.itoa n).length := by
  unfold Lib.itoa
  by_cases hn : n < 0
  · rw [if_pos hn]
    simp only [List.cons_append, numN, List.length_cons]
    rw [takeWhile_dg (dec_dg _) hr]
  · rw [if_neg hn]
    obtain ⟨c, t, he, hc⟩ := dec_cons n.toNat
    have h1 := takeWhile_dg (dec_dg n.toNat) hr
    rw [isDg_iff] at hc
    rw [he] at h1 ⊢
    unfold numN
    split
    · rename_i t' heq
      simp only [List.cons_append, List.cons.injEq] at heq
      rw [heq.1] at hc; simp at hc
    · rw [h1]
theorem itoa_len {n : Int} (h0 : -9007199254740992 ≤ n) (h1 : n ≤ 9007199254740992) : (Lib.itoa n).length ≤ 17 := by
  unfold Lib.itoa
  split
  · rw [List.length_cons, Lib.decDigits_length]
    have := dec_len 15 n.natAbs (by omega)
    omega
  · rw [Lib.decDigits_length]
    have := dec_len 15 n.toNat (by omega)
    omega
theorem numL_itoa {n : Int} (h0 : -9007199254740992 ≤ n) (h1 : n ≤ 9007199254740992) {r : Bytes} (hr : Stop r) : numL (Lib.itoa n ++ r) = some (n, r) := by
  unfold numL
  rw [numN_itoa n hr, if_neg (by have := itoa_len h0 h1; omega), List.take_left', List.drop_left', atoi_itoa n h0 h1]
  · simp [h0, h1]
  · rfl
  · rfl
theorem itoa_cons (n : Int) : ∃ c t, Lib.itoa n = c :: t ∧ (c = 45 ∨ isDg c = true) := by
  unfold Lib.itoa
  split
  · exact ⟨_, _, rfl, .inl rfl⟩
  · obtain ⟨c, t, he, hc⟩ := dec_cons n.toNat
    exact ⟨c, t, he, .inr hc⟩

/-! Texts. -/
theorem hexV_hexC : ∀ n, n < 16 → hexV (hexC n) = some n := by decide
theorem u8_eta (c : UInt8) : UInt8.ofNat c.toNat = c := by apply UInt8.toNat_inj.1; simp
theorem escM_self {c : UInt8} (h : c = 34 ∨ c = 92) : escM c = some c := by rcases h with rfl | rfl <;> rfl
theorem esc_read {c : UInt8} (hc : c.toNat < 128) (f : Nat) (t b : Bytes) (hb : b.length ≤ 60) : textL (f + 1) (escC c ++ t) b = textL f t (b ++ [c]) := by
  have hb' : ¬ 60 < b.length := by omega
  have two : ∀ m d : UInt8, escM d = some m → textL (f + 1) ([92, d] ++ t) b = textL f t (b ++ [m]) := by
    intro m d h
    simp only [List.cons_append, List.nil_append, textL]
    rw [if_neg (by simp [hb']), if_neg (by decide), if_pos trivial]
    simp only [escL, h, Option.bind_some]
  unfold escC
  split
  · rename_i h; exact two c c (escM_self h)
  · rename_i h1
    split
    · rename_i h; subst h; exact two 8 98 rfl
    · split
      · rename_i h; subst h; exact two 12 102 rfl
      · split
        · rename_i h; subst h; exact two 10 110 rfl
        · split
          · rename_i h; subst h; exact two 13 114 rfl
          · split
            · rename_i h; subst h; exact two 9 116 rfl
            · split
              · have hx1 := hexV_hexC (c.toNat / 16) (by omega)
                have hx2 := hexV_hexC (c.toNat % 16) (by omega)
                have hx0 : hexV 48 = some 0 := rfl
                simp only [List.cons_append, List.nil_append, textL]
                rw [if_neg (by simp [hb']), if_neg (by decide), if_pos trivial]
                have hm : escM 117 = none := rfl
                simp only [escL, hm, if_true, hex4, hx0, hx1, hx2, Option.bind_some]
                rw [if_pos (by omega)]
                simp only [Option.bind_some]
                rw [show ((0 * 16 + 0) * 16 + c.toNat / 16) * 16 + c.toNat % 16 = c.toNat by omega, u8_eta]
              · rename_i h2
                simp only [List.cons_append, List.nil_append, textL]
                have h127 : c.toNat ≠ 127 := fun e => h2 (.inr (UInt8.toNat_inj.1 e))
                have h3 : ¬ (c.toNat < 32 ∨ 127 ≤ c.toNat ∨ 60 < b.length) := by
                  rintro (h | h | h)
                  · exact h2 (.inl h)
                  · omega
                  · omega
                rw [if_neg h3, if_neg (fun e => h1 (.inl e)), if_neg (fun e => h1 (.inr e))]
theorem text_read : ∀ (s : Bytes) (b t : Bytes) (f : Nat), (∀ c ∈ s, c.toNat < 128) → b.length + s.length ≤ 60 → s.length < f → textL f (s.flatMap escC ++ 34 :: t) b = some (b ++ s, t)
  | [], b, t, f + 1, _, hb, _ => by
    simp only [List.flatMap_nil, List.nil_append, textL]
    simp only [List.length_nil] at hb
    have h3 : ¬ ((34 : UInt8).toNat < 32 ∨ 127 ≤ (34 : UInt8).toNat ∨ 60 < b.length) := by
      rintro (h | h | h)
      · exact absurd h (by decide)
      · exact absurd h (by decide)
      · omega
    rw [if_neg h3]
    simp
  | c :: s, b, t, f + 1, hs, hb, hf => by
    simp only [List.length_cons] at hb hf
    simp only [List.flatMap_cons, List.append_assoc]
    rw [esc_read (hs c (by simp)) f _ b (by omega), text_read s (b ++ [c]) t f (fun d hd => hs d (by simp [hd])) (by simp; omega) (by omega)]
    simp
theorem escC_pos (c : UInt8) : 1 ≤ (escC c).length := by
  unfold escC
  split
  · simp
  · split
    · simp
    · split
      · simp
      · split
        · simp
        · split
          · simp
          · split
            · simp
            · split <;> simp
theorem flat_len (s : Bytes) : s.length ≤ (s.flatMap escC).length := by
  induction s with
  | nil => simp
  | cons c s ih => have := escC_pos c; simp only [List.flatMap_cons, List.length_append, List.length_cons]; omega
theorem plain_bytes {s : ByteArray} (h : plainB s = true) : (∀ c ∈ s.data.toList, c.toNat < 128) ∧ s.data.toList.length ≤ 60 := by
  simp only [plainB, Bool.and_eq_true, List.all_eq_true, decide_eq_true_eq] at h
  refine ⟨fun c hc => by have := h.1 c hc; omega, ?_⟩
  have e : s.data.toList.length = s.size := Array.length_toList
  omega
theorem quote_read {s : ByteArray} (h : plainB s = true) (t : Bytes) : textL ((s.data.toList.flatMap escC ++ 34 :: t).length + 1) (s.data.toList.flatMap escC ++ 34 :: t) [] = some (s.data.toList, t) := by
  obtain ⟨h1, h2⟩ := plain_bytes h
  have h3 := flat_len s.data.toList
  rw [text_read _ _ _ _ h1 (by simpa using h2) (by rw [List.length_append, List.length_cons]; omega)]
  simp

/-! Values. -/
theorem spaceL_no {c : UInt8} {t : Bytes} (h : isSp c = false) : spaceL (c :: t) = c :: t := by simp [spaceL, h]
/-- What a value's text begins with. -/
def Front (s : Bytes) : Prop := ∃ c t, s = c :: t ∧ isSp c = false ∧ c ≠ 93 ∧ c ≠ 125 ∧ c ≠ 44
theorem dg_front {c : UInt8} (h : c = 45 ∨ isDg c = true) : isSp c = false ∧ c ≠ 93 ∧ c ≠ 125 ∧ c ≠ 44 ∧ c ≠ 110 ∧ c ≠ 116 ∧ c ≠ 102 ∧ c ≠ 34 := by
  rcases h with rfl | h
  · decide
  · rw [isDg_iff] at h
    have hn : ∀ d : UInt8, (d.toNat < 48 ∨ 57 < d.toNat) → c ≠ d := fun d hd e => by subst e; omega
    have e1 := hn 32 (by decide)
    have e2 := hn 9 (by decide)
    have e3 := hn 10 (by decide)
    have e4 := hn 13 (by decide)
    exact ⟨by simp [isSp, e1, e2, e3, e4], hn _ (by decide), hn _ (by decide), hn _ (by decide), hn _ (by decide), hn _ (by decide), hn _ (by decide), hn _ (by decide)⟩
theorem text_eq (x : V) : x.text = if x.k = 0 then [110, 117, 108, 108] else if x.k = 1 then (if x.n = 1 then [116, 114, 117, 101] else [102, 97, 108, 115, 101]) else if x.k = 2 then Lib.itoa x.n else if x.k = 3 then quoteL x.s.data.toList
    else if x.k = 5 then 123 :: (V.text.go true true x.keys x.l ++ [125]) else 91 :: (V.text.go false true x.keys x.l ++ [93]) := by
  cases x with | mk k n s ks l => rw [V.text]; rfl
theorem text_front (x : V) : Front x.text := by
  rw [text_eq]
  split
  · exact ⟨_, _, rfl, by decide⟩
  · split
    · split
      · exact ⟨_, _, rfl, by decide⟩
      · exact ⟨_, _, rfl, by decide⟩
    · split
      · obtain ⟨c, t, he, hc⟩ := itoa_cons x.n
        have := dg_front hc
        exact ⟨c, t, he, this.1, this.2.1, this.2.2.1, this.2.2.2.1⟩
      · split
        · exact ⟨_, _, rfl, by decide⟩
        · split
          · exact ⟨_, _, rfl, by decide⟩
          · exact ⟨_, _, rfl, by decide⟩
theorem go_nil (o first : Bool) (ks : List ByteArray) : V.text.go o first ks [] = [] := by cases o <;> cases first <;> rfl
theorem go_cons (o first : Bool) (ks : List ByteArray) (x : V) (r : List V) : V.text.go o first ks (x :: r) = (if first then [] else [44]) ++ ((if o then quoteL (ks.headD ⟨#[]⟩).data.toList ++ [58] else []) ++ (x.text ++ V.text.go o false ks.tail r)) := by rw [V.text.go]
theorem go_stop (o : Bool) (ks : List ByteArray) (r : List V) {e : UInt8} (he : isDg e = false) (rest : Bytes) : Stop (V.text.go o false ks r ++ e :: rest) := by
  intro c t h
  cases r with
  | nil => rw [go_nil] at h; cases h; exact he
  | cons x r => rw [go_cons] at h; cases h; rfl

/-- Reads what it prints, whatever stands behind, but a digit. -/
def Back (f : Nat) (x : V) : Prop := ∀ rest, Stop rest → valL f (x.text ++ rest) = some (x, rest)
theorem listL_text {f : Nat} : ∀ (r acc : List V) (ks : List ByteArray) (g : Nat) (rest : Bytes), (∀ y ∈ r, Back f y) → r.length < g → listL (valL f) g (V.text.go false acc.isEmpty ks r ++ 93 :: rest) acc = some (acc ++ r, rest)
  | [], acc, ks, g + 1, rest, _, _ => by
    rw [go_nil, List.nil_append, listL, spaceL_no (by decide)]
    simp
  | y :: r, acc, ks, g + 1, rest, hb, hg => by
    simp only [List.length_cons] at hg
    rw [go_cons]
    have hy := hb y (by simp) _ (go_stop false ks.tail r (e := 93) (by decide) rest)
    have ih := listL_text r (acc ++ [y]) ks.tail g rest (fun z hz => hb z (by simp [hz])) (by omega)
    have he : (acc ++ [y]).isEmpty = false := by simp
    rw [he] at ih
    simp only [Bool.false_eq_true, if_false, List.nil_append, List.append_assoc]
    cases acc with
    | nil =>
      obtain ⟨c, t, hc, h1, h2, -⟩ := text_front y
      simp only [List.isEmpty_nil, if_true, List.nil_append]
      rw [listL]
      have hsp : spaceL (y.text ++ (V.text.go false false ks.tail r ++ 93 :: rest)) = c :: (t ++ (V.text.go false false ks.tail r ++ 93 :: rest)) := by rw [hc, List.cons_append, spaceL_no h1]
      rw [hsp]
      simp only [if_neg h2, if_true, Option.bind_some]
      rw [← List.cons_append, ← hc, hy]
      simp only [Option.bind_some]
      rw [ih]
      simp
    | cons a acc =>
      simp only [List.isEmpty_cons, Bool.false_eq_true, if_false, List.cons_append, List.nil_append]
      rw [listL, spaceL_no (by decide)]
      simp only [show ¬ (44 : UInt8) = 93 by decide, if_false, if_true, reduceCtorEq, Option.bind_some]
      rw [hy]
      simp only [Option.bind_some, List.cons_append] at ih ⊢
      rw [ih]
      simp
theorem pos_end {ks : List ByteArray} {k : ByteArray} (h : ∀ a ∈ ks, ltS a k = true) : posOf ks k = ks.length ∧ hasB ks k = false := by
  have e : posOf ks k = ks.length := (posOf_unique (Nat.le_refl _) (fun i hi => h _ (List.getElem_mem _)) (fun h => absurd h (Nat.lt_irrefl _))).symm
  refine ⟨e, ?_⟩
  unfold hasB
  rw [e, List.getElem?_eq_none (Nat.le_refl _)]
theorem membL_text {f : Nat} {y : V} {k : ByteArray} (hk : plainB k = true) {rest : Bytes} (hy : valL f (y.text ++ rest) = some (y, rest)) : membL (valL f) (quoteL k.data.toList ++ ([58] ++ (y.text ++ rest))) = some ((k, y), rest) := by
  unfold membL quoteL
  rw [List.cons_append, spaceL_no (by decide)]
  simp only [if_true, List.append_assoc, List.cons_append, List.nil_append]
  rw [quote_read hk]
  simp only [Option.bind_some]
  rw [spaceL_no (by decide)]
  simp only [if_true, hy, Option.map_some]
theorem objL_text {f : Nat} : ∀ (r acc : List V) (ks ka : List ByteArray) (g : Nat) (rest : Bytes), (∀ y ∈ r, Back f y) → (∀ k ∈ ks, plainB k = true) → Rises (ka ++ ks) → ks.length = r.length → ka.length = acc.length → r.length < g →
    objL (valL f) g (V.text.go true acc.isEmpty ks r ++ 125 :: rest) ka acc = some ((ka ++ ks, acc ++ r), rest)
  | [], acc, ks, ka, g + 1, rest, _, _, _, hl, _, _ => by
    obtain rfl := List.eq_nil_of_length_eq_zero (by simpa using hl)
    rw [go_nil, List.nil_append, objL, spaceL_no (by decide)]
    simp
  | y :: r, acc, [], ka, g + 1, rest, _, _, _, hl, _, _ => by simp at hl
  | y :: r, acc, k :: ks, ka, g + 1, rest, hb, hp, hr, hl, hka, hg => by
    simp only [List.length_cons] at hg hl
    rw [go_cons]
    have hy := hb y (by simp) _ (go_stop true ks r (e := 125) (by decide) rest)
    have hlt : ∀ a ∈ ka, ltS a k = true := by
      intro a ha
      rw [Rises, List.pairwise_append] at hr
      exact hr.2.2 a ha k (by simp)
    obtain ⟨hpos, hno⟩ := pos_end hlt
    have ih := objL_text r (acc ++ [y]) ks (ka ++ [k]) g rest (fun z hz => hb z (by simp [hz])) (fun q hq => hp q (by simp [hq])) (by simpa using hr) (by omega) (by simp [hka]) (by omega)
    have he : (acc ++ [y]).isEmpty = false := by simp
    rw [he] at ih
    have hm := membL_text (f := f) (y := y) (k := k) (hp k (by simp)) hy
    have ht1 : ka.take ka.length ++ k :: ka.drop ka.length = ka ++ [k] := by simp
    have ht2 : acc.take ka.length ++ y :: acc.drop ka.length = acc ++ [y] := by rw [hka]; simp
    simp only [if_true, List.headD_cons, List.tail_cons, List.append_assoc]
    cases acc with
    | nil =>
      simp only [List.isEmpty_nil, if_true, List.nil_append]
      rw [objL]
      have hq : quoteL k.data.toList ++ ([58] ++ (y.text ++ (V.text.go true false ks r ++ 125 :: rest))) = 34 :: ((k.data.toList.flatMap escC ++ [34]) ++ ([58] ++ (y.text ++ (V.text.go true false ks r ++ 125 :: rest)))) := rfl
      have hsp : spaceL (quoteL k.data.toList ++ ([58] ++ (y.text ++ (V.text.go true false ks r ++ 125 :: rest)))) = 34 :: ((k.data.toList.flatMap escC ++ [34]) ++ ([58] ++ (y.text ++ (V.text.go true false ks r ++ 125 :: rest)))) := by rw [hq, spaceL_no (by decide)]
      rw [hsp]
      simp only [show ¬ (34 : UInt8) = 125 by decide, if_false, if_true, Option.bind_some]
      rw [← hq, hm]
      simp only [Option.bind_some, hno, Bool.false_eq_true, if_false, hpos, ht1, ht2]
      rw [ih]
      simp
    | cons a acc =>
      simp only [List.isEmpty_cons, Bool.false_eq_true, if_false, List.cons_append, List.nil_append]
      rw [objL, spaceL_no (by decide)]
      simp only [show ¬ (44 : UInt8) = 125 by decide, if_false, if_true, reduceCtorEq, Option.bind_some]
      simp only [List.cons_append, List.nil_append] at hm
      rw [hm]
      simp only [Option.bind_some, hno, Bool.false_eq_true, if_false, hpos, ht1, ht2]
      rw [ih]
      simp
theorem go_len (o first : Bool) : ∀ (r : List V) (ks : List ByteArray) (first : Bool), r.length ≤ (V.text.go o first ks r).length
  | [], _, _ => by simp
  | y :: r, ks, first => by
    rw [go_cons]
    obtain ⟨c, t, hc, -⟩ := text_front y
    have := go_len o first r ks.tail false
    simp only [List.length_append, List.length_cons, hc]; omega
theorem text_nil {s : ByteArray} (h : s.toList = []) : s = ⟨#[]⟩ := by
  rw [ByteArray.toList_eq] at h
  obtain ⟨⟨l⟩⟩ := s
  simp only at h; subst h; rfl
theorem back_all : ∀ (x : V) (f : Nat), x.good (13 - (f : Int)) = true → Back f x := by
  intro x
  induction x using V.ind with
  | h x ih =>
    intro f hg rest hrest
    rw [V.good_eq, Bool.and_eq_true, List.all_eq_true] at hg
    obtain ⟨hfl, hitems⟩ := hg
    obtain ⟨hf, hd⟩ := flat_of hfl
    obtain ⟨f, rfl⟩ : ∃ f', f = f' + 1 := ⟨f - 1, by omega⟩
    have hk0 := hf.k0
    have hk5 := hf.k5
    rw [text_eq]
    by_cases e0 : x.k = 0
    · rw [if_pos e0]
      have hx : x = V.zero := by
        have h1 := hf.n0 (by omega) (by omega)
        have h2 := text_nil (hf.s0 (by omega))
        have h3 := hf.ks0 (by omega)
        have h4 := hf.l0 (by omega)
        rw [← V.eta x, e0, h1, h2, h3, h4]; rfl
      rw [hx]
      simp only [List.cons_append, List.nil_append]
      rw [valL, spaceL_no (by decide)]
      simp [List.isPrefixOf]
    rw [if_neg e0]
    by_cases e1 : x.k = 1
    · rw [if_pos e1]
      have h2 := text_nil (hf.s0 (by omega))
      have h3 := hf.ks0 (by omega)
      have h4 := hf.l0 (by omega)
      by_cases en : x.n = 1
      · rw [if_pos en]
        have hx : x = trueV := by rw [← V.eta x, e1, en, h2, h3, h4]
        rw [hx]
        simp only [List.cons_append, List.nil_append]
        rw [valL, spaceL_no (by decide)]
        simp [List.isPrefixOf]
      · rw [if_neg en]
        have hn : x.n = 0 := (hf.n1 e1).resolve_right en
        have hx : x = falseV := by rw [← V.eta x, e1, hn, h2, h3, h4]
        rw [hx]
        simp only [List.cons_append, List.nil_append]
        rw [valL, spaceL_no (by decide)]
        simp [List.isPrefixOf]
    rw [if_neg e1]
    by_cases e2 : x.k = 2
    · rw [if_pos e2]
      have h2 := text_nil (hf.s0 (by omega))
      have h3 := hf.ks0 (by omega)
      have h4 := hf.l0 (by omega)
      obtain ⟨c, t, he, hc⟩ := itoa_cons x.n
      have hfr := dg_front hc
      have hnum := numL_itoa hf.nlo hf.nhi hrest
      rw [he] at hnum ⊢
      rw [List.cons_append] at hnum ⊢
      rw [valL, spaceL_no hfr.1]
      simp only [if_neg hfr.2.2.2.2.1, if_neg hfr.2.2.2.2.2.1, if_neg hfr.2.2.2.2.2.2.1, if_neg hfr.2.2.2.2.2.2.2, if_pos hc, hnum, Option.map_some, Option.some.injEq, Prod.mk.injEq, and_true]
      have hx : x = .mk 2 x.n ⟨#[]⟩ [] [] := by rw [← V.eta x, e2, h2, h3, h4]; rfl
      rw [hx]; rfl
    rw [if_neg e2]
    by_cases e3 : x.k = 3
    · rw [if_pos e3]
      have h1 := hf.n0 (by omega) (by omega)
      have h3 := hf.ks0 (by omega)
      have h4 := hf.l0 (by omega)
      unfold quoteL
      rw [List.cons_append, valL, spaceL_no (by decide)]
      simp only [show ¬ (34 : UInt8) = 110 by decide, show ¬ (34 : UInt8) = 116 by decide, show ¬ (34 : UInt8) = 102 by decide, if_false, if_true, List.append_assoc, List.cons_append, List.nil_append]
      rw [quote_read hf.sp]
      simp only [Option.map_some, Option.some.injEq, Prod.mk.injEq, and_true]
      have hx : x = .mk 3 0 x.s [] [] := by rw [← V.eta x, e3, h1, h3, h4]; rfl
      rw [hx]; rfl
    rw [if_neg e3]
    have h1 := hf.n0 (by omega) (by omega)
    have h2 := text_nil (hf.s0 (by omega))
    have hb : ∀ y ∈ x.l, Back f y := fun y hy => ih y hy f (by have := hitems y hy; rw [show (13 : Int) - ((f + 1 : Nat) : Int) + 1 = 13 - (f : Int) by omega] at this; exact this)
    by_cases e5 : x.k = 5
    · rw [if_pos e5]
      rw [List.cons_append, valL, spaceL_no (by decide)]
      simp only [show ¬ (123 : UInt8) = 110 by decide, show ¬ (123 : UInt8) = 116 by decide, show ¬ (123 : UInt8) = 102 by decide, show ¬ (123 : UInt8) = 34 by decide, show ¬ ((123 : UInt8) = 45 ∨ isDg 123 = true) by decide, show ¬ (123 : UInt8) = 91 by decide, if_false, if_true, List.append_assoc, List.cons_append, List.nil_append]
      have hl := go_len true true x.l x.keys true
      have := objL_text x.l [] x.keys [] ((V.text.go true true x.keys x.l ++ 125 :: rest).length + 1) rest hb hf.kp (by simpa using hf.rise) (hf.len e5) rfl (by simp; omega)
      simp only [List.isEmpty_nil] at this
      rw [this]
      simp only [Option.map_some, List.nil_append, Option.some.injEq, Prod.mk.injEq, and_true]
      have hx : x = .mk 5 0 ⟨#[]⟩ x.keys x.l := by rw [← V.eta x, e5, h1, h2]; rfl
      rw [hx]; rfl
    · rw [if_neg e5]
      have h3 := hf.ks0 e5
      have e4 : x.k = 4 := by omega
      rw [List.cons_append, valL, spaceL_no (by decide)]
      simp only [show ¬ (91 : UInt8) = 110 by decide, show ¬ (91 : UInt8) = 116 by decide, show ¬ (91 : UInt8) = 102 by decide, show ¬ (91 : UInt8) = 34 by decide, show ¬ ((91 : UInt8) = 45 ∨ isDg 91 = true) by decide, if_false, if_true, List.append_assoc, List.cons_append, List.nil_append]
      have hl := go_len false true x.l x.keys true
      have := listL_text x.l [] x.keys ((V.text.go false true x.keys x.l ++ 93 :: rest).length + 1) rest hb (by simp; omega)
      simp only [List.isEmpty_nil] at this
      rw [this]
      simp only [Option.map_some, List.nil_append, Option.some.injEq, Prod.mk.injEq, and_true]
      have hx : x = .mk 4 0 ⟨#[]⟩ [] x.l := by rw [← V.eta x, e4, h1, h2, h3]; rfl
      rw [hx]; rfl

/-- What is printed is read as it. -/
theorem back_law {x : V} (h : x.fine = true) : parseL x.text = some x := by
  have hg : x.good 1 = true := by simp only [V.fine, Bool.and_eq_true] at h; exact h.1
  have := back_all x 12 (by simpa using hg) [] (fun c t h => by cases h)
  rw [List.append_nil] at this
  unfold parseL
  rw [this]
  simp [spaceL, h]
theorem print_parse {x : V} (h : (printV x).2 = 0) : parseV (printV x).1 = (x, 0) := by
  unfold printV at h ⊢
  by_cases hf : x.fine = false
  · rw [if_pos hf] at h; simp at h
  · rw [if_neg hf] at h ⊢
    by_cases hl : 2000 < x.text.length
    · rw [if_pos hl] at h; simp at h
    · rw [if_neg hl]
      unfold parseV
      rw [if_neg hl, back_law (by simpa using hf)]
end Go.Proofs.YtknnflobpjppfaaDoor
