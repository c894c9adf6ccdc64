/- The walk of point.at, whole. -/
import Derived.Test.YtnbappeiebameaaGreatDoorAtn
set_option linter.all false
namespace Go.Proofs.YtnbappeiebameaaGreatDoor
open Go.RowKit

theorem at_any (F : Doer) (S : Nat → Prop) (fid : FuncId) (caps : Array Value) (w0 : World) (hS : Hid (∀ b, S b → b < w0.heap.size)) (hE : Hid (∀ args w, (callFunc fid args).run Tryz.prog w = .ok (.enter fid args) w)) (hD : Hid (Does F S fid caps w0)) (hl : LibAt w0) :
    ∀ (ks : List ByteArray) (x : V) (ka : Option Addr) (kc : Nat) (la : Option Addr) (lc : Nat) (a : Option Addr) (n c : Nat) (T : Nat → Prop) (w : World), ks ≠ [] → ks.length = n → n ≤ 1073741824 → n ≤ c → c ≤ maxLen → (∀ k ∈ ks, k.size ≤ 8000) → x.sound → x.size ≤ 1073741824 → Ext w0 w → x.In w S ka kc la lc → StrsIn w T a ks →
      Calls Tryz.prog 139 #[x.val ka kc la lc, .slice a n c, .func (Fn.func fid) #[] caps] w (RetV2 S (atV F ks x).1 (.int .i64 (atV F ks x).2) w) := by
  intro ks
  induction ks with
  | nil => intro x _ _ _ _ _ _ _ _ _ h; exact absurd rfl h
  | cons k ks ih =>
    intro x ka kc la lc a n c T w _ hn hnb hnc hcb hks hso hsz hw hin hst
    obtain ⟨b, o, rfl, -, hc⟩ := hst.resolve_left (by simp)
    have h0 := hc 0 (by simp)
    simp only [Nat.add_zero, List.getElem_cons_zero] at h0
    cases ks with
    | nil =>
      simp only [List.length_singleton] at hn
      subst hn
      rw [atV_one]
      exact at_one F S fid caps w0 hS hE hD k x ka kc la lc b o c w (hks k (by simp)) hso hsz hw hin h0
    | cons k2 r =>
      have hn2 : 2 ≤ n := by simp at hn; omega
      cases hch : x.child k with
      | none =>
        rw [atV_none hch]
        exact at_miss S _ w0 k x ka kc la lc b o n c w (hks k (by simp)) hn2 hnb hso hsz hin h0 (hl.ext hw) hch
      | some i =>
        have hi := child_lt hso hch
        have he : atV F (k :: k2 :: r) x = (if (atV F (k2 :: r) x.l[i]).2 = 0 then x.setL i (atV F (k2 :: r) x.l[i]).1 else x, (atV F (k2 :: r) x.l[i]).2) := by
          rw [atV_some hch hi]
          split
          · rename_i h; rw [h]
          · rfl
        rw [he]
        refine at_more S _ w0 hS k x ka kc la lc b o n c w i _ _ (hks k (by simp)) hn2 hnc hnb hcb hso hsz hw hin h0 (hl.ext hw) hch hi ?_
        intro ka2 kc2 la2 lc2 w' hw' hin'
        have hsi := V.size_item hi
        refine ih x.l[i] ka2 kc2 la2 lc2 (some ⟨b, o + 1, none⟩) (n - 1) (c - 1) (fun _ => True) w' (by simp) (by simp at hn ⊢; omega) (by omega) (by omega) (by omega) (fun k hk => hks k (by simp [List.mem_cons.1 hk])) (hso.item (List.getElem_mem hi)) (by omega) (hw.trans hw') hin' ?_
        refine .inr ⟨b, o + 1, rfl, trivial, fun j hj => ?_⟩
        have := hc (j + 1) (by simpa using hj)
        rw [List.getElem_cons_succ, show o + (j + 1) = o + 1 + j by omega] at this
        exact hw'.cell this
end Go.Proofs.YtnbappeiebameaaGreatDoor
