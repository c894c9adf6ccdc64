import Derived.Test.YtlcebdaghmdkeabGreatDoorZ43
import Derived.Test.YtlcebdaghmdkeabGreatDoorZ44
set_option linter.all false
set_option maxRecDepth 100000
set_option maxHeartbeats 64000000
namespace Go.Proofs.YtlcebdaghmdkeabGreatDoor
open Go.Proofs.Tryz
open Go.RowKit
attribute [local go_sem↓] Go.wp_at_zero Go.wp_at_succ
theorem af2 {w:World} (h1:cM w) (h2:rN w):jl (fun b=>w.heap.size<=b) w:=fun w' u=>
 have e:Ext w w':=aT.to (Ext.refl w) (u.mono fun b h h'=>by omega)
 ⟨h1.ext e,h2.ext e⟩
theorem ES {W:World} (hsh:W.ShapedOpen prog) (E6:laidMetH prog Rows.topWeightsUptoRow.laid W):jl (fun b=>W.heap.size<=b) W:=by
 have hL:laidMet prog Rows.topWeightsUptoRow.laid W:=E6;exact af2 (Xn hsh E6) (Xu hL.tail.tail.tail.tail.tail.tail)
def af3 (g:Nat) (l:List Ac) (w0:World):Prop:=
 ∀(k:Nat) (hk:k<l.length) (s s':Sv) (y:Rp) (P T:az) (r:Nat) (wa:au) (wc:Nat) (w1:World),k<100->Ok s->Ok s'->Step s l[k] s' y-> (s.acts=k/\s'.acts=k+1)->Ext w0 w1->Sat w1 P r s'->
  aM wa s.ax.length wc->jk w1 T s.ax wa->
  Calls prog g #[.pointer (some ⟨r,0,none⟩), .slice wa s.ax.length wc, .agg #[.int .i64 l[k].k, .string l[k].name, .string l[k].who, .string l[k].body, .int .i64 l[k].ver, .int .i64 l[k].n, .int .i64 l[k].ord, .bool l[k].force],y.val] w1 fun e w2=>e= .returned (.bool true)/\Ext w1 w2
theorem N4 (g:Nat) (l:List Ac) (a:au) (c:Nat) (w:World) (cX:j3 l<=1048576) (wC:gI w (fun b=>b<w.heap.size) l a) (hl:jl (fun b=>w.heap.size<=b) w)
 (eg:∀args w,(callFunc g args).run prog w= .ok (.enter g args) w) (Oi:af3 g l w):
 Calls prog 9 #[.slice a l.length c, .func (.func g) #[] #[]] w fun e w'=>∃P r,e= .returned (.tuple #[.pointer (some ⟨r,0,none⟩), .bool true])/\Sat w' P r (eI bQ (l.take 100))/\
  (∀b,P b->w.heap.size<=b/\b<w'.heap.size)/\Ext w w':=by
 have hlen:=Ju l;refine(VT g #[] l a c (fun b=>w.heap.size<=b) (fun _=>False) (fun _ _ _=>True) w (by omega) (fun x hx=>by have h:=Az hx;unfold Ac.size at h;omega) (wC.mono fun b h h'=>by omega) (fun b h=>h) hl trivial (fun b h=>h.elim) (fun _ _ _ _ _ _=>trivial) ⟨eg,?_⟩).mono ?_
 ·intro k hk P F T r wa wc w1 hk1 hu hs hP _ hF hok hth hT
  have Aa:=Ok.IJ .new (l.take k);have hx:Ext w w1:=aT.to (Ext.refl w) (hu.mono fun b h h'=>by omega);have ha:(eI bQ (l.take k)).acts=k:=by rw [af1 (by rw [List.length_take];omega),List.length_take];omega
  have hstep:=Aa.so l[k];refine(Oi k hk (eI bQ (l.take k)) (bP (eI bQ (l.take k)) l[k]).1 (bP (eI bQ (l.take k)) l[k]).2 P T r wa wc w1 hk1 Aa (Aa.next _) hstep ⟨ha,by rw [V4 hstep (by omega),ha]⟩ hx hs hok hth).mono ?_;rintro e w2 ⟨rfl,h2⟩;have hz2:=h2.size;exact⟨rfl,h2.upd _,P,F,hs.ext h2,fun b h=>⟨(hP b h).1,(hP b h).2.1,by have:=(hP b h).2.2.2;omega⟩,trivial,fun b h=>⟨(hF b h).1,by have:=(hF b h).2.2;omega⟩⟩
 ·rintro e w' ⟨P,F,r,rfl,hs,hP,-,-,hu⟩
  exact⟨P,r,rfl,hs,fun b h=>⟨(hP b h).1,(hP b h).2.2⟩,aT.to (Ext.refl w) (hu.mono fun b h h'=>by omega)⟩
end Go.Proofs.YtlcebdaghmdkeabGreatDoor
