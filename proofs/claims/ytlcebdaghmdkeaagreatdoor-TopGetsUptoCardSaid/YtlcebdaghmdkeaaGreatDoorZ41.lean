import Derived.Test.YtlcebdaghmdkeaaGreatDoorZ39
import Derived.Test.YtlcebdaghmdkeaaGreatDoorZ40
set_option linter.all false
set_option maxRecDepth 100000
set_option maxHeartbeats 64000000
namespace Go.Proofs.YtlcebdaghmdkeaaGreatDoor
open Go.Proofs.Tryz
open Go.RowKit
attribute [local go_sem↓] Go.wp_at_zero Go.wp_at_succ
theorem field_code (c n:Int) (b:ah) (w:World):(Instr.field 34 (.agg #[.int .i64 c, .int .i64 n, .string b]) 0).run prog w= .ok (.int .i64 c) w:=by
 simp [Instr.field,underlying34,go_sem,asAgg]
def EK:Ac:=⟨0,⟨#[]⟩,⟨#[]⟩,⟨#[]⟩,0,0,0,false⟩
theorem af4 {w:World} (h1:cZ w) (h2:rC w):iU (fun b=>w.heap.size<=b) w:=fun w' u=>
 have e:Ext w w':=aU.to (Ext.refl w) (u.mono fun b h h'=>by omega)
 ⟨h1.ext e,h2.ext e⟩
theorem BI {W:World} (hsh:W.ShapedOpen prog) (E8:laidMetH prog Rows.topRefusedUptoRow.laid W):iU (fun b=>W.heap.size<=b) W:=by
 have hL:laidMet prog Rows.topRefusedUptoRow.laid W:=E8;exact af4 (W8 hsh E8) (Xd hL.tail.tail.tail.tail.tail.tail)
def af5 (g:Nat) (l:List Ac) (w0:World):Prop:=
 ∀(k:Nat) (hk:k<l.length) (s s':Sv) (y:Rp) (P T:aA) (r:Nat) (wa:aq) (wc:Nat) (w1:World),k<100->Ok s->Ok s'->Step s l[k] s' y-> (s.acts=k/\s'.acts=k+1)->Ext w0 w1->Sat w1 P r s'->
  aO wa s.ay.length wc->fT w1 T s.ay wa->
  Calls prog g #[.pointer (some ⟨r,0,none⟩), .slice wa s.ay.length wc, .agg #[.int .i64 l[k].k, .string l[k].name, .string l[k].who, .string l[k].body, .int .i64 l[k].ver, .int .i64 l[k].n, .int .i64 l[k].ord, .bool l[k].force],y.val] w1 fun e w2=>e= .returned (.bool true)/\Ext w1 w2
theorem NY (g:Nat) (l:List Ac) (a:aq) (c:Nat) (w:World) (cx:iJ l<=1048576) (lf:jL w (fun b=>b<w.heap.size) l a) (hl:iU (fun b=>w.heap.size<=b) w)
 (eg:∀args w,(callFunc g args).run prog w= .ok (.enter g args) w) (N7:af5 g l w):
 Calls prog 9 #[.slice a l.length c, .func (.func g) #[] #[]] w fun e w'=>∃P r,e= .returned (.tuple #[.pointer (some ⟨r,0,none⟩), .bool true])/\Sat w' P r (fq cQ (l.take 100))/\
  (∀b,P b->w.heap.size<=b/\b<w'.heap.size)/\Ext w w':=by
 have hlen:=Ff l;refine(af3 g #[] l a c (fun b=>w.heap.size<=b) (fun _=>False) (fun _ _ _=>True) w (by omega) (fun x hx=>by have h:=Jz hx;unfold Ac.size at h;omega) (lf.mono fun b h h'=>by omega) (fun b h=>h) hl trivial (fun b h=>h.elim) (fun _ _ _ _ _ _=>trivial) ⟨eg,?_⟩).mono ?_
 ·intro k hk P F T r wa wc w1 hk1 hu hs hP _ hF hok hth hT
  have iV:=Ok.BJ .new (l.take k);have hx:Ext w w1:=aU.to (Ext.refl w) (hu.mono fun b h h'=>by omega);have ha:(fq cQ (l.take k)).acts=k:=by rw [EM (by rw [List.length_take];omega),List.length_take];omega
  have hstep:=iV.so l[k];refine(N7 k hk (fq cQ (l.take k)) (bz (fq cQ (l.take k)) l[k]).1 (bz (fq cQ (l.take k)) l[k]).2 P T r wa wc w1 hk1 iV (iV.next _) hstep ⟨ha,by rw [VO hstep (by omega),ha]⟩ hx hs hok hth).mono ?_;rintro e w2 ⟨rfl,h2⟩;have hz2:=h2.size;exact⟨rfl,h2.upd _,P,F,hs.ext h2,fun b h=>⟨(hP b h).1,(hP b h).2.1,by have:=(hP b h).2.2.2;omega⟩,trivial,fun b h=>⟨(hF b h).1,by have:=(hF b h).2.2;omega⟩⟩
 ·rintro e w' ⟨P,F,r,rfl,hs,hP,-,-,hu⟩
  exact⟨P,r,rfl,hs,fun b h=>⟨(hP b h).1,(hP b h).2.2⟩,aU.to (Ext.refl w) (hu.mono fun b h h'=>by omega)⟩
theorem af6 (r:Nat) (wa:aq) (n wc:Nat) (x:Ac) (y:Rp) (w:World):Calls prog 10 #[.pointer (some ⟨r,0,none⟩), .slice wa n wc, .agg #[.int .i64 x.k, .string x.name, .string x.who, .string x.body, .int .i64 x.ver, .int .i64 x.n, .int .i64 x.ord, .bool x.force],y.val] w fun e w'=>e= .returned (.bool true)/\Ext w w':=by
 go_enter func10,ntmps10;go_wp2_with fail;go_ret;exact⟨rfl,Xt⟩
theorem IU (l:List Ac) (a:aq) (c:Nat) (w:World) (cx:iJ l<=1048576) (lf:jL w (fun b=>b<w.heap.size) l a) (hl:iU (fun b=>w.heap.size<=b) w):
 Calls prog 9 #[.slice a l.length c, .func (.func 10) #[] #[]] w fun e w'=>∃P r,e= .returned (.tuple #[.pointer (some ⟨r,0,none⟩), .bool true])/\Sat w' P r (fq cQ (l.take 100))/\
  (∀b,P b->w.heap.size<=b/\b<w'.heap.size)/\Ext w w':=
 NY 10 l a c w cx lf hl (enters_of func10 (by kernel_rfl) rfl) fun k hk s s' y P T r wa wc w1 _ _ _ _ _ _ _ _ _=>af6 r wa _ wc l[k] y w1
end Go.Proofs.YtlcebdaghmdkeaaGreatDoor
