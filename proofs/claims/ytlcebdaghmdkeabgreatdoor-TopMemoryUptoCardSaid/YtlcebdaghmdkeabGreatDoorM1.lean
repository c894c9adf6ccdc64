import Derived.Test.YtlcebdaghmdkeabGreatDoorRows
import Derived.WalkKit
import Derived.ProofKit
import Derived.OpenShut
import Derived.Below
import Derived.Lib.Hide
import Derived.Deep.QuietTactic
import Derived.BigQuiet
import Derived.Deep.LoopGhost
import Derived.Deep.Cut
import Derived.Deep.CutRange
import Derived.Deep.RegionWith
import Derived.Outline
import Derived.OneCell
import Derived.Deep.Light
import Derived.WalkSpells
import Derived.WalkLawsBesides
import Derived.Deep.RegionHeld3
import Derived.Lib.Replace
import Derived.Lib.AtoiAll
import Derived.Lib.ItoaNum
set_option linter.all false
set_option maxRecDepth 100000
set_option maxHeartbeats 64000000
namespace Go.Proofs.YtlcebdaghmdkeabGreatDoor
open Go.Proofs.Tryz
open Go.RowKit
theorem ae {p:Prop} (h:p):Hid p:=h
abbrev aw:=Nat->Prop
abbrev ah:=ByteArray
abbrev aq:=Option Addr
theorem Tryz.own:ownKnob prog.godebug=none:=by kernel_rfl
theorem Tryz.laidOut:laidOutB prog=true:=by kernel_rfl
def Ext (w w':World):Prop:=Below w.heap.size w w'
theorem Ext.refl (w:World):Ext w w:=Below.refl _ _
theorem Ext.size {a b:World} (h:Ext a b):a.heap.size<=b.heap.size:=Below.size h
theorem Ext.trans {a b c:World} (h:Ext a b) (k:Ext b c):Ext a c:=Below.trans h (Below.mono k h.size)
theorem Ext.drew {a b:World} (h:Ext a b):Ext a b.drew:=Below.drew h
theorem Ext.drewN {a b:World} (h:Ext a b) (n:Nat):Ext a (b.drewN n):=below_drewN h n
theorem Ext.alloc {a b:World} (h:Ext a b) (o:Obj):Ext a (b.alloc o):=Below.alloc h h.size o
theorem Ext.setCell {a b:World} (h:Ext a b) {p:Addr} (hp:a.heap.size<=p.block) (u:Value):Ext a (b.setCell p u):=Below.setCell h hp u
theorem Ext.below {a b:World} (h:Ext a b):Below a.heap.size a b:=h
theorem ku {w:World} {p:Addr} {v:Value} (h:w.cell? p=some v):p.block<w.heap.size:=by
 unfold World.cell? at h
 split at h
 ·rename_i hb
  exact(Array.getElem?_eq_some_iff.1 hb).1
 ·cases h
theorem Ext.cell {a b:World} (h:Ext a b) {p:Addr} {v:Value} (hv:a.cell? p=some v):b.cell? p=some v:=by
 rw [Below.cell h (ku hv)];exact hv
theorem Ext.cells {a b:World} (h:Ext a b):∀p:Addr,p.block<a.heap.size->b.cell? p=a.cell? p:=fun p hp=>Below.cell h hp
theorem Ext.frozen {a b:World} (h:Ext a b):∀p:Addr,p.block<a.heap.size->b.frozen? p=a.frozen? p:=fun p hp=>Below.frozen h hp
theorem aI {P:Program} {c:Code} {Q:Exit->Act->World->Prop} {a:Act} {W:World} (R:World->Prop) (h:R W) (k:∀wx,R wx->Code.wp P c Q a wx):Code.wp P c Q a W:=k W h
theorem XY {P:Program} {fn:Func} {R:Ending->World->Prop} {v:Value} {tmps:Array Value} {w:World} (hr:(results fn tmps).run P w= .ok v w) (hR:R (.returned v) w):
 bodyPost P fn R .ret {tmps:=tmps,defers:= []} w:=⟨rfl,v,hr,hR⟩
theorem aF {P:Program} {fn:Func} {R:Ending->World->Prop} {v:Value} {tmps:Array Value} {w:World} (hr:(results fn tmps).run P w= .ok v w:=by(go_light;simp [results,Tryz.results17,Tryz.results22,Tryz.results24,Tryz.results31,Tryz.results34,Tryz.results39,Tryz.results47,Tryz.results49,Tryz.results51,Tryz.results54,Tryz.results56,Tryz.results57,Tryz.results58,Tryz.results59,Tryz.results71,Tryz.results72,Tryz.results73,Tryz.results74,Tryz.results75,Tryz.results76,Tryz.results83,Tryz.results85,Tryz.results86,Tryz.results87,Tryz.results88,Tryz.results90,Tryz.results102,Tryz.results103,Tryz.results125,Tryz.results127,Tryz.results138,Tryz.results139,Tryz.results140,Tryz.results144,Tryz.results145,Tryz.results146,Tryz.results176,Tryz.results183,Tryz.results184,Tryz.results188,Tryz.results189,Tryz.results190,Tryz.results214,Tryz.results215,Tryz.results216,Tryz.results217,Tryz.results235,go_sem, *];rfl)) (h:R (.returned v) w):
 bodyPost P fn R .ret {tmps:=tmps,defers:= []} w:=XY hr h
theorem cX {a b:Bool} (h:a=b):Ending.returned (.bool a)=Ending.returned (.bool b):=by rw [h]
theorem vb {a b:Bool} (h:a=b):Value.bool a=Value.bool b:=by rw [h]
theorem XZ {k:IntKind} {a b:Int} (h:a=b):Ending.returned (.int k a)=Ending.returned (.int k b):=by rw [h]
theorem bZ {a b:World} (h:Ext a b):(∀k o,k<a.heap.size->b.cell? ⟨k,o,none⟩=a.cell? ⟨k,o,none⟩)/\ (∀k o,k<a.heap.size->b.frozen? ⟨k,o,none⟩=a.frozen? ⟨k,o,none⟩)/\a.heap.size<=b.heap.size:=
 ⟨fun _ _ hk=>Below.cell (p:=⟨_,_,none⟩) h hk,fun _ _ hk=>Below.frozen (p:=⟨_,_,none⟩) h hk,h.size⟩
def af (w:World) (n:Nat) (vs:Array Value) (T:TypeId):Prop:=w.heap[n]? =some (.cells vs T (0,0))
theorem af.cells {w:World} {n:Nat} {vs:Array Value} {T:TypeId} (h:af w n vs T):∀i,w.cell? ⟨n,i,none⟩=vs[i]? :=by
 intro i;unfold af at h;simp [World.cell?,h]
theorem af.free {w:World} {n:Nat} {vs:Array Value} {T:TypeId} (h:af w n vs T):∀i,w.frozen? ⟨n,i,none⟩=false:=by
 intro i;unfold af at h;simp [World.frozen?,h]
theorem af.lt {w:World} {n:Nat} {vs:Array Value} {T:TypeId} (h:af w n vs T):n<w.heap.size:=lt_of_block h
theorem af.see {w:World} {n:Nat} {vs:Array Value} {T:TypeId} (h:af w n vs T):(∀i,w.cell? ⟨n,i,none⟩=vs[i]?)/\ (∀i,w.frozen? ⟨n,i,none⟩=false)/\n<w.heap.size:=⟨h.cells,h.free,h.lt⟩
theorem af.new (w:World) (vs:Array Value) (T:TypeId) {n:Nat} (e:n=w.heap.size):af (w.alloc (.cells vs T)) n vs T:=by
 subst e;show (w.heap.push _)[w.heap.size]? =_;simp
theorem af.alloc {w:World} {n:Nat} {vs:Array Value} {T:TypeId} (h:af w n vs T) (o:Obj):af (w.alloc o) n vs T:=by
 have:=h.lt;unfold af at*;rw [Below.heap_alloc _ _ _ this];exact h
theorem af.drew {w:World} {n:Nat} {vs:Array Value} {T:TypeId} (h:af w n vs T):af w.drew n vs T:=h
theorem af.ext {w w':World} {n:Nat} {vs:Array Value} {T:TypeId} (e:Ext w w') (h:af w n vs T):af w' n vs T:=by
 have:=h.lt;unfold af at*;rw [Below.block e _ this];exact h
theorem af.other {w:World} {n:Nat} {vs:Array Value} {T:TypeId} (h:af w n vs T) {p:Addr} (hp:n≠p.block) (u:Value):af (w.setCell p u) n vs T:=by
 unfold af at*;rw [Below.heap_setCell _ _ _ _ hp];exact h
theorem af.set {w:World} {n:Nat} {vs:Array Value} {T:TypeId} (h:af w n vs T) (i:Nat) (u:Value):af (w.setCell ⟨n,i,none⟩ u) n (vs.setIfInBounds i u) T:=by
 have hlt:=h.lt;unfold af at*;have h':w.heap[n]= .cells vs T (0,0):=by simpa [Array.getElem?_eq_getElem hlt] using h
 show (w.heap.modify n _)[n]? =_;rw [Array.getElem?_eq_getElem (by simpa using hlt),Array.getElem_modify_self,h'];rfl
theorem af.to {w:World} {n:Nat} {vs vs':Array Value} {T:TypeId} (h:af w n vs T) (e:vs=vs'):af w n vs' T:=e▸h
theorem Xt {a b:World} (h:Ext a b:=by with_reducible repeat (first|exact Ext.refl _|assumption|apply Ext.drew|apply Ext.drewN|apply Ext.alloc|(refine Ext.setCell ?_ ?_ _;rotate_left;(focus(first|(simp;done)|(simp;omega)|omega)))|refine Ext.trans ?_ (by assumption))):Ext a b:=h
theorem aj {w:World} {n:Nat} {vs:Array Value} {T:TypeId} (h:af w n vs T:=by(with_reducible apply af.to);(focus(with_reducible repeat (first|assumption|(apply af.new;(focus(first|rfl|(first|(simp;done)|(simp;omega)|omega))))|apply af.set|(apply af.other;rotate_left;(focus(first|(simp;done)|(simp;omega)|omega)))|apply af.alloc|apply af.drew|(apply af.ext;(focus assumption)))));(first|rfl|(simp;done)|(go_light;simp [*];done))):af w n vs T:=h
theorem rl:(∀(a:Act) (d:Tmp) (v:Value),a.put (some d) v= {a with tmps:=a.tmps.setIfInBounds d v})/\ (∀(a:Act) (v:Value),a.put none v=a)/\
 (∀(α:Type) (xs:List α) (i:Nat) (v:α),xs.toArray.setIfInBounds i v=(xs.set i v).toArray)/\ (∀(α:Type) (a b:α) (r:List α),(a::r).set 0 b=b::r)/\ (∀(α:Type) (a b:α) (r:List α) (n:Nat),(a::r).set (n+1) b=a::r.set n b)/\
 (∀(α:Type) (xs:List α) (i:Nat) (h:i<xs.toArray.size),xs.toArray[i]'h=xs[i]'(by simpa using h))/\ (∀(α:Type) (a:α) (r:List α) (h:0<(a::r).length),(a::r)[0]'h=a)/\ (∀(α:Type) (a:α) (r:List α) (i:Nat) (h:i+1<(a::r).length),(a::r)[i+1]'h=r[i]'(by simpa using h)):=
 ⟨fun _ _ _=>rfl,fun _ _=>rfl,fun _ _ _ _=>by simp,fun _ _ _ _=>rfl,fun _ _ _ _ _=>rfl,fun _ _ _ _=>by simp,fun _ _ _ _=>rfl,fun _ _ _ _ _=>rfl⟩
inductive V where
 |mk (k n:Int) (s:ah) (keys:List ah) (l:List V)
def V.k:V->Int| .mk k _ _ _ _=>k
def V.n:V->Int| .mk _ n _ _ _=>n
def V.s:V->ah| .mk _ _ s _ _=>s
def V.keys:V->List ah| .mk _ _ _ ks _=>ks
def V.l:V->List V| .mk _ _ _ _ l=>l
theorem V.eta (x:V):V.mk x.k x.n x.s x.keys x.l=x:=by cases x;rfl
@[simp] theorem V.tN (k n:Int) (s:ah) (ks:List ah) (l:List V):(V.mk k n s ks l).k=k:=rfl
@[simp] theorem V.tO (k n:Int) (s:ah) (ks:List ah) (l:List V):(V.mk k n s ks l).n=n:=rfl
@[simp] theorem V.ki (k n:Int) (s:ah) (ks:List ah) (l:List V):(V.mk k n s ks l).s=s:=rfl
@[simp] theorem V.fT (k n:Int) (s:ah) (ks:List ah) (l:List V):(V.mk k n s ks l).keys=ks:=rfl
@[simp] theorem V.dV (k n:Int) (s:ah) (ks:List ah) (l:List V):(V.mk k n s ks l).l=l:=rfl
theorem V.ind {P:V->Prop} (h:∀x:V,(∀y∈x.l,P y)->P x) (x:V):P x:=
 V.rec (motive_1:=P) (motive_2:=fun l=>∀y∈l,P y) (fun k n s ks l ih=>h (.mk k n s ks l) ih) (fun y hy=>by cases hy)
  (fun a l ha hl y hy=>by rcases List.mem_cons.1 hy with rfl|hy;exact ha;exact hl y hy) x
def V.count:V->Nat| .mk _ _ _ _ l=>1+go l
where go:List V->Nat
 | []=>0
 |x::r=>V.count x+go r
theorem V.count_eq (x:V):x.count=1+(x.l.map V.count).sum:=by
 have h:∀l,V.count.go l=(l.map V.count).sum:=by
  intro l;induction l with
  |nil=>simp [V.count.go]
  |cons x r ih=>simp [V.count.go,ih]
 cases x with|mk k n s ks l=>simp [V.count,h]
def eY (ks:List ah):Nat:=(ks.map fun k=>k.size+1).sum
def V.size:V->Nat| .mk _ _ s ks l=>1+s.size+eY ks+go l
where go:List V->Nat
 | []=>0
 |x::r=>V.size x+go r
theorem V.size_eq (x:V):x.size=1+x.s.size+eY x.keys+(x.l.map V.size).sum:=by
 have h:∀l,V.size.go l=(l.map V.size).sum:=by
  intro l;induction l with
  |nil=>simp [V.size.go]
  |cons x r ih=>simp [V.size.go,ih]
 cases x with|mk k n s ks l=>simp [V.size,h]
theorem uZ {α:Type} (f:α->Nat) {x:α} {l:List α} (h:x∈l):f x<= (l.map f).sum:=by
 induction l with
 |nil=>cases h
 |cons a r ih=>
  simp only [List.map_cons,List.sum_cons];rcases List.mem_cons.1 h with rfl|h
  ·omega
  ·have:=ih h;omega
theorem Be {α:Type} (f:α->Nat) (hf:∀x,1<=f x) (l:List α):l.length<= (l.map f).sum:=by
 induction l with
 |nil=>simp
 |cons a r ih=>have:=hf a;simp only [List.map_cons,List.sum_cons,List.length_cons];omega
theorem V.size_pos (x:V):1<=x.size:=by rw [V.size_eq];omega
theorem V.zy (x:V):1<=x.count:=by rw [V.count_eq];omega
theorem V.xZ {x y:V} (h:y∈x.l):y.size<x.size:=by rw [V.size_eq x];have:=uZ V.size h;omega
theorem V.oZ {x:V} {i:Nat} (h:i<x.l.length):(x.l[i]).size<x.size:=V.xZ (List.getElem_mem h)
theorem V.jO (x:V):x.l.length<x.size:=by rw [V.size_eq];have:=Be V.size V.size_pos x.l;omega
theorem V.xq (x:V):x.keys.length<x.size:=by
 rw [V.size_eq];have:=Be (fun k:ah=>k.size+1) (fun _=>by omega) x.keys;unfold eY;omega
theorem V.Jl (x:V):x.s.size<x.size:=by rw [V.size_eq];omega
theorem V.X0 {x:V} {i:Nat} (h:i<x.keys.length):(x.keys[i]).size<x.size:=by
 rw [V.size_eq];have:=uZ (fun k:ah=>k.size+1) (List.getElem_mem h);unfold eY;omega
def bC (w:World) (S:aw) (a:aq) (ks:List ah):Prop:=
 ks= []\/∃b o,a=some ⟨b,o,none⟩/\S b/\∀i (h:i<ks.length),w.cell? ⟨b,o+i,none⟩=some (.string ks[i])
def aM (a:aq) (n c:Nat):Prop:=n<=c/\c<=maxLen/\ (a=none->c=0)
theorem aM.nil:aM none 0 0:=⟨Nat.le_refl _,Nat.zero_le _,fun _=>rfl⟩
def V.In (w:World) (S:aw):V->aq->Nat->aq->aw
 | .mk _ _ _ ks l,ka,kc,la,lc=>aM ka ks.length kc/\aM la l.length lc/\bC w S ka ks/\rows l la
where rows:List V->aq->Prop
 | [],_=>True
 |x::r,p=>∃b o ka kc la lc,p=some ⟨b,o,none⟩/\S b/\ (w.cell? ⟨b,o,none⟩=some (.int .i64 x.k)/\w.cell? ⟨b,o+1,none⟩=some (.int .i64 x.n)/\w.cell? ⟨b,o+2,none⟩=some (.string x.s)/\
   w.cell? ⟨b,o+3,none⟩=some (.slice ka x.keys.length kc)/\w.cell? ⟨b,o+4,none⟩=some (.slice la x.l.length lc))/\V.In w S x ka kc la lc/\rows r (some ⟨b,o+5,none⟩)
def V.Item (w:World) (S:aw) (b o:Nat) (x:V):Prop:=
 ∃ka kc la lc,(w.cell? ⟨b,o,none⟩=some (.int .i64 x.k)/\w.cell? ⟨b,o+1,none⟩=some (.int .i64 x.n)/\w.cell? ⟨b,o+2,none⟩=some (.string x.s)/\
  w.cell? ⟨b,o+3,none⟩=some (.slice ka x.keys.length kc)/\w.cell? ⟨b,o+4,none⟩=some (.slice la x.l.length lc))/\x.In w S ka kc la lc
def Rows (w:World) (S:aw) (l:List V) (p:aq):Prop:=
 l= []\/∃b o,p=some ⟨b,o,none⟩/\S b/\∀i (h:i<l.length),V.Item w S b (o+i*5) l[i]
theorem V.X3 (w:World) (S:aw) (l:List V) (p:aq):V.In.rows w S l p↔Rows w S l p:=by
 induction l generalizing p with
 |nil=>simp [V.In.rows,Rows]
 |cons x r ih=>
  simp only [V.In.rows,ih];constructor
  ·rintro⟨b,o,ka,kc,la,lc,rfl,hS,hc,hin,hr⟩
   refine .inr ⟨b,o,rfl,hS,?_⟩;intro i hi
   match i with
   |0=>simpa using ⟨ka,kc,la,lc,hc,hin⟩
   |i+1=>
    rcases hr with h|⟨b',o',h,zu,hr⟩
    ·subst h;simp at hi
    ·simp only [Option.some.injEq,Addr.mk.injEq] at h
     obtain⟨rfl,rfl,-⟩:=h;have:=hr i (by simpa using hi);rw [List.getElem_cons_succ,show o+(i+1)*5=o+5+i*5 from by omega];exact this
  ·rintro(h|⟨b,o,rfl,hS,hr⟩)
   ·cases h
   ·obtain⟨ka,kc,la,lc,hc,hin⟩:=hr 0 (by simp)
    refine⟨b,o,ka,kc,la,lc,rfl,hS,by simpa using hc,by simpa using hin,?_⟩;by_cases hn:r= []
    ·exact .inl hn
    ·refine .inr ⟨b,o+5,rfl,hS,?_⟩
     intro i hi;have:=hr (i+1) (by simpa using hi);rw [List.getElem_cons_succ,show o+(i+1)*5=o+5+i*5 from by omega] at this;exact this
theorem V.df (w:World) (S:aw) (x:V) (ka:aq) (kc:Nat) (la:aq) (lc:Nat):
 x.In w S ka kc la lc↔aM ka x.keys.length kc/\aM la x.l.length lc/\bC w S ka x.keys/\Rows w S x.l la:=by
 cases x with|mk k n s ks l=>simp only [V.In,V.X3,V.fT,V.dV]
def Kept (S:aw) (w w':World):Prop:=∀b,S b->b<w.heap.size->w'.heap[b]? =w.heap[b]?
theorem Kept.cell {S:aw} {w w':World} (h:Kept S w w') {p:Addr} {v:Value} (hS:S p.block) (hv:w.cell? p=some v):w'.cell? p=some v:=by
 have hb:=ku hv;rw [World.cell?_of_block (h _ hS hb)];exact hv
theorem Ext.kept {w w':World} (h:Ext w w') (S:aw):Kept S w w':=fun b _ hb=>Below.block h b hb
theorem Kept.mono {S T:aw} {w w':World} (h:Kept S w w') (hT:∀b,T b->S b):Kept T w w':=fun b hb=>h b (hT b hb)
theorem bC.keep {S T:aw} {w w':World} {a:aq} {ks:List ah} (h:bC w S a ks) (hk:Kept S w w') (hT:∀b,S b->b<w.heap.size->T b):bC w' T a ks:=by
 rcases h with h|⟨b,o,rfl,hS,hc⟩
 ·exact .inl h
 ·by_cases h0:ks= []
  ·exact .inl h0
  ·have hlt:b<w.heap.size:=ku (hc 0 (by have:=List.length_pos_iff.2 h0;omega))
   exact .inr ⟨b,o,rfl,hT b hS hlt,fun i hi=>hk.cell hS (hc i hi)⟩
theorem V.In.keep {S T:aw} {w w':World} {x:V} {ka:aq} {kc:Nat} {la:aq} {lc:Nat} (h:x.In w S ka kc la lc) (hk:Kept S w w') (hT:∀b,S b->b<w.heap.size->T b):x.In w' T ka kc la lc:=by
 induction x using V.ind generalizing ka kc la lc with
 |h x ih=>
  rw [V.df] at h⊢;obtain⟨h1,h2,h3,h4⟩:=h;refine⟨h1,h2,h3.keep hk hT,?_⟩;rcases h4 with h4|⟨b,o,rfl,hS,hr⟩
  ·exact .inl h4
  ·by_cases h0:x.l= []
   ·exact .inl h0
   ·have hlt:b<w.heap.size:=by
     obtain⟨_,_,_,_,hc,-⟩:=hr 0 (by have:=List.length_pos_iff.2 h0;omega);exact ku hc.1
    refine .inr ⟨b,o,rfl,hT b hS hlt,fun i hi=> ?_⟩;obtain⟨ka,kc,la,lc,⟨c0,c1,c2,c3,c4⟩,hin⟩:=hr i hi;exact⟨ka,kc,la,lc,⟨hk.cell hS c0,hk.cell hS c1,hk.cell hS c2,hk.cell hS c3,hk.cell hS c4⟩,ih _ (List.getElem_mem hi) hin⟩
theorem V.Item.keep {S T:aw} {w w':World} {b o:Nat} {x:V} (h:V.Item w S b o x) (hS:S b) (hk:Kept S w w') (hT:∀b,S b->b<w.heap.size->T b):V.Item w' T b o x:=by
 obtain⟨ka,kc,la,lc,⟨c0,c1,c2,c3,c4⟩,hin⟩:=h;exact⟨ka,kc,la,lc,⟨hk.cell hS c0,hk.cell hS c1,hk.cell hS c2,hk.cell hS c3,hk.cell hS c4⟩,hin.keep hk hT⟩
theorem Rows.keep {S T:aw} {w w':World} {l:List V} {p:aq} (h:Rows w S l p) (hk:Kept S w w') (hT:∀b,S b->b<w.heap.size->T b):Rows w' T l p:=by
 rcases h with h|⟨b,o,rfl,hS,hr⟩
 ·exact .inl h
 ·by_cases h0:l= []
  ·exact .inl h0
  ·have hlt:b<w.heap.size:=by
    obtain⟨_,_,_,_,hc,-⟩:=hr 0 (by have:=List.length_pos_iff.2 h0;omega);exact ku hc.1
   exact .inr ⟨b,o,rfl,hT b hS hlt,fun i hi=>(hr i hi).keep hS hk hT⟩
theorem bC.ext {S:aw} {w w':World} {a:aq} {ks:List ah} (h:bC w S a ks) (e:Ext w w'):bC w' S a ks:=h.keep (e.kept S) (fun _ h _=>h)
theorem V.In.ext {S:aw} {w w':World} {x:V} {ka:aq} {kc:Nat} {la:aq} {lc:Nat} (h:x.In w S ka kc la lc) (e:Ext w w'):x.In w' S ka kc la lc:=h.keep (e.kept S) (fun _ h _=>h)
theorem Rows.ext {S:aw} {w w':World} {l:List V} {p:aq} (h:Rows w S l p) (e:Ext w w'):Rows w' S l p:=h.keep (e.kept S) (fun _ h _=>h)
theorem V.Item.ext {S:aw} {w w':World} {b o:Nat} {x:V} (h:V.Item w S b o x) (e:Ext w w'):V.Item w' S b o x:=by
 obtain⟨ka,kc,la,lc,⟨c0,c1,c2,c3,c4⟩,hin⟩:=h;exact⟨ka,kc,la,lc,⟨e.cell c0,e.cell c1,e.cell c2,e.cell c3,e.cell c4⟩,hin.ext e⟩
theorem V.In.mono {S T:aw} {w:World} {x:V} {ka:aq} {kc:Nat} {la:aq} {lc:Nat} (h:x.In w S ka kc la lc) (hT:∀b,S b->b<w.heap.size->T b):x.In w T ka kc la lc:=h.keep (fun _ _ _=>rfl) hT
theorem V.In.item {S:aw} {w:World} {x:V} {ka:aq} {kc:Nat} {la:aq} {lc:Nat} (h:x.In w S ka kc la lc) {i:Nat} (hi:i<x.l.length):
 ∃b o,la=some ⟨b,o,none⟩/\S b/\V.Item w S b (o+i*5) x.l[i]:=by
 rw [V.df] at h;rcases h.2.2.2 with h|⟨b,o,rfl,hS,hr⟩
 ·rw [h] at hi;simp at hi
 ·exact⟨b,o,rfl,hS,hr i hi⟩
theorem V.In.key {S:aw} {w:World} {x:V} {ka:aq} {kc:Nat} {la:aq} {lc:Nat} (h:x.In w S ka kc la lc) {i:Nat} (hi:i<x.keys.length):
 ∃b o,ka=some ⟨b,o,none⟩/\S b/\w.cell? ⟨b,o+i,none⟩=some (.string x.keys[i]):=by
 rw [V.df] at h;rcases h.2.2.1 with h|⟨b,o,rfl,hS,hr⟩
 ·rw [h] at hi;simp at hi
 ·exact⟨b,o,rfl,hS,hr i hi⟩
abbrev V.val (x:V) (ka:aq) (kc:Nat) (la:aq) (lc:Nat):Value:= .agg #[.int .i64 x.k, .int .i64 x.n, .string x.s, .slice ka x.keys.length kc, .slice la x.l.length lc]
abbrev aC (w:World) (a:Nat) (x:V) (ka:aq) (kc:Nat) (la:aq) (lc:Nat):Prop:=af w a #[.int .i64 x.k, .int .i64 x.n, .string x.s, .slice ka x.keys.length kc, .slice la x.l.length lc] 36
abbrev aN (w:World) (a:Nat):Prop:=af w a #[.int .i64 0, .int .i64 0, .string ⟨#[]⟩, .slice none 0 0, .slice none 0 0] 36
abbrev fR (w:World) (a:Nat) (k:Int) (p f:ah) (x:V) (ka:aq) (kc:Nat) (la:aq) (lc:Nat):Prop:=af w a #[.int .i64 k, .string p, .string f, .int .i64 x.k, .int .i64 x.n, .string x.s, .slice ka x.keys.length kc, .slice la x.l.length lc] 198
def aU (S:aw) (w:World):aw:=fun b=>S b\/w.heap.size<=b
def qL (S:aw) (r:V) (w:World) (e:Ending) (w':World):Prop:=
 ∃ka kc la lc,e= .returned (r.val ka kc la lc)/\r.In w' (aU S w) ka kc la lc/\Ext w w'
def eO (S:aw) (r:V) (u:Value) (w:World) (e:Ending) (w':World):Prop:=
 ∃ka kc la lc,e= .returned (.tuple #[r.val ka kc la lc,u])/\r.In w' (aU S w) ka kc la lc/\Ext w w'
def bA (a b:ah):Bool:=Op.bytesLess a.toList b.toList
def fD (s:ah):Bool:=(s.data.toList.all fun c=>decide ((c.toNat:Int)<128))&&decide (s.size<=60)
def x8 (ks:List ah):Bool:=decide (∀i,(h:i<ks.length)->fD ks[i]=true/\ (0<i->bA (ks[i-1]'(by omega)) ks[i]=true))
def g1 (d k:Int):Bool:=decide (12<d\/k<0\/5<k)
def g2 (k n:Int) (s:ah) (lk ll:Nat):Bool:=decide ((k≠1/\k≠2/\n≠0)\/ (k≠3/\s.toList≠ [])\/ (k≠5/\0<lk)\/ (k<4/\0<ll))
def g3 (k n:Int) (s:ah):Bool:=decide ((k=1/\n≠0/\n≠1)\/n< -9007199254740992\/9007199254740992<n)|| !fD s
def g4 (k:Int) (lk ll:Nat):Bool:=decide (k=5/\lk≠ll)
def V.flat (d:Int) (x:V):Bool:= !g1 d x.k&& !g2 x.k x.n x.s x.keys.length x.l.length&& !g3 x.k x.n x.s&& !g4 x.k x.keys.length x.l.length&&x8 x.keys
def V.good:V->Int->Bool
 | .mk k n s ks l,d=>V.flat d (.mk k n s ks l)&&go l (d+1)
where go:List V->Int->Bool
 | [],_=>true
 |x::r,d=>V.good x d&&go r d
theorem V.X4 (l:List V) (d:Int):V.good.go l d=l.all fun x=>x.good d:=by
 induction l with
 |nil=>simp [V.good.go]
 |cons x r ih=>simp [V.good.go,ih]
theorem V.sP (x:V) (d:Int):x.good d=(x.flat d&&x.l.all fun y=>y.good (d+1)):=by
 cases x with|mk k n s ks l=>rw [V.good,V.X4];rfl
def V.fine (x:V):Bool:=x.good 1&&decide (x.count<=120)
theorem V.count_le (x:V):x.count<=x.size:=by
 induction x using V.ind with
 |h x ih=>
  rw [V.count_eq,V.size_eq];have:(x.l.map V.count).sum<= (x.l.map V.size).sum:=by
   generalize x.l=l at*
   induction l with
   |nil=>simp
   |cons a r ih2=>
    simp only [List.map_cons,List.sum_cons];have h1:=ih a (by simp);have h2:=ih2 (fun y hy=>ih y (by simp [hy]));omega
  omega
theorem V.D5 {x:V} {i:Nat} (h:i<x.l.length):(x.l[i]).count<x.count:=by
 rw [V.count_eq x];have:=uZ V.count (List.getElem_mem h);omega
theorem OE {α:Type} (f:α->Nat) (l:List α) {k:Nat} (h:k<l.length):((l.take (k+1)).map f).sum=((l.take k).map f).sum+f l[k]:=by
 rw [List.take_succ_eq_append_getElem h];simp only [List.map_append,List.map_cons,List.map_nil,List.sum_append,List.sum_cons,List.sum_nil,Nat.add_zero]
theorem Jm {α:Type} (f:α->Nat) (l:List α) (k:Nat):((l.take k).map f).sum<= (l.map f).sum:=by
 induction l generalizing k with
 |nil=>simp
 |cons a r ih=>
  cases k with
  |zero=>simp
  |succ k=>simp only [List.take_succ_cons,List.map_cons,List.sum_cons];have:=ih k;omega
theorem Jn {α:Type} (f:α->Bool) (l:List α) {k:Nat} (h:k<l.length) (h0:(l.take k).all f=true) (h1:f l[k]=true):(l.take (k+1)).all f=true:=by
 rw [List.take_succ_eq_append_getElem h];simp only [List.all_append,List.all_cons,List.all_nil,Bool.and_true,Bool.and_eq_true];exact⟨h0,h1⟩
theorem Jo {α:Type} (f:α->Bool) (l:List α) {k:Nat} (h:k<l.length) (h1:f l[k]=false):l.all f=false:=by
 simp only [List.all_eq_false];exact⟨l[k],List.getElem_mem h,by simp [h1]⟩
def V.same:V->V->Bool
 | .mk k n s ks l,y=>decide (k=y.k/\n=y.n/\s.toList=y.s.toList/\ks.map ByteArray.toList=y.keys.map ByteArray.toList/\l.length=y.l.length)&&go l y.l
where go:List V->List V->Bool
 | [],_=>true
 |_, []=>true
 |x::r,y::t=>V.same x y&&go r t
def V.find (x:V) (key:ah):Option Nat:=if x.k=5/\x.keys.length=x.l.length then x.keys.findIdx? fun k=>decide (k.toList=key.toList) else none
def V.zero:V:= .mk 0 0 ⟨#[]⟩ [] []
def V.member (x:V) (key:ah):Option V:=(x.find key).bind fun i=>x.l[i]?
end Go.Proofs.YtlcebdaghmdkeabGreatDoor
namespace Go.Proofs.YtlcebdaghmdkeabGreatDoor
open Go.Proofs.Tryz
theorem X5 (a:List UInt8):Op.bytesLess a a=false:=by
 induction a with
 |nil=>rfl
 |cons x a ih=>simp [Op.bytesLess,ih]
theorem X6 (a:List UInt8):∀b c,Op.bytesLess a b=true->Op.bytesLess b c=true->Op.bytesLess a c=true:=by
 induction a with
 |nil=>
  intro b c h1 h2
  cases b with
  |nil=>simp [Op.bytesLess] at h1
  |cons y b=>cases c with
   |nil=>simp [Op.bytesLess] at h2
   |cons z c=>simp [Op.bytesLess]
 |cons x a ih=>
  intro b c h1 h2
  cases b with
  |nil=>simp [Op.bytesLess] at h1
  |cons y b=>cases c with
   |nil=>simp [Op.bytesLess] at h2
   |cons z c=>
    simp only [Op.bytesLess,Bool.or_eq_true,decide_eq_true_eq,Bool.and_eq_true,beq_iff_eq] at h1 h2⊢;rcases h1 with h1|⟨rfl,h1⟩
    ·rcases h2 with h2|⟨rfl,h2⟩
     ·exact .inl (UInt8.lt_trans h1 h2)
     ·exact .inl h1
    ·rcases h2 with h2|⟨rfl,h2⟩
     ·exact .inl h2
     ·exact .inr ⟨rfl,ih _ _ h1 h2⟩
theorem X7 (a:List UInt8):∀b,Op.bytesLess a b=true\/a=b\/Op.bytesLess b a=true:=by
 induction a with
 |nil=>
  intro b
  cases b with
  |nil=>exact .inr (.inl rfl)
  |cons y b=>exact .inl rfl
 |cons x a ih=>
  intro b
  cases b with
  |nil=>exact .inr (.inr rfl)
  |cons y b=>
   simp only [Op.bytesLess,Bool.or_eq_true,decide_eq_true_eq,Bool.and_eq_true,beq_iff_eq,List.cons.injEq];rcases Nat.lt_trichotomy x.toNat y.toNat with h|h|h
   ·exact .inl (.inl (UInt8.lt_iff_toNat_lt.2 h))
   ·have e:x=y:=UInt8.toNat_inj.1 h
    subst e;rcases ih b with h|h|h
    ·exact .inl (.inr ⟨rfl,h⟩)
    ·exact .inr (.inl ⟨rfl,h⟩)
    ·exact .inr (.inr (.inr ⟨rfl,h⟩))
   ·exact .inr (.inr (.inl (UInt8.lt_iff_toNat_lt.2 h)))
theorem kK {a b:ah} (h:a.toList=b.toList):a=b:=by
 rw [ByteArray.toList_eq,ByteArray.toList_eq] at h;obtain⟨⟨a⟩⟩:=a;obtain⟨⟨b⟩⟩:=b;simp only at h;subst h;rfl
theorem Jp (a:ah):bA a a=false:=X5 _
theorem uf {a b c:ah} (h1:bA a b=true) (h2:bA b c=true):bA a c=true:=X6 _ _ _ h1 h2
theorem Es (a b:ah):bA a b=true\/a=b\/bA b a=true:=by
 rcases X7 a.toList b.toList with h|h|h
 ·exact .inl h
 ·exact .inr (.inl (kK h))
 ·exact .inr (.inr h)
theorem Jq {a b:ah} (h:bA a b=true):a≠b:=by rintro rfl;rw [Jp] at h;cases h
theorem Jr {a b:ah} (h:bA a b=true):bA b a=false:=by
 cases h2:bA b a with
 |false=>rfl
 |true=>have:=uf h h2;rw [Jp] at this;cases this
abbrev cG (ks:List ah):Prop:=ks.Pairwise fun a b=>bA a b=true
theorem OG (ks:List ah):x8 ks=true↔(∀k∈ks,fD k=true)/\cG ks:=by
 unfold x8;rw [decide_eq_true_eq];constructor
 ·intro h
  refine⟨?_,?_⟩
  ·intro k hk
   obtain⟨i,hi,rfl⟩:=List.getElem_of_mem hk;exact(h i hi).1
  ·rw [cG,List.pairwise_iff_getElem]
   intro i j hi hj hij
   induction j with
   |zero=>omega
   |succ j ih=>
    have h1:=(h (j+1) hj).2 (by omega);simp only [Nat.add_sub_cancel] at h1;by_cases e:i=j
    ·subst e;exact h1
    ·exact uf (ih (by omega) (by omega)) h1
 ·rintro⟨h1,h2⟩ i hi
  refine⟨h1 _ (List.getElem_mem hi),fun h0=> ?_⟩;rw [cG,List.pairwise_iff_getElem] at h2;exact h2 (i-1) i (by omega) hi (by omega)
def posOf (ks:List ah) (key:ah):Nat:=(ks.takeWhile fun k=>bA k key).length
theorem sK (ks:List ah) (key:ah):posOf ks key<=ks.length:=by
 unfold posOf
 induction ks with
 |nil=>simp
 |cons k r ih=>simp only [List.takeWhile_cons];split<;>simp<;>omega
theorem OH (ks:List ah) (key:ah):(∀i,(h:i<ks.length)->i<posOf ks key->bA ks[i] key=true)/\ (∀h:posOf ks key<ks.length,bA ks[posOf ks key] key=false):=by
 induction ks with
 |nil=>exact⟨fun i h=>by simp at h,fun h=>by simp at h⟩
 |cons k r ih=>
  by_cases hk:bA k key=true
  ·have e:posOf (k::r) key=posOf r key+1:=by simp [posOf,hk]
   refine⟨?_,?_⟩
   ·intro i hi hp
    cases i with
    |zero=>simpa using hk
    |succ i=>simpa using ih.1 i (by simpa using hi) (by omega)
   ·intro h
    simp only [e] at h⊢;simpa using ih.2 (by simpa using h)
  ·have hk:bA k key=false:=by simpa using hk
   have e:posOf (k::r) key=0:=by simp [posOf,hk]
   refine⟨?_,?_⟩
   ·intro i hi hp;omega
   ·intro h
    simp only [e];simpa using hk
theorem OI {ks:List ah} {key:ah} {i:Nat} (hl:i<ks.length) (h:i<posOf ks key):bA ks[i] key=true:=(OH ks key).1 i hl h
theorem OJ {ks:List ah} {key:ah} (h:posOf ks key<ks.length):bA ks[posOf ks key] key=false:=(OH ks key).2 h
theorem IJ {ks:List ah} {key:ah} {p:Nat} (hp:p<=ks.length) (h1:∀i,(h:i<p)->bA (ks[i]'(by omega)) key=true) (h2:(h:p<ks.length)->bA ks[p] key=false):p=posOf ks key:=by
 induction ks generalizing p with
 |nil=>simp at hp;simp [posOf,hp]
 |cons k r ih=>
  cases p with
  |zero=>
   have:=h2 (by simp);simp only [List.getElem_cons_zero] at this;simp [posOf,this]
  |succ p=>
   have h0:=h1 0 (by omega);simp only [List.getElem_cons_zero] at h0;have:=ih (p:=p) (by simpa using hp) (fun i hi=>by have:=h1 (i+1) (by omega);simpa using this) (fun h=>by have:=h2 (by simpa using h);simpa using this);simp only [posOf,List.takeWhile_cons,h0,if_true,List.length_cons];rw [<-posOf];omega
def hasB (ks:List ah) (key:ah):Bool:=match ks[posOf ks key]? with|some k=>decide (k.toList=key.toList)|none=>false
theorem BZ (ks:List ah) (key:ah):hasB ks key=true↔ks[posOf ks key]? =some key:=by
 unfold hasB
 cases h:ks[posOf ks key]? with
 |none=>simp
 |some k=>
  simp only [decide_eq_true_eq,Option.some.injEq];exact⟨fun h=>kK h,fun h=>by rw [h]⟩
theorem sG {ks:List ah} {key:ah} (h:hasB ks key=true):posOf ks key<ks.length:=by
 have:=(BZ _ _).1 h;exact(List.getElem?_eq_some_iff.1 this).1
theorem zK {ks:List ah} {key:ah} (h:hasB ks key=true):ks[posOf ks key]'(sG h)=key:=by
 have:=(BZ _ _).1 h;exact(List.getElem?_eq_some_iff.1 this).2
theorem zL {ks:List ah} (h:cG ks) {i j:Nat} (hi:i<ks.length) (hj:j<ks.length) (hij:i<j):bA ks[i] ks[j]=true:=(List.pairwise_iff_getElem.1 h) i j hi hj hij
theorem OL {ks:List ah} (h:cG ks) {key:ah} {i:Nat} (hi:i<ks.length) (hp:posOf ks key<=i):bA ks[i] key=false:=by
 by_cases e:posOf ks key=i
 ·subst e;exact OJ hi
 ·have h1:=OJ (ks:=ks) (key:=key) (by omega)
  have h2:=zL h (show posOf ks key<ks.length by omega) hi (by omega)
  cases h3:bA ks[i] key with
  |false=>rfl
  |true=>rw [uf h2 h3] at h1;cases h1
theorem Js {ks:List ah} (h:cG ks) {key:ah} {i:Nat} (hi:i<ks.length) (he:ks[i]=key):posOf ks key=i:=by
 symm;refine IJ (by omega) (fun j hj=> ?_) (fun _=> ?_)
 ·rw [<-he];exact zL h (by omega) hi hj
 ·rw [he];exact Jp _
theorem Ej {ks:List ah} (h:cG ks) {key:ah} (hm:key∈ks):hasB ks key=true:=by
 obtain⟨i,hi,he⟩:=List.getElem_of_mem hm;rw [BZ,Js h hi he,List.getElem?_eq_getElem hi,he]
theorem OM {ks:List ah} (h:cG ks) {key:ah} (hn:hasB ks key=false) {i:Nat} (hi:i<ks.length) (hp:posOf ks key<=i):bA key ks[i]=true:=by
 rcases Es ks[i] key with h1|h1|h1
 ·rw [OL h hi hp] at h1;cases h1
 ·have:=Ej h (h1▸List.getElem_mem hi)
  rw [hn] at this;cases this
 ·exact h1
def V.put (x:V) (key:ah) (y:V):V:=
 if x.k=5/\x.keys.length=x.l.length then
  if hasB x.keys key=true then .mk x.k x.n x.s x.keys (x.l.set (posOf x.keys key) y)
  else .mk x.k x.n x.s (x.keys.take (posOf x.keys key)++key::x.keys.drop (posOf x.keys key)) (x.l.take (posOf x.keys key)++y::x.l.drop (posOf x.keys key))
 else x
def V.del (x:V) (key:ah):V:=
 if x.k=5/\x.keys.length=x.l.length then
  if hasB x.keys key=true then .mk x.k x.n x.s (x.keys.take (posOf x.keys key)++x.keys.drop (posOf x.keys key+1)) (x.l.take (posOf x.keys key)++x.l.drop (posOf x.keys key+1))
  else x
 else x
theorem Bx {ks:List ah} (h:cG ks) {key:ah} (hn:hasB ks key=false):cG (ks.take (posOf ks key)++key::ks.drop (posOf ks key)):=by
 unfold cG;rw [List.pairwise_append];refine⟨h.sublist (List.take_sublist _ _),?_,?_⟩
 ·rw [List.pairwise_cons]
  refine⟨fun a ha=> ?_,h.sublist (List.drop_sublist _ _)⟩;obtain⟨i,hi,rfl⟩:=List.getElem_of_mem ha;rw [List.getElem_drop];exact OM h hn (by simp at hi;omega) (by omega)
 ·intro a ha b hb
  obtain⟨i,hi,rfl⟩:=List.getElem_of_mem ha;have hi':i<posOf ks key:=by simp at hi;omega
  have hl:=sK ks key;rw [List.getElem_take];have h1:=OI (ks:=ks) (key:=key) (i:=i) (by omega) hi';rcases List.mem_cons.1 hb with rfl|hb
  ·exact h1
  ·obtain⟨j,hj,rfl⟩:=List.getElem_of_mem hb
   rw [List.getElem_drop];exact uf h1 (OM h hn (by simp at hj;omega) (by omega))
theorem OO {ks:List ah} (h:cG ks) (p:Nat):cG (ks.take p++ks.drop (p+1)):=by
 refine List.Pairwise.sublist ?_ h;have h1:ks.take p++ks.drop p=ks:=List.take_append_drop _ _;have h2:(ks.drop (p+1)).Sublist (ks.drop p):=by rw [<-List.drop_drop];exact List.drop_sublist _ _
 have:=(List.Sublist.refl (ks.take p)).append h2;rw [h1] at this;exact this
theorem x9 {x:V} {key:ah} {y:V} (h:x.k=5/\x.keys.length=x.l.length) (hb:hasB x.keys key=true):x.put key y= .mk x.k x.n x.s x.keys (x.l.set (posOf x.keys key) y):=by
 unfold V.put;rw [if_pos h,if_pos hb]
theorem ya {x:V} {key:ah} {y:V} (h:x.k=5/\x.keys.length=x.l.length) (hb:hasB x.keys key=false):x.put key y= .mk x.k x.n x.s (x.keys.take (posOf x.keys key)++key::x.keys.drop (posOf x.keys key)) (x.l.take (posOf x.keys key)++y::x.l.drop (posOf x.keys key)):=by
 unfold V.put;rw [if_pos h,if_neg (by rw [hb];decide)]
theorem OP {x:V} {key:ah} {y:V} (h:¬(x.k=5/\x.keys.length=x.l.length)):x.put key y=x:=by
 unfold V.put;rw [if_neg h]
theorem zX {x:V} {key:ah} (h:x.k=5/\x.keys.length=x.l.length) (hb:hasB x.keys key=true):x.del key= .mk x.k x.n x.s (x.keys.take (posOf x.keys key)++x.keys.drop (posOf x.keys key+1)) (x.l.take (posOf x.keys key)++x.l.drop (posOf x.keys key+1)):=by
 unfold V.del;rw [if_pos h,if_pos hb]
theorem zY {x:V} {key:ah} (hb:hasB x.keys key=false):x.del key=x:=by
 unfold V.del;split
 ·rw [if_neg (by rw [hb];decide)]
 ·rfl
theorem Jt {x:V} {key:ah} (h:¬(x.k=5/\x.keys.length=x.l.length)):x.del key=x:=by
 unfold V.del;rw [if_neg h]
theorem DV {α:Type} (f:α->Nat) (l:List α) (p:Nat) (a:α):((l.take p++a::l.drop p).map f).sum=(l.map f).sum+f a:=by
 have:(l.map f).sum=((l.take p++l.drop p).map f).sum:=by rw [List.take_append_drop]
 rw [this];simp only [List.map_append,List.map_cons,List.sum_append,List.sum_cons];omega
theorem DW {α:Type} (f:α->Nat) (l:List α) (p:Nat):((l.take p++l.drop (p+1)).map f).sum<= (l.map f).sum:=by
 have:(l.map f).sum=((l.take p++l.drop p).map f).sum:=by rw [List.take_append_drop]
 rw [this];have h2:((l.drop (p+1)).map f).sum<= ((l.drop p).map f).sum:=by
  by_cases h:p<l.length
  ·rw [List.drop_eq_getElem_cons h];simp only [List.map_cons,List.sum_cons];omega
  ·rw [List.drop_of_length_le (by omega)];simp
 simp only [List.map_append,List.sum_append];omega
theorem MQ {α:Type} (f:α->Nat) (l:List α) (p:Nat) (a:α):((l.set p a).map f).sum<= (l.map f).sum+f a:=by
 induction l generalizing p with
 |nil=>simp
 |cons b r ih=>
  cases p with
  |zero=>simp only [List.set_cons_zero,List.map_cons,List.sum_cons];omega
  |succ p=>have:=ih p;simp only [List.set_cons_succ,List.map_cons,List.sum_cons];omega
theorem Vh (x:V) (key:ah) (y:V):(x.put key y).size<=x.size+key.size+1+y.size:=by
 by_cases h:x.k=5/\x.keys.length=x.l.length
 ·by_cases hb:hasB x.keys key=true
  ·rw [x9 h hb,V.size_eq,V.size_eq x]
   have:=MQ V.size x.l (posOf x.keys key) y;simp only [V.ki,V.fT,V.dV];omega
  ·rw [ya h (by simpa using hb),V.size_eq,V.size_eq x]
   have h1:=DV V.size x.l (posOf x.keys key) y;have h2:=DV (fun k:ah=>k.size+1) x.keys (posOf x.keys key) key;simp only [V.ki,V.fT,V.dV,eY] at*;omega
 ·rw [OP h];omega
theorem Vk (x:V) (key:ah):(x.del key).size<=x.size:=by
 by_cases h:x.k=5/\x.keys.length=x.l.length
 ·by_cases hb:hasB x.keys key=true
  ·rw [zX h hb,V.size_eq,V.size_eq x]
   have h1:=DW V.size x.l (posOf x.keys key);have h2:=DW (fun k:ah=>k.size+1) x.keys (posOf x.keys key);simp only [V.ki,V.fT,V.dV,eY] at*;omega
  ·rw [zY (by simpa using hb)];omega
 ·rw [Jt h];omega
def V.sound (x:V):Prop:=∃d,x.good d=true
theorem Ji {x:V} {d e:Int} (h:x.good d=true) (hde:e<=d):x.good e=true:=by
 induction x using V.ind generalizing d e with
 |h x ih=>
  rw [V.sP,Bool.and_eq_true,List.all_eq_true] at h⊢;refine⟨?_,fun y hy=>ih y hy (h.2 y hy) (by omega)⟩;have h1:=h.1;simp only [V.flat,Bool.and_eq_true,Bool.not_eq_true',g1,decide_eq_false_iff_not] at h1⊢;obtain⟨⟨⟨⟨h1,h2⟩,h3⟩,h4⟩,h5⟩:=h1;exact⟨⟨⟨⟨by omega,h2⟩,h3⟩,h4⟩,h5⟩
structure Flat (x:V):Prop where
 k0:0<=x.k
 k5:x.k<=5
 n0:x.k≠1->x.k≠2->x.n=0
 s0:x.k≠3->x.s.toList= []
 OQ:x.k≠5->x.keys= []
 l0:x.k<4->x.l= []
 n1:x.k=1->x.n=0\/x.n=1
 Ju: -9007199254740992<=x.n
 Jv:x.n<=9007199254740992
 sp:fD x.s=true
 len:x.k=5->x.keys.length=x.l.length
 kp:∀k∈x.keys,fD k=true
 eG:cG x.keys
theorem Jw {x:V} {d:Int} (h:x.flat d=true):Flat x/\d<=12:=by
 simp only [V.flat,Bool.and_eq_true,Bool.not_eq_true',g1,g2,g3,g4,decide_eq_false_iff_not,Bool.or_eq_false_iff,Bool.not_eq_false'] at h;obtain⟨⟨⟨⟨h1,h2⟩,h3,hp⟩,h4⟩,h5⟩:=h;obtain⟨hk,hr⟩:=(OG _).1 h5;refine⟨⟨by omega,by omega,fun a b=> ?_,fun a=> ?_,fun a=> ?_,fun a=> ?_,fun a=> ?_,by omega,by omega,hp,fun a=> ?_,hk,hr⟩,by omega⟩
 ·by_cases e:x.n=0
  ·exact e
  ·exact absurd (.inl ⟨a,b,e⟩) h2
 ·by_cases e:x.s.toList= []
  ·exact e
  ·exact absurd (.inr (.inl ⟨a,e⟩)) h2
 ·by_cases e:0<x.keys.length
  ·exact absurd (.inr (.inr (.inl ⟨a,e⟩))) h2
  ·exact List.eq_nil_of_length_eq_zero (by omega)
 ·by_cases e:0<x.l.length
  ·exact absurd (.inr (.inr (.inr ⟨a,e⟩))) h2
  ·exact List.eq_nil_of_length_eq_zero (by omega)
 ·omega
 ·omega
theorem of_flat {x:V} {d:Int} (h:Flat x) (hd:d<=12):x.flat d=true:=by
 simp only [V.flat,Bool.and_eq_true,Bool.not_eq_true',g1,g2,g3,g4,decide_eq_false_iff_not,Bool.or_eq_false_iff,Bool.not_eq_false'];refine⟨⟨⟨⟨?_,?_⟩,?_,h.sp⟩,?_⟩,(OG _).2 ⟨h.kp,h.eG⟩⟩
 ·have:=h.k0;have:=h.k5;omega
 ·rintro(⟨a,b,c⟩|⟨a,b⟩|⟨a,b⟩|⟨a,b⟩)
  ·exact c (h.n0 a b)
  ·exact b (h.s0 a)
  ·rw [h.OQ a] at b;simp at b
  ·rw [h.l0 a] at b;simp at b
 ·rintro(⟨a,b,c⟩|a|a)
  ·rcases h.n1 a with h|h
   ·exact b h
   ·exact c h
  ·have:=h.Ju;omega
  ·have:=h.Jv;omega
 ·rintro⟨a,b⟩;exact b (h.len a)
theorem V.sound.flat {x:V} (h:x.sound):Flat x:=by
 obtain⟨d,h⟩:=h;rw [V.sP,Bool.and_eq_true] at h;exact(Jw h.1).1
theorem V.sound.item {x y:V} (h:x.sound) (hy:y∈x.l):y.sound:=by
 obtain⟨d,h⟩:=h;rw [V.sP,Bool.and_eq_true,List.all_eq_true] at h;exact⟨d+1,h.2 y hy⟩
theorem X8 {l:List V} (h:∀y∈l,y.sound):∃d:Int,d<=12/\∀y∈l,y.good (d+1)=true:=by
 induction l with
 |nil=>exact⟨12,by omega,fun y hy=>by cases hy⟩
 |cons a r ih=>
  obtain⟨d,h1,h2⟩:=ih (fun y hy=>h y (by simp [hy]));obtain⟨e,he⟩:=h a (by simp);refine⟨min d (e-1),by omega,fun y hy=> ?_⟩;rcases List.mem_cons.1 hy with rfl|hy
  ·exact Ji he (by omega)
  ·exact Ji (h2 y hy) (by omega)
theorem OT {x:V} (h:Flat x) (hl:∀y∈x.l,y.sound):x.sound:=by
 obtain⟨d,h1,h2⟩:=X8 hl;exact⟨d,by rw [V.sP,Bool.and_eq_true,List.all_eq_true];exact⟨of_flat h h1,h2⟩⟩
theorem gG {x:V} (h:x.fine=true):x.sound:=by
 simp only [V.fine,Bool.and_eq_true] at h;exact⟨1,h.1⟩
theorem tR {x:V} (h:x.fine=true):x.count<=120:=by
 simp only [V.fine,Bool.and_eq_true,decide_eq_true_eq] at h;exact h.2
theorem xJ {s:ah} (h:fD s=true):s.size<=60:=by
 simp only [fD,Bool.and_eq_true,decide_eq_true_eq] at h;exact h.2
theorem zz {x:V} (h:x.sound):x.size+61<=x.count*122:=by
 induction x using V.ind with
 |h x ih=>
  have hf:=h.flat;have hs:=xJ hf.sp;rw [V.size_eq,V.count_eq];have h1:eY x.keys<=x.l.length*61:=by
   by_cases hk:x.k=5
   ·rw [<-hf.len hk]
    have h2:∀k∈x.keys,k.size<=60:=fun k hk=>xJ (hf.kp k hk);generalize x.keys=ks at h2;unfold eY
    induction ks with
    |nil=>simp
    |cons a r ih=>
     have:=ih (fun k hk=>h2 k (by simp [hk]));have:=h2 a (by simp);simp only [List.map_cons,List.sum_cons,List.length_cons];omega
   ·rw [hf.OQ hk];simp [eY]
  have h2:(x.l.map V.size).sum+x.l.length*61<= (x.l.map V.count).sum*122:=by
   have h3:∀y∈x.l,y.size+61<=y.count*122:=fun y hy=>ih y hy (h.item hy);generalize x.l=l at h3
   induction l with
   |nil=>simp
   |cons a r ih=>
    have:=ih (fun y hy=>h3 y (by simp [hy]));have:=h3 a (by simp);simp only [List.map_cons,List.sum_cons,List.length_cons] at*;omega
  omega
theorem pL {x:V} (h:x.fine=true):x.size<=14640:=by
 have h1:=zz (gG h);have h2:=tR h;omega
def lk:List ah->List V->ah->Option V
 |k::ks,x::l,key=>if k=key then some x else lk ks l key
 |_,_,_=>none
theorem B0:∀(ks:List ah) (l:List V) {key:ah},key∉ks->lk ks l key=none
 | [],_,_,_=>rfl
 |_::_, [],_,_=>rfl
 |k::ks,x::l,key,h=>by simp only [List.mem_cons,not_or] at h;rw [lk,if_neg (fun e=>h.1 e.symm),B0 ks l h.2]
theorem OU:∀(ks:List ah) (l:List V) {key:ah},ks.length=l.length->key∈ks->∃y,lk ks l key=some y
 | [],_,_,_,h=>by cases h
 |_::_, [],_,hl,_=>by simp at hl
 |k::ks,x::l,key,hl,h=>by
  rw [lk];by_cases e:k=key
  ·rw [if_pos e];exact⟨_,rfl⟩
  ·rw [if_neg e]
   rcases List.mem_cons.1 h with h|h
   ·exact absurd h.symm e
   ·exact OU ks l (by simpa using hl) h
theorem zJ:∀(ks:List ah) (l:List V) (hl:ks.length=l.length),ks.Nodup->∀i (h:i<ks.length),lk ks l ks[i]=some (l[i]'(by omega))
 | [],_,_,_,i,h=>by simp at h
 |_::_, [],hl,_,_,_=>by simp at hl
 |k::ks,x::l,hl,hn,0,h=>by simp [lk]
 |k::ks,x::l,hl,hn,i+1,h=>by have hn':=List.nodup_cons.1 hn;simp only [List.length_cons] at h;simp only [List.getElem_cons_succ];rw [lk,if_neg (fun e=>hn'.1 (by rw [e];exact List.getElem_mem _)),zJ ks l (by simpa using hl) hn'.2 i (by omega)]
theorem OV (key:ah) (y:V) (k':ah):∀(p:Nat) (ks:List ah) (l:List V),ks.length=l.length->p<=ks.length->key∉ks->lk (ks.take p++key::ks.drop p) (l.take p++y::l.drop p) k'=if key=k' then some y else lk ks l k'
 |0,ks,l,_,_,_=>by simp only [List.take_zero,List.drop_zero,List.nil_append,lk]
 |p+1, [],_,_,h,_=>by simp at h
 |p+1,_::_, [],hl,_,_=>by simp at hl
 |p+1,k::ks,x::l,hl,h,hn=>by
  simp only [List.mem_cons,not_or] at hn;simp only [List.take_succ_cons,List.drop_succ_cons,List.cons_append,lk];rw [OV key y k' p ks l (by simpa using hl) (by simpa using h) hn.2];by_cases e:k=k'
  ·rw [if_pos e,if_neg (fun e'=>hn.1 (e'.trans e.symm)),if_pos e]
  ·rw [if_neg e,if_neg e]
theorem OW (y:V) (k':ah):∀(p:Nat) (ks:List ah) (l:List V) (hl:ks.length=l.length) (h:p<ks.length),ks.Nodup->lk ks (l.set p y) k'=if ks[p]=k' then some y else lk ks l k'
 |_, [],_,_,h,_=>by simp at h
 |_,_::_, [],hl,_,_=>by simp at hl
 |0,k::ks,x::l,hl,h,hn=>by simp only [List.set_cons_zero,lk,List.getElem_cons_zero];split<;>rfl
 |p+1,k::ks,x::l,hl,h,hn=>by
  have hn':=List.nodup_cons.1 hn;simp only [List.length_cons] at h;simp only [List.set_cons_succ,lk,List.getElem_cons_succ];rw [OW y k' p ks l (by simpa using hl) (by omega) hn'.2];by_cases e:k=k'
  ·rw [if_pos e,if_neg (fun e'=>hn'.1 (by rw [e,<-e'];exact List.getElem_mem _)),if_pos e]
  ·rw [if_neg e,if_neg e]
theorem OX (k':ah):∀(p:Nat) (ks:List ah) (l:List V) (hl:ks.length=l.length) (h:p<ks.length),ks.Nodup->lk (ks.take p++ks.drop (p+1)) (l.take p++l.drop (p+1)) k'=if ks[p]=k' then none else lk ks l k'
 |_, [],_,_,h,_=>by simp at h
 |_,_::_, [],hl,_,_=>by simp at hl
 |0,k::ks,x::l,hl,h,hn=>by
  have hn':=List.nodup_cons.1 hn;simp only [List.take_zero,List.nil_append,List.drop_succ_cons,List.drop_zero,lk,List.getElem_cons_zero];by_cases e:k=k'
  ·rw [if_pos e];exact B0 _ _ (e▸hn'.1)
  ·rw [if_neg e,if_neg e]
 |p+1,k::ks,x::l,hl,h,hn=>by
  have hn':=List.nodup_cons.1 hn;simp only [List.length_cons] at h;simp only [List.take_succ_cons,List.drop_succ_cons,List.cons_append,lk,List.getElem_cons_succ];rw [OX k' p ks l (by simpa using hl) (by omega) hn'.2];by_cases e:k=k'
  ·rw [if_pos e,if_neg (fun e'=>hn'.1 (by rw [e,<-e'];exact List.getElem_mem _)),if_pos e]
  ·rw [if_neg e,if_neg e]
theorem OY (key:ah):∀(ks:List ah) (l:List V),ks.length=l.length-> ((ks.findIdx? fun k=>decide (k.toList=key.toList)).bind fun i=>l[i]?)=lk ks l key
 | [],_,_=>rfl
 |_::_, [],hl=>by simp at hl
 |k::ks,x::l,hl=>by
  rw [List.findIdx?_cons,lk];by_cases e:k=key
  ·rw [if_pos e,if_pos (by simp [e])];rfl
  ·rw [if_neg e,if_neg (by simpa using fun h=>e (kK h)),<-OY key ks l (by simpa using hl)]
   cases ks.findIdx? fun k=>decide (k.toList=key.toList)<;>rfl
structure fY (x:V):Prop where
 k5:x.k=5
 n0:x.n=0
 s0:x.s=⟨#[]⟩
 len:x.keys.length=x.l.length
 eG:cG x.keys
theorem X9 {ks:List ah} (h:cG ks):ks.Nodup:=h.imp fun h=>Jq h
theorem fY.nodup {x:V} (h:fY x):x.keys.Nodup:=X9 h.eG
theorem toList_none:(⟨#[]⟩:ah).toList= []:=by rw [ByteArray.toList_eq]
theorem Ya {s:ah} (h:s.toList= []):s=⟨#[]⟩:=kK (by rw [h,toList_none])
theorem il {x:V} (h:x.sound) (h5:x.k=5):fY x:=
 have f:=h.flat
 ⟨h5,f.n0 (by omega) (by omega),Ya (f.s0 (by omega)),f.len h5,f.eG⟩
def V.bV:V:= .mk 5 0 ⟨#[]⟩ [] []
theorem OZ:fY V.bV:=⟨rfl,rfl,rfl,rfl,List.Pairwise.nil⟩
theorem O0 {x:V} (h5:x.k=5) (hl:x.keys.length=x.l.length) (key:ah):x.member key=lk x.keys x.l key:=by
 unfold V.member V.find;rw [if_pos ⟨h5,hl⟩];exact OY key _ _ hl
theorem fY.member {x:V} (h:fY x) (key:ah):x.member key=lk x.keys x.l key:=O0 h.k5 h.len key
theorem NC (key:ah):V.bV.member key=none:=by rw [OZ.member];rfl
theorem fY.put {x:V} (h:fY x) (key:ah) (y:V):fY (x.put key y):=by
 cases hb:hasB x.keys key with
 |true=>rw [x9 ⟨h.k5,h.len⟩ hb];exact⟨h.k5,h.n0,h.s0,by simpa using h.len,h.eG⟩
 |false=>rw [ya ⟨h.k5,h.len⟩ hb];exact⟨h.k5,h.n0,h.s0,by have:=h.len;simp;omega,Bx h.eG hb⟩
theorem fY.del {x:V} (h:fY x) (key:ah):fY (x.del key):=by
 cases hb:hasB x.keys key with
 |true=>rw [zX ⟨h.k5,h.len⟩ hb];exact⟨h.k5,h.n0,h.s0,by have:=h.len;simp;omega,OO h.eG _⟩
 |false=>rw [zY hb];exact h
theorem ER {ks:List ah} (h:cG ks) {key:ah} (hn:hasB ks key=false):key∉ks:=fun hm=>by rw [Ej h hm] at hn;cases hn
theorem um {x:V} (h:fY x) (key:ah) (y:V) (k':ah):(x.put key y).member k'=if key=k' then some y else x.member k':=by
 rw [(h.put key y).member,h.member]
 cases hb:hasB x.keys key with
 |true=>
  rw [x9 ⟨h.k5,h.len⟩ hb];simp only [V.fT,V.dV];rw [OW y k' _ _ _ h.len (sG hb) h.nodup,zK hb]
 |false=>
  rw [ya ⟨h.k5,h.len⟩ hb];simp only [V.fT,V.dV];exact OV key y k' _ _ _ h.len (sK _ _) (ER h.eG hb)
theorem ES {x:V} (h:fY x) (key k':ah):(x.del key).member k'=if key=k' then none else x.member k':=by
 cases hb:hasB x.keys key with
 |true=>
  rw [(h.del key).member,h.member,zX ⟨h.k5,h.len⟩ hb];simp only [V.fT,V.dV];rw [OX k' _ _ _ h.len (sG hb) h.nodup,zK hb]
 |false=>
  rw [zY hb];by_cases e:key=k'
  ·rw [if_pos e,<-e,h.member];exact B0 _ _ (ER h.eG hb)
  ·rw [if_neg e]
theorem xp {x y:V} {key:ah} (h:x.member key=some y):y∈x.l:=by
 unfold V.member at h;obtain⟨i,-,hi⟩:=Option.bind_eq_some_iff.1 h;exact List.mem_of_getElem? hi
theorem O1 {x:V} (h:x.k≠5) (key:ah):x.member key=none:=by
 unfold V.member V.find;rw [if_neg (fun e=>h e.1)];rfl
theorem fY.vB {x:V} (h:fY x) (key:ah):key∈x.keys↔x.member key≠none:=by
 rw [h.member];constructor
 ·intro hm
  obtain⟨y,hy⟩:=OU _ _ h.len hm;rw [hy];simp
 ·intro hn
  by_cases hm:key∈x.keys
  ·exact hm
  ·exact absurd (B0 _ _ hm) hn
theorem O2:∀ {a b:List ah},cG a->cG b-> (∀k,k∈a↔k∈b)->a=b
 | [], [],_,_,_=>rfl
 | [],y::t,_,_,h=>by have:=(h y).2 (by simp);cases this
 |x::r, [],_,_,h=>by have:=(h x).1 (by simp);cases this
 |x::r,y::t,ha,hb,h=>by
  have ha':=List.pairwise_cons.1 ha;have hb':=List.pairwise_cons.1 hb;have e:x=y:=by
   by_cases e:x=y
   ·exact e
   ·have h1:x∈t:=(List.mem_cons.1 ((h x).1 (by simp))).resolve_left e
    have h2:y∈r:=(List.mem_cons.1 ((h y).2 (by simp))).resolve_left (fun e'=>e e'.symm);have:=Jr (ha'.1 y h2);rw [hb'.1 x h1] at this;cases this
  subst e;rw [O2 ha'.2 hb'.2 (fun k=> ?_)];have hk:=h k;simp only [List.mem_cons] at hk;constructor
  ·intro hm
   exact(hk.1 (.inr hm)).resolve_left (fun e=>by subst e;exact Jq (ha'.1 _ hm) rfl)
  ·intro hm
   exact(hk.2 (.inr hm)).resolve_left (fun e=>by subst e;exact Jq (hb'.1 _ hm) rfl)
theorem Jx {x y:V} (hx:fY x) (hy:fY y) (h:∀k,x.member k=y.member k):x=y:=by
 have hk:x.keys=y.keys:=O2 hx.eG hy.eG fun k=>by rw [hx.vB,hy.vB,h k]
 have hl:x.l=y.l:=by
  have e1:=hx.len;have e2:=hy.len;have e3:=congrArg List.length hk;apply List.ext_getElem (by omega);intro i h1 h2;have a1:=zJ _ _ hx.len hx.nodup i (by omega);have a2:=zJ _ _ hy.len hy.nodup i (by omega);have a3:=h (x.keys[i]'(by omega));rw [hx.member,hy.member,a1] at a3;have a4:y.keys[i]'(by omega)=x.keys[i]'(by omega):=by simp only [hk]
  rw [<-a4,a2] at a3;exact Option.some.inj a3
 rw [<-V.eta x,<-V.eta y,hx.k5,hy.k5,hx.n0,hy.n0,hx.s0,hy.s0,hk,hl]
theorem B6 {x y:V} (hx:x.sound) (hy:y.sound) {key:ah} (hk:fD key=true) (h5:x.k=5):(x.put key y).sound:=by
 have f:=hx.flat;have o:=il hx h5;have o':=o.put key y;have hmem:∀z∈ (x.put key y).l,z.sound:=by
  intro z hz
  cases hb:hasB x.keys key with
  |true=>
   rw [x9 ⟨o.k5,o.len⟩ hb] at hz;rcases List.mem_or_eq_of_mem_set hz with h|h
   ·exact hx.item h
   ·rw [h];exact hy
  |false=>
   rw [ya ⟨o.k5,o.len⟩ hb] at hz;simp only [V.dV,List.mem_append,List.mem_cons] at hz;rcases hz with h|h|h
   ·exact hx.item (List.mem_of_mem_take h)
   ·rw [h];exact hy
   ·exact hx.item (List.mem_of_mem_drop h)
 refine OT ⟨by rw [o'.k5];decide,by rw [o'.k5];decide,fun _ _=>o'.n0,fun _=>by rw [o'.s0,toList_none],fun h=>absurd o'.k5 h,fun h=>by rw [o'.k5] at h;omega,fun _=> .inl o'.n0,by rw [o'.n0];decide,by rw [o'.n0];decide,by rw [o'.s0];decide,fun _=>o'.len,?_,o'.eG⟩ hmem;intro k hk';rw [o'.vB,um o] at hk';by_cases e:key=k
 ·rw [<-e];exact hk
 ·rw [if_neg e] at hk'
  exact f.kp k ((o.vB k).2 hk')
theorem Jy {x:V} (hx:x.sound) (key:ah):(x.del key).sound:=by
 by_cases h5:x.k=5
 ·have f:=hx.flat
  have o:=il hx h5;have o':=o.del key;have hmem:∀z∈ (x.del key).l,z.sound:=by
   intro z hz
   cases hb:hasB x.keys key with
   |true=>
    rw [zX ⟨o.k5,o.len⟩ hb] at hz;simp only [V.dV,List.mem_append] at hz;rcases hz with h|h
    ·exact hx.item (List.mem_of_mem_take h)
    ·exact hx.item (List.mem_of_mem_drop h)
   |false=>rw [zY hb] at hz;exact hx.item hz
  refine OT ⟨by rw [o'.k5];decide,by rw [o'.k5];decide,fun _ _=>o'.n0,fun _=>by rw [o'.s0,toList_none],fun h=>absurd o'.k5 h,fun h=>by rw [o'.k5] at h;omega,fun _=> .inl o'.n0,by rw [o'.n0];decide,by rw [o'.n0];decide,by rw [o'.s0];decide,fun _=>o'.len,?_,o'.eG⟩ hmem;intro k hk';rw [o'.vB,ES o] at hk';by_cases e:key=k
  ·rw [if_pos e] at hk';exact absurd rfl hk'
  ·rw [if_neg e] at hk'
   exact f.kp k ((o.vB k).2 hk')
 ·rw [Jt (fun e=>h5 e.1)];exact hx
theorem pS {x y:V} {key:ah} (hx:x.sound) (h:x.member key=some y):y.sound:=hx.item (xp h)
theorem O3 {α:Type} (f:α->Nat) (a:α):∀(l:List α) (p:Nat) (h:p<l.length),((l.set p a).map f).sum+f l[p]=(l.map f).sum+f a
 | [],_,h=>by simp at h
 |x::l,0,_=>by simp;omega
 |x::l,p+1,h=>by have:=O3 f a l p (by simpa using h);simp only [List.set_cons_succ,List.map_cons,List.sum_cons,List.getElem_cons_succ];omega
theorem ET {x:V} (h:fY x) (key:ah) (y:V):(x.put key y).count+(match x.member key with|some o=>o.count|none=>0)=x.count+y.count:=by
 cases hb:hasB x.keys key with
 |true=>
  have hlt:=sG hb;have hlt':posOf x.keys key<x.l.length:=by rw [<-h.len];exact hlt
  have hm:x.member key=some (x.l[posOf x.keys key]'hlt'):=by have:=zJ _ _ h.len h.nodup _ hlt;rw [zK hb] at this;rw [h.member,this]
  rw [hm,x9 ⟨h.k5,h.len⟩ hb,V.count_eq,V.count_eq x];simp only [V.dV];have:=O3 V.count y x.l _ hlt';omega
 |false=>
  have hm:x.member key=none:=by rw [h.member];exact B0 _ _ (ER h.eG hb)
  rw [hm,ya ⟨h.k5,h.len⟩ hb,V.count_eq,V.count_eq x];simp only [V.dV];have:=DV V.count x.l (posOf x.keys key) y;omega
theorem O4 {x:V} (h:fY x) (key:ah):(x.del key).count<=x.count:=by
 cases hb:hasB x.keys key with
 |true=>
  rw [zX ⟨h.k5,h.len⟩ hb,V.count_eq,V.count_eq x];have:=DW V.count x.l (posOf x.keys key);simp only [V.dV];omega
 |false=>rw [zY hb];exact Nat.le_refl _
theorem Ek (x y:V):x.same y=true↔x=y:=by
 have hgo:∀(l:List V),(∀a∈l,∀b:V,a.same b=true↔a=b)->∀m:List V,l.length=m.length-> (V.same.go l m=true↔l=m):=by
  intro l
  induction l with
  |nil=>
   intro _ m hm;obtain rfl:m= []:=List.eq_nil_of_length_eq_zero (by simpa using hm.symm);simp [V.same.go]
  |cons a r ih=>
   intro h m hm
   cases m with
   |nil=>simp at hm
   |cons b t=>
    rw [V.same.go,Bool.and_eq_true,h a (by simp),ih (fun z hz=>h z (by simp [hz])) t (by simpa using hm)];simp
 induction x using V.ind generalizing y with
 |h x ih=>
  obtain⟨k,n,s,ks,l⟩:=x;obtain⟨k',n',s',ks',l'⟩:=y;rw [V.same,Bool.and_eq_true,decide_eq_true_eq];simp only [V.tN,V.tO,V.ki,V.fT,V.dV];constructor
  ·rintro⟨⟨h1,h2,h3,h4,h5⟩,h6⟩
   have h7:=(hgo l (fun a ha b=>ih a ha b) l' h5).1 h6;have h8:ks=ks':=by
    clear h6 hgo ih
    induction ks generalizing ks' with
    |nil=>cases ks' with|nil=>rfl|cons=>simp at h4
    |cons a r ih=>
     cases ks' with
     |nil=>simp at h4
     |cons b t=>
      simp only [List.map_cons,List.cons.injEq] at h4;rw [kK h4.1,ih t h4.2]
   rw [h1,h2,kK h3,h7,h8]
  ·intro h
   cases h
   exact⟨⟨rfl,rfl,rfl,rfl,rfl⟩,(hgo l (fun a ha b=>ih a ha b) l rfl).2 rfl⟩
def V.dE:V->V->V
 | .mk k n s ks l,v=>if k=5 then go l ks (if v.k=5 then v else V.bV) else .mk k n s ks l
where go:List V->List ah->V->V
 | [],_,v=>v
 |q::r,ks,v=>go r ks.tail (if q.k=0 then v.del (ks.headD ⟨#[]⟩) else v.put (ks.headD ⟨#[]⟩) (V.dE q ((v.member (ks.headD ⟨#[]⟩)).getD V.zero)))
def V.base (v:V):V:=if v.k=5 then v else V.bV
theorem Bd (p v:V):p.dE v=if p.k=5 then V.dE.go p.l p.keys v.base else p:=by
 cases p with|mk k n s ks l=>rw [V.dE];rfl
theorem zC (ks:List ah) (v:V):V.dE.go [] ks v=v:=by rw [V.dE.go]
def V.kq (q:V) (k:ah) (v:V):V:=if q.k=0 then v.del k else v.put k (q.dE ((v.member k).getD V.zero))
theorem Ca (q:V) (r:List V) (k:ah) (ks:List ah) (v:V):V.dE.go (q::r) (k::ks) v=V.dE.go r ks (q.kq k v):=by rw [V.dE.go];rfl
theorem Nk:∀(l:List V) (ks:List ah) (q:V) (k:ah) (v:V),ks.length=l.length->V.dE.go (l++ [q]) (ks++ [k]) v=q.kq k (V.dE.go l ks v)
 | [],ks,q,k,v,h=>by obtain rfl:=List.eq_nil_of_length_eq_zero (by simpa using h);rw [List.nil_append,List.nil_append,Ca,zC,zC]
 |a::l, [],_,_,_,h=>by simp at h
 |a::l,b::ks,q,k,v,h=>by rw [List.cons_append,List.cons_append,Ca,Ca,Nk l ks q k _ (by simpa using h)]
theorem O5 {v:V} (h:fY v) (q:V) (k:ah):fY (q.kq k v):=by
 unfold V.kq;split
 ·exact h.del k
 ·exact h.put k _
theorem zB {v:V} (h:v.sound):fY v.base:=by
 unfold V.base;split
 ·rename_i h5;exact il h h5
 ·exact OZ
theorem base_of {v:V} (h:v.k=5):v.base=v:=if_pos h
theorem H6 {v:V} (h:v.k≠5):v.base=V.bV:=if_neg h
theorem NF:V.zero.sound:=⟨12,by decide+kernel⟩
theorem Yb:V.bV.sound:=⟨12,by decide+kernel⟩
theorem zA {v:V} (h:v.sound):v.base.sound:=by
 unfold V.base;split
 ·exact h
 ·exact Yb
theorem A8 {v:V} (h:v.sound) (k:ah):((v.member k).getD V.zero).sound:=by
 cases hm:v.member k with
 |none=>exact NF
 |some y=>exact pS h hm
theorem O6 {q v:V} (ih:∀z:V,z.sound-> (q.dE z).sound) (hv:v.sound) (h5:v.k=5) {k:ah} (hk:fD k=true):(q.kq k v).sound:=by
 unfold V.kq;split
 ·exact Jy hv k
 ·exact B6 hv (ih _ (A8 hv k)) hk h5
theorem HJ:∀(l:List V) (ks:List ah) (v:V),(∀q∈l,∀z:V,z.sound-> (q.dE z).sound)-> (∀k∈ks,fD k=true)->v.sound->v.k=5->ks.length=l.length-> (V.dE.go l ks v).sound/\ (V.dE.go l ks v).k=5
 | [],ks,v,_,_,hv,h5,_=>by rw [zC];exact⟨hv,h5⟩
 |_::_, [],_,_,_,_,_,h=>by simp at h
 |q::r,k::ks,v,hq,hk,hv,h5,hl=>by rw [Ca];exact HJ r ks _ (fun z hz=>hq z (by simp [hz])) (fun z hz=>hk z (by simp [hz])) (O6 (hq q (by simp)) hv h5 (hk k (by simp))) (O5 (il hv h5) q k).k5 (by simpa using hl)
theorem HV (p:V):p.sound->∀v:V,v.sound-> (p.dE v).sound:=by
 induction p using V.ind with
 |h p ih=>
  intro hp v hv;rw [Bd];by_cases h5:p.k=5
  ·rw [if_pos h5]
   exact(HJ p.l p.keys v.base (fun q hq z hz=>ih q hq (hp.item hq) z hz) hp.flat.kp (zA hv) (zB hv).k5 (hp.flat.len h5)).1
  ·rw [if_neg h5];exact hp
theorem Yc {q v:V} (ih:∀z:V,z.sound-> (q.dE z).count<=q.count+(if z.k=5 then z.count-1 else 0)) (hv:v.sound) (h5:v.k=5) (k:ah):(q.kq k v).count<=v.count+q.count:=by
 unfold V.kq;split
 ·have:=O4 (il hv h5) k;omega
 ·obtain⟨z,hz⟩:∃z,(v.member k).getD V.zero=z:=⟨_,rfl⟩
  have hzs:z.sound:=hz▸A8 hv k;have h1:=ET (il hv h5) k (q.dE z);have h2:=ih z hzs;rw [hz]
  cases hm:v.member k with
  |none=>
   rw [hm] at h1 hz;simp only [Option.getD_none] at hz;rw [<-hz,if_neg (by decide)] at h2;simp only [<-hz] at h1⊢;omega
  |some o=>
   rw [hm] at h1 hz;simp only [Option.getD_some] at hz;subst hz;simp only at h1;have:=o.zy
   split at h2<;>omega
theorem HX:∀(l:List V) (ks:List ah) (v:V),(∀q∈l,q.sound/\∀z:V,z.sound-> (q.dE z).count<=q.count+(if z.k=5 then z.count-1 else 0))-> (∀k∈ks,fD k=true)->v.sound->v.k=5->ks.length=l.length-> (V.dE.go l ks v).count<=v.count+(l.map V.count).sum
 | [],ks,v,_,_,hv,h5,_=>by rw [zC];simp
 |_::_, [],_,_,_,_,_,h=>by simp at h
 |q::r,k::ks,v,hq,hk,hv,h5,hl=>by rw [Ca];have h1:=Yc (hq q (by simp)).2 hv h5 k;have h2:=HX r ks (q.kq k v) (fun z hz=>hq z (by simp [hz])) (fun z hz=>hk z (by simp [hz])) (O6 (HV q (hq q (by simp)).1) hv h5 (hk k (by simp))) (O5 (il hv h5) q k).k5 (by simpa using hl);simp only [List.map_cons,List.sum_cons];omega
theorem Ni (p:V):p.sound->∀v:V,v.sound-> (p.dE v).count<=p.count+(if v.k=5 then v.count-1 else 0):=by
 induction p using V.ind with
 |h p ih=>
  intro hp v hv;rw [Bd];by_cases h5:p.k=5
  ·rw [if_pos h5]
   have h1:=HX p.l p.keys v.base (fun q hq=>⟨hp.item hq,fun z hz=>ih q hq (hp.item hq) z hz⟩) hp.flat.kp (zA hv) (zB hv).k5 (hp.flat.len h5);have h2:=V.count_eq p;by_cases hb:v.k=5
   ·rw [if_pos hb];rw [base_of hb] at h1⊢;have:=v.zy;omega
   ·rw [if_neg hb];rw [H6 hb] at h1⊢
    have:V.bV.count=1:=by rw [V.count_eq];rfl
    omega
  ·rw [if_neg h5];omega
theorem VT {p v:V} (hp:p.fine=true) (hv:v.fine=true):(p.dE v).size<=29280:=by
 have h1:=zz (HV p (gG hp) v (gG hv));have h2:=Ni p (gG hp) v (gG hv);have h3:=tR hp;have h4:=tR hv
 split at h2<;>omega
def ma (v p:V):V×Int:=if v.fine=false\/p.fine=false then(v,1) else if(p.dE v).fine=false then(v,2) else(p.dE v,0)
end Go.Proofs.YtlcebdaghmdkeabGreatDoor
namespace Go.Proofs.YtlcebdaghmdkeabGreatDoor
open Go.Proofs.Tryz
open Go
section
variable {P:Program} {ops:Array Oper} {Q:Exit->Act->World->Prop} {md:Region.Mode} {S:World->Prop} {c:Nat}
def lu (P:Program) (md:Region.Mode) (ops:Array Oper) (Q:Exit->Act->World->Prop) (S:World->Prop) (c:Nat):Nat->Array Bool->Act->World->Prop
 |0,listed,a,w=>Region.ready md ops listed= []/\Q .normal a w
 |fuel+1,listed,a,w=>
  (Region.ready md ops listed= []->Q .normal a w)/\
  ∀i∈Region.ready md ops listed,wpOp P ops Q i (fun a' w'=>((listed.setIfInBounds i true).getD c true=false->S w')/\lu P md ops Q S c fuel (listed.setIfInBounds i true) a' w') a w
theorem O7:∀(fuel:Nat) (listed:Array Bool) (a:Act) (w:World),lu P md ops Q S c fuel listed a w->wpAny P md ops Q fuel listed a w
 |0,_,_,_,h=>h
 |fuel+1,_,_,_,h=>⟨h.1,fun i hi=>wpOp_mono (fun a' w' h'=>O7 fuel _ a' w' h'.2) (h.2 i hi)⟩
def O8 (md:Region.Mode) (ops:Array Oper) (i x:Nat):Bool:=match ops[x]? with
 |some o=>o.after.any fun e=>Region.binds md e&&e.on==i
 |none=>false
def chainB (md:Region.Mode) (ops:Array Oper):Nat->List Nat->Bool
 |_, []=>true
 |i,x::r=>O8 md ops i x&&chainB md ops x r
theorem O9 {listed:Array Bool}:∀(ch:List Nat) (i:Nat),chainB md ops i ch=true->listed.getD i true=false-> (∀x∈ch,listed.getD x true=false)->∀j∈Region.ready md ops listed,j∉ch
 | [],_,_,_,_,_,_=>by simp
 |x::r,i,hc,hi,hx,j,hj=>by
  simp only [chainB,Bool.and_eq_true] at hc;have ih:=O9 r x hc.2 (hx x (by simp)) (fun y hy=>hx y (by simp [hy])) j hj;intro hm;rcases List.mem_cons.1 hm with rfl|hm
  ·obtain⟨-,oj,Cb,hall⟩:=mem_ready.1 hj
   have hd:=hc.1;unfold O8 at hd;rw [Cb] at hd;simp only [Array.any_eq_true'] at hd;obtain⟨e,he,hb⟩:=hd;simp only [Bool.and_eq_true,beq_iff_eq] at hb;have h1:=hall e he hb.1;rw [hb.2] at h1;rcases Nat.lt_or_ge i listed.size with h'|h'
   ·simp [h'] at hi h1;rw [hi] at h1;cases h1
   ·simp [Array.getElem?_eq_none h'] at hi
  ·exact ih hm
theorem Yd {i:Nat} {ch:List Nat} {oi:Oper} {v:Value} (hi:ops[i]? =some oi) (Pb:∀(j:Nat) (o:Oper) cs b,ops[j]? =some o->o.op≠ .select cs b)
 (hQ:∀c a w,Q (.panic c) (a.put oi.dst v) w->Q (.panic c) a w) (hch:chainB md ops i ch=true) (hcc:c∈ch) (Cc:i∉ch):
 ∀(fuel:Nat) (listed:Array Bool) (a:Act) (w:World),
  (∀j oj,ops[j]? =some oj->j≠i->listed.getD j true=false-> (∀e∈oj.after,Region.binds md e=true->e.on≠i)->oi.apart ops oj=true)->
  i∈Region.ready md ops listed-> (∀x∈ch,listed.getD x true=false)->YieldsIf P ops S oi v a->S w->
  lu P md ops Q S c fuel (listed.setIfInBounds i true) (a.put oi.dst v) w->lu P md ops Q S c (fuel+1) listed a w:=by
 intro fuel
 induction fuel with
 |zero=>
  intro listed a w _ hr hcl hy hS H;refine⟨fun h=>(by rw [h] at hr;cases hr),fun j hj=> ?_⟩;by_cases vN:j=i
  ·subst vN;exact hy.wpOp hi hS ⟨fun _=>hS,H⟩
  ·have:=ready_mono hj vN
   rw [H.1] at this
   cases this
 |succ fuel ih=>
  intro listed a w hfree hr hcl hy hS H;refine⟨fun h=>(by rw [h] at hr;cases hr),fun j hj=> ?_⟩;by_cases vN:j=i
  ·subst vN;exact hy.wpOp hi hS ⟨fun _=>hS,H⟩
  ·have h1:=H.2 j (ready_mono hj vN)
   obtain⟨Pc,oj,Cb,hall⟩:=mem_ready.1 hj;have Ye:∀e∈oj.after,Region.binds md e=true->e.on≠i:=fun e he hb heq=>by
    have h1:=hall e he hb;have h0:=(mem_ready.1 hr).1;rw [heq] at h1;rcases Nat.lt_or_ge i listed.size with h'|h'
    ·simp [h'] at h0 h1;rw [h0] at h1;cases h1
    ·simp [Array.getElem?_eq_none h'] at h1
   have hi0:listed.getD i true=false:=(mem_ready.1 hr).1;have Pd:=O9 ch i hch hi0 hcl j hj;have Yf:j≠c:=fun e=>Pd (e▸hcc);have lj:i≠c:=fun e=>Cc (e▸hcc);have h2:=wpOp_putIf Cb (hfree j oj Cb vN Pc Ye) (fun cs b=>Pb i oi cs b hi) (fun cs b=>Pb j oj cs b Cb) hQ hy h1
   have Yg:∀k ok,ops[k]? =some ok->k≠i-> (listed.setIfInBounds j true).getD k true=false->
    (∀e∈ok.after,Region.binds md e=true->e.on≠i)->oi.apart ops ok=true:=fun k ok hk Yh hun hno=>by
    refine hfree k ok hk Yh ?_ hno;by_cases hjk:j=k
    ·subst hjk;exact Pc
    ·rw [getD_set_ne true hjk] at hun;exact hun
   have Ce:∀x∈ch,(listed.setIfInBounds j true).getD x true=false:=fun x hx=>by rw [getD_set_ne true (fun e:j=x=>Pd (e▸hx))];exact hcl x hx
   have Pe:((listed.setIfInBounds i true).setIfInBounds j true).getD c true=false:=by rw [getD_set_ne true Yf,getD_set_ne true lj];exact hcl c hcc
   refine wpOp_mono (fun a' w' h3=>⟨fun _=>h3.2.1 Pe,ih (listed.setIfInBounds j true) a' w' Yg (ready_mono hr (Ne.symm vN)) Ce h3.1 (h3.2.1 Pe) ?_⟩) h2;rw [Array.setIfInBounds_comm _ _ vN];exact h3.2.2
theorem Yi {i:Nat} {oi:Oper} {v:Value} {fuel:Nat} {listed:Array Bool} {a:Act} {w:World} (ch:List Nat) (hi:ops[i]? =some oi)
 (hs:Region.noSelect ops=true) (hf:Region.free md ops listed i=true) (hr:(Region.ready md ops listed).contains i=true) (hch:chainB md ops i ch=true)
 (hcc:ch.contains c=true) (Cc:ch.contains i=false) (hcl:(ch.all fun x=> !listed.getD x true)=true)
 (hQ:∀c a w,Q (.panic c) (a.put oi.dst v) w->Q (.panic c) a w) (hy:YieldsIf P ops S oi v a) (hS:S w)
 (h:lu P md ops Q S c fuel (listed.setIfInBounds i true) (a.put oi.dst v) w):lu P md ops Q S c (fuel+1) listed a w:=by
 refine Yd hi (Region.noSelect_spec hs) hQ hch (by simpa using hcc) (by simpa using Cc) fuel listed a w (Region.free_spec hi hf) (by simpa using hr) ?_ hy hS h;intro x hx;have:=List.all_eq_true.1 hcl x hx;simpa using this
def cL (P:Program) (md:Region.Mode) (ops:Array Oper) (Q:Exit->Act->World->Prop) (S:World->Prop) (c:Nat) (fuel:Nat) (listed:Array Bool) (a:Act) (w:World) (rs:List Nat):Prop:=
 ∀i∈rs,wpOp P ops Q i (fun a' w'=>((listed.setIfInBounds i true).getD c true=false->S w')/\lu P md ops Q S c fuel (listed.setIfInBounds i true) a' w') a w
theorem cL.nil {fuel:Nat} {listed:Array Bool} {a:Act} {w:World}:cL P md ops Q S c fuel listed a w []:=fun _ h=>by cases h
theorem cL.cons {fuel:Nat} {listed:Array Bool} {a:Act} {w:World} {i:Nat} {o:Oper} {rs:List Nat} (ho:ops[i]? =some o)
 (h:∀K':Act->World->Prop,Shut (∀a w,((listed.setIfInBounds i true).getD c true=false->S w)->lu P md ops Q S c fuel (listed.setIfInBounds i true) a w->K' a w)->if Region.wanted o (yielded ops a.tmps)=true then Oper.wp P o a w K' Q else K' (a.put o.dst undef) w)
 (hs:cL P md ops Q S c fuel listed a w rs):cL P md ops Q S c fuel listed a w (i::rs):=fun j hj=>by
 rcases List.mem_cons.1 hj with rfl|hj
 ·exact wpOp_step ho (fun K' hK=>h K' (fun a w hS hW=>hK a w ⟨hS,hW⟩))
 ·exact hs j hj
theorem lX {rs:List Nat} {fuel:Nat} {listed:Array Bool} {a:Act} {w:World} (hr:Region.ready md ops listed=rs) (hne:rs≠ [])
 (h:cL P md ops Q S c fuel listed a w rs):lu P md ops Q S c (fuel+1) listed a w:=⟨fun h0=>absurd (hr▸h0) hne,hr▸h⟩
theorem Yj {fuel:Nat} {listed:Array Bool} {a:Act} {w:World} {i:Nat} {o:Oper} (hr:Region.ready md ops listed= [i]) (ho:ops[i]? =some o)
 (h:∀K':Act->World->Prop,Shut (∀a w,((listed.setIfInBounds i true).getD c true=false->S w)->lu P md ops Q S c fuel (listed.setIfInBounds i true) a w->K' a w)->if Region.wanted o (yielded ops a.tmps)=true then Oper.wp P o a w K' Q else K' (a.put o.dst undef) w):
 lu P md ops Q S c (fuel+1) listed a w:=lX hr (by simp) (cL.cons ho h cL.nil)
theorem dw {listed:Array Bool} {a:Act} {w:World} (hr:Region.ready md ops listed= []) (h:Q .normal a w):
 ∀fuel,lu P md ops Q S c fuel listed a w
 |0=>⟨hr,h⟩
 |_+1=>⟨fun _=>h,by rw [hr];simp⟩
theorem Yk {id:Nat} {a:Act} {w:World} (hm:P.follows .mixedOrders=true)
 (h:lu P .any ops Q S c ops.size (Array.replicate ops.size false) a w.drew):(Code.region id ops true).wp P Q a w:=
 wp_region_any hm (O7 _ _ _ _ h)
end
theorem aJ {P:Program} {ops:Array Oper} {Q:Exit->Act->World->Prop} {md:Region.Mode} {S:World->Prop} (i:Nat) {v:Value} {fuel:Nat} {listed:Array Bool} {a:Act} {w:World} (hi:i<ops.size:=by decide)
 (hs:Region.noSelect ops=true:=by kernel_rfl) (hf:Region.free md ops listed i=true:=by kernel_rfl) (hr:(Region.ready md ops listed).contains i=true:=by kernel_rfl)
 (hQ:∀c a w,Q (.panic c) (a.put (ops[i]'hi).dst v) w->Q (.panic c) a w:=by exact fun _ _ _ h=>h) (hw:Region.wanted (ops[i]'hi) (yielded ops a.tmps)=true:=by kernel_rfl)
 (hy:∀w,S w-> (execOp a.eval (ops[i]'hi)).run P w= .ok (.value v) w:=by(intro w hSw;(try dsimp only at hSw);(try simp only [rl]);go_simp;(try with_reducible rfl))) (hS:S w:=by assumption)
 (h:wpAnyH P md ops Q S fuel (listed.setIfInBounds i true) (a.put (ops[i]'hi).dst v) w):wpAnyH P md ops Q S (fuel+1) listed a w:=
 wpAnyH_take (i:=i) (Array.getElem?_eq_getElem hi) hs hf hr hQ (.inl ⟨hw,hy⟩) hS h
theorem cJ {P:Program} {ops:Array Oper} {Q:Exit->Act->World->Prop} {md:Region.Mode} {S:World->Prop} (i:Nat) {fuel:Nat} {listed:Array Bool} {a:Act} {w:World} (hi:i<ops.size:=by decide)
 (hs:Region.noSelect ops=true:=by kernel_rfl) (hf:Region.free md ops listed i=true:=by kernel_rfl) (hr:(Region.ready md ops listed).contains i=true:=by kernel_rfl)
 (hQ:∀c a w,Q (.panic c) (a.put (ops[i]'hi).dst undef) w->Q (.panic c) a w:=by exact fun _ _ _ h=>h) (hw:Region.wanted (ops[i]'hi) (yielded ops a.tmps)=false:=by kernel_rfl) (hS:S w:=by assumption)
 (h:wpAnyH P md ops Q S fuel (listed.setIfInBounds i true) (a.put (ops[i]'hi).dst undef) w):wpAnyH P md ops Q S (fuel+1) listed a w:=
 wpAnyH_take (i:=i) (Array.getElem?_eq_getElem hi) hs hf hr hQ (.inr ⟨hw,rfl⟩) hS h
theorem iw {P:Program} {ops:Array Oper} {Q:Exit->Act->World->Prop} {md:Region.Mode} {S:World->Prop} (i:Nat) {fuel:Nat} {listed:Array Bool} {a:Act} {w:World} (hi:i<ops.size:=by decide) (hr:Region.ready md ops listed= [i]:=by kernel_rfl)
 (h:∀K':Act->World->Prop,Shut (∀a w,S w-> (S w->wpAnyH P md ops Q S fuel (listed.setIfInBounds i true) a w)->K' a w)->if Region.wanted (ops[i]'hi) (yielded ops a.tmps)=true then Oper.wp P (ops[i]'hi) a w K' Q else K' (a.put (ops[i]'hi).dst undef) w):
 wpAnyH P md ops Q S (fuel+1) listed a w:=wpAnyH_ready hr (by simp) (AllReadyH.cons (Array.getElem?_eq_getElem hi) h AllReadyH.nil)
theorem aG {P:Program} {ops:Array Oper} {Q:Exit->Act->World->Prop} {md:Region.Mode} {S:World->Prop} {c:Nat} (i:Nat) (ch:List Nat) {v:Value} {fuel:Nat} {listed:Array Bool} {a:Act} {w:World} (hi:i<ops.size:=by decide)
 (hs:Region.noSelect ops=true:=by kernel_rfl) (hf:Region.free md ops listed i=true:=by kernel_rfl) (hr:(Region.ready md ops listed).contains i=true:=by kernel_rfl) (hch:chainB md ops i ch=true:=by kernel_rfl)
 (hcc:ch.contains c=true:=by exact rfl) (Cc:ch.contains i=false:=by exact rfl) (hcl:(ch.all fun x=> !listed.getD x true)=true:=by kernel_rfl)
 (hQ:∀c a w,Q (.panic c) (a.put (ops[i]'hi).dst v) w->Q (.panic c) a w:=by exact fun _ _ _ h=>h) (hw:Region.wanted (ops[i]'hi) (yielded ops a.tmps)=true:=by kernel_rfl)
 (hy:∀w,S w-> (execOp a.eval (ops[i]'hi)).run P w= .ok (.value v) w:=by(intro w hSw;(try dsimp only at hSw);(try simp only [rl]);go_simp;(try with_reducible rfl))) (hS:S w:=by assumption)
 (h:lu P md ops Q S c fuel (listed.setIfInBounds i true) (a.put (ops[i]'hi).dst v) w):lu P md ops Q S c (fuel+1) listed a w:=
 Yi ch (Array.getElem?_eq_getElem hi) hs hf hr hch hcc Cc hcl hQ (.inl ⟨hw,hy⟩) hS h
theorem aL {P:Program} {ops:Array Oper} {Q:Exit->Act->World->Prop} {md:Region.Mode} {S:World->Prop} {c:Nat} (i:Nat) {fuel:Nat} {listed:Array Bool} {a:Act} {w:World} (hi:i<ops.size:=by decide) (hr:Region.ready md ops listed= [i]:=by kernel_rfl)
 (h:∀K':Act->World->Prop,Shut (∀a w,((listed.setIfInBounds i true).getD c true=false->S w)->lu P md ops Q S c fuel (listed.setIfInBounds i true) a w->K' a w)->if Region.wanted (ops[i]'hi) (yielded ops a.tmps)=true then Oper.wp P (ops[i]'hi) a w K' Q else K' (a.put (ops[i]'hi).dst undef) w):
 lu P md ops Q S c (fuel+1) listed a w:=Yj hr (Array.getElem?_eq_getElem hi) h
theorem Pf {b:UInt8} {l sub:List UInt8} (h:sub.isPrefixOf (b::l)=true):Lib.index (b::l) sub=0:=by rw [Lib.index,if_pos h]
theorem Pg {b:UInt8} {l sub:List UInt8} (h:sub.isPrefixOf (b::l)=false):Lib.index (b::l) sub=if Lib.index l sub== -1 then-1 else Lib.index l sub+1:=by rw [Lib.index,if_neg (by simp [h])]
theorem Ph {sub:List UInt8} (h:sub≠ []):Lib.index [] sub= -1:=by
 cases sub with
 |nil=>exact absurd rfl h
 |cons a r=>rfl
theorem vO {old new:List UInt8} (h:old≠ []):Lib.replaceAll [] old new= []:=by
 unfold Lib.replaceAll Lib.replace
 split
 ·rfl
 ·have:Lib.replaceNum [] old (-1)=0:=by simp [Lib.replaceNum,Lib.count_miss (Ph h)]
  rw [this,Lib.replaceK]
theorem EU {s old new:List UInt8} (hne:(old==new)=false):Lib.replaceAll s old new=Lib.replaceK old new (Lib.count s old) s:=by
 unfold Lib.replaceAll Lib.replace;rw [if_neg (by simp [hne])];simp [Lib.replaceNum]
theorem Jz {b:UInt8} {l old new:List UInt8} (ho:old≠ []) (hne:(old==new)=false) (h:old.isPrefixOf (b::l)=true):Lib.replaceAll (b::l) old new=new++Lib.replaceAll ((b::l).drop old.length) old new:=by
 have hi:Lib.index (b::l) old=(0:Nat):=Pf h;rw [EU hne,EU hne,Lib.count_hit ho hi,Nat.add_comm 1,Lib.replaceK_hit _ _ _ _ 0 hi];simp
theorem EW {b:UInt8} {l old new:List UInt8} (ho:old≠ []) (hne:(old==new)=false) (h:old.isPrefixOf (b::l)=false):Lib.replaceAll (b::l) old new=b::Lib.replaceAll l old new:=by
 rw [EU hne,EU hne];have hi:=Pg h;have hge:=Lib.index_ge l old;by_cases hm:Lib.index l old= -1
 ·rw [hm] at hi
  have hi:Lib.index (b::l) old= -1:=by simpa using hi
  rw [Lib.count_miss hm,Lib.count_miss hi,Lib.replaceK,Lib.replaceK]
 ·obtain⟨i,he⟩:∃i:Nat,Lib.index l old=i:=⟨(Lib.index l old).toNat,by omega⟩
  have hi:Lib.index (b::l) old=((i+1:Nat):Int):=by rw [hi,he,if_neg (by simp<;>omega)];rfl
  rw [Lib.count_hit ho he,Lib.count_hit ho hi,Nat.add_comm 1,Nat.add_comm 1,Lib.replaceK_hit _ _ _ _ _ he,Lib.replaceK_hit _ _ _ _ _ hi];have e:i+1+old.length=(i+old.length)+1:=by omega
  rw [e];simp
def ahead (b:UInt8):List (List UInt8)->List (List UInt8)
 | []=> [[b]]
 |p::ps=>(b::p)::ps
theorem Cg {c:UInt8}:Lib.split [] [c]= [[]]:=by
 unfold Lib.split;rw [Lib.count_miss (Ph (by simp)),Lib.splitK]
theorem Ch {c:UInt8} {l:List UInt8}:Lib.split (c::l) [c]= []::Lib.split l [c]:=by
 have hi:Lib.index (c::l) [c]=(0:Nat):=Pf (by simp [List.isPrefixOf]);unfold Lib.split;rw [Lib.count_hit (by simp) hi,Nat.add_comm 1,Lib.splitK,if_neg (by rw [hi];decide),hi];simp
theorem zZ {b c:UInt8} {l:List UInt8} (h:b≠c):Lib.split (b::l) [c]=ahead b (Lib.split l [c]):=by
 have hp:([c]:List UInt8).isPrefixOf (b::l)=false:=by simp [List.isPrefixOf];exact fun e=>h e.symm
 have hi:=Pg hp;have hge:=Lib.index_ge l [c];unfold Lib.split;by_cases hm:Lib.index l [c]= -1
 ·rw [hm] at hi
  have hi:Lib.index (b::l) [c]= -1:=by simpa using hi
  rw [Lib.count_miss hm,Lib.count_miss hi,Lib.splitK,Lib.splitK,ahead]
 ·obtain⟨i,he⟩:∃i:Nat,Lib.index l [c]=i:=⟨(Lib.index l [c]).toNat,by omega⟩
  have hi:Lib.index (b::l) [c]=((i+1:Nat):Int):=by rw [hi,he,if_neg (by simp<;>omega)];rfl
  rw [Lib.count_hit (by simp) he,Lib.count_hit (by simp) hi,Nat.add_comm 1,Nat.add_comm 1,Lib.splitK,Lib.splitK,if_neg (by rw [hi];simp<;>omega),if_neg (by rw [he];simp<;>omega),hi,he];simp [ahead]
def sQ (x:UInt8):List UInt8:=if x=126 then [126,48] else if x=47 then [126,49] else [x]
def kR (s:List UInt8):List UInt8:=Lib.replaceAll (Lib.replaceAll s [126] [126,48]) [47] [126,49]
def l9 (s:List UInt8):List UInt8:=Lib.replaceAll (Lib.replaceAll s [126,49] [47]) [126,48] [126]
theorem Pj (a:UInt8) (new:List UInt8) (hne:([a]==new)=false) (s:List UInt8):Lib.replaceAll s [a] new=s.flatMap fun x=>if x=a then new else [x]:=by
 induction s with
 |nil=>exact vO (by simp)
 |cons x r ih=>
  by_cases h:x=a
  ·subst h
   rw [Jz (by simp) hne (by simp [List.isPrefixOf])];simp [ih]
  ·rw [EW (by simp) hne (by simp [List.isPrefixOf];exact fun e=>h e.symm)]
   simp [ih,h]
theorem ye (s:List UInt8):kR s=s.flatMap sQ:=by
 unfold kR;rw [Pj _ _ (by decide),Pj _ _ (by decide)]
 induction s with
 |nil=>rfl
 |cons x r ih=>
  simp only [List.flatMap_cons,List.flatMap_append,ih];congr 1;unfold sQ;by_cases h:x=126
  ·subst h;decide
  ·by_cases h2:x=47
   ·subst h2;decide
   ·simp [h,h2]
theorem uo {x:UInt8} {r:List UInt8} (h:x≠126) (a b:UInt8) (hne:([126,a]== [b])=false):Lib.replaceAll (x::r) [126,a] [b]=x::Lib.replaceAll r [126,a] [b]:=
 EW (by simp) hne (by simp [List.isPrefixOf];intro e;exact absurd e.symm h)
theorem EX {a b:UInt8} {r:List UInt8}:Lib.replaceAll (126::a::r) [126,a] [b]=b::Lib.replaceAll r [126,a] [b]:=by
 rw [Jz (by simp) (by simp) (by simp [List.isPrefixOf])];simp
theorem Pk {a b c:UInt8} {r:List UInt8} (h:c≠a):Lib.replaceAll (126::c::r) [126,a] [b]=126::Lib.replaceAll (c::r) [126,a] [b]:=
 EW (by simp) (by simp) (by simp [List.isPrefixOf];exact fun e=>h e.symm)
theorem Yl (s:List UInt8):l9 (kR s)=s:=by
 rw [ye];unfold l9;have h1:Lib.replaceAll (s.flatMap sQ) [126,49] [47]=s.flatMap fun x=>if x=126 then [126,48] else [x]:=by
  induction s with
  |nil=>exact vO (by simp)
  |cons x r ih=>
   simp only [List.flatMap_cons,sQ];by_cases h:x=126
   ·subst h
    simp only [if_true,List.cons_append,List.nil_append];rw [Pk (by decide),uo (by decide) _ _ (by decide),ih]
   ·by_cases h2:x=47
    ·subst h2
     simp (decide:=true) only [if_true,if_false,List.cons_append,List.nil_append];rw [EX,ih]
    ·simp only [h,h2,if_false,List.cons_append,List.nil_append]
     rw [uo h _ _ (by decide),ih]
 rw [h1];clear h1
 induction s with
 |nil=>exact vO (by simp)
 |cons x r ih=>
  simp only [List.flatMap_cons];by_cases h:x=126
  ·subst h
   simp only [if_true,List.cons_append,List.nil_append];rw [EX,ih]
  ·simp only [h,if_false,List.cons_append,List.nil_append]
   rw [uo h _ _ (by decide),ih]
def lv:List UInt8->Bool
 | []=>true
 |x::r=>(x !=126||(match r with|c::_=>c==48||c==49| []=>false))&&lv r
theorem JA:∀(s:List UInt8),lv s=true-> (∀x∈s,x≠47)->kR (l9 s)=s
 | [],_,_=>by simp [kR,l9,vO]
 | [x],h,h47=>by
   have hx:x≠126:=by intro e;subst e;simp [lv] at h
   have h47:=h47 x (by simp);rw [ye];unfold l9;rw [uo hx _ _ (by decide),vO (by simp),uo hx _ _ (by decide),vO (by simp)];simp [sQ,hx,h47]
 |x::y::r,h,h47=>by
  have Ym:=h47 x (by simp);have afG:=h47 y (by simp);by_cases hx:x=126
  ·subst hx
   simp only [lv,bne_self_eq_false,Bool.false_or,Bool.and_eq_true,Bool.or_eq_true,beq_iff_eq] at h;obtain⟨hy,-,hr⟩:=h;have ih:=JA r hr (fun z hz=>h47 z (by simp [hz]));rw [ye] at ih⊢;unfold l9 at ih⊢;rcases hy with rfl|rfl
   ·rw [Pk (by decide),uo (x:=48) (by decide) 49 47 (by decide),EX]
    simp only [List.flatMap_cons,ih];rfl
   ·rw [EX,uo (x:=47) (by decide) 48 126 (by decide)]
    simp only [List.flatMap_cons,ih];rfl
  ·have hr:lv (y::r)=true:=by
    rw [lv] at h;simp only [Bool.and_eq_true] at h;exact h.2
   have ih:=JA (y::r) hr (fun z hz=>h47 z (by simp [hz]));rw [ye] at ih⊢;unfold l9 at ih⊢;rw [uo hx _ _ (by decide),uo hx _ _ (by decide)];simp only [List.flatMap_cons,ih];simp [sQ,hx,Ym]
def jQ (p:List UInt8):Option (List (List UInt8)):=
 match p with
 | []=>some []
 |c::r=>if c=47/\p.length<=2000 then(if(Lib.split r [47]).all lv=true then some ((Lib.split r [47]).map l9) else none) else none
def joinL (l:List (List UInt8)):List UInt8:=l.flatMap fun x=>47::kR x
theorem Yn (s:List UInt8):∀q∈Lib.split s [47],∀x∈q,x≠47:=by
 induction s with
 |nil=>rw [Cg];simp
 |cons b l ih=>
  by_cases h:b=47
  ·subst h;rw [Ch]
   intro q hq;rcases List.mem_cons.1 hq with rfl|hq
   ·simp
   ·exact ih q hq
  ·rw [zZ h]
   cases hs:Lib.split l [47] with
   |nil=>simp [ahead,h]
   |cons p ps=>
    rw [hs] at ih;intro q hq x hx;simp only [ahead,List.mem_cons] at hq;rcases hq with rfl|hq
    ·rcases List.mem_cons.1 hx with rfl|hx
     ·exact h
     ·exact ih p (by simp) x hx
    ·exact ih q (by simp [hq]) x hx
theorem Yo (s:List UInt8):(Lib.split s [47]).flatMap (fun q=>47::q)=47::s:=by
 induction s with
 |nil=>rw [Cg];rfl
 |cons b l ih=>
  by_cases h:b=47
  ·subst h;rw [Ch];simp only [List.flatMap_cons,ih];rfl
  ·rw [zZ h]
   cases hs:Lib.split l [47] with
   |nil=>rw [hs] at ih;simp at ih
   |cons p ps=>
    rw [hs] at ih;simp only [List.flatMap_cons,List.cons_append,List.cons.injEq,true_and] at ih;simp only [ahead,List.flatMap_cons,List.cons_append,ih]
theorem Yp (q:List UInt8) (h:∀x∈q,x≠47):Lib.split q [47]= [q]:=by
 induction q with
 |nil=>exact Cg
 |cons b l ih=>rw [zZ (h b (by simp)),ih (fun x hx=>h x (by simp [hx]))];rfl
theorem Yq (q s:List UInt8) (h:∀x∈q,x≠47):Lib.split (q++47::s) [47]=q::Lib.split s [47]:=by
 induction q with
 |nil=>exact Ch
 |cons b l ih=>rw [List.cons_append,zZ (h b (by simp)),ih (fun x hx=>h x (by simp [hx]))];rfl
theorem Pm (s:List UInt8):∀x∈kR s,x≠47:=by
 rw [ye];intro x hx;simp only [List.mem_flatMap] at hx;obtain⟨y,-,hy⟩:=hx;unfold sQ at hy
 split at hy
 ·simp at hy;rcases hy with rfl|rfl<;>decide
 ·split at hy
  ·simp at hy;rcases hy with rfl|rfl<;>decide
  ·simp at hy;subst hy;assumption
theorem Yr (s:List UInt8):lv (kR s)=true:=by
 rw [ye]
 induction s with
 |nil=>rfl
 |cons x r ih=>
  simp only [List.flatMap_cons,sQ]
  split
  ·simp [lv,ih]
  ·split
   ·simp [lv,ih]
   ·rename_i h1 h2
    simp only [List.cons_append,List.nil_append];rw [lv.eq_def];simp [h1,ih]
theorem Yt (x:List UInt8) (l:List (List UInt8)):Lib.split (kR x++joinL l) [47]=kR x::l.map kR:=by
 induction l generalizing x with
 |nil=>simp only [joinL,List.flatMap_nil,List.append_nil,List.map_nil];exact Yp _ (Pm x)
 |cons y r ih=>
  simp only [joinL,List.flatMap_cons,List.cons_append,List.map_cons];rw [Yq _ _ (Pm x)];have:=ih y;simp only [joinL] at this;rw [this]
theorem Pn (s:List UInt8):(kR s).length<=2*s.length:=by
 rw [ye]
 induction s with
 |nil=>simp
 |cons x r ih=>
  simp only [List.flatMap_cons,List.length_append,List.length_cons];have:(sQ x).length<=2:=by
   unfold sQ
   split
   ·simp
   ·split<;>simp
  omega
theorem Yu (l:List (List UInt8)) (h:(joinL l).length<=2000):jQ (joinL l)=some l:=by
 cases l with
 |nil=>rfl
 |cons x r=>
  have hs:=Yt x r;have e:joinL (x::r)=47::(kR x++joinL r):=by simp [joinL]
  rw [e] at h⊢;unfold jQ;simp only;rw [if_pos ⟨trivial,h⟩,hs,if_pos (by simp [Yr]),<-List.map_cons,List.map_map,show l9∘kR=id from funext Yl,List.map_id]
theorem JB {p:List UInt8} {l:List (List UInt8)} (h:jQ p=some l):joinL l=p:=by
 unfold jQ at h
 cases p with
 |nil=>simp at h;subst h;rfl
 |cons c r=>
  simp only at h
  split at h
  ·rename_i hc
   split at h
   ·rename_i ht
    simp only [Option.some.injEq] at h;subst h;obtain⟨rfl,-⟩:=hc;unfold joinL;rw [List.flatMap_map];have:∀q∈Lib.split r [47],kR (l9 q)=q:=fun q hq=>JA q (List.all_eq_true.1 ht q hq) (Yn r q hq)
    rw [show (Lib.split r [47]).flatMap (fun a=>47::kR (l9 a))=(Lib.split r [47]).flatMap (fun q=>47::q) from by
     rw [List.flatMap_def,List.flatMap_def];congr 1
     exact List.map_congr_left fun q hq=>by rw [this q hq]]
    exact Yo r
   ·cases h
  ·cases h
end Go.Proofs.YtlcebdaghmdkeabGreatDoor
namespace Go.Proofs.YtlcebdaghmdkeabGreatDoor
open Go.Proofs.Tryz
def jm (name:ah) (n:Nat):Option Nat:=
 if name.data.toList= [45] then some n else
 match Lib.atoiAll name.data.toList with
 | .ok k=>if name.size<=4/\0<=k/\Lib.itoa k=name.data.toList then some k.toNat else none
 |_=>none
theorem Yv {name:ah} (h:name.data.toList≠ [45]) (n m:Nat):jm name n=jm name m:=by
 unfold jm;rw [if_neg h,if_neg h]
def V.child (x:V) (name:ah):Option Nat:=
 if x.k=5 then(if hasB x.keys name=true then some (posOf x.keys name) else none)
 else if x.k=4 then(jm name x.l.length).bind fun k=>if k<x.l.length then some k else none
 else none
def V.jK (x:V) (i:Nat) (y:V):V:= .mk x.k x.n x.s x.keys (x.l.set i y)
def V.mS (x:V) (i:Nat) (y:V):V:= .mk x.k x.n x.s x.keys (x.l.take i++y::x.l.drop i)
def V.AY (x:V) (i:Nat):V:= .mk x.k x.n x.s x.keys (x.l.take i++x.l.drop (i+1))
theorem uX {x:V} (h:x.sound) {name:ah} {i:Nat} (hc:x.child name=some i):i<x.l.length:=by
 unfold V.child at hc
 split at hc
 ·rename_i h5
  split at hc
  ·rename_i hb
   have:=sG hb;rw [h.flat.len h5] at this
   cases hc;exact this
  ·cases hc
 ·split at hc
  ·cases hi:jm name x.l.length with
   |none=>rw [hi] at hc;cases hc
   |some k=>
    rw [hi] at hc;simp only [Option.bind_some] at hc
    split at hc
    ·rename_i hlt;cases hc;exact hlt
    ·cases hc
  ·cases hc
theorem Yw {x y:V} (hk:y.k=x.k) (hks:y.keys=x.keys) (hl:y.l.length=x.l.length) (name:ah):y.child name=x.child name:=by
 unfold V.child;rw [hk,hks,hl]
theorem Yx (x:V) (i:Nat) (y:V) (name:ah):(x.jK i y).child name=x.child name:=Yw (x:=x) (y:=x.jK i y) rfl rfl (by simp [V.jK]) name
def fe:List ah->V->Option V
 | [],x=>some x
 |a::r,x=>(x.child a).bind fun i=>(x.l[i]?).bind (fe r)
abbrev lH:=V->ah->V×Int
def bO (F:lH):List ah->V->V×Int
 | [],x=>(x,3)
 |a::r,x=>if r= [] then F x a else
  match x.child a with
  |none=>(x,3)
  |some i=>
   match x.l[i]? with
   |none=>(x,3)
   |some y=>if(bO F r y).2=0 then(x.jK i (bO F r y).1,0) else(x,(bO F r y).2)
theorem DR (F:lH) (a:ah) (x:V):bO F [a] x=F x a:=by simp [bO]
theorem DT {F:lH} {a b:ah} {r:List ah} {x:V} (h:x.child a=none):bO F (a::b::r) x=(x,3):=by
 rw [bO,if_neg (by simp),h]
theorem DU {F:lH} {a b:ah} {r:List ah} {x:V} {i:Nat} (h:x.child a=some i) (hi:i<x.l.length):
 bO F (a::b::r) x=if(bO F (b::r) x.l[i]).2=0 then(x.jK i (bO F (b::r) x.l[i]).1,0) else(x,(bO F (b::r) x.l[i]).2):=by
 rw [bO,if_neg (by simp),h];simp only [List.getElem?_eq_getElem hi]
def iV (y:V):lH:=fun x name=>
 if x.k=5 then(x.put name y,0)
 else if x.k=4 then
  match jm name x.l.length with
  |some i=>if i<=x.l.length then(x.mS i y,0) else(x,3)
  |none=>(x,3)
 else(x,3)
def oX:lH:=fun x name=>
 match x.child name with
 |none=>(x,3)
 |some i=>if x.k=5 then(x.del name,0) else(x.AY i,0)
def gN (y:V):lH:=fun x name=>
 match x.child name with
 |none=>(x,3)
 |some i=>(x.jK i y,0)
def cI (p:ah):Option (List ah):=(jQ p.data.toList).map fun l=>l.map fun s=>⟨s.toArray⟩
theorem D4 {p:ah} {ks:List ah} (h:jQ p.data.toList=some (ks.map (·.data.toList))):cI p=some ks:=by
 unfold cI;rw [h];simp only [Option.map_some,List.map_map,Option.some.injEq];have:((fun s:List UInt8=>(⟨s.toArray⟩:ah))∘fun k:ah=>k.data.toList)=id:=by funext k;rfl
 rw [this,List.map_id]
theorem G' {p:ah} (h:jQ p.data.toList=none):cI p=none:=by
 unfold cI;rw [h];rfl
def gp (x:V) (p:ah) (F:lH):V×Int:=
 match cI p with
 |none=>(x,1)
 |some l=>if x.fine=false then(x,1) else if l= [] then(x,1) else
  if(bO F l x).2=0 then(if(bO F l x).1.fine=true then((bO F l x).1,0) else(x,2)) else(x,(bO F l x).2)
def cE (x:V) (p:ah):V×Int:=
 match cI p with
 |none=>(V.zero,1)
 |some l=>if x.fine=false then(V.zero,1) else match fe l x with|some y=>(y,0)|none=>(V.zero,3)
def eF (x:V) (p:ah) (y:V):V×Int:=if y.fine=false then(x,1) else if p.data.toList= []/\x.fine=true then(y,0) else gp x p (iV y)
def jM (x:V) (p:ah) (y:V):V×Int:=if y.fine=false then(x,1) else if p.data.toList= []/\x.fine=true then(y,0) else gp x p (gN y)
def jN (x:V) (p:ah):V×Int:=gp x p oX
theorem AZ {p:ah} (h:p.data.toList= []):cI p=some []:=by unfold cI;rw [h];rfl
theorem JC {x y:V} {i:Nat} (hi:i<x.l.length) {a:ah} {r:List ah} (hc:x.child a=some i):fe (a::r) (x.jK i y)=fe r y:=by
 simp only [fe,Yx,hc,Option.bind_some];have:(x.jK i y).l[i]? =some y:=by simp [V.jK,List.getElem?_set,hi]
 rw [this,Option.bind_some]
theorem Yy {ks:List ah} (h:cG ks) {key:ah} (hn:hasB ks key=false):hasB (ks.take (posOf ks key)++key::ks.drop (posOf ks key)) key=true/\posOf (ks.take (posOf ks key)++key::ks.drop (posOf ks key)) key=posOf ks key:=by
 have hr:=Bx h hn;have hl:=sK ks key;have hlt:posOf ks key<(ks.take (posOf ks key)++key::ks.drop (posOf ks key)).length:=by simp;omega
 have hg:(ks.take (posOf ks key)++key::ks.drop (posOf ks key))[posOf ks key]=key:=by rw [List.getElem_append_right (by simp;omega)];simp [Nat.min_eq_left hl]
 have hp:=Js hr hlt hg;refine⟨?_,hp⟩;rw [BZ,hp,List.getElem?_eq_getElem hlt,hg]
theorem Yz {x:V} (h:x.sound) (h5:x.k=5) (name:ah) (y:V):∃i,(x.put name y).child name=some i/\ (x.put name y).l[i]? =some y:=by
 have hf:=h.flat;by_cases hb:hasB x.keys name=true
 ·rw [x9 ⟨h5,hf.len h5⟩ hb]
  refine⟨posOf x.keys name,by simp [V.child,h5,hb],?_⟩;have:=sG hb;rw [hf.len h5] at this;simp [List.getElem?_set,this]
 ·have hb:hasB x.keys name=false:=by simpa using hb
  rw [ya ⟨h5,hf.len h5⟩ hb];obtain⟨h1,h2⟩:=Yy hf.eG hb;refine⟨posOf x.keys name,by unfold V.child;rw [if_pos (show (V.mk x.k x.n x.s _ _).k=5 from h5),if_pos (show hasB (V.mk x.k x.n x.s _ _).keys name=true from h1)];exact congrArg some h2,?_⟩;have hl:=sK x.keys name;rw [hf.len h5] at hl;simp only [V.dV];rw [List.getElem?_append_right (by simp;omega)];simp [Nat.min_eq_left hl]
theorem YA {x:V} (h4:x.k=4) {name:ah} (hd:name.data.toList≠ [45]) {i:Nat} (hi:jm name x.l.length=some i) (hl:i<=x.l.length) (y:V):(x.mS i y).child name=some i/\ (x.mS i y).l[i]? =some y:=by
 have e:jm name (x.mS i y).l.length=some i:=by rw [Yv hd _ x.l.length];exact hi
 have hlt:i<(x.mS i y).l.length:=by simp [V.mS];omega
 refine⟨?_,?_⟩
 ·unfold V.child
  rw [if_neg (by simp [V.mS,h4]),if_pos (by simp [V.mS,h4]),e];simp [hlt]
 ·simp only [V.mS,V.dV]
  rw [List.getElem?_append_right (by simp;omega)];simp [Nat.min_eq_left hl]
theorem YB {y:V} (l:List ah) (hl:l≠ []) (x:V) (h:x.sound) (h0:(bO (gN y) l x).2=0):fe l (bO (gN y) l x).1=some y:=by
 induction l generalizing x with
 |nil=>exact absurd rfl hl
 |cons a r ih=>
  cases r with
  |nil=>
   rw [DR] at h0⊢;unfold gN at h0⊢
   cases hc:x.child a with
   |none=>rw [hc] at h0;simp at h0
   |some i=>simp only;rw [JC (uX h hc) hc];rfl
  |cons b r=>
   cases hc:x.child a with
   |none=>rw [DT hc] at h0;simp at h0
   |some i=>
    have hi:=uX h hc;rw [DU hc hi] at h0⊢;by_cases e:(bO (gN y) (b::r) x.l[i]).2=0
    ·rw [if_pos e]
     rw [JC hi hc];exact ih (by simp) _ (h.item (List.getElem_mem hi)) e
    ·rw [if_neg e] at h0;exact absurd h0 e
theorem YC {y:V} (l:List ah) (hl:l≠ []) (hd:(l.getLast hl).data.toList≠ [45]) (x:V) (h:x.sound) (h0:(bO (iV y) l x).2=0):fe l (bO (iV y) l x).1=some y:=by
 induction l generalizing x with
 |nil=>exact absurd rfl hl
 |cons a r ih=>
  cases r with
  |nil=>
   rw [DR] at h0⊢;simp only [List.getLast_singleton] at hd;unfold iV at h0⊢;by_cases h5:x.k=5
   ·rw [if_pos h5]
    obtain⟨i,h1,h2⟩:=Yz h h5 a y;simp [fe,h1,h2]
   ·rw [if_neg h5] at h0⊢
    by_cases h4:x.k=4
    ·rw [if_pos h4] at h0⊢
     cases hi:jm a x.l.length with
     |none=>rw [hi] at h0;simp at h0
     |some i=>
      rw [hi] at h0;simp only at h0⊢;by_cases hle:i<=x.l.length
      ·rw [if_pos hle]
       obtain⟨h1,h2⟩:=YA h4 hd hi hle y;simp [fe,h1,h2]
      ·rw [if_neg hle] at h0;simp at h0
    ·rw [if_neg h4] at h0;simp at h0
  |cons b r=>
   cases hc:x.child a with
   |none=>rw [DT hc] at h0;simp at h0
   |some i=>
    have hi:=uX h hc;rw [DU hc hi] at h0⊢;by_cases e:(bO (iV y) (b::r) x.l[i]).2=0
    ·rw [if_pos e]
     rw [JC hi hc];exact ih (by simp) (by simpa using hd) _ (h.item (List.getElem_mem hi)) e
    ·rw [if_neg e] at h0;exact absurd h0 e
theorem En {x:V} {d:Int} (h:x.good d=true):x.sound:=⟨d,h⟩
theorem Eo {x:V} {d:Int} (h:x.good d=true) {i:Nat} (hi:i<x.l.length):(x.l[i]).good (d+1)=true:=by
 rw [V.sP,Bool.and_eq_true,List.all_eq_true] at h;exact h.2 _ (List.getElem_mem hi)
theorem Jg {x:V} {p:ah} {F:lH} (h:(gp x p F).2=0):∃l,cI p=some l/\l≠ []/\x.fine=true/\ (bO F l x).2=0/\ (bO F l x).1.fine=true/\ (gp x p F).1=(bO F l x).1:=by
 unfold gp at h⊢
 cases hn:cI p with
 |none=>rw [hn] at h;simp at h
 |some l=>
  rw [hn] at h;simp only at h⊢;by_cases hf:x.fine=false
  ·rw [if_pos hf] at h;simp at h
  ·rw [if_neg hf] at h⊢
   by_cases hl:l= []
   ·rw [if_pos hl] at h;simp at h
   ·rw [if_neg hl] at h⊢
    by_cases h0:(bO F l x).2=0
    ·rw [if_pos h0] at h⊢
     by_cases hg:(bO F l x).1.fine=true
     ·rw [if_pos hg]
      exact⟨l,rfl,hl,by simpa using hf,h0,hg,rfl⟩
     ·rw [if_neg hg] at h;simp at h
    ·rw [if_neg h0] at h;exact absurd h h0
theorem Jf {x:V} {p:ah} {F:lH} (h:(gp x p F).2≠0):(gp x p F).1=x:=by
 unfold gp at h⊢
 cases hn:cI p with
 |none=>rfl
 |some l=>
  rw [hn] at h;simp only at h⊢;by_cases h1:x.fine=false
  ·rw [if_pos h1]
  ·rw [if_neg h1] at h⊢
   by_cases h2:l= []
   ·rw [if_pos h2]
   ·rw [if_neg h2] at h⊢
    by_cases h3:(bO F l x).2=0
    ·rw [if_pos h3] at h⊢
     by_cases h4:(bO F l x).1.fine=true
     ·rw [if_pos h4] at h;exact absurd rfl h
     ·rw [if_neg h4]
    ·rw [if_neg h3]
theorem OD (x y:V) (p:ah):((jM x p y).2≠0-> (jM x p y).1=x)/\ ((jM x p y).2=0-> (jM x p y).1.fine=true/\cE (jM x p y).1 p=(y,0)):=by
 unfold jM;by_cases hy:y.fine=false
 ·rw [if_pos hy];exact⟨fun _=>rfl,fun h=>by simp at h⟩
 ·rw [if_neg hy]
  have hy':y.fine=true:=by simpa using hy
  by_cases hp:p.data.toList= []/\x.fine=true
  ·rw [if_pos hp]
   refine⟨fun h=>absurd rfl h,fun _=>⟨hy',?_⟩⟩;unfold cE;rw [AZ hp.1];simp [hy',fe]
  ·rw [if_neg hp]
   refine⟨Jf,fun h=> ?_⟩;obtain⟨l,hn,hl,hf,h0,hg,he⟩:=Jg h;rw [he];refine⟨hg,?_⟩;have:=YB l hl x (gG hf) h0;unfold cE;rw [hn];simp only;rw [if_neg (by rw [hg];decide),this]
theorem BX (x y:V) (p:ah):((eF x p y).2≠0-> (eF x p y).1=x)/\ ((eF x p y).2=0-> (eF x p y).1.fine=true/\∃l,cI p=some l/\ (∀hl:l≠ [],(l.getLast hl).data.toList≠ [45]->cE (eF x p y).1 p=(y,0))/\ (l= []->cE (eF x p y).1 p=(y,0))):=by
 unfold eF;by_cases hy:y.fine=false
 ·rw [if_pos hy];exact⟨fun _=>rfl,fun h=>by simp at h⟩
 ·rw [if_neg hy]
  have hy':y.fine=true:=by simpa using hy
  by_cases hp:p.data.toList= []/\x.fine=true
  ·rw [if_pos hp]
   refine⟨fun h=>absurd rfl h,fun _=>⟨hy', [],AZ hp.1,fun hl=>absurd rfl hl,fun _=> ?_⟩⟩;unfold cE;rw [AZ hp.1];simp [hy',fe]
  ·rw [if_neg hp]
   refine⟨Jf,fun h=> ?_⟩;obtain⟨l,hn,hl,hf,h0,hg,he⟩:=Jg h;rw [he];refine⟨hg,l,hn,fun hl hd=> ?_,fun h=>absurd h hl⟩;have:=YC l hl hd x (gG hf) h0;unfold cE;rw [hn];simp only;rw [if_neg (by rw [hg];decide),this]
theorem br {b:Bool} {S:World->Prop} {G K:Act->World->Prop} (hK:Shut (∀a w,(b=false->S w)->G a w->K a w)) {a:Act} {w:World} (hb:b=true:=by exact rfl) (h:G a w):K a w:=hK.out a w (fun e=>by rw [hb] at e;cases e) h
theorem fC {P:Program} {ops:Array Oper} {Q:Exit->Act->World->Prop} {S R:World->Prop} {c id:Nat} {a:Act} {w:World} (_:∀w',R w'->S w') (hm:P.follows .mixedOrders=true)
 (h:lu P .any ops Q S c ops.size (Array.replicate ops.size false) a w.drew):(Code.region id ops true).wp P Q a w:=Yk hm h
theorem nt {P:Program} {ops:Array Oper} {Q:Exit->Act->World->Prop} {S R:World->Prop} {id:Nat} {a:Act} {w:World} (_:∀w',R w'->S w') (hm:P.follows .mixedOrders=true) (hS:S w.drew)
 (h:S w.drew->wpAnyH P .any ops Q S ops.size (Array.replicate ops.size false) a w.drew):(Code.region id ops true).wp P Q a w:=wp_region_held_drew hm hS h
end Go.Proofs.YtlcebdaghmdkeabGreatDoor
