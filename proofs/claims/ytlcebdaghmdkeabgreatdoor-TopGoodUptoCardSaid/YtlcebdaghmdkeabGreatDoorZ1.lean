import Derived.Test.YtlcebdaghmdkeabGreatDoorRows
import Derived.WalkKit
import Derived.ProofKit
import Derived.OpenShut
import Derived.Below
import Derived.Lib.Hide
import Derived.Deep.QuietTactic
import Derived.BigQuiet
import Derived.Deep.LoopGhost
import Derived.Deep.Cut
import Derived.Deep.CutRange
import Derived.Deep.RegionWith
import Derived.Outline
import Derived.OneCell
import Derived.Deep.Light
import Derived.WalkSpells
import Derived.WalkLawsBesides
import Derived.Deep.RegionHeld3
import Derived.Lib.Replace
import Derived.Lib.AtoiAll
import Derived.Lib.ItoaNum
set_option linter.all false
set_option maxRecDepth 100000
set_option maxHeartbeats 64000000
namespace Go.Proofs.YtlcebdaghmdkeabGreatDoor
open Go.Proofs.Tryz
open Go.RowKit
theorem ae {p:Prop} (h:p):Hid p:=h
abbrev az:=Nat->Prop
abbrev ah:=ByteArray
abbrev au:=Option Addr
theorem Tryz.own:ownKnob prog.godebug=none:=by kernel_rfl
theorem Tryz.laidOut:laidOutB prog=true:=by kernel_rfl
def Ext (w w':World):Prop:=Below w.heap.size w w'
theorem Ext.refl (w:World):Ext w w:=Below.refl _ _
theorem Ext.size {a b:World} (h:Ext a b):a.heap.size<=b.heap.size:=Below.size h
theorem Ext.trans {a b c:World} (h:Ext a b) (k:Ext b c):Ext a c:=Below.trans h (Below.mono k h.size)
theorem Ext.drew {a b:World} (h:Ext a b):Ext a b.drew:=Below.drew h
theorem Ext.drewN {a b:World} (h:Ext a b) (n:Nat):Ext a (b.drewN n):=below_drewN h n
theorem Ext.alloc {a b:World} (h:Ext a b) (o:Obj):Ext a (b.alloc o):=Below.alloc h h.size o
theorem Ext.setCell {a b:World} (h:Ext a b) {p:Addr} (hp:a.heap.size<=p.block) (u:Value):Ext a (b.setCell p u):=Below.setCell h hp u
theorem Ext.below {a b:World} (h:Ext a b):Below a.heap.size a b:=h
theorem lh {w:World} {p:Addr} {v:Value} (h:w.cell? p=some v):p.block<w.heap.size:=by
 unfold World.cell? at h
 split at h
 ·rename_i hb
  exact(Array.getElem?_eq_some_iff.1 hb).1
 ·cases h
theorem Ext.cell {a b:World} (h:Ext a b) {p:Addr} {v:Value} (hv:a.cell? p=some v):b.cell? p=some v:=by
 rw [Below.cell h (lh hv)];exact hv
theorem Ext.cells {a b:World} (h:Ext a b):∀p:Addr,p.block<a.heap.size->b.cell? p=a.cell? p:=fun p hp=>Below.cell h hp
theorem Ext.frozen {a b:World} (h:Ext a b):∀p:Addr,p.block<a.heap.size->b.frozen? p=a.frozen? p:=fun p hp=>Below.frozen h hp
theorem aI {P:Program} {c:Code} {Q:Exit->Act->World->Prop} {a:Act} {W:World} (R:World->Prop) (h:R W) (k:∀wx,R wx->Code.wp P c Q a wx):Code.wp P c Q a W:=k W h
theorem Zk {P:Program} {fn:Func} {R:Ending->World->Prop} {v:Value} {tmps:Array Value} {w:World} (hr:(results fn tmps).run P w= .ok v w) (hR:R (.returned v) w):
 bodyPost P fn R .ret {tmps:=tmps,defers:= []} w:=⟨rfl,v,hr,hR⟩
theorem aF {P:Program} {fn:Func} {R:Ending->World->Prop} {v:Value} {tmps:Array Value} {w:World} (hr:(results fn tmps).run P w= .ok v w:=by(go_light;simp [results,Tryz.results12,Tryz.results17,Tryz.results22,Tryz.results24,Tryz.results31,Tryz.results34,Tryz.results39,Tryz.results47,Tryz.results49,Tryz.results51,Tryz.results54,Tryz.results56,Tryz.results57,Tryz.results58,Tryz.results59,Tryz.results71,Tryz.results72,Tryz.results73,Tryz.results74,Tryz.results75,Tryz.results76,Tryz.results83,Tryz.results85,Tryz.results86,Tryz.results87,Tryz.results88,Tryz.results90,Tryz.results102,Tryz.results103,Tryz.results125,Tryz.results127,Tryz.results138,Tryz.results139,Tryz.results140,Tryz.results144,Tryz.results145,Tryz.results146,Tryz.results176,Tryz.results183,Tryz.results184,Tryz.results188,Tryz.results189,Tryz.results190,Tryz.results214,Tryz.results215,Tryz.results216,Tryz.results217,Tryz.results235,go_sem, *];rfl)) (h:R (.returned v) w):
 bodyPost P fn R .ret {tmps:=tmps,defers:= []} w:=Zk hr h
theorem dv {a b:Bool} (h:a=b):Ending.returned (.bool a)=Ending.returned (.bool b):=by rw [h]
theorem vb {a b:Bool} (h:a=b):Value.bool a=Value.bool b:=by rw [h]
theorem Zl {k:IntKind} {a b:Int} (h:a=b):Ending.returned (.int k a)=Ending.returned (.int k b):=by rw [h]
theorem cp {a b:World} (h:Ext a b):(∀k o,k<a.heap.size->b.cell? ⟨k,o,none⟩=a.cell? ⟨k,o,none⟩)/\ (∀k o,k<a.heap.size->b.frozen? ⟨k,o,none⟩=a.frozen? ⟨k,o,none⟩)/\a.heap.size<=b.heap.size:=
 ⟨fun _ _ hk=>Below.cell (p:=⟨_,_,none⟩) h hk,fun _ _ hk=>Below.frozen (p:=⟨_,_,none⟩) h hk,h.size⟩
def af (w:World) (n:Nat) (vs:Array Value) (T:TypeId):Prop:=w.heap[n]? =some (.cells vs T (0,0))
theorem af.cells {w:World} {n:Nat} {vs:Array Value} {T:TypeId} (h:af w n vs T):∀i,w.cell? ⟨n,i,none⟩=vs[i]? :=by
 intro i;unfold af at h;simp [World.cell?,h]
theorem af.free {w:World} {n:Nat} {vs:Array Value} {T:TypeId} (h:af w n vs T):∀i,w.frozen? ⟨n,i,none⟩=false:=by
 intro i;unfold af at h;simp [World.frozen?,h]
theorem af.lt {w:World} {n:Nat} {vs:Array Value} {T:TypeId} (h:af w n vs T):n<w.heap.size:=lt_of_block h
theorem af.see {w:World} {n:Nat} {vs:Array Value} {T:TypeId} (h:af w n vs T):(∀i,w.cell? ⟨n,i,none⟩=vs[i]?)/\ (∀i,w.frozen? ⟨n,i,none⟩=false)/\n<w.heap.size:=⟨h.cells,h.free,h.lt⟩
theorem af.new (w:World) (vs:Array Value) (T:TypeId) {n:Nat} (e:n=w.heap.size):af (w.alloc (.cells vs T)) n vs T:=by
 subst e;show (w.heap.push _)[w.heap.size]? =_;simp
theorem af.alloc {w:World} {n:Nat} {vs:Array Value} {T:TypeId} (h:af w n vs T) (o:Obj):af (w.alloc o) n vs T:=by
 have:=h.lt;unfold af at*;rw [Below.heap_alloc _ _ _ this];exact h
theorem af.drew {w:World} {n:Nat} {vs:Array Value} {T:TypeId} (h:af w n vs T):af w.drew n vs T:=h
theorem af.ext {w w':World} {n:Nat} {vs:Array Value} {T:TypeId} (e:Ext w w') (h:af w n vs T):af w' n vs T:=by
 have:=h.lt;unfold af at*;rw [Below.block e _ this];exact h
theorem af.other {w:World} {n:Nat} {vs:Array Value} {T:TypeId} (h:af w n vs T) {p:Addr} (hp:n≠p.block) (u:Value):af (w.setCell p u) n vs T:=by
 unfold af at*;rw [Below.heap_setCell _ _ _ _ hp];exact h
theorem af.set {w:World} {n:Nat} {vs:Array Value} {T:TypeId} (h:af w n vs T) (i:Nat) (u:Value):af (w.setCell ⟨n,i,none⟩ u) n (vs.setIfInBounds i u) T:=by
 have hlt:=h.lt;unfold af at*;have h':w.heap[n]= .cells vs T (0,0):=by simpa [Array.getElem?_eq_getElem hlt] using h
 show (w.heap.modify n _)[n]? =_;rw [Array.getElem?_eq_getElem (by simpa using hlt),Array.getElem_modify_self,h'];rfl
theorem af.to {w:World} {n:Nat} {vs vs':Array Value} {T:TypeId} (h:af w n vs T) (e:vs=vs'):af w n vs' T:=e▸h
theorem Xt {a b:World} (h:Ext a b:=by with_reducible repeat (first|exact Ext.refl _|assumption|apply Ext.drew|apply Ext.drewN|apply Ext.alloc|(refine Ext.setCell ?_ ?_ _;rotate_left;(focus(first|(simp;done)|(simp;omega)|omega)))|refine Ext.trans ?_ (by assumption))):Ext a b:=h
theorem aj {w:World} {n:Nat} {vs:Array Value} {T:TypeId} (h:af w n vs T:=by(with_reducible apply af.to);(focus(with_reducible repeat (first|assumption|(apply af.new;(focus(first|rfl|(first|(simp;done)|(simp;omega)|omega))))|apply af.set|(apply af.other;rotate_left;(focus(first|(simp;done)|(simp;omega)|omega)))|apply af.alloc|apply af.drew|(apply af.ext;(focus assumption)))));(first|rfl|(simp;done)|(go_light;simp [*];done))):af w n vs T:=h
theorem rl:(∀(a:Act) (d:Tmp) (v:Value),a.put (some d) v= {a with tmps:=a.tmps.setIfInBounds d v})/\ (∀(a:Act) (v:Value),a.put none v=a)/\
 (∀(α:Type) (xs:List α) (i:Nat) (v:α),xs.toArray.setIfInBounds i v=(xs.set i v).toArray)/\ (∀(α:Type) (a b:α) (r:List α),(a::r).set 0 b=b::r)/\ (∀(α:Type) (a b:α) (r:List α) (n:Nat),(a::r).set (n+1) b=a::r.set n b)/\
 (∀(α:Type) (xs:List α) (i:Nat) (h:i<xs.toArray.size),xs.toArray[i]'h=xs[i]'(by simpa using h))/\ (∀(α:Type) (a:α) (r:List α) (h:0<(a::r).length),(a::r)[0]'h=a)/\ (∀(α:Type) (a:α) (r:List α) (i:Nat) (h:i+1<(a::r).length),(a::r)[i+1]'h=r[i]'(by simpa using h)):=
 ⟨fun _ _ _=>rfl,fun _ _=>rfl,fun _ _ _ _=>by simp,fun _ _ _ _=>rfl,fun _ _ _ _ _=>rfl,fun _ _ _ _=>by simp,fun _ _ _ _=>rfl,fun _ _ _ _ _=>rfl⟩
inductive V where
 |mk (k n:Int) (s:ah) (keys:List ah) (l:List V)
def V.k:V->Int| .mk k _ _ _ _=>k
def V.n:V->Int| .mk _ n _ _ _=>n
def V.s:V->ah| .mk _ _ s _ _=>s
def V.keys:V->List ah| .mk _ _ _ ks _=>ks
def V.l:V->List V| .mk _ _ _ _ l=>l
theorem V.eta (x:V):V.mk x.k x.n x.s x.keys x.l=x:=by cases x;rfl
@[simp] theorem V.uI (k n:Int) (s:ah) (ks:List ah) (l:List V):(V.mk k n s ks l).k=k:=rfl
@[simp] theorem V.uJ (k n:Int) (s:ah) (ks:List ah) (l:List V):(V.mk k n s ks l).n=n:=rfl
@[simp] theorem V.kz (k n:Int) (s:ah) (ks:List ah) (l:List V):(V.mk k n s ks l).s=s:=rfl
@[simp] theorem V.gi (k n:Int) (s:ah) (ks:List ah) (l:List V):(V.mk k n s ks l).keys=ks:=rfl
@[simp] theorem V.dZ (k n:Int) (s:ah) (ks:List ah) (l:List V):(V.mk k n s ks l).l=l:=rfl
theorem V.ind {P:V->Prop} (h:∀x:V,(∀y∈x.l,P y)->P x) (x:V):P x:=
 V.rec (motive_1:=P) (motive_2:=fun l=>∀y∈l,P y) (fun k n s ks l ih=>h (.mk k n s ks l) ih) (fun y hy=>by cases hy)
  (fun a l ha hl y hy=>by rcases List.mem_cons.1 hy with rfl|hy;exact ha;exact hl y hy) x
def V.count:V->Nat| .mk _ _ _ _ l=>1+go l
where go:List V->Nat
 | []=>0
 |x::r=>V.count x+go r
theorem V.count_eq (x:V):x.count=1+(x.l.map V.count).sum:=by
 have h:∀l,V.count.go l=(l.map V.count).sum:=by
  intro l;induction l with
  |nil=>simp [V.count.go]
  |cons x r ih=>simp [V.count.go,ih]
 cases x with|mk k n s ks l=>simp [V.count,h]
def ft (ks:List ah):Nat:=(ks.map fun k=>k.size+1).sum
def V.size:V->Nat| .mk _ _ s ks l=>1+s.size+ft ks+go l
where go:List V->Nat
 | []=>0
 |x::r=>V.size x+go r
theorem V.size_eq (x:V):x.size=1+x.s.size+ft x.keys+(x.l.map V.size).sum:=by
 have h:∀l,V.size.go l=(l.map V.size).sum:=by
  intro l;induction l with
  |nil=>simp [V.size.go]
  |cons x r ih=>simp [V.size.go,ih]
 cases x with|mk k n s ks l=>simp [V.size,h]
theorem uO {α:Type} (f:α->Nat) {x:α} {l:List α} (h:x∈l):f x<= (l.map f).sum:=by
 induction l with
 |nil=>cases h
 |cons a r ih=>
  simp only [List.map_cons,List.sum_cons];rcases List.mem_cons.1 h with rfl|h
  ·omega
  ·have:=ih h;omega
theorem Ct {α:Type} (f:α->Nat) (hf:∀x,1<=f x) (l:List α):l.length<= (l.map f).sum:=by
 induction l with
 |nil=>simp
 |cons a r ih=>have:=hf a;simp only [List.map_cons,List.sum_cons,List.length_cons];omega
theorem V.size_pos (x:V):1<=x.size:=by rw [V.size_eq];omega
theorem V.Aq (x:V):1<=x.count:=by rw [V.count_eq];omega
theorem V.yZ {x y:V} (h:y∈x.l):y.size<x.size:=by rw [V.size_eq x];have:=uO V.size h;omega
theorem V.qy {x:V} {i:Nat} (h:i<x.l.length):(x.l[i]).size<x.size:=V.yZ (List.getElem_mem h)
theorem V.kB (x:V):x.l.length<x.size:=by rw [V.size_eq];have:=Ct V.size V.size_pos x.l;omega
theorem V.Ar (x:V):x.keys.length<x.size:=by
 rw [V.size_eq];have:=Ct (fun k:ah=>k.size+1) (fun _=>by omega) x.keys;unfold ft;omega
theorem V.Ku (x:V):x.s.size<x.size:=by rw [V.size_eq];omega
theorem V.Zm {x:V} {i:Nat} (h:i<x.keys.length):(x.keys[i]).size<x.size:=by
 rw [V.size_eq];have:=uO (fun k:ah=>k.size+1) (List.getElem_mem h);unfold ft;omega
def bR (w:World) (S:az) (a:au) (ks:List ah):Prop:=
 ks= []\/∃b o,a=some ⟨b,o,none⟩/\S b/\∀i (h:i<ks.length),w.cell? ⟨b,o+i,none⟩=some (.string ks[i])
def aM (a:au) (n c:Nat):Prop:=n<=c/\c<=maxLen/\ (a=none->c=0)
theorem aM.nil:aM none 0 0:=⟨Nat.le_refl _,Nat.zero_le _,fun _=>rfl⟩
def V.In (w:World) (S:az):V->au->Nat->au->az
 | .mk _ _ _ ks l,ka,kc,la,lc=>aM ka ks.length kc/\aM la l.length lc/\bR w S ka ks/\rows l la
where rows:List V->au->Prop
 | [],_=>True
 |x::r,p=>∃b o ka kc la lc,p=some ⟨b,o,none⟩/\S b/\ (w.cell? ⟨b,o,none⟩=some (.int .i64 x.k)/\w.cell? ⟨b,o+1,none⟩=some (.int .i64 x.n)/\w.cell? ⟨b,o+2,none⟩=some (.string x.s)/\
   w.cell? ⟨b,o+3,none⟩=some (.slice ka x.keys.length kc)/\w.cell? ⟨b,o+4,none⟩=some (.slice la x.l.length lc))/\V.In w S x ka kc la lc/\rows r (some ⟨b,o+5,none⟩)
def V.Item (w:World) (S:az) (b o:Nat) (x:V):Prop:=
 ∃ka kc la lc,(w.cell? ⟨b,o,none⟩=some (.int .i64 x.k)/\w.cell? ⟨b,o+1,none⟩=some (.int .i64 x.n)/\w.cell? ⟨b,o+2,none⟩=some (.string x.s)/\
  w.cell? ⟨b,o+3,none⟩=some (.slice ka x.keys.length kc)/\w.cell? ⟨b,o+4,none⟩=some (.slice la x.l.length lc))/\x.In w S ka kc la lc
def Rows (w:World) (S:az) (l:List V) (p:au):Prop:=
 l= []\/∃b o,p=some ⟨b,o,none⟩/\S b/\∀i (h:i<l.length),V.Item w S b (o+i*5) l[i]
theorem V.Zn (w:World) (S:az) (l:List V) (p:au):V.In.rows w S l p↔Rows w S l p:=by
 induction l generalizing p with
 |nil=>simp [V.In.rows,Rows]
 |cons x r ih=>
  simp only [V.In.rows,ih];constructor
  ·rintro⟨b,o,ka,kc,la,lc,rfl,hS,hc,hin,hr⟩
   refine .inr ⟨b,o,rfl,hS,?_⟩;intro i hi
   match i with
   |0=>simpa using ⟨ka,kc,la,lc,hc,hin⟩
   |i+1=>
    rcases hr with h|⟨b',o',h,Am,hr⟩
    ·subst h;simp at hi
    ·simp only [Option.some.injEq,Addr.mk.injEq] at h
     obtain⟨rfl,rfl,-⟩:=h;have:=hr i (by simpa using hi);rw [List.getElem_cons_succ,show o+(i+1)*5=o+5+i*5 from by omega];exact this
  ·rintro(h|⟨b,o,rfl,hS,hr⟩)
   ·cases h
   ·obtain⟨ka,kc,la,lc,hc,hin⟩:=hr 0 (by simp)
    refine⟨b,o,ka,kc,la,lc,rfl,hS,by simpa using hc,by simpa using hin,?_⟩;by_cases hn:r= []
    ·exact .inl hn
    ·refine .inr ⟨b,o+5,rfl,hS,?_⟩
     intro i hi;have:=hr (i+1) (by simpa using hi);rw [List.getElem_cons_succ,show o+(i+1)*5=o+5+i*5 from by omega] at this;exact this
theorem V.dz (w:World) (S:az) (x:V) (ka:au) (kc:Nat) (la:au) (lc:Nat):
 x.In w S ka kc la lc↔aM ka x.keys.length kc/\aM la x.l.length lc/\bR w S ka x.keys/\Rows w S x.l la:=by
 cases x with|mk k n s ks l=>simp only [V.In,V.Zn,V.gi,V.dZ]
def Kept (S:az) (w w':World):Prop:=∀b,S b->b<w.heap.size->w'.heap[b]? =w.heap[b]?
theorem Kept.cell {S:az} {w w':World} (h:Kept S w w') {p:Addr} {v:Value} (hS:S p.block) (hv:w.cell? p=some v):w'.cell? p=some v:=by
 have hb:=lh hv;rw [World.cell?_of_block (h _ hS hb)];exact hv
theorem Ext.kept {w w':World} (h:Ext w w') (S:az):Kept S w w':=fun b _ hb=>Below.block h b hb
theorem Kept.mono {S T:az} {w w':World} (h:Kept S w w') (hT:∀b,T b->S b):Kept T w w':=fun b hb=>h b (hT b hb)
theorem bR.keep {S T:az} {w w':World} {a:au} {ks:List ah} (h:bR w S a ks) (hk:Kept S w w') (hT:∀b,S b->b<w.heap.size->T b):bR w' T a ks:=by
 rcases h with h|⟨b,o,rfl,hS,hc⟩
 ·exact .inl h
 ·by_cases h0:ks= []
  ·exact .inl h0
  ·have hlt:b<w.heap.size:=lh (hc 0 (by have:=List.length_pos_iff.2 h0;omega))
   exact .inr ⟨b,o,rfl,hT b hS hlt,fun i hi=>hk.cell hS (hc i hi)⟩
theorem V.In.keep {S T:az} {w w':World} {x:V} {ka:au} {kc:Nat} {la:au} {lc:Nat} (h:x.In w S ka kc la lc) (hk:Kept S w w') (hT:∀b,S b->b<w.heap.size->T b):x.In w' T ka kc la lc:=by
 induction x using V.ind generalizing ka kc la lc with
 |h x ih=>
  rw [V.dz] at h⊢;obtain⟨h1,h2,h3,h4⟩:=h;refine⟨h1,h2,h3.keep hk hT,?_⟩;rcases h4 with h4|⟨b,o,rfl,hS,hr⟩
  ·exact .inl h4
  ·by_cases h0:x.l= []
   ·exact .inl h0
   ·have hlt:b<w.heap.size:=by
     obtain⟨_,_,_,_,hc,-⟩:=hr 0 (by have:=List.length_pos_iff.2 h0;omega);exact lh hc.1
    refine .inr ⟨b,o,rfl,hT b hS hlt,fun i hi=> ?_⟩;obtain⟨ka,kc,la,lc,⟨c0,c1,c2,c3,c4⟩,hin⟩:=hr i hi;exact⟨ka,kc,la,lc,⟨hk.cell hS c0,hk.cell hS c1,hk.cell hS c2,hk.cell hS c3,hk.cell hS c4⟩,ih _ (List.getElem_mem hi) hin⟩
theorem V.Item.keep {S T:az} {w w':World} {b o:Nat} {x:V} (h:V.Item w S b o x) (hS:S b) (hk:Kept S w w') (hT:∀b,S b->b<w.heap.size->T b):V.Item w' T b o x:=by
 obtain⟨ka,kc,la,lc,⟨c0,c1,c2,c3,c4⟩,hin⟩:=h;exact⟨ka,kc,la,lc,⟨hk.cell hS c0,hk.cell hS c1,hk.cell hS c2,hk.cell hS c3,hk.cell hS c4⟩,hin.keep hk hT⟩
theorem Rows.keep {S T:az} {w w':World} {l:List V} {p:au} (h:Rows w S l p) (hk:Kept S w w') (hT:∀b,S b->b<w.heap.size->T b):Rows w' T l p:=by
 rcases h with h|⟨b,o,rfl,hS,hr⟩
 ·exact .inl h
 ·by_cases h0:l= []
  ·exact .inl h0
  ·have hlt:b<w.heap.size:=by
    obtain⟨_,_,_,_,hc,-⟩:=hr 0 (by have:=List.length_pos_iff.2 h0;omega);exact lh hc.1
   exact .inr ⟨b,o,rfl,hT b hS hlt,fun i hi=>(hr i hi).keep hS hk hT⟩
theorem bR.ext {S:az} {w w':World} {a:au} {ks:List ah} (h:bR w S a ks) (e:Ext w w'):bR w' S a ks:=h.keep (e.kept S) (fun _ h _=>h)
theorem V.In.ext {S:az} {w w':World} {x:V} {ka:au} {kc:Nat} {la:au} {lc:Nat} (h:x.In w S ka kc la lc) (e:Ext w w'):x.In w' S ka kc la lc:=h.keep (e.kept S) (fun _ h _=>h)
theorem Rows.ext {S:az} {w w':World} {l:List V} {p:au} (h:Rows w S l p) (e:Ext w w'):Rows w' S l p:=h.keep (e.kept S) (fun _ h _=>h)
theorem V.Item.ext {S:az} {w w':World} {b o:Nat} {x:V} (h:V.Item w S b o x) (e:Ext w w'):V.Item w' S b o x:=by
 obtain⟨ka,kc,la,lc,⟨c0,c1,c2,c3,c4⟩,hin⟩:=h;exact⟨ka,kc,la,lc,⟨e.cell c0,e.cell c1,e.cell c2,e.cell c3,e.cell c4⟩,hin.ext e⟩
theorem V.In.mono {S T:az} {w:World} {x:V} {ka:au} {kc:Nat} {la:au} {lc:Nat} (h:x.In w S ka kc la lc) (hT:∀b,S b->b<w.heap.size->T b):x.In w T ka kc la lc:=h.keep (fun _ _ _=>rfl) hT
theorem V.In.item {S:az} {w:World} {x:V} {ka:au} {kc:Nat} {la:au} {lc:Nat} (h:x.In w S ka kc la lc) {i:Nat} (hi:i<x.l.length):
 ∃b o,la=some ⟨b,o,none⟩/\S b/\V.Item w S b (o+i*5) x.l[i]:=by
 rw [V.dz] at h;rcases h.2.2.2 with h|⟨b,o,rfl,hS,hr⟩
 ·rw [h] at hi;simp at hi
 ·exact⟨b,o,rfl,hS,hr i hi⟩
theorem V.In.key {S:az} {w:World} {x:V} {ka:au} {kc:Nat} {la:au} {lc:Nat} (h:x.In w S ka kc la lc) {i:Nat} (hi:i<x.keys.length):
 ∃b o,ka=some ⟨b,o,none⟩/\S b/\w.cell? ⟨b,o+i,none⟩=some (.string x.keys[i]):=by
 rw [V.dz] at h;rcases h.2.2.1 with h|⟨b,o,rfl,hS,hr⟩
 ·rw [h] at hi;simp at hi
 ·exact⟨b,o,rfl,hS,hr i hi⟩
abbrev V.val (x:V) (ka:au) (kc:Nat) (la:au) (lc:Nat):Value:= .agg #[.int .i64 x.k, .int .i64 x.n, .string x.s, .slice ka x.keys.length kc, .slice la x.l.length lc]
abbrev aD (w:World) (a:Nat) (x:V) (ka:au) (kc:Nat) (la:au) (lc:Nat):Prop:=af w a #[.int .i64 x.k, .int .i64 x.n, .string x.s, .slice ka x.keys.length kc, .slice la x.l.length lc] 36
abbrev aN (w:World) (a:Nat):Prop:=af w a #[.int .i64 0, .int .i64 0, .string ⟨#[]⟩, .slice none 0 0, .slice none 0 0] 36
abbrev gb (w:World) (a:Nat) (k:Int) (p f:ah) (x:V) (ka:au) (kc:Nat) (la:au) (lc:Nat):Prop:=af w a #[.int .i64 k, .string p, .string f, .int .i64 x.k, .int .i64 x.n, .string x.s, .slice ka x.keys.length kc, .slice la x.l.length lc] 198
def aW (S:az) (w:World):az:=fun b=>S b\/w.heap.size<=b
def qA (S:az) (r:V) (w:World) (e:Ending) (w':World):Prop:=
 ∃ka kc la lc,e= .returned (r.val ka kc la lc)/\r.In w' (aW S w) ka kc la lc/\Ext w w'
def fe (S:az) (r:V) (u:Value) (w:World) (e:Ending) (w':World):Prop:=
 ∃ka kc la lc,e= .returned (.tuple #[r.val ka kc la lc,u])/\r.In w' (aW S w) ka kc la lc/\Ext w w'
def bC (a b:ah):Bool:=Op.bytesLess a.toList b.toList
def fU (s:ah):Bool:=(s.data.toList.all fun c=>decide ((c.toNat:Int)<128))&&decide (s.size<=60)
def y5 (ks:List ah):Bool:=decide (∀i,(h:i<ks.length)->fU ks[i]=true/\ (0<i->bC (ks[i-1]'(by omega)) ks[i]=true))
def g1 (d k:Int):Bool:=decide (12<d\/k<0\/5<k)
def g2 (k n:Int) (s:ah) (lk ll:Nat):Bool:=decide ((k≠1/\k≠2/\n≠0)\/ (k≠3/\s.toList≠ [])\/ (k≠5/\0<lk)\/ (k<4/\0<ll))
def g3 (k n:Int) (s:ah):Bool:=decide ((k=1/\n≠0/\n≠1)\/n< -9007199254740992\/9007199254740992<n)|| !fU s
def g4 (k:Int) (lk ll:Nat):Bool:=decide (k=5/\lk≠ll)
def V.flat (d:Int) (x:V):Bool:= !g1 d x.k&& !g2 x.k x.n x.s x.keys.length x.l.length&& !g3 x.k x.n x.s&& !g4 x.k x.keys.length x.l.length&&y5 x.keys
def V.good:V->Int->Bool
 | .mk k n s ks l,d=>V.flat d (.mk k n s ks l)&&go l (d+1)
where go:List V->Int->Bool
 | [],_=>true
 |x::r,d=>V.good x d&&go r d
theorem V.Zo (l:List V) (d:Int):V.good.go l d=l.all fun x=>x.good d:=by
 induction l with
 |nil=>simp [V.good.go]
 |cons x r ih=>simp [V.good.go,ih]
theorem V.ud (x:V) (d:Int):x.good d=(x.flat d&&x.l.all fun y=>y.good (d+1)):=by
 cases x with|mk k n s ks l=>rw [V.good,V.Zo];rfl
def V.fine (x:V):Bool:=x.good 1&&decide (x.count<=120)
theorem V.count_le (x:V):x.count<=x.size:=by
 induction x using V.ind with
 |h x ih=>
  rw [V.count_eq,V.size_eq];have:(x.l.map V.count).sum<= (x.l.map V.size).sum:=by
   generalize x.l=l at*
   induction l with
   |nil=>simp
   |cons a r ih2=>
    simp only [List.map_cons,List.sum_cons];have h1:=ih a (by simp);have h2:=ih2 (fun y hy=>ih y (by simp [hy]));omega
  omega
theorem V.E9 {x:V} {i:Nat} (h:i<x.l.length):(x.l[i]).count<x.count:=by
 rw [V.count_eq x];have:=uO V.count (List.getElem_mem h);omega
theorem Qp {α:Type} (f:α->Nat) (l:List α) {k:Nat} (h:k<l.length):((l.take (k+1)).map f).sum=((l.take k).map f).sum+f l[k]:=by
 rw [List.take_succ_eq_append_getElem h];simp only [List.map_append,List.map_cons,List.map_nil,List.sum_append,List.sum_cons,List.sum_nil,Nat.add_zero]
theorem Kv {α:Type} (f:α->Nat) (l:List α) (k:Nat):((l.take k).map f).sum<= (l.map f).sum:=by
 induction l generalizing k with
 |nil=>simp
 |cons a r ih=>
  cases k with
  |zero=>simp
  |succ k=>simp only [List.take_succ_cons,List.map_cons,List.sum_cons];have:=ih k;omega
theorem Kw {α:Type} (f:α->Bool) (l:List α) {k:Nat} (h:k<l.length) (h0:(l.take k).all f=true) (h1:f l[k]=true):(l.take (k+1)).all f=true:=by
 rw [List.take_succ_eq_append_getElem h];simp only [List.all_append,List.all_cons,List.all_nil,Bool.and_true,Bool.and_eq_true];exact⟨h0,h1⟩
theorem Ky {α:Type} (f:α->Bool) (l:List α) {k:Nat} (h:k<l.length) (h1:f l[k]=false):l.all f=false:=by
 simp only [List.all_eq_false];exact⟨l[k],List.getElem_mem h,by simp [h1]⟩
def V.same:V->V->Bool
 | .mk k n s ks l,y=>decide (k=y.k/\n=y.n/\s.toList=y.s.toList/\ks.map ByteArray.toList=y.keys.map ByteArray.toList/\l.length=y.l.length)&&go l y.l
where go:List V->List V->Bool
 | [],_=>true
 |_, []=>true
 |x::r,y::t=>V.same x y&&go r t
def V.find (x:V) (key:ah):Option Nat:=if x.k=5/\x.keys.length=x.l.length then x.keys.findIdx? fun k=>decide (k.toList=key.toList) else none
def V.zero:V:= .mk 0 0 ⟨#[]⟩ [] []
def V.member (x:V) (key:ah):Option V:=(x.find key).bind fun i=>x.l[i]?
end Go.Proofs.YtlcebdaghmdkeabGreatDoor
namespace Go.Proofs.YtlcebdaghmdkeabGreatDoor
open Go.Proofs.Tryz
theorem Zp (a:List UInt8):Op.bytesLess a a=false:=by
 induction a with
 |nil=>rfl
 |cons x a ih=>simp [Op.bytesLess,ih]
theorem Zq (a:List UInt8):∀b c,Op.bytesLess a b=true->Op.bytesLess b c=true->Op.bytesLess a c=true:=by
 induction a with
 |nil=>
  intro b c h1 h2
  cases b with
  |nil=>simp [Op.bytesLess] at h1
  |cons y b=>cases c with
   |nil=>simp [Op.bytesLess] at h2
   |cons z c=>simp [Op.bytesLess]
 |cons x a ih=>
  intro b c h1 h2
  cases b with
  |nil=>simp [Op.bytesLess] at h1
  |cons y b=>cases c with
   |nil=>simp [Op.bytesLess] at h2
   |cons z c=>
    simp only [Op.bytesLess,Bool.or_eq_true,decide_eq_true_eq,Bool.and_eq_true,beq_iff_eq] at h1 h2⊢;rcases h1 with h1|⟨rfl,h1⟩
    ·rcases h2 with h2|⟨rfl,h2⟩
     ·exact .inl (UInt8.lt_trans h1 h2)
     ·exact .inl h1
    ·rcases h2 with h2|⟨rfl,h2⟩
     ·exact .inl h2
     ·exact .inr ⟨rfl,ih _ _ h1 h2⟩
theorem Zr (a:List UInt8):∀b,Op.bytesLess a b=true\/a=b\/Op.bytesLess b a=true:=by
 induction a with
 |nil=>
  intro b
  cases b with
  |nil=>exact .inr (.inl rfl)
  |cons y b=>exact .inl rfl
 |cons x a ih=>
  intro b
  cases b with
  |nil=>exact .inr (.inr rfl)
  |cons y b=>
   simp only [Op.bytesLess,Bool.or_eq_true,decide_eq_true_eq,Bool.and_eq_true,beq_iff_eq,List.cons.injEq];rcases Nat.lt_trichotomy x.toNat y.toNat with h|h|h
   ·exact .inl (.inl (UInt8.lt_iff_toNat_lt.2 h))
   ·have e:x=y:=UInt8.toNat_inj.1 h
    subst e;rcases ih b with h|h|h
    ·exact .inl (.inr ⟨rfl,h⟩)
    ·exact .inr (.inl ⟨rfl,h⟩)
    ·exact .inr (.inr (.inr ⟨rfl,h⟩))
   ·exact .inr (.inr (.inl (UInt8.lt_iff_toNat_lt.2 h)))
theorem kV {a b:ah} (h:a.toList=b.toList):a=b:=by
 rw [ByteArray.toList_eq,ByteArray.toList_eq] at h;obtain⟨⟨a⟩⟩:=a;obtain⟨⟨b⟩⟩:=b;simp only at h;subst h;rfl
theorem Kz (a:ah):bC a a=false:=Zp _
theorem tS {a b c:ah} (h1:bC a b=true) (h2:bC b c=true):bC a c=true:=Zq _ _ _ h1 h2
theorem Fz (a b:ah):bC a b=true\/a=b\/bC b a=true:=by
 rcases Zr a.toList b.toList with h|h|h
 ·exact .inl h
 ·exact .inr (.inl (kV h))
 ·exact .inr (.inr h)
theorem KA {a b:ah} (h:bC a b=true):a≠b:=by rintro rfl;rw [Kz] at h;cases h
theorem KB {a b:ah} (h:bC a b=true):bC b a=false:=by
 cases h2:bC b a with
 |false=>rfl
 |true=>have:=tS h h2;rw [Kz] at this;cases this
abbrev cz (ks:List ah):Prop:=ks.Pairwise fun a b=>bC a b=true
theorem Qq (ks:List ah):y5 ks=true↔(∀k∈ks,fU k=true)/\cz ks:=by
 unfold y5;rw [decide_eq_true_eq];constructor
 ·intro h
  refine⟨?_,?_⟩
  ·intro k hk
   obtain⟨i,hi,rfl⟩:=List.getElem_of_mem hk;exact(h i hi).1
  ·rw [cz,List.pairwise_iff_getElem]
   intro i j hi hj hij
   induction j with
   |zero=>omega
   |succ j ih=>
    have h1:=(h (j+1) hj).2 (by omega);simp only [Nat.add_sub_cancel] at h1;by_cases e:i=j
    ·subst e;exact h1
    ·exact tS (ih (by omega) (by omega)) h1
 ·rintro⟨h1,h2⟩ i hi
  refine⟨h1 _ (List.getElem_mem hi),fun h0=> ?_⟩;rw [cz,List.pairwise_iff_getElem] at h2;exact h2 (i-1) i (by omega) hi (by omega)
def posOf (ks:List ah) (key:ah):Nat:=(ks.takeWhile fun k=>bC k key).length
theorem tW (ks:List ah) (key:ah):posOf ks key<=ks.length:=by
 unfold posOf
 induction ks with
 |nil=>simp
 |cons k r ih=>simp only [List.takeWhile_cons];split<;>simp<;>omega
theorem Qr (ks:List ah) (key:ah):(∀i,(h:i<ks.length)->i<posOf ks key->bC ks[i] key=true)/\ (∀h:posOf ks key<ks.length,bC ks[posOf ks key] key=false):=by
 induction ks with
 |nil=>exact⟨fun i h=>by simp at h,fun h=>by simp at h⟩
 |cons k r ih=>
  by_cases hk:bC k key=true
  ·have e:posOf (k::r) key=posOf r key+1:=by simp [posOf,hk]
   refine⟨?_,?_⟩
   ·intro i hi hp
    cases i with
    |zero=>simpa using hk
    |succ i=>simpa using ih.1 i (by simpa using hi) (by omega)
   ·intro h
    simp only [e] at h⊢;simpa using ih.2 (by simpa using h)
  ·have hk:bC k key=false:=by simpa using hk
   have e:posOf (k::r) key=0:=by simp [posOf,hk]
   refine⟨?_,?_⟩
   ·intro i hi hp;omega
   ·intro h
    simp only [e];simpa using hk
theorem Qs {ks:List ah} {key:ah} {i:Nat} (hl:i<ks.length) (h:i<posOf ks key):bC ks[i] key=true:=(Qr ks key).1 i hl h
theorem Qt {ks:List ah} {key:ah} (h:posOf ks key<ks.length):bC ks[posOf ks key] key=false:=(Qr ks key).2 h
theorem JW {ks:List ah} {key:ah} {p:Nat} (hp:p<=ks.length) (h1:∀i,(h:i<p)->bC (ks[i]'(by omega)) key=true) (h2:(h:p<ks.length)->bC ks[p] key=false):p=posOf ks key:=by
 induction ks generalizing p with
 |nil=>simp at hp;simp [posOf,hp]
 |cons k r ih=>
  cases p with
  |zero=>
   have:=h2 (by simp);simp only [List.getElem_cons_zero] at this;simp [posOf,this]
  |succ p=>
   have h0:=h1 0 (by omega);simp only [List.getElem_cons_zero] at h0;have:=ih (p:=p) (by simpa using hp) (fun i hi=>by have:=h1 (i+1) (by omega);simpa using this) (fun h=>by have:=h2 (by simpa using h);simpa using this);simp only [posOf,List.takeWhile_cons,h0,if_true,List.length_cons];rw [<-posOf];omega
def hasB (ks:List ah) (key:ah):Bool:=match ks[posOf ks key]? with|some k=>decide (k.toList=key.toList)|none=>false
theorem De (ks:List ah) (key:ah):hasB ks key=true↔ks[posOf ks key]? =some key:=by
 unfold hasB
 cases h:ks[posOf ks key]? with
 |none=>simp
 |some k=>
  simp only [decide_eq_true_eq,Option.some.injEq];exact⟨fun h=>kV h,fun h=>by rw [h]⟩
theorem tR {ks:List ah} {key:ah} (h:hasB ks key=true):posOf ks key<ks.length:=by
 have:=(De _ _).1 h;exact(List.getElem?_eq_some_iff.1 this).1
theorem AK {ks:List ah} {key:ah} (h:hasB ks key=true):ks[posOf ks key]'(tR h)=key:=by
 have:=(De _ _).1 h;exact(List.getElem?_eq_some_iff.1 this).2
theorem yK {ks:List ah} (h:cz ks) {i j:Nat} (hi:i<ks.length) (hj:j<ks.length) (hij:i<j):bC ks[i] ks[j]=true:=(List.pairwise_iff_getElem.1 h) i j hi hj hij
theorem Qu {ks:List ah} (h:cz ks) {key:ah} {i:Nat} (hi:i<ks.length) (hp:posOf ks key<=i):bC ks[i] key=false:=by
 by_cases e:posOf ks key=i
 ·subst e;exact Qt hi
 ·have h1:=Qt (ks:=ks) (key:=key) (by omega)
  have h2:=yK h (show posOf ks key<ks.length by omega) hi (by omega)
  cases h3:bC ks[i] key with
  |false=>rfl
  |true=>rw [tS h2 h3] at h1;cases h1
theorem KC {ks:List ah} (h:cz ks) {key:ah} {i:Nat} (hi:i<ks.length) (he:ks[i]=key):posOf ks key=i:=by
 symm;refine JW (by omega) (fun j hj=> ?_) (fun _=> ?_)
 ·rw [<-he];exact yK h (by omega) hi hj
 ·rw [he];exact Kz _
theorem Fq {ks:List ah} (h:cz ks) {key:ah} (hm:key∈ks):hasB ks key=true:=by
 obtain⟨i,hi,he⟩:=List.getElem_of_mem hm;rw [De,KC h hi he,List.getElem?_eq_getElem hi,he]
theorem Qv {ks:List ah} (h:cz ks) {key:ah} (hn:hasB ks key=false) {i:Nat} (hi:i<ks.length) (hp:posOf ks key<=i):bC key ks[i]=true:=by
 rcases Fz ks[i] key with h1|h1|h1
 ·rw [Qu h hi hp] at h1;cases h1
 ·have:=Fq h (h1▸List.getElem_mem hi)
  rw [hn] at this;cases this
 ·exact h1
def V.put (x:V) (key:ah) (y:V):V:=
 if x.k=5/\x.keys.length=x.l.length then
  if hasB x.keys key=true then .mk x.k x.n x.s x.keys (x.l.set (posOf x.keys key) y)
  else .mk x.k x.n x.s (x.keys.take (posOf x.keys key)++key::x.keys.drop (posOf x.keys key)) (x.l.take (posOf x.keys key)++y::x.l.drop (posOf x.keys key))
 else x
def V.del (x:V) (key:ah):V:=
 if x.k=5/\x.keys.length=x.l.length then
  if hasB x.keys key=true then .mk x.k x.n x.s (x.keys.take (posOf x.keys key)++x.keys.drop (posOf x.keys key+1)) (x.l.take (posOf x.keys key)++x.l.drop (posOf x.keys key+1))
  else x
 else x
theorem CM {ks:List ah} (h:cz ks) {key:ah} (hn:hasB ks key=false):cz (ks.take (posOf ks key)++key::ks.drop (posOf ks key)):=by
 unfold cz;rw [List.pairwise_append];refine⟨h.sublist (List.take_sublist _ _),?_,?_⟩
 ·rw [List.pairwise_cons]
  refine⟨fun a ha=> ?_,h.sublist (List.drop_sublist _ _)⟩;obtain⟨i,hi,rfl⟩:=List.getElem_of_mem ha;rw [List.getElem_drop];exact Qv h hn (by simp at hi;omega) (by omega)
 ·intro a ha b hb
  obtain⟨i,hi,rfl⟩:=List.getElem_of_mem ha;have hi':i<posOf ks key:=by simp at hi;omega
  have hl:=tW ks key;rw [List.getElem_take];have h1:=Qs (ks:=ks) (key:=key) (i:=i) (by omega) hi';rcases List.mem_cons.1 hb with rfl|hb
  ·exact h1
  ·obtain⟨j,hj,rfl⟩:=List.getElem_of_mem hb
   rw [List.getElem_drop];exact tS h1 (Qv h hn (by simp at hj;omega) (by omega))
theorem Qw {ks:List ah} (h:cz ks) (p:Nat):cz (ks.take p++ks.drop (p+1)):=by
 refine List.Pairwise.sublist ?_ h;have h1:ks.take p++ks.drop p=ks:=List.take_append_drop _ _;have h2:(ks.drop (p+1)).Sublist (ks.drop p):=by rw [<-List.drop_drop];exact List.drop_sublist _ _
 have:=(List.Sublist.refl (ks.take p)).append h2;rw [h1] at this;exact this
theorem y7 {x:V} {key:ah} {y:V} (h:x.k=5/\x.keys.length=x.l.length) (hb:hasB x.keys key=true):x.put key y= .mk x.k x.n x.s x.keys (x.l.set (posOf x.keys key) y):=by
 unfold V.put;rw [if_pos h,if_pos hb]
theorem y8 {x:V} {key:ah} {y:V} (h:x.k=5/\x.keys.length=x.l.length) (hb:hasB x.keys key=false):x.put key y= .mk x.k x.n x.s (x.keys.take (posOf x.keys key)++key::x.keys.drop (posOf x.keys key)) (x.l.take (posOf x.keys key)++y::x.l.drop (posOf x.keys key)):=by
 unfold V.put;rw [if_pos h,if_neg (by rw [hb];decide)]
theorem Qx {x:V} {key:ah} {y:V} (h:¬(x.k=5/\x.keys.length=x.l.length)):x.put key y=x:=by
 unfold V.put;rw [if_neg h]
theorem A5 {x:V} {key:ah} (h:x.k=5/\x.keys.length=x.l.length) (hb:hasB x.keys key=true):x.del key= .mk x.k x.n x.s (x.keys.take (posOf x.keys key)++x.keys.drop (posOf x.keys key+1)) (x.l.take (posOf x.keys key)++x.l.drop (posOf x.keys key+1)):=by
 unfold V.del;rw [if_pos h,if_pos hb]
theorem A6 {x:V} {key:ah} (hb:hasB x.keys key=false):x.del key=x:=by
 unfold V.del;split
 ·rw [if_neg (by rw [hb];decide)]
 ·rfl
theorem KD {x:V} {key:ah} (h:¬(x.k=5/\x.keys.length=x.l.length)):x.del key=x:=by
 unfold V.del;rw [if_neg h]
theorem E1 {α:Type} (f:α->Nat) (l:List α) (p:Nat) (a:α):((l.take p++a::l.drop p).map f).sum=(l.map f).sum+f a:=by
 have:(l.map f).sum=((l.take p++l.drop p).map f).sum:=by rw [List.take_append_drop]
 rw [this];simp only [List.map_append,List.map_cons,List.sum_append,List.sum_cons];omega
theorem E2 {α:Type} (f:α->Nat) (l:List α) (p:Nat):((l.take p++l.drop (p+1)).map f).sum<= (l.map f).sum:=by
 have:(l.map f).sum=((l.take p++l.drop p).map f).sum:=by rw [List.take_append_drop]
 rw [this];have h2:((l.drop (p+1)).map f).sum<= ((l.drop p).map f).sum:=by
  by_cases h:p<l.length
  ·rw [List.drop_eq_getElem_cons h];simp only [List.map_cons,List.sum_cons];omega
  ·rw [List.drop_of_length_le (by omega)];simp
 simp only [List.map_append,List.sum_append];omega
theorem OH {α:Type} (f:α->Nat) (l:List α) (p:Nat) (a:α):((l.set p a).map f).sum<= (l.map f).sum+f a:=by
 induction l generalizing p with
 |nil=>simp
 |cons b r ih=>
  cases p with
  |zero=>simp only [List.set_cons_zero,List.map_cons,List.sum_cons];omega
  |succ p=>have:=ih p;simp only [List.set_cons_succ,List.map_cons,List.sum_cons];omega
theorem WS (x:V) (key:ah) (y:V):(x.put key y).size<=x.size+key.size+1+y.size:=by
 by_cases h:x.k=5/\x.keys.length=x.l.length
 ·by_cases hb:hasB x.keys key=true
  ·rw [y7 h hb,V.size_eq,V.size_eq x]
   have:=OH V.size x.l (posOf x.keys key) y;simp only [V.kz,V.gi,V.dZ];omega
  ·rw [y8 h (by simpa using hb),V.size_eq,V.size_eq x]
   have h1:=E1 V.size x.l (posOf x.keys key) y;have h2:=E1 (fun k:ah=>k.size+1) x.keys (posOf x.keys key) key;simp only [V.kz,V.gi,V.dZ,ft] at*;omega
 ·rw [Qx h];omega
theorem WV (x:V) (key:ah):(x.del key).size<=x.size:=by
 by_cases h:x.k=5/\x.keys.length=x.l.length
 ·by_cases hb:hasB x.keys key=true
  ·rw [A5 h hb,V.size_eq,V.size_eq x]
   have h1:=E2 V.size x.l (posOf x.keys key);have h2:=E2 (fun k:ah=>k.size+1) x.keys (posOf x.keys key);simp only [V.kz,V.gi,V.dZ,ft] at*;omega
  ·rw [A6 (by simpa using hb)];omega
 ·rw [KD h];omega
def V.sound (x:V):Prop:=∃d,x.good d=true
theorem Kr {x:V} {d e:Int} (h:x.good d=true) (hde:e<=d):x.good e=true:=by
 induction x using V.ind generalizing d e with
 |h x ih=>
  rw [V.ud,Bool.and_eq_true,List.all_eq_true] at h⊢;refine⟨?_,fun y hy=>ih y hy (h.2 y hy) (by omega)⟩;have h1:=h.1;simp only [V.flat,Bool.and_eq_true,Bool.not_eq_true',g1,decide_eq_false_iff_not] at h1⊢;obtain⟨⟨⟨⟨h1,h2⟩,h3⟩,h4⟩,h5⟩:=h1;exact⟨⟨⟨⟨by omega,h2⟩,h3⟩,h4⟩,h5⟩
structure Flat (x:V):Prop where
 k0:0<=x.k
 k5:x.k<=5
 n0:x.k≠1->x.k≠2->x.n=0
 s0:x.k≠3->x.s.toList= []
 Qy:x.k≠5->x.keys= []
 l0:x.k<4->x.l= []
 n1:x.k=1->x.n=0\/x.n=1
 KE: -9007199254740992<=x.n
 KF:x.n<=9007199254740992
 sp:fU x.s=true
 len:x.k=5->x.keys.length=x.l.length
 kp:∀k∈x.keys,fU k=true
 dL:cz x.keys
theorem KG {x:V} {d:Int} (h:x.flat d=true):Flat x/\d<=12:=by
 simp only [V.flat,Bool.and_eq_true,Bool.not_eq_true',g1,g2,g3,g4,decide_eq_false_iff_not,Bool.or_eq_false_iff,Bool.not_eq_false'] at h;obtain⟨⟨⟨⟨h1,h2⟩,h3,hp⟩,h4⟩,h5⟩:=h;obtain⟨hk,hr⟩:=(Qq _).1 h5;refine⟨⟨by omega,by omega,fun a b=> ?_,fun a=> ?_,fun a=> ?_,fun a=> ?_,fun a=> ?_,by omega,by omega,hp,fun a=> ?_,hk,hr⟩,by omega⟩
 ·by_cases e:x.n=0
  ·exact e
  ·exact absurd (.inl ⟨a,b,e⟩) h2
 ·by_cases e:x.s.toList= []
  ·exact e
  ·exact absurd (.inr (.inl ⟨a,e⟩)) h2
 ·by_cases e:0<x.keys.length
  ·exact absurd (.inr (.inr (.inl ⟨a,e⟩))) h2
  ·exact List.eq_nil_of_length_eq_zero (by omega)
 ·by_cases e:0<x.l.length
  ·exact absurd (.inr (.inr (.inr ⟨a,e⟩))) h2
  ·exact List.eq_nil_of_length_eq_zero (by omega)
 ·omega
 ·omega
theorem of_flat {x:V} {d:Int} (h:Flat x) (hd:d<=12):x.flat d=true:=by
 simp only [V.flat,Bool.and_eq_true,Bool.not_eq_true',g1,g2,g3,g4,decide_eq_false_iff_not,Bool.or_eq_false_iff,Bool.not_eq_false'];refine⟨⟨⟨⟨?_,?_⟩,?_,h.sp⟩,?_⟩,(Qq _).2 ⟨h.kp,h.dL⟩⟩
 ·have:=h.k0;have:=h.k5;omega
 ·rintro(⟨a,b,c⟩|⟨a,b⟩|⟨a,b⟩|⟨a,b⟩)
  ·exact c (h.n0 a b)
  ·exact b (h.s0 a)
  ·rw [h.Qy a] at b;simp at b
  ·rw [h.l0 a] at b;simp at b
 ·rintro(⟨a,b,c⟩|a|a)
  ·rcases h.n1 a with h|h
   ·exact b h
   ·exact c h
  ·have:=h.KE;omega
  ·have:=h.KF;omega
 ·rintro⟨a,b⟩;exact b (h.len a)
theorem V.sound.flat {x:V} (h:x.sound):Flat x:=by
 obtain⟨d,h⟩:=h;rw [V.ud,Bool.and_eq_true] at h;exact(KG h.1).1
theorem V.sound.item {x y:V} (h:x.sound) (hy:y∈x.l):y.sound:=by
 obtain⟨d,h⟩:=h;rw [V.ud,Bool.and_eq_true,List.all_eq_true] at h;exact⟨d+1,h.2 y hy⟩
theorem Zt {l:List V} (h:∀y∈l,y.sound):∃d:Int,d<=12/\∀y∈l,y.good (d+1)=true:=by
 induction l with
 |nil=>exact⟨12,by omega,fun y hy=>by cases hy⟩
 |cons a r ih=>
  obtain⟨d,h1,h2⟩:=ih (fun y hy=>h y (by simp [hy]));obtain⟨e,he⟩:=h a (by simp);refine⟨min d (e-1),by omega,fun y hy=> ?_⟩;rcases List.mem_cons.1 hy with rfl|hy
  ·exact Kr he (by omega)
  ·exact Kr (h2 y hy) (by omega)
theorem Qz {x:V} (h:Flat x) (hl:∀y∈x.l,y.sound):x.sound:=by
 obtain⟨d,h1,h2⟩:=Zt hl;exact⟨d,by rw [V.ud,Bool.and_eq_true,List.all_eq_true];exact⟨of_flat h h1,h2⟩⟩
theorem gq {x:V} (h:x.fine=true):x.sound:=by
 simp only [V.fine,Bool.and_eq_true] at h;exact⟨1,h.1⟩
theorem uM {x:V} (h:x.fine=true):x.count<=120:=by
 simp only [V.fine,Bool.and_eq_true,decide_eq_true_eq] at h;exact h.2
theorem yN {s:ah} (h:fU s=true):s.size<=60:=by
 simp only [fU,Bool.and_eq_true,decide_eq_true_eq] at h;exact h.2
theorem Au {x:V} (h:x.sound):x.size+61<=x.count*122:=by
 induction x using V.ind with
 |h x ih=>
  have hf:=h.flat;have hs:=yN hf.sp;rw [V.size_eq,V.count_eq];have h1:ft x.keys<=x.l.length*61:=by
   by_cases hk:x.k=5
   ·rw [<-hf.len hk]
    have h2:∀k∈x.keys,k.size<=60:=fun k hk=>yN (hf.kp k hk);generalize x.keys=ks at h2;unfold ft
    induction ks with
    |nil=>simp
    |cons a r ih=>
     have:=ih (fun k hk=>h2 k (by simp [hk]));have:=h2 a (by simp);simp only [List.map_cons,List.sum_cons,List.length_cons];omega
   ·rw [hf.Qy hk];simp [ft]
  have h2:(x.l.map V.size).sum+x.l.length*61<= (x.l.map V.count).sum*122:=by
   have h3:∀y∈x.l,y.size+61<=y.count*122:=fun y hy=>ih y hy (h.item hy);generalize x.l=l at h3
   induction l with
   |nil=>simp
   |cons a r ih=>
    have:=ih (fun y hy=>h3 y (by simp [hy]));have:=h3 a (by simp);simp only [List.map_cons,List.sum_cons,List.length_cons] at*;omega
  omega
theorem oV {x:V} (h:x.fine=true):x.size<=14640:=by
 have h1:=Au (gq h);have h2:=uM h;omega
def lk:List ah->List V->ah->Option V
 |k::ks,x::l,key=>if k=key then some x else lk ks l key
 |_,_,_=>none
theorem Df:∀(ks:List ah) (l:List V) {key:ah},key∉ks->lk ks l key=none
 | [],_,_,_=>rfl
 |_::_, [],_,_=>rfl
 |k::ks,x::l,key,h=>by simp only [List.mem_cons,not_or] at h;rw [lk,if_neg (fun e=>h.1 e.symm),Df ks l h.2]
theorem QA:∀(ks:List ah) (l:List V) {key:ah},ks.length=l.length->key∈ks->∃y,lk ks l key=some y
 | [],_,_,_,h=>by cases h
 |_::_, [],_,hl,_=>by simp at hl
 |k::ks,x::l,key,hl,h=>by
  rw [lk];by_cases e:k=key
  ·rw [if_pos e];exact⟨_,rfl⟩
  ·rw [if_neg e]
   rcases List.mem_cons.1 h with h|h
   ·exact absurd h.symm e
   ·exact QA ks l (by simpa using hl) h
theorem AJ:∀(ks:List ah) (l:List V) (hl:ks.length=l.length),ks.Nodup->∀i (h:i<ks.length),lk ks l ks[i]=some (l[i]'(by omega))
 | [],_,_,_,i,h=>by simp at h
 |_::_, [],hl,_,_,_=>by simp at hl
 |k::ks,x::l,hl,hn,0,h=>by simp [lk]
 |k::ks,x::l,hl,hn,i+1,h=>by have hn':=List.nodup_cons.1 hn;simp only [List.length_cons] at h;simp only [List.getElem_cons_succ];rw [lk,if_neg (fun e=>hn'.1 (by rw [e];exact List.getElem_mem _)),AJ ks l (by simpa using hl) hn'.2 i (by omega)]
theorem QB (key:ah) (y:V) (k':ah):∀(p:Nat) (ks:List ah) (l:List V),ks.length=l.length->p<=ks.length->key∉ks->lk (ks.take p++key::ks.drop p) (l.take p++y::l.drop p) k'=if key=k' then some y else lk ks l k'
 |0,ks,l,_,_,_=>by simp only [List.take_zero,List.drop_zero,List.nil_append,lk]
 |p+1, [],_,_,h,_=>by simp at h
 |p+1,_::_, [],hl,_,_=>by simp at hl
 |p+1,k::ks,x::l,hl,h,hn=>by
  simp only [List.mem_cons,not_or] at hn;simp only [List.take_succ_cons,List.drop_succ_cons,List.cons_append,lk];rw [QB key y k' p ks l (by simpa using hl) (by simpa using h) hn.2];by_cases e:k=k'
  ·rw [if_pos e,if_neg (fun e'=>hn.1 (e'.trans e.symm)),if_pos e]
  ·rw [if_neg e,if_neg e]
theorem QC (y:V) (k':ah):∀(p:Nat) (ks:List ah) (l:List V) (hl:ks.length=l.length) (h:p<ks.length),ks.Nodup->lk ks (l.set p y) k'=if ks[p]=k' then some y else lk ks l k'
 |_, [],_,_,h,_=>by simp at h
 |_,_::_, [],hl,_,_=>by simp at hl
 |0,k::ks,x::l,hl,h,hn=>by simp only [List.set_cons_zero,lk,List.getElem_cons_zero];split<;>rfl
 |p+1,k::ks,x::l,hl,h,hn=>by
  have hn':=List.nodup_cons.1 hn;simp only [List.length_cons] at h;simp only [List.set_cons_succ,lk,List.getElem_cons_succ];rw [QC y k' p ks l (by simpa using hl) (by omega) hn'.2];by_cases e:k=k'
  ·rw [if_pos e,if_neg (fun e'=>hn'.1 (by rw [e,<-e'];exact List.getElem_mem _)),if_pos e]
  ·rw [if_neg e,if_neg e]
theorem QD (k':ah):∀(p:Nat) (ks:List ah) (l:List V) (hl:ks.length=l.length) (h:p<ks.length),ks.Nodup->lk (ks.take p++ks.drop (p+1)) (l.take p++l.drop (p+1)) k'=if ks[p]=k' then none else lk ks l k'
 |_, [],_,_,h,_=>by simp at h
 |_,_::_, [],hl,_,_=>by simp at hl
 |0,k::ks,x::l,hl,h,hn=>by
  have hn':=List.nodup_cons.1 hn;simp only [List.take_zero,List.nil_append,List.drop_succ_cons,List.drop_zero,lk,List.getElem_cons_zero];by_cases e:k=k'
  ·rw [if_pos e];exact Df _ _ (e▸hn'.1)
  ·rw [if_neg e,if_neg e]
 |p+1,k::ks,x::l,hl,h,hn=>by
  have hn':=List.nodup_cons.1 hn;simp only [List.length_cons] at h;simp only [List.take_succ_cons,List.drop_succ_cons,List.cons_append,lk,List.getElem_cons_succ];rw [QD k' p ks l (by simpa using hl) (by omega) hn'.2];by_cases e:k=k'
  ·rw [if_pos e,if_neg (fun e'=>hn'.1 (by rw [e,<-e'];exact List.getElem_mem _)),if_pos e]
  ·rw [if_neg e,if_neg e]
theorem QE (key:ah):∀(ks:List ah) (l:List V),ks.length=l.length-> ((ks.findIdx? fun k=>decide (k.toList=key.toList)).bind fun i=>l[i]?)=lk ks l key
 | [],_,_=>rfl
 |_::_, [],hl=>by simp at hl
 |k::ks,x::l,hl=>by
  rw [List.findIdx?_cons,lk];by_cases e:k=key
  ·rw [if_pos e,if_pos (by simp [e])];rfl
  ·rw [if_neg e,if_neg (by simpa using fun h=>e (kV h)),<-QE key ks l (by simpa using hl)]
   cases ks.findIdx? fun k=>decide (k.toList=key.toList)<;>rfl
structure gw (x:V):Prop where
 k5:x.k=5
 n0:x.n=0
 s0:x.s=⟨#[]⟩
 len:x.keys.length=x.l.length
 dL:cz x.keys
theorem KH {ks:List ah} (h:cz ks):ks.Nodup:=h.imp fun h=>KA h
theorem gw.nodup {x:V} (h:gw x):x.keys.Nodup:=KH h.dL
theorem toList_none:(⟨#[]⟩:ah).toList= []:=by rw [ByteArray.toList_eq]
theorem Zu {s:ah} (h:s.toList= []):s=⟨#[]⟩:=kV (by rw [h,toList_none])
theorem iI {x:V} (h:x.sound) (h5:x.k=5):gw x:=
 have f:=h.flat
 ⟨h5,f.n0 (by omega) (by omega),Zu (f.s0 (by omega)),f.len h5,f.dL⟩
def V.cd:V:= .mk 5 0 ⟨#[]⟩ [] []
theorem QF:gw V.cd:=⟨rfl,rfl,rfl,rfl,List.Pairwise.nil⟩
theorem QG {x:V} (h5:x.k=5) (hl:x.keys.length=x.l.length) (key:ah):x.member key=lk x.keys x.l key:=by
 unfold V.member V.find;rw [if_pos ⟨h5,hl⟩];exact QE key _ _ hl
theorem gw.member {x:V} (h:gw x) (key:ah):x.member key=lk x.keys x.l key:=QG h.k5 h.len key
theorem Pt (key:ah):V.cd.member key=none:=by rw [QF.member];rfl
theorem gw.put {x:V} (h:gw x) (key:ah) (y:V):gw (x.put key y):=by
 cases hb:hasB x.keys key with
 |true=>rw [y7 ⟨h.k5,h.len⟩ hb];exact⟨h.k5,h.n0,h.s0,by simpa using h.len,h.dL⟩
 |false=>rw [y8 ⟨h.k5,h.len⟩ hb];exact⟨h.k5,h.n0,h.s0,by have:=h.len;simp;omega,CM h.dL hb⟩
theorem gw.del {x:V} (h:gw x) (key:ah):gw (x.del key):=by
 cases hb:hasB x.keys key with
 |true=>rw [A5 ⟨h.k5,h.len⟩ hb];exact⟨h.k5,h.n0,h.s0,by have:=h.len;simp;omega,Qw h.dL _⟩
 |false=>rw [A6 hb];exact h
theorem FZ {ks:List ah} (h:cz ks) {key:ah} (hn:hasB ks key=false):key∉ks:=fun hm=>by rw [Fq h hm] at hn;cases hn
theorem vw {x:V} (h:gw x) (key:ah) (y:V) (k':ah):(x.put key y).member k'=if key=k' then some y else x.member k':=by
 rw [(h.put key y).member,h.member]
 cases hb:hasB x.keys key with
 |true=>
  rw [y7 ⟨h.k5,h.len⟩ hb];simp only [V.gi,V.dZ];rw [QC y k' _ _ _ h.len (tR hb) h.nodup,AK hb]
 |false=>
  rw [y8 ⟨h.k5,h.len⟩ hb];simp only [V.gi,V.dZ];exact QB key y k' _ _ _ h.len (tW _ _) (FZ h.dL hb)
theorem F3 {x:V} (h:gw x) (key k':ah):(x.del key).member k'=if key=k' then none else x.member k':=by
 cases hb:hasB x.keys key with
 |true=>
  rw [(h.del key).member,h.member,A5 ⟨h.k5,h.len⟩ hb];simp only [V.gi,V.dZ];rw [QD k' _ _ _ h.len (tR hb) h.nodup,AK hb]
 |false=>
  rw [A6 hb];by_cases e:key=k'
  ·rw [if_pos e,<-e,h.member];exact Df _ _ (FZ h.dL hb)
  ·rw [if_neg e]
theorem yA {x y:V} {key:ah} (h:x.member key=some y):y∈x.l:=by
 unfold V.member at h;obtain⟨i,-,hi⟩:=Option.bind_eq_some_iff.1 h;exact List.mem_of_getElem? hi
theorem QH {x:V} (h:x.k≠5) (key:ah):x.member key=none:=by
 unfold V.member V.find;rw [if_neg (fun e=>h e.1)];rfl
theorem gw.wQ {x:V} (h:gw x) (key:ah):key∈x.keys↔x.member key≠none:=by
 rw [h.member];constructor
 ·intro hm
  obtain⟨y,hy⟩:=QA _ _ h.len hm;rw [hy];simp
 ·intro hn
  by_cases hm:key∈x.keys
  ·exact hm
  ·exact absurd (Df _ _ hm) hn
theorem QI:∀ {a b:List ah},cz a->cz b-> (∀k,k∈a↔k∈b)->a=b
 | [], [],_,_,_=>rfl
 | [],y::t,_,_,h=>by have:=(h y).2 (by simp);cases this
 |x::r, [],_,_,h=>by have:=(h x).1 (by simp);cases this
 |x::r,y::t,ha,hb,h=>by
  have ha':=List.pairwise_cons.1 ha;have hb':=List.pairwise_cons.1 hb;have e:x=y:=by
   by_cases e:x=y
   ·exact e
   ·have h1:x∈t:=(List.mem_cons.1 ((h x).1 (by simp))).resolve_left e
    have h2:y∈r:=(List.mem_cons.1 ((h y).2 (by simp))).resolve_left (fun e'=>e e'.symm);have:=KB (ha'.1 y h2);rw [hb'.1 x h1] at this;cases this
  subst e;rw [QI ha'.2 hb'.2 (fun k=> ?_)];have hk:=h k;simp only [List.mem_cons] at hk;constructor
  ·intro hm
   exact(hk.1 (.inr hm)).resolve_left (fun e=>by subst e;exact KA (ha'.1 _ hm) rfl)
  ·intro hm
   exact(hk.2 (.inr hm)).resolve_left (fun e=>by subst e;exact KA (hb'.1 _ hm) rfl)
theorem KI {x y:V} (hx:gw x) (hy:gw y) (h:∀k,x.member k=y.member k):x=y:=by
 have hk:x.keys=y.keys:=QI hx.dL hy.dL fun k=>by rw [hx.wQ,hy.wQ,h k]
 have hl:x.l=y.l:=by
  have e1:=hx.len;have e2:=hy.len;have e3:=congrArg List.length hk;apply List.ext_getElem (by omega);intro i h1 h2;have a1:=AJ _ _ hx.len hx.nodup i (by omega);have a2:=AJ _ _ hy.len hy.nodup i (by omega);have a3:=h (x.keys[i]'(by omega));rw [hx.member,hy.member,a1] at a3;have a4:y.keys[i]'(by omega)=x.keys[i]'(by omega):=by simp only [hk]
  rw [<-a4,a2] at a3;exact Option.some.inj a3
 rw [<-V.eta x,<-V.eta y,hx.k5,hy.k5,hx.n0,hy.n0,hx.s0,hy.s0,hk,hl]
theorem Dg {x y:V} (hx:x.sound) (hy:y.sound) {key:ah} (hk:fU key=true) (h5:x.k=5):(x.put key y).sound:=by
 have f:=hx.flat;have o:=iI hx h5;have o':=o.put key y;have hmem:∀z∈ (x.put key y).l,z.sound:=by
  intro z hz
  cases hb:hasB x.keys key with
  |true=>
   rw [y7 ⟨o.k5,o.len⟩ hb] at hz;rcases List.mem_or_eq_of_mem_set hz with h|h
   ·exact hx.item h
   ·rw [h];exact hy
  |false=>
   rw [y8 ⟨o.k5,o.len⟩ hb] at hz;simp only [V.dZ,List.mem_append,List.mem_cons] at hz;rcases hz with h|h|h
   ·exact hx.item (List.mem_of_mem_take h)
   ·rw [h];exact hy
   ·exact hx.item (List.mem_of_mem_drop h)
 refine Qz ⟨by rw [o'.k5];decide,by rw [o'.k5];decide,fun _ _=>o'.n0,fun _=>by rw [o'.s0,toList_none],fun h=>absurd o'.k5 h,fun h=>by rw [o'.k5] at h;omega,fun _=> .inl o'.n0,by rw [o'.n0];decide,by rw [o'.n0];decide,by rw [o'.s0];decide,fun _=>o'.len,?_,o'.dL⟩ hmem;intro k hk';rw [o'.wQ,vw o] at hk';by_cases e:key=k
 ·rw [<-e];exact hk
 ·rw [if_neg e] at hk'
  exact f.kp k ((o.wQ k).2 hk')
theorem KJ {x:V} (hx:x.sound) (key:ah):(x.del key).sound:=by
 by_cases h5:x.k=5
 ·have f:=hx.flat
  have o:=iI hx h5;have o':=o.del key;have hmem:∀z∈ (x.del key).l,z.sound:=by
   intro z hz
   cases hb:hasB x.keys key with
   |true=>
    rw [A5 ⟨o.k5,o.len⟩ hb] at hz;simp only [V.dZ,List.mem_append] at hz;rcases hz with h|h
    ·exact hx.item (List.mem_of_mem_take h)
    ·exact hx.item (List.mem_of_mem_drop h)
   |false=>rw [A6 hb] at hz;exact hx.item hz
  refine Qz ⟨by rw [o'.k5];decide,by rw [o'.k5];decide,fun _ _=>o'.n0,fun _=>by rw [o'.s0,toList_none],fun h=>absurd o'.k5 h,fun h=>by rw [o'.k5] at h;omega,fun _=> .inl o'.n0,by rw [o'.n0];decide,by rw [o'.n0];decide,by rw [o'.s0];decide,fun _=>o'.len,?_,o'.dL⟩ hmem;intro k hk';rw [o'.wQ,F3 o] at hk';by_cases e:key=k
  ·rw [if_pos e] at hk';exact absurd rfl hk'
  ·rw [if_neg e] at hk'
   exact f.kp k ((o.wQ k).2 hk')
 ·rw [KD (fun e=>h5 e.1)];exact hx
theorem qF {x y:V} {key:ah} (hx:x.sound) (h:x.member key=some y):y.sound:=hx.item (yA h)
theorem QJ {α:Type} (f:α->Nat) (a:α):∀(l:List α) (p:Nat) (h:p<l.length),((l.set p a).map f).sum+f l[p]=(l.map f).sum+f a
 | [],_,h=>by simp at h
 |x::l,0,_=>by simp;omega
 |x::l,p+1,h=>by have:=QJ f a l p (by simpa using h);simp only [List.set_cons_succ,List.map_cons,List.sum_cons,List.getElem_cons_succ];omega
theorem F4 {x:V} (h:gw x) (key:ah) (y:V):(x.put key y).count+(match x.member key with|some o=>o.count|none=>0)=x.count+y.count:=by
 cases hb:hasB x.keys key with
 |true=>
  have hlt:=tR hb;have hlt':posOf x.keys key<x.l.length:=by rw [<-h.len];exact hlt
  have hm:x.member key=some (x.l[posOf x.keys key]'hlt'):=by have:=AJ _ _ h.len h.nodup _ hlt;rw [AK hb] at this;rw [h.member,this]
  rw [hm,y7 ⟨h.k5,h.len⟩ hb,V.count_eq,V.count_eq x];simp only [V.dZ];have:=QJ V.count y x.l _ hlt';omega
 |false=>
  have hm:x.member key=none:=by rw [h.member];exact Df _ _ (FZ h.dL hb)
  rw [hm,y8 ⟨h.k5,h.len⟩ hb,V.count_eq,V.count_eq x];simp only [V.dZ];have:=E1 V.count x.l (posOf x.keys key) y;omega
theorem QK {x:V} (h:gw x) (key:ah):(x.del key).count<=x.count:=by
 cases hb:hasB x.keys key with
 |true=>
  rw [A5 ⟨h.k5,h.len⟩ hb,V.count_eq,V.count_eq x];have:=E2 V.count x.l (posOf x.keys key);simp only [V.dZ];omega
 |false=>rw [A6 hb];exact Nat.le_refl _
theorem ve (x y:V):x.same y=true↔x=y:=by
 have hgo:∀(l:List V),(∀a∈l,∀b:V,a.same b=true↔a=b)->∀m:List V,l.length=m.length-> (V.same.go l m=true↔l=m):=by
  intro l
  induction l with
  |nil=>
   intro _ m hm;obtain rfl:m= []:=List.eq_nil_of_length_eq_zero (by simpa using hm.symm);simp [V.same.go]
  |cons a r ih=>
   intro h m hm
   cases m with
   |nil=>simp at hm
   |cons b t=>
    rw [V.same.go,Bool.and_eq_true,h a (by simp),ih (fun z hz=>h z (by simp [hz])) t (by simpa using hm)];simp
 induction x using V.ind generalizing y with
 |h x ih=>
  obtain⟨k,n,s,ks,l⟩:=x;obtain⟨k',n',s',ks',l'⟩:=y;rw [V.same,Bool.and_eq_true,decide_eq_true_eq];simp only [V.uI,V.uJ,V.kz,V.gi,V.dZ];constructor
  ·rintro⟨⟨h1,h2,h3,h4,h5⟩,h6⟩
   have h7:=(hgo l (fun a ha b=>ih a ha b) l' h5).1 h6;have h8:ks=ks':=by
    clear h6 hgo ih
    induction ks generalizing ks' with
    |nil=>cases ks' with|nil=>rfl|cons=>simp at h4
    |cons a r ih=>
     cases ks' with
     |nil=>simp at h4
     |cons b t=>
      simp only [List.map_cons,List.cons.injEq] at h4;rw [kV h4.1,ih t h4.2]
   rw [h1,h2,kV h3,h7,h8]
  ·intro h
   cases h
   exact⟨⟨rfl,rfl,rfl,rfl,rfl⟩,(hgo l (fun a ha b=>ih a ha b) l rfl).2 rfl⟩
def V.dM:V->V->V
 | .mk k n s ks l,v=>if k=5 then go l ks (if v.k=5 then v else V.cd) else .mk k n s ks l
where go:List V->List ah->V->V
 | [],_,v=>v
 |q::r,ks,v=>go r ks.tail (if q.k=0 then v.del (ks.headD ⟨#[]⟩) else v.put (ks.headD ⟨#[]⟩) (V.dM q ((v.member (ks.headD ⟨#[]⟩)).getD V.zero)))
def V.base (v:V):V:=if v.k=5 then v else V.cd
theorem Cr (p v:V):p.dM v=if p.k=5 then V.dM.go p.l p.keys v.base else p:=by
 cases p with|mk k n s ks l=>rw [V.dM];rfl
theorem Ax (ks:List ah) (v:V):V.dM.go [] ks v=v:=by rw [V.dM.go]
def V.kE (q:V) (k:ah) (v:V):V:=if q.k=0 then v.del k else v.put k (q.dM ((v.member k).getD V.zero))
theorem Dh (q:V) (r:List V) (k:ah) (ks:List ah) (v:V):V.dM.go (q::r) (k::ks) v=V.dM.go r ks (q.kE k v):=by rw [V.dM.go];rfl
theorem Pb:∀(l:List V) (ks:List ah) (q:V) (k:ah) (v:V),ks.length=l.length->V.dM.go (l++ [q]) (ks++ [k]) v=q.kE k (V.dM.go l ks v)
 | [],ks,q,k,v,h=>by obtain rfl:=List.eq_nil_of_length_eq_zero (by simpa using h);rw [List.nil_append,List.nil_append,Dh,Ax,Ax]
 |a::l, [],_,_,_,h=>by simp at h
 |a::l,b::ks,q,k,v,h=>by rw [List.cons_append,List.cons_append,Dh,Dh,Pb l ks q k _ (by simpa using h)]
theorem QL {v:V} (h:gw v) (q:V) (k:ah):gw (q.kE k v):=by
 unfold V.kE;split
 ·exact h.del k
 ·exact h.put k _
theorem Aw {v:V} (h:v.sound):gw v.base:=by
 unfold V.base;split
 ·rename_i h5;exact iI h h5
 ·exact QF
theorem base_of {v:V} (h:v.k=5):v.base=v:=if_pos h
theorem Jt {v:V} (h:v.k≠5):v.base=V.cd:=if_neg h
theorem Pw:V.zero.sound:=⟨12,by decide+kernel⟩
theorem Zv:V.cd.sound:=⟨12,by decide+kernel⟩
theorem Av {v:V} (h:v.sound):v.base.sound:=by
 unfold V.base;split
 ·exact h
 ·exact Zv
theorem Ck {v:V} (h:v.sound) (k:ah):((v.member k).getD V.zero).sound:=by
 cases hm:v.member k with
 |none=>exact Pw
 |some y=>exact qF h hm
theorem QM {q v:V} (ih:∀z:V,z.sound-> (q.dM z).sound) (hv:v.sound) (h5:v.k=5) {k:ah} (hk:fU k=true):(q.kE k v).sound:=by
 unfold V.kE;split
 ·exact KJ hv k
 ·exact Dg hv (ih _ (Ck hv k)) hk h5
theorem Jn:∀(l:List V) (ks:List ah) (v:V),(∀q∈l,∀z:V,z.sound-> (q.dM z).sound)-> (∀k∈ks,fU k=true)->v.sound->v.k=5->ks.length=l.length-> (V.dM.go l ks v).sound/\ (V.dM.go l ks v).k=5
 | [],ks,v,_,_,hv,h5,_=>by rw [Ax];exact⟨hv,h5⟩
 |_::_, [],_,_,_,_,_,h=>by simp at h
 |q::r,k::ks,v,hq,hk,hv,h5,hl=>by rw [Dh];exact Jn r ks _ (fun z hz=>hq z (by simp [hz])) (fun z hz=>hk z (by simp [hz])) (QM (hq q (by simp)) hv h5 (hk k (by simp))) (QL (iI hv h5) q k).k5 (by simpa using hl)
theorem Jo (p:V):p.sound->∀v:V,v.sound-> (p.dM v).sound:=by
 induction p using V.ind with
 |h p ih=>
  intro hp v hv;rw [Cr];by_cases h5:p.k=5
  ·rw [if_pos h5]
   exact(Jn p.l p.keys v.base (fun q hq z hz=>ih q hq (hp.item hq) z hz) hp.flat.kp (Av hv) (Aw hv).k5 (hp.flat.len h5)).1
  ·rw [if_neg h5];exact hp
theorem Zw {q v:V} (ih:∀z:V,z.sound-> (q.dM z).count<=q.count+(if z.k=5 then z.count-1 else 0)) (hv:v.sound) (h5:v.k=5) (k:ah):(q.kE k v).count<=v.count+q.count:=by
 unfold V.kE;split
 ·have:=QK (iI hv h5) k;omega
 ·obtain⟨z,hz⟩:∃z,(v.member k).getD V.zero=z:=⟨_,rfl⟩
  have hzs:z.sound:=hz▸Ck hv k;have h1:=F4 (iI hv h5) k (q.dM z);have h2:=ih z hzs;rw [hz]
  cases hm:v.member k with
  |none=>
   rw [hm] at h1 hz;simp only [Option.getD_none] at hz;rw [<-hz,if_neg (by decide)] at h2;simp only [<-hz] at h1⊢;omega
  |some o=>
   rw [hm] at h1 hz;simp only [Option.getD_some] at hz;subst hz;simp only at h1;have:=o.Aq
   split at h2<;>omega
theorem Jp:∀(l:List V) (ks:List ah) (v:V),(∀q∈l,q.sound/\∀z:V,z.sound-> (q.dM z).count<=q.count+(if z.k=5 then z.count-1 else 0))-> (∀k∈ks,fU k=true)->v.sound->v.k=5->ks.length=l.length-> (V.dM.go l ks v).count<=v.count+(l.map V.count).sum
 | [],ks,v,_,_,hv,h5,_=>by rw [Ax];simp
 |_::_, [],_,_,_,_,_,h=>by simp at h
 |q::r,k::ks,v,hq,hk,hv,h5,hl=>by rw [Dh];have h1:=Zw (hq q (by simp)).2 hv h5 k;have h2:=Jp r ks (q.kE k v) (fun z hz=>hq z (by simp [hz])) (fun z hz=>hk z (by simp [hz])) (QM (Jo q (hq q (by simp)).1) hv h5 (hk k (by simp))) (QL (iI hv h5) q k).k5 (by simpa using hl);simp only [List.map_cons,List.sum_cons];omega
theorem O8 (p:V):p.sound->∀v:V,v.sound-> (p.dM v).count<=p.count+(if v.k=5 then v.count-1 else 0):=by
 induction p using V.ind with
 |h p ih=>
  intro hp v hv;rw [Cr];by_cases h5:p.k=5
  ·rw [if_pos h5]
   have h1:=Jp p.l p.keys v.base (fun q hq=>⟨hp.item hq,fun z hz=>ih q hq (hp.item hq) z hz⟩) hp.flat.kp (Av hv) (Aw hv).k5 (hp.flat.len h5);have h2:=V.count_eq p;by_cases hb:v.k=5
   ·rw [if_pos hb];rw [base_of hb] at h1⊢;have:=v.Aq;omega
   ·rw [if_neg hb];rw [Jt hb] at h1⊢
    have:V.cd.count=1:=by rw [V.count_eq];rfl
    omega
  ·rw [if_neg h5];omega
theorem Xz {p v:V} (hp:p.fine=true) (hv:v.fine=true):(p.dM v).size<=29280:=by
 have h1:=Au (Jo p (gq hp) v (gq hv));have h2:=O8 p (gq hp) v (gq hv);have h3:=uM hp;have h4:=uM hv
 split at h2<;>omega
def mL (v p:V):V×Int:=if v.fine=false\/p.fine=false then(v,1) else if(p.dM v).fine=false then(v,2) else(p.dM v,0)
end Go.Proofs.YtlcebdaghmdkeabGreatDoor
namespace Go.Proofs.YtlcebdaghmdkeabGreatDoor
open Go.Proofs.Tryz
open Go
section
variable {P:Program} {ops:Array Oper} {Q:Exit->Act->World->Prop} {md:Region.Mode} {S:World->Prop} {c:Nat}
def lT (P:Program) (md:Region.Mode) (ops:Array Oper) (Q:Exit->Act->World->Prop) (S:World->Prop) (c:Nat):Nat->Array Bool->Act->World->Prop
 |0,listed,a,w=>Region.ready md ops listed= []/\Q .normal a w
 |fuel+1,listed,a,w=>
  (Region.ready md ops listed= []->Q .normal a w)/\
  ∀i∈Region.ready md ops listed,wpOp P ops Q i (fun a' w'=>((listed.setIfInBounds i true).getD c true=false->S w')/\lT P md ops Q S c fuel (listed.setIfInBounds i true) a' w') a w
theorem QN:∀(fuel:Nat) (listed:Array Bool) (a:Act) (w:World),lT P md ops Q S c fuel listed a w->wpAny P md ops Q fuel listed a w
 |0,_,_,_,h=>h
 |fuel+1,_,_,_,h=>⟨h.1,fun i hi=>wpOp_mono (fun a' w' h'=>QN fuel _ a' w' h'.2) (h.2 i hi)⟩
def QO (md:Region.Mode) (ops:Array Oper) (i x:Nat):Bool:=match ops[x]? with
 |some o=>o.after.any fun e=>Region.binds md e&&e.on==i
 |none=>false
def chainB (md:Region.Mode) (ops:Array Oper):Nat->List Nat->Bool
 |_, []=>true
 |i,x::r=>QO md ops i x&&chainB md ops x r
theorem QP {listed:Array Bool}:∀(ch:List Nat) (i:Nat),chainB md ops i ch=true->listed.getD i true=false-> (∀x∈ch,listed.getD x true=false)->∀j∈Region.ready md ops listed,j∉ch
 | [],_,_,_,_,_,_=>by simp
 |x::r,i,hc,hi,hx,j,hj=>by
  simp only [chainB,Bool.and_eq_true] at hc;have ih:=QP r x hc.2 (hx x (by simp)) (fun y hy=>hx y (by simp [hy])) j hj;intro hm;rcases List.mem_cons.1 hm with rfl|hm
  ·obtain⟨-,oj,Di,hall⟩:=mem_ready.1 hj
   have hd:=hc.1;unfold QO at hd;rw [Di] at hd;simp only [Array.any_eq_true'] at hd;obtain⟨e,he,hb⟩:=hd;simp only [Bool.and_eq_true,beq_iff_eq] at hb;have h1:=hall e he hb.1;rw [hb.2] at h1;rcases Nat.lt_or_ge i listed.size with h'|h'
   ·simp [h'] at hi h1;rw [hi] at h1;cases h1
   ·simp [Array.getElem?_eq_none h'] at hi
  ·exact ih hm
theorem Zx {i:Nat} {ch:List Nat} {oi:Oper} {v:Value} (hi:ops[i]? =some oi) (QQ:∀(j:Nat) (o:Oper) cs b,ops[j]? =some o->o.op≠ .select cs b)
 (hQ:∀c a w,Q (.panic c) (a.put oi.dst v) w->Q (.panic c) a w) (hch:chainB md ops i ch=true) (hcc:c∈ch) (Dj:i∉ch):
 ∀(fuel:Nat) (listed:Array Bool) (a:Act) (w:World),
  (∀j oj,ops[j]? =some oj->j≠i->listed.getD j true=false-> (∀e∈oj.after,Region.binds md e=true->e.on≠i)->oi.apart ops oj=true)->
  i∈Region.ready md ops listed-> (∀x∈ch,listed.getD x true=false)->YieldsIf P ops S oi v a->S w->
  lT P md ops Q S c fuel (listed.setIfInBounds i true) (a.put oi.dst v) w->lT P md ops Q S c (fuel+1) listed a w:=by
 intro fuel
 induction fuel with
 |zero=>
  intro listed a w _ hr hcl hy hS H;refine⟨fun h=>(by rw [h] at hr;cases hr),fun j hj=> ?_⟩;by_cases xc:j=i
  ·subst xc;exact hy.wpOp hi hS ⟨fun _=>hS,H⟩
  ·have:=ready_mono hj xc
   rw [H.1] at this
   cases this
 |succ fuel ih=>
  intro listed a w hfree hr hcl hy hS H;refine⟨fun h=>(by rw [h] at hr;cases hr),fun j hj=> ?_⟩;by_cases xc:j=i
  ·subst xc;exact hy.wpOp hi hS ⟨fun _=>hS,H⟩
  ·have h1:=H.2 j (ready_mono hj xc)
   obtain⟨QR,oj,Di,hall⟩:=mem_ready.1 hj;have Zy:∀e∈oj.after,Region.binds md e=true->e.on≠i:=fun e he hb heq=>by
    have h1:=hall e he hb;have h0:=(mem_ready.1 hr).1;rw [heq] at h1;rcases Nat.lt_or_ge i listed.size with h'|h'
    ·simp [h'] at h0 h1;rw [h0] at h1;cases h1
    ·simp [Array.getElem?_eq_none h'] at h1
   have hi0:listed.getD i true=false:=(mem_ready.1 hr).1;have QS:=QP ch i hch hi0 hcl j hj;have Zz:j≠c:=fun e=>QS (e▸hcc);have lQ:i≠c:=fun e=>Dj (e▸hcc);have h2:=wpOp_putIf Di (hfree j oj Di xc QR Zy) (fun cs b=>QQ i oi cs b hi) (fun cs b=>QQ j oj cs b Di) hQ hy h1
   have ZA:∀k ok,ops[k]? =some ok->k≠i-> (listed.setIfInBounds j true).getD k true=false->
    (∀e∈ok.after,Region.binds md e=true->e.on≠i)->oi.apart ops ok=true:=fun k ok hk F5 hun hno=>by
    refine hfree k ok hk F5 ?_ hno;by_cases hjk:j=k
    ·subst hjk;exact QR
    ·rw [getD_set_ne true hjk] at hun;exact hun
   have Dk:∀x∈ch,(listed.setIfInBounds j true).getD x true=false:=fun x hx=>by rw [getD_set_ne true (fun e:j=x=>QS (e▸hx))];exact hcl x hx
   have QT:((listed.setIfInBounds i true).setIfInBounds j true).getD c true=false:=by rw [getD_set_ne true Zz,getD_set_ne true lQ];exact hcl c hcc
   refine wpOp_mono (fun a' w' h3=>⟨fun _=>h3.2.1 QT,ih (listed.setIfInBounds j true) a' w' ZA (ready_mono hr (Ne.symm xc)) Dk h3.1 (h3.2.1 QT) ?_⟩) h2;rw [Array.setIfInBounds_comm _ _ xc];exact h3.2.2
theorem ZB {i:Nat} {oi:Oper} {v:Value} {fuel:Nat} {listed:Array Bool} {a:Act} {w:World} (ch:List Nat) (hi:ops[i]? =some oi)
 (hs:Region.noSelect ops=true) (hf:Region.free md ops listed i=true) (hr:(Region.ready md ops listed).contains i=true) (hch:chainB md ops i ch=true)
 (hcc:ch.contains c=true) (Dj:ch.contains i=false) (hcl:(ch.all fun x=> !listed.getD x true)=true)
 (hQ:∀c a w,Q (.panic c) (a.put oi.dst v) w->Q (.panic c) a w) (hy:YieldsIf P ops S oi v a) (hS:S w)
 (h:lT P md ops Q S c fuel (listed.setIfInBounds i true) (a.put oi.dst v) w):lT P md ops Q S c (fuel+1) listed a w:=by
 refine Zx hi (Region.noSelect_spec hs) hQ hch (by simpa using hcc) (by simpa using Dj) fuel listed a w (Region.free_spec hi hf) (by simpa using hr) ?_ hy hS h;intro x hx;have:=List.all_eq_true.1 hcl x hx;simpa using this
def cj (P:Program) (md:Region.Mode) (ops:Array Oper) (Q:Exit->Act->World->Prop) (S:World->Prop) (c:Nat) (fuel:Nat) (listed:Array Bool) (a:Act) (w:World) (rs:List Nat):Prop:=
 ∀i∈rs,wpOp P ops Q i (fun a' w'=>((listed.setIfInBounds i true).getD c true=false->S w')/\lT P md ops Q S c fuel (listed.setIfInBounds i true) a' w') a w
theorem cj.nil {fuel:Nat} {listed:Array Bool} {a:Act} {w:World}:cj P md ops Q S c fuel listed a w []:=fun _ h=>by cases h
theorem cj.cons {fuel:Nat} {listed:Array Bool} {a:Act} {w:World} {i:Nat} {o:Oper} {rs:List Nat} (ho:ops[i]? =some o)
 (h:∀K':Act->World->Prop,Shut (∀a w,((listed.setIfInBounds i true).getD c true=false->S w)->lT P md ops Q S c fuel (listed.setIfInBounds i true) a w->K' a w)->if Region.wanted o (yielded ops a.tmps)=true then Oper.wp P o a w K' Q else K' (a.put o.dst undef) w)
 (hs:cj P md ops Q S c fuel listed a w rs):cj P md ops Q S c fuel listed a w (i::rs):=fun j hj=>by
 rcases List.mem_cons.1 hj with rfl|hj
 ·exact wpOp_step ho (fun K' hK=>h K' (fun a w hS hW=>hK a w ⟨hS,hW⟩))
 ·exact hs j hj
theorem lK {rs:List Nat} {fuel:Nat} {listed:Array Bool} {a:Act} {w:World} (hr:Region.ready md ops listed=rs) (hne:rs≠ [])
 (h:cj P md ops Q S c fuel listed a w rs):lT P md ops Q S c (fuel+1) listed a w:=⟨fun h0=>absurd (hr▸h0) hne,hr▸h⟩
theorem ZC {fuel:Nat} {listed:Array Bool} {a:Act} {w:World} {i:Nat} {o:Oper} (hr:Region.ready md ops listed= [i]) (ho:ops[i]? =some o)
 (h:∀K':Act->World->Prop,Shut (∀a w,((listed.setIfInBounds i true).getD c true=false->S w)->lT P md ops Q S c fuel (listed.setIfInBounds i true) a w->K' a w)->if Region.wanted o (yielded ops a.tmps)=true then Oper.wp P o a w K' Q else K' (a.put o.dst undef) w):
 lT P md ops Q S c (fuel+1) listed a w:=lK hr (by simp) (cj.cons ho h cj.nil)
theorem cZ {listed:Array Bool} {a:Act} {w:World} (hr:Region.ready md ops listed= []) (h:Q .normal a w):
 ∀fuel,lT P md ops Q S c fuel listed a w
 |0=>⟨hr,h⟩
 |_+1=>⟨fun _=>h,by rw [hr];simp⟩
theorem ZE {id:Nat} {a:Act} {w:World} (hm:P.follows .mixedOrders=true)
 (h:lT P .any ops Q S c ops.size (Array.replicate ops.size false) a w.drew):(Code.region id ops true).wp P Q a w:=
 wp_region_any hm (QN _ _ _ _ h)
end
theorem aB {P:Program} {ops:Array Oper} {Q:Exit->Act->World->Prop} {md:Region.Mode} {S:World->Prop} (i:Nat) {v:Value} {fuel:Nat} {listed:Array Bool} {a:Act} {w:World} (hi:i<ops.size:=by decide)
 (hs:Region.noSelect ops=true:=by kernel_rfl) (hf:Region.free md ops listed i=true:=by kernel_rfl) (hr:(Region.ready md ops listed).contains i=true:=by kernel_rfl)
 (hQ:∀c a w,Q (.panic c) (a.put (ops[i]'hi).dst v) w->Q (.panic c) a w:=by exact fun _ _ _ h=>h) (hw:Region.wanted (ops[i]'hi) (yielded ops a.tmps)=true:=by kernel_rfl)
 (hy:∀w,S w-> (execOp a.eval (ops[i]'hi)).run P w= .ok (.value v) w:=by(intro w hSw;(try dsimp only at hSw);(try simp only [rl]);go_simp;(try with_reducible rfl))) (hS:S w:=by assumption)
 (h:wpAnyH P md ops Q S fuel (listed.setIfInBounds i true) (a.put (ops[i]'hi).dst v) w):wpAnyH P md ops Q S (fuel+1) listed a w:=
 wpAnyH_take (i:=i) (Array.getElem?_eq_getElem hi) hs hf hr hQ (.inl ⟨hw,hy⟩) hS h
theorem bV {P:Program} {ops:Array Oper} {Q:Exit->Act->World->Prop} {md:Region.Mode} {S:World->Prop} (i:Nat) {fuel:Nat} {listed:Array Bool} {a:Act} {w:World} (hi:i<ops.size:=by decide)
 (hs:Region.noSelect ops=true:=by kernel_rfl) (hf:Region.free md ops listed i=true:=by kernel_rfl) (hr:(Region.ready md ops listed).contains i=true:=by kernel_rfl)
 (hQ:∀c a w,Q (.panic c) (a.put (ops[i]'hi).dst undef) w->Q (.panic c) a w:=by exact fun _ _ _ h=>h) (hw:Region.wanted (ops[i]'hi) (yielded ops a.tmps)=false:=by kernel_rfl) (hS:S w:=by assumption)
 (h:wpAnyH P md ops Q S fuel (listed.setIfInBounds i true) (a.put (ops[i]'hi).dst undef) w):wpAnyH P md ops Q S (fuel+1) listed a w:=
 wpAnyH_take (i:=i) (Array.getElem?_eq_getElem hi) hs hf hr hQ (.inr ⟨hw,rfl⟩) hS h
theorem fJ {P:Program} {ops:Array Oper} {Q:Exit->Act->World->Prop} {md:Region.Mode} {S:World->Prop} (i:Nat) {fuel:Nat} {listed:Array Bool} {a:Act} {w:World} (hi:i<ops.size:=by decide) (hr:Region.ready md ops listed= [i]:=by kernel_rfl)
 (h:∀K':Act->World->Prop,Shut (∀a w,S w-> (S w->wpAnyH P md ops Q S fuel (listed.setIfInBounds i true) a w)->K' a w)->if Region.wanted (ops[i]'hi) (yielded ops a.tmps)=true then Oper.wp P (ops[i]'hi) a w K' Q else K' (a.put (ops[i]'hi).dst undef) w):
 wpAnyH P md ops Q S (fuel+1) listed a w:=wpAnyH_ready hr (by simp) (AllReadyH.cons (Array.getElem?_eq_getElem hi) h AllReadyH.nil)
theorem aG {P:Program} {ops:Array Oper} {Q:Exit->Act->World->Prop} {md:Region.Mode} {S:World->Prop} {c:Nat} (i:Nat) (ch:List Nat) {v:Value} {fuel:Nat} {listed:Array Bool} {a:Act} {w:World} (hi:i<ops.size:=by decide)
 (hs:Region.noSelect ops=true:=by kernel_rfl) (hf:Region.free md ops listed i=true:=by kernel_rfl) (hr:(Region.ready md ops listed).contains i=true:=by kernel_rfl) (hch:chainB md ops i ch=true:=by kernel_rfl)
 (hcc:ch.contains c=true:=by exact rfl) (Dj:ch.contains i=false:=by exact rfl) (hcl:(ch.all fun x=> !listed.getD x true)=true:=by kernel_rfl)
 (hQ:∀c a w,Q (.panic c) (a.put (ops[i]'hi).dst v) w->Q (.panic c) a w:=by exact fun _ _ _ h=>h) (hw:Region.wanted (ops[i]'hi) (yielded ops a.tmps)=true:=by kernel_rfl)
 (hy:∀w,S w-> (execOp a.eval (ops[i]'hi)).run P w= .ok (.value v) w:=by(intro w hSw;(try dsimp only at hSw);(try simp only [rl]);go_simp;(try with_reducible rfl))) (hS:S w:=by assumption)
 (h:lT P md ops Q S c fuel (listed.setIfInBounds i true) (a.put (ops[i]'hi).dst v) w):lT P md ops Q S c (fuel+1) listed a w:=
 ZB ch (Array.getElem?_eq_getElem hi) hs hf hr hch hcc Dj hcl hQ (.inl ⟨hw,hy⟩) hS h
theorem aK {P:Program} {ops:Array Oper} {Q:Exit->Act->World->Prop} {md:Region.Mode} {S:World->Prop} {c:Nat} (i:Nat) {fuel:Nat} {listed:Array Bool} {a:Act} {w:World} (hi:i<ops.size:=by decide) (hr:Region.ready md ops listed= [i]:=by kernel_rfl)
 (h:∀K':Act->World->Prop,Shut (∀a w,((listed.setIfInBounds i true).getD c true=false->S w)->lT P md ops Q S c fuel (listed.setIfInBounds i true) a w->K' a w)->if Region.wanted (ops[i]'hi) (yielded ops a.tmps)=true then Oper.wp P (ops[i]'hi) a w K' Q else K' (a.put (ops[i]'hi).dst undef) w):
 lT P md ops Q S c (fuel+1) listed a w:=ZC hr (Array.getElem?_eq_getElem hi) h
theorem QU {b:UInt8} {l sub:List UInt8} (h:sub.isPrefixOf (b::l)=true):Lib.index (b::l) sub=0:=by rw [Lib.index,if_pos h]
theorem QV {b:UInt8} {l sub:List UInt8} (h:sub.isPrefixOf (b::l)=false):Lib.index (b::l) sub=if Lib.index l sub== -1 then-1 else Lib.index l sub+1:=by rw [Lib.index,if_neg (by simp [h])]
theorem QW {sub:List UInt8} (h:sub≠ []):Lib.index [] sub= -1:=by
 cases sub with
 |nil=>exact absurd rfl h
 |cons a r=>rfl
theorem xd {old new:List UInt8} (h:old≠ []):Lib.replaceAll [] old new= []:=by
 unfold Lib.replaceAll Lib.replace
 split
 ·rfl
 ·have:Lib.replaceNum [] old (-1)=0:=by simp [Lib.replaceNum,Lib.count_miss (QW h)]
  rw [this,Lib.replaceK]
theorem F6 {s old new:List UInt8} (hne:(old==new)=false):Lib.replaceAll s old new=Lib.replaceK old new (Lib.count s old) s:=by
 unfold Lib.replaceAll Lib.replace;rw [if_neg (by simp [hne])];simp [Lib.replaceNum]
theorem KL {b:UInt8} {l old new:List UInt8} (ho:old≠ []) (hne:(old==new)=false) (h:old.isPrefixOf (b::l)=true):Lib.replaceAll (b::l) old new=new++Lib.replaceAll ((b::l).drop old.length) old new:=by
 have hi:Lib.index (b::l) old=(0:Nat):=QU h;rw [F6 hne,F6 hne,Lib.count_hit ho hi,Nat.add_comm 1,Lib.replaceK_hit _ _ _ _ 0 hi];simp
theorem F7 {b:UInt8} {l old new:List UInt8} (ho:old≠ []) (hne:(old==new)=false) (h:old.isPrefixOf (b::l)=false):Lib.replaceAll (b::l) old new=b::Lib.replaceAll l old new:=by
 rw [F6 hne,F6 hne];have hi:=QV h;have hge:=Lib.index_ge l old;by_cases hm:Lib.index l old= -1
 ·rw [hm] at hi
  have hi:Lib.index (b::l) old= -1:=by simpa using hi
  rw [Lib.count_miss hm,Lib.count_miss hi,Lib.replaceK,Lib.replaceK]
 ·obtain⟨i,he⟩:∃i:Nat,Lib.index l old=i:=⟨(Lib.index l old).toNat,by omega⟩
  have hi:Lib.index (b::l) old=((i+1:Nat):Int):=by rw [hi,he,if_neg (by simp<;>omega)];rfl
  rw [Lib.count_hit ho he,Lib.count_hit ho hi,Nat.add_comm 1,Nat.add_comm 1,Lib.replaceK_hit _ _ _ _ _ he,Lib.replaceK_hit _ _ _ _ _ hi];have e:i+1+old.length=(i+old.length)+1:=by omega
  rw [e];simp
def ahead (b:UInt8):List (List UInt8)->List (List UInt8)
 | []=> [[b]]
 |p::ps=>(b::p)::ps
theorem Dl {c:UInt8}:Lib.split [] [c]= [[]]:=by
 unfold Lib.split;rw [Lib.count_miss (QW (by simp)),Lib.splitK]
theorem Dm {c:UInt8} {l:List UInt8}:Lib.split (c::l) [c]= []::Lib.split l [c]:=by
 have hi:Lib.index (c::l) [c]=(0:Nat):=QU (by simp [List.isPrefixOf]);unfold Lib.split;rw [Lib.count_hit (by simp) hi,Nat.add_comm 1,Lib.splitK,if_neg (by rw [hi];decide),hi];simp
theorem A7 {b c:UInt8} {l:List UInt8} (h:b≠c):Lib.split (b::l) [c]=ahead b (Lib.split l [c]):=by
 have hp:([c]:List UInt8).isPrefixOf (b::l)=false:=by simp [List.isPrefixOf];exact fun e=>h e.symm
 have hi:=QV hp;have hge:=Lib.index_ge l [c];unfold Lib.split;by_cases hm:Lib.index l [c]= -1
 ·rw [hm] at hi
  have hi:Lib.index (b::l) [c]= -1:=by simpa using hi
  rw [Lib.count_miss hm,Lib.count_miss hi,Lib.splitK,Lib.splitK,ahead]
 ·obtain⟨i,he⟩:∃i:Nat,Lib.index l [c]=i:=⟨(Lib.index l [c]).toNat,by omega⟩
  have hi:Lib.index (b::l) [c]=((i+1:Nat):Int):=by rw [hi,he,if_neg (by simp<;>omega)];rfl
  rw [Lib.count_hit (by simp) he,Lib.count_hit (by simp) hi,Nat.add_comm 1,Nat.add_comm 1,Lib.splitK,Lib.splitK,if_neg (by rw [hi];simp<;>omega),if_neg (by rw [he];simp<;>omega),hi,he];simp [ahead]
def uf (x:UInt8):List UInt8:=if x=126 then [126,48] else if x=47 then [126,49] else [x]
def lu (s:List UInt8):List UInt8:=Lib.replaceAll (Lib.replaceAll s [126] [126,48]) [47] [126,49]
def mK (s:List UInt8):List UInt8:=Lib.replaceAll (Lib.replaceAll s [126,49] [47]) [126,48] [126]
theorem QX (a:UInt8) (new:List UInt8) (hne:([a]==new)=false) (s:List UInt8):Lib.replaceAll s [a] new=s.flatMap fun x=>if x=a then new else [x]:=by
 induction s with
 |nil=>exact xd (by simp)
 |cons x r ih=>
  by_cases h:x=a
  ·subst h
   rw [KL (by simp) hne (by simp [List.isPrefixOf])];simp [ih]
  ·rw [F7 (by simp) hne (by simp [List.isPrefixOf];exact fun e=>h e.symm)]
   simp [ih,h]
theorem y9 (s:List UInt8):lu s=s.flatMap uf:=by
 unfold lu;rw [QX _ _ (by decide),QX _ _ (by decide)]
 induction s with
 |nil=>rfl
 |cons x r ih=>
  simp only [List.flatMap_cons,List.flatMap_append,ih];congr 1;unfold uf;by_cases h:x=126
  ·subst h;decide
  ·by_cases h2:x=47
   ·subst h2;decide
   ·simp [h,h2]
theorem vz {x:UInt8} {r:List UInt8} (h:x≠126) (a b:UInt8) (hne:([126,a]== [b])=false):Lib.replaceAll (x::r) [126,a] [b]=x::Lib.replaceAll r [126,a] [b]:=
 F7 (by simp) hne (by simp [List.isPrefixOf];intro e;exact absurd e.symm h)
theorem F8 {a b:UInt8} {r:List UInt8}:Lib.replaceAll (126::a::r) [126,a] [b]=b::Lib.replaceAll r [126,a] [b]:=by
 rw [KL (by simp) (by simp) (by simp [List.isPrefixOf])];simp
theorem QY {a b c:UInt8} {r:List UInt8} (h:c≠a):Lib.replaceAll (126::c::r) [126,a] [b]=126::Lib.replaceAll (c::r) [126,a] [b]:=
 F7 (by simp) (by simp) (by simp [List.isPrefixOf];exact fun e=>h e.symm)
theorem ZF (s:List UInt8):mK (lu s)=s:=by
 rw [y9];unfold mK;have h1:Lib.replaceAll (s.flatMap uf) [126,49] [47]=s.flatMap fun x=>if x=126 then [126,48] else [x]:=by
  induction s with
  |nil=>exact xd (by simp)
  |cons x r ih=>
   simp only [List.flatMap_cons,uf];by_cases h:x=126
   ·subst h
    simp only [if_true,List.cons_append,List.nil_append];rw [QY (by decide),vz (by decide) _ _ (by decide),ih]
   ·by_cases h2:x=47
    ·subst h2
     simp (decide:=true) only [if_true,if_false,List.cons_append,List.nil_append];rw [F8,ih]
    ·simp only [h,h2,if_false,List.cons_append,List.nil_append]
     rw [vz h _ _ (by decide),ih]
 rw [h1];clear h1
 induction s with
 |nil=>exact xd (by simp)
 |cons x r ih=>
  simp only [List.flatMap_cons];by_cases h:x=126
  ·subst h
   simp only [if_true,List.cons_append,List.nil_append];rw [F8,ih]
  ·simp only [h,if_false,List.cons_append,List.nil_append]
   rw [vz h _ _ (by decide),ih]
def lU:List UInt8->Bool
 | []=>true
 |x::r=>(x !=126||(match r with|c::_=>c==48||c==49| []=>false))&&lU r
theorem KM:∀(s:List UInt8),lU s=true-> (∀x∈s,x≠47)->lu (mK s)=s
 | [],_,_=>by simp [lu,mK,xd]
 | [x],h,h47=>by
   have hx:x≠126:=by intro e;subst e;simp [lU] at h
   have h47:=h47 x (by simp);rw [y9];unfold mK;rw [vz hx _ _ (by decide),xd (by simp),vz hx _ _ (by decide),xd (by simp)];simp [uf,hx,h47]
 |x::y::r,h,h47=>by
  have ZG:=h47 x (by simp);have ag0:=h47 y (by simp);by_cases hx:x=126
  ·subst hx
   simp only [lU,bne_self_eq_false,Bool.false_or,Bool.and_eq_true,Bool.or_eq_true,beq_iff_eq] at h;obtain⟨hy,-,hr⟩:=h;have ih:=KM r hr (fun z hz=>h47 z (by simp [hz]));rw [y9] at ih⊢;unfold mK at ih⊢;rcases hy with rfl|rfl
   ·rw [QY (by decide),vz (x:=48) (by decide) 49 47 (by decide),F8]
    simp only [List.flatMap_cons,ih];rfl
   ·rw [F8,vz (x:=47) (by decide) 48 126 (by decide)]
    simp only [List.flatMap_cons,ih];rfl
  ·have hr:lU (y::r)=true:=by
    rw [lU] at h;simp only [Bool.and_eq_true] at h;exact h.2
   have ih:=KM (y::r) hr (fun z hz=>h47 z (by simp [hz]));rw [y9] at ih⊢;unfold mK at ih⊢;rw [vz hx _ _ (by decide),vz hx _ _ (by decide)];simp only [List.flatMap_cons,ih];simp [uf,hx,ZG]
def jV (p:List UInt8):Option (List (List UInt8)):=
 match p with
 | []=>some []
 |c::r=>if c=47/\p.length<=2000 then(if(Lib.split r [47]).all lU=true then some ((Lib.split r [47]).map mK) else none) else none
def joinL (l:List (List UInt8)):List UInt8:=l.flatMap fun x=>47::lu x
theorem ZH (s:List UInt8):∀q∈Lib.split s [47],∀x∈q,x≠47:=by
 induction s with
 |nil=>rw [Dl];simp
 |cons b l ih=>
  by_cases h:b=47
  ·subst h;rw [Dm]
   intro q hq;rcases List.mem_cons.1 hq with rfl|hq
   ·simp
   ·exact ih q hq
  ·rw [A7 h]
   cases hs:Lib.split l [47] with
   |nil=>simp [ahead,h]
   |cons p ps=>
    rw [hs] at ih;intro q hq x hx;simp only [ahead,List.mem_cons] at hq;rcases hq with rfl|hq
    ·rcases List.mem_cons.1 hx with rfl|hx
     ·exact h
     ·exact ih p (by simp) x hx
    ·exact ih q (by simp [hq]) x hx
theorem ZI (s:List UInt8):(Lib.split s [47]).flatMap (fun q=>47::q)=47::s:=by
 induction s with
 |nil=>rw [Dl];rfl
 |cons b l ih=>
  by_cases h:b=47
  ·subst h;rw [Dm];simp only [List.flatMap_cons,ih];rfl
  ·rw [A7 h]
   cases hs:Lib.split l [47] with
   |nil=>rw [hs] at ih;simp at ih
   |cons p ps=>
    rw [hs] at ih;simp only [List.flatMap_cons,List.cons_append,List.cons.injEq,true_and] at ih;simp only [ahead,List.flatMap_cons,List.cons_append,ih]
theorem ZJ (q:List UInt8) (h:∀x∈q,x≠47):Lib.split q [47]= [q]:=by
 induction q with
 |nil=>exact Dl
 |cons b l ih=>rw [A7 (h b (by simp)),ih (fun x hx=>h x (by simp [hx]))];rfl
theorem ZK (q s:List UInt8) (h:∀x∈q,x≠47):Lib.split (q++47::s) [47]=q::Lib.split s [47]:=by
 induction q with
 |nil=>exact Dm
 |cons b l ih=>rw [List.cons_append,A7 (h b (by simp)),ih (fun x hx=>h x (by simp [hx]))];rfl
theorem QZ (s:List UInt8):∀x∈lu s,x≠47:=by
 rw [y9];intro x hx;simp only [List.mem_flatMap] at hx;obtain⟨y,-,hy⟩:=hx;unfold uf at hy
 split at hy
 ·simp at hy;rcases hy with rfl|rfl<;>decide
 ·split at hy
  ·simp at hy;rcases hy with rfl|rfl<;>decide
  ·simp at hy;subst hy;assumption
theorem ZL (s:List UInt8):lU (lu s)=true:=by
 rw [y9]
 induction s with
 |nil=>rfl
 |cons x r ih=>
  simp only [List.flatMap_cons,uf]
  split
  ·simp [lU,ih]
  ·split
   ·simp [lU,ih]
   ·rename_i h1 h2
    simp only [List.cons_append,List.nil_append];rw [lU.eq_def];simp [h1,ih]
theorem ZM (x:List UInt8) (l:List (List UInt8)):Lib.split (lu x++joinL l) [47]=lu x::l.map lu:=by
 induction l generalizing x with
 |nil=>simp only [joinL,List.flatMap_nil,List.append_nil,List.map_nil];exact ZJ _ (QZ x)
 |cons y r ih=>
  simp only [joinL,List.flatMap_cons,List.cons_append,List.map_cons];rw [ZK _ _ (QZ x)];have:=ih y;simp only [joinL] at this;rw [this]
theorem Q0 (s:List UInt8):(lu s).length<=2*s.length:=by
 rw [y9]
 induction s with
 |nil=>simp
 |cons x r ih=>
  simp only [List.flatMap_cons,List.length_append,List.length_cons];have:(uf x).length<=2:=by
   unfold uf
   split
   ·simp
   ·split<;>simp
  omega
theorem ZN (l:List (List UInt8)) (h:(joinL l).length<=2000):jV (joinL l)=some l:=by
 cases l with
 |nil=>rfl
 |cons x r=>
  have hs:=ZM x r;have e:joinL (x::r)=47::(lu x++joinL r):=by simp [joinL]
  rw [e] at h⊢;unfold jV;simp only;rw [if_pos ⟨trivial,h⟩,hs,if_pos (by simp [ZL]),<-List.map_cons,List.map_map,show mK∘lu=id from funext ZF,List.map_id]
theorem KN {p:List UInt8} {l:List (List UInt8)} (h:jV p=some l):joinL l=p:=by
 unfold jV at h
 cases p with
 |nil=>simp at h;subst h;rfl
 |cons c r=>
  simp only at h
  split at h
  ·rename_i hc
   split at h
   ·rename_i ht
    simp only [Option.some.injEq] at h;subst h;obtain⟨rfl,-⟩:=hc;unfold joinL;rw [List.flatMap_map];have:∀q∈Lib.split r [47],lu (mK q)=q:=fun q hq=>KM q (List.all_eq_true.1 ht q hq) (ZH r q hq)
    rw [show (Lib.split r [47]).flatMap (fun a=>47::lu (mK a))=(Lib.split r [47]).flatMap (fun q=>47::q) from by
     rw [List.flatMap_def,List.flatMap_def];congr 1
     exact List.map_congr_left fun q hq=>by rw [this q hq]]
    exact ZI r
   ·cases h
  ·cases h
end Go.Proofs.YtlcebdaghmdkeabGreatDoor
namespace Go.Proofs.YtlcebdaghmdkeabGreatDoor
open Go.Proofs.Tryz
def jC (name:ah) (n:Nat):Option Nat:=
 if name.data.toList= [45] then some n else
 match Lib.atoiAll name.data.toList with
 | .ok k=>if name.size<=4/\0<=k/\Lib.itoa k=name.data.toList then some k.toNat else none
 |_=>none
theorem ZO {name:ah} (h:name.data.toList≠ [45]) (n m:Nat):jC name n=jC name m:=by
 unfold jC;rw [if_neg h,if_neg h]
def V.child (x:V) (name:ah):Option Nat:=
 if x.k=5 then(if hasB x.keys name=true then some (posOf x.keys name) else none)
 else if x.k=4 then(jC name x.l.length).bind fun k=>if k<x.l.length then some k else none
 else none
def V.jR (x:V) (i:Nat) (y:V):V:= .mk x.k x.n x.s x.keys (x.l.set i y)
def V.nG (x:V) (i:Nat) (y:V):V:= .mk x.k x.n x.s x.keys (x.l.take i++y::x.l.drop i)
def V.B6 (x:V) (i:Nat):V:= .mk x.k x.n x.s x.keys (x.l.take i++x.l.drop (i+1))
theorem wG {x:V} (h:x.sound) {name:ah} {i:Nat} (hc:x.child name=some i):i<x.l.length:=by
 unfold V.child at hc
 split at hc
 ·rename_i h5
  split at hc
  ·rename_i hb
   have:=tR hb;rw [h.flat.len h5] at this
   cases hc;exact this
  ·cases hc
 ·split at hc
  ·cases hi:jC name x.l.length with
   |none=>rw [hi] at hc;cases hc
   |some k=>
    rw [hi] at hc;simp only [Option.bind_some] at hc
    split at hc
    ·rename_i hlt;cases hc;exact hlt
    ·cases hc
  ·cases hc
theorem ZP {x y:V} (hk:y.k=x.k) (hks:y.keys=x.keys) (hl:y.l.length=x.l.length) (name:ah):y.child name=x.child name:=by
 unfold V.child;rw [hk,hks,hl]
theorem ZQ (x:V) (i:Nat) (y:V) (name:ah):(x.jR i y).child name=x.child name:=ZP (x:=x) (y:=x.jR i y) rfl rfl (by simp [V.jR]) name
def fG:List ah->V->Option V
 | [],x=>some x
 |a::r,x=>(x.child a).bind fun i=>(x.l[i]?).bind (fG r)
abbrev lZ:=V->ah->V×Int
def bU (F:lZ):List ah->V->V×Int
 | [],x=>(x,3)
 |a::r,x=>if r= [] then F x a else
  match x.child a with
  |none=>(x,3)
  |some i=>
   match x.l[i]? with
   |none=>(x,3)
   |some y=>if(bU F r y).2=0 then(x.jR i (bU F r y).1,0) else(x,(bU F r y).2)
theorem EY (F:lZ) (a:ah) (x:V):bU F [a] x=F x a:=by simp [bU]
theorem EZ {F:lZ} {a b:ah} {r:List ah} {x:V} (h:x.child a=none):bU F (a::b::r) x=(x,3):=by
 rw [bU,if_neg (by simp),h]
theorem E0 {F:lZ} {a b:ah} {r:List ah} {x:V} {i:Nat} (h:x.child a=some i) (hi:i<x.l.length):
 bU F (a::b::r) x=if(bU F (b::r) x.l[i]).2=0 then(x.jR i (bU F (b::r) x.l[i]).1,0) else(x,(bU F (b::r) x.l[i]).2):=by
 rw [bU,if_neg (by simp),h];simp only [List.getElem?_eq_getElem hi]
def jn (y:V):lZ:=fun x name=>
 if x.k=5 then(x.put name y,0)
 else if x.k=4 then
  match jC name x.l.length with
  |some i=>if i<=x.l.length then(x.nG i y,0) else(x,3)
  |none=>(x,3)
 else(x,3)
def pR:lZ:=fun x name=>
 match x.child name with
 |none=>(x,3)
 |some i=>if x.k=5 then(x.del name,0) else(x.B6 i,0)
def ia (y:V):lZ:=fun x name=>
 match x.child name with
 |none=>(x,3)
 |some i=>(x.jR i y,0)
def cJ (p:ah):Option (List ah):=(jV p.data.toList).map fun l=>l.map fun s=>⟨s.toArray⟩
theorem E8 {p:ah} {ks:List ah} (h:jV p.data.toList=some (ks.map (·.data.toList))):cJ p=some ks:=by
 unfold cJ;rw [h];simp only [Option.map_some,List.map_map,Option.some.injEq];have:((fun s:List UInt8=>(⟨s.toArray⟩:ah))∘fun k:ah=>k.data.toList)=id:=by funext k;rfl
 rw [this,List.map_id]
theorem Jk {p:ah} (h:jV p.data.toList=none):cJ p=none:=by
 unfold cJ;rw [h];rfl
def gH (x:V) (p:ah) (F:lZ):V×Int:=
 match cJ p with
 |none=>(x,1)
 |some l=>if x.fine=false then(x,1) else if l= [] then(x,1) else
  if(bU F l x).2=0 then(if(bU F l x).1.fine=true then((bU F l x).1,0) else(x,2)) else(x,(bU F l x).2)
def bZ (x:V) (p:ah):V×Int:=
 match cJ p with
 |none=>(V.zero,1)
 |some l=>if x.fine=false then(V.zero,1) else match fG l x with|some y=>(y,0)|none=>(V.zero,3)
def eV (x:V) (p:ah) (y:V):V×Int:=if y.fine=false then(x,1) else if p.data.toList= []/\x.fine=true then(y,0) else gH x p (jn y)
def jT (x:V) (p:ah) (y:V):V×Int:=if y.fine=false then(x,1) else if p.data.toList= []/\x.fine=true then(y,0) else gH x p (ia y)
def jU (x:V) (p:ah):V×Int:=gH x p pR
theorem Ca {p:ah} (h:p.data.toList= []):cJ p=some []:=by unfold cJ;rw [h];rfl
theorem KO {x y:V} {i:Nat} (hi:i<x.l.length) {a:ah} {r:List ah} (hc:x.child a=some i):fG (a::r) (x.jR i y)=fG r y:=by
 simp only [fG,ZQ,hc,Option.bind_some];have:(x.jR i y).l[i]? =some y:=by simp [V.jR,List.getElem?_set,hi]
 rw [this,Option.bind_some]
theorem ZR {ks:List ah} (h:cz ks) {key:ah} (hn:hasB ks key=false):hasB (ks.take (posOf ks key)++key::ks.drop (posOf ks key)) key=true/\posOf (ks.take (posOf ks key)++key::ks.drop (posOf ks key)) key=posOf ks key:=by
 have hr:=CM h hn;have hl:=tW ks key;have hlt:posOf ks key<(ks.take (posOf ks key)++key::ks.drop (posOf ks key)).length:=by simp;omega
 have hg:(ks.take (posOf ks key)++key::ks.drop (posOf ks key))[posOf ks key]=key:=by rw [List.getElem_append_right (by simp;omega)];simp [Nat.min_eq_left hl]
 have hp:=KC hr hlt hg;refine⟨?_,hp⟩;rw [De,hp,List.getElem?_eq_getElem hlt,hg]
theorem ZT {x:V} (h:x.sound) (h5:x.k=5) (name:ah) (y:V):∃i,(x.put name y).child name=some i/\ (x.put name y).l[i]? =some y:=by
 have hf:=h.flat;by_cases hb:hasB x.keys name=true
 ·rw [y7 ⟨h5,hf.len h5⟩ hb]
  refine⟨posOf x.keys name,by simp [V.child,h5,hb],?_⟩;have:=tR hb;rw [hf.len h5] at this;simp [List.getElem?_set,this]
 ·have hb:hasB x.keys name=false:=by simpa using hb
  rw [y8 ⟨h5,hf.len h5⟩ hb];obtain⟨h1,h2⟩:=ZR hf.dL hb;refine⟨posOf x.keys name,by unfold V.child;rw [if_pos (show (V.mk x.k x.n x.s _ _).k=5 from h5),if_pos (show hasB (V.mk x.k x.n x.s _ _).keys name=true from h1)];exact congrArg some h2,?_⟩;have hl:=tW x.keys name;rw [hf.len h5] at hl;simp only [V.dZ];rw [List.getElem?_append_right (by simp;omega)];simp [Nat.min_eq_left hl]
theorem ZU {x:V} (h4:x.k=4) {name:ah} (hd:name.data.toList≠ [45]) {i:Nat} (hi:jC name x.l.length=some i) (hl:i<=x.l.length) (y:V):(x.nG i y).child name=some i/\ (x.nG i y).l[i]? =some y:=by
 have e:jC name (x.nG i y).l.length=some i:=by rw [ZO hd _ x.l.length];exact hi
 have hlt:i<(x.nG i y).l.length:=by simp [V.nG];omega
 refine⟨?_,?_⟩
 ·unfold V.child
  rw [if_neg (by simp [V.nG,h4]),if_pos (by simp [V.nG,h4]),e];simp [hlt]
 ·simp only [V.nG,V.dZ]
  rw [List.getElem?_append_right (by simp;omega)];simp [Nat.min_eq_left hl]
theorem ZV {y:V} (l:List ah) (hl:l≠ []) (x:V) (h:x.sound) (h0:(bU (ia y) l x).2=0):fG l (bU (ia y) l x).1=some y:=by
 induction l generalizing x with
 |nil=>exact absurd rfl hl
 |cons a r ih=>
  cases r with
  |nil=>
   rw [EY] at h0⊢;unfold ia at h0⊢
   cases hc:x.child a with
   |none=>rw [hc] at h0;simp at h0
   |some i=>simp only;rw [KO (wG h hc) hc];rfl
  |cons b r=>
   cases hc:x.child a with
   |none=>rw [EZ hc] at h0;simp at h0
   |some i=>
    have hi:=wG h hc;rw [E0 hc hi] at h0⊢;by_cases e:(bU (ia y) (b::r) x.l[i]).2=0
    ·rw [if_pos e]
     rw [KO hi hc];exact ih (by simp) _ (h.item (List.getElem_mem hi)) e
    ·rw [if_neg e] at h0;exact absurd h0 e
theorem ZW {y:V} (l:List ah) (hl:l≠ []) (hd:(l.getLast hl).data.toList≠ [45]) (x:V) (h:x.sound) (h0:(bU (jn y) l x).2=0):fG l (bU (jn y) l x).1=some y:=by
 induction l generalizing x with
 |nil=>exact absurd rfl hl
 |cons a r ih=>
  cases r with
  |nil=>
   rw [EY] at h0⊢;simp only [List.getLast_singleton] at hd;unfold jn at h0⊢;by_cases h5:x.k=5
   ·rw [if_pos h5]
    obtain⟨i,h1,h2⟩:=ZT h h5 a y;simp [fG,h1,h2]
   ·rw [if_neg h5] at h0⊢
    by_cases h4:x.k=4
    ·rw [if_pos h4] at h0⊢
     cases hi:jC a x.l.length with
     |none=>rw [hi] at h0;simp at h0
     |some i=>
      rw [hi] at h0;simp only at h0⊢;by_cases hle:i<=x.l.length
      ·rw [if_pos hle]
       obtain⟨h1,h2⟩:=ZU h4 hd hi hle y;simp [fG,h1,h2]
      ·rw [if_neg hle] at h0;simp at h0
    ·rw [if_neg h4] at h0;simp at h0
  |cons b r=>
   cases hc:x.child a with
   |none=>rw [EZ hc] at h0;simp at h0
   |some i=>
    have hi:=wG h hc;rw [E0 hc hi] at h0⊢;by_cases e:(bU (jn y) (b::r) x.l[i]).2=0
    ·rw [if_pos e]
     rw [KO hi hc];exact ih (by simp) (by simpa using hd) _ (h.item (List.getElem_mem hi)) e
    ·rw [if_neg e] at h0;exact absurd h0 e
theorem Fv {x:V} {d:Int} (h:x.good d=true):x.sound:=⟨d,h⟩
theorem Fw {x:V} {d:Int} (h:x.good d=true) {i:Nat} (hi:i<x.l.length):(x.l[i]).good (d+1)=true:=by
 rw [V.ud,Bool.and_eq_true,List.all_eq_true] at h;exact h.2 _ (List.getElem_mem hi)
theorem Kp {x:V} {p:ah} {F:lZ} (h:(gH x p F).2=0):∃l,cJ p=some l/\l≠ []/\x.fine=true/\ (bU F l x).2=0/\ (bU F l x).1.fine=true/\ (gH x p F).1=(bU F l x).1:=by
 unfold gH at h⊢
 cases hn:cJ p with
 |none=>rw [hn] at h;simp at h
 |some l=>
  rw [hn] at h;simp only at h⊢;by_cases hf:x.fine=false
  ·rw [if_pos hf] at h;simp at h
  ·rw [if_neg hf] at h⊢
   by_cases hl:l= []
   ·rw [if_pos hl] at h;simp at h
   ·rw [if_neg hl] at h⊢
    by_cases h0:(bU F l x).2=0
    ·rw [if_pos h0] at h⊢
     by_cases hg:(bU F l x).1.fine=true
     ·rw [if_pos hg]
      exact⟨l,rfl,hl,by simpa using hf,h0,hg,rfl⟩
     ·rw [if_neg hg] at h;simp at h
    ·rw [if_neg h0] at h;exact absurd h h0
theorem Ko {x:V} {p:ah} {F:lZ} (h:(gH x p F).2≠0):(gH x p F).1=x:=by
 unfold gH at h⊢
 cases hn:cJ p with
 |none=>rfl
 |some l=>
  rw [hn] at h;simp only at h⊢;by_cases h1:x.fine=false
  ·rw [if_pos h1]
  ·rw [if_neg h1] at h⊢
   by_cases h2:l= []
   ·rw [if_pos h2]
   ·rw [if_neg h2] at h⊢
    by_cases h3:(bU F l x).2=0
    ·rw [if_pos h3] at h⊢
     by_cases h4:(bU F l x).1.fine=true
     ·rw [if_pos h4] at h;exact absurd rfl h
     ·rw [if_neg h4]
    ·rw [if_neg h3]
theorem Qo (x y:V) (p:ah):((jT x p y).2≠0-> (jT x p y).1=x)/\ ((jT x p y).2=0-> (jT x p y).1.fine=true/\bZ (jT x p y).1 p=(y,0)):=by
 unfold jT;by_cases hy:y.fine=false
 ·rw [if_pos hy];exact⟨fun _=>rfl,fun h=>by simp at h⟩
 ·rw [if_neg hy]
  have hy':y.fine=true:=by simpa using hy
  by_cases hp:p.data.toList= []/\x.fine=true
  ·rw [if_pos hp]
   refine⟨fun h=>absurd rfl h,fun _=>⟨hy',?_⟩⟩;unfold bZ;rw [Ca hp.1];simp [hy',fG]
  ·rw [if_neg hp]
   refine⟨Ko,fun h=> ?_⟩;obtain⟨l,hn,hl,hf,h0,hg,he⟩:=Kp h;rw [he];refine⟨hg,?_⟩;have:=ZV l hl x (gq hf) h0;unfold bZ;rw [hn];simp only;rw [if_neg (by rw [hg];decide),this]
theorem Dd (x y:V) (p:ah):((eV x p y).2≠0-> (eV x p y).1=x)/\ ((eV x p y).2=0-> (eV x p y).1.fine=true/\∃l,cJ p=some l/\ (∀hl:l≠ [],(l.getLast hl).data.toList≠ [45]->bZ (eV x p y).1 p=(y,0))/\ (l= []->bZ (eV x p y).1 p=(y,0))):=by
 unfold eV;by_cases hy:y.fine=false
 ·rw [if_pos hy];exact⟨fun _=>rfl,fun h=>by simp at h⟩
 ·rw [if_neg hy]
  have hy':y.fine=true:=by simpa using hy
  by_cases hp:p.data.toList= []/\x.fine=true
  ·rw [if_pos hp]
   refine⟨fun h=>absurd rfl h,fun _=>⟨hy', [],Ca hp.1,fun hl=>absurd rfl hl,fun _=> ?_⟩⟩;unfold bZ;rw [Ca hp.1];simp [hy',fG]
  ·rw [if_neg hp]
   refine⟨Ko,fun h=> ?_⟩;obtain⟨l,hn,hl,hf,h0,hg,he⟩:=Kp h;rw [he];refine⟨hg,l,hn,fun hl hd=> ?_,fun h=>absurd h hl⟩;have:=ZW l hl hd x (gq hf) h0;unfold bZ;rw [hn];simp only;rw [if_neg (by rw [hg];decide),this]
theorem bz {b:Bool} {S:World->Prop} {G K:Act->World->Prop} (hK:Shut (∀a w,(b=false->S w)->G a w->K a w)) {a:Act} {w:World} (hb:b=true:=by exact rfl) (h:G a w):K a w:=hK.out a w (fun e=>by rw [hb] at e;cases e) h
theorem fF {P:Program} {ops:Array Oper} {Q:Exit->Act->World->Prop} {S R:World->Prop} {c id:Nat} {a:Act} {w:World} (_:∀w',R w'->S w') (hm:P.follows .mixedOrders=true)
 (h:lT P .any ops Q S c ops.size (Array.replicate ops.size false) a w.drew):(Code.region id ops true).wp P Q a w:=ZE hm h
theorem lO {P:Program} {ops:Array Oper} {Q:Exit->Act->World->Prop} {S R:World->Prop} {id:Nat} {a:Act} {w:World} (_:∀w',R w'->S w') (hm:P.follows .mixedOrders=true) (hS:S w.drew)
 (h:S w.drew->wpAnyH P .any ops Q S ops.size (Array.replicate ops.size false) a w.drew):(Code.region id ops true).wp P Q a w:=wp_region_held_drew hm hS h
end Go.Proofs.YtlcebdaghmdkeabGreatDoor
