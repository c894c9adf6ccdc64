import Derived.Deep.AppendLies
import Derived.Deep.DrawnRows
import Derived.Laws.AppendOwnNone
import Derived.OwnWalk
import Derived.Lib.ReplaceLaws
import Derived.Laws.Concat
import Derived.Lib.SliceRun
import Derived.Lib.Overlaps
import Derived.Lib.AppendZerosOnto
import Derived.Laws.CopyRow
import Derived.Laws.Externs
import Derived.Deep.RegionLaw
import Derived.Lib.JoinLaws
import Derived.Test.YtlcebdaghmdkeabGreatDoorZ1
import Derived.Test.YtlcebdaghmdkeabGreatDoorShelf
set_option linter.all false
set_option maxRecDepth 100000
set_option maxHeartbeats 64000000
namespace Go.Proofs.YtlcebdaghmdkeabGreatDoor
open Go.Proofs.Tryz
open Go.RowKit
theorem Tryz.zh:(prog.info? 36).map (fun i=>(i.zero,i.size,i.bytes))=some (some (.agg #[.int .i64 0, .int .i64 0, .string ⟨#[]⟩, .slice none 0 0, .slice none 0 0]),5,80):=by kernel_rfl
theorem Tryz.xe:(prog.info? 9).map (fun i=>(i.zero,i.size,i.bytes))=some (some (.string ⟨#[]⟩),1,16):=by kernel_rfl
def cQ (w:World) (T:az):List V->List Value->Prop
 | [],xs=>xs= []
 |x::r,xs=>∃ka kc la lc t,xs= .int .i64 x.k:: .int .i64 x.n:: .string x.s:: .slice ka x.keys.length kc:: .slice la x.l.length lc::t/\x.In w T ka kc la lc/\cQ w T r t
theorem cQ.keep {S T:az} {w w':World} {l:List V} {xs:List Value} (h:cQ w S l xs) (hk:Kept S w w') (hT:∀b,S b->b<w.heap.size->T b):cQ w' T l xs:=by
 induction l generalizing xs with
 |nil=>exact h
 |cons x r ih=>
  obtain⟨ka,kc,la,lc,t,rfl,h1,h2⟩:=h;exact⟨ka,kc,la,lc,t,rfl,h1.keep hk hT,ih h2⟩
theorem cQ.snoc {w:World} {T:az} {l:List V} {xs:List Value} (h:cQ w T l xs) {x:V} {ka:au} {kc:Nat} {la:au} {lc:Nat} (hx:x.In w T ka kc la lc):
 cQ w T (l++ [x]) (xs++ [.int .i64 x.k, .int .i64 x.n, .string x.s, .slice ka x.keys.length kc, .slice la x.l.length lc]):=by
 induction l generalizing xs with
 |nil=>subst h;exact⟨ka,kc,la,lc, [],rfl,hx,rfl⟩
 |cons y r ih=>
  obtain⟨a,b,c,d,t,rfl,h1,h2⟩:=h;exact⟨a,b,c,d,_,rfl,h1,ih h2⟩
theorem cQ.len {w:World} {T:az} {l:List V} {xs:List Value} (h:cQ w T l xs):xs.length=l.length*5:=by
 induction l generalizing xs with
 |nil=>subst h;rfl
 |cons y r ih=>
  obtain⟨a,b,c,d,t,rfl,h1,h2⟩:=h;have:=ih h2;simp only [List.length_cons,this];omega
theorem cQ.item {w:World} {T:az} {l:List V} {xs:List Value} (h:cQ w T l xs):∀i (hi:i<l.length),∃ka kc la lc,(xs[i*5]? =some (.int .i64 l[i].k)/\xs[i*5+1]? =some (.int .i64 l[i].n)/\xs[i*5+2]? =some (.string l[i].s)/\
 xs[i*5+3]? =some (.slice ka l[i].keys.length kc)/\xs[i*5+4]? =some (.slice la l[i].l.length lc))/\l[i].In w T ka kc la lc:=by
 induction l generalizing xs with
 |nil=>intro i hi;simp at hi
 |cons y r ih=>
  obtain⟨a,b,c,d,t,rfl,h1,h2⟩:=h;intro i hi
  match i with
  |0=>exact⟨a,b,c,d,by simp,by simpa using h1⟩
  |i+1=>
   obtain⟨ka,kc,la,lc,hc,hin⟩:=ih h2 i (by simpa using hi);refine⟨ka,kc,la,lc,?_,by simpa using hin⟩
   simp only [List.getElem_cons_succ,show (i+1)*5=i*5+1+1+1+1+1 from by omega,show i*5+1+1+1+1+1+1=i*5+1+1+1+1+1+1 from rfl,
    show i*5+1+1+1+1+1+2=(i*5+2)+1+1+1+1+1 from by omega,show i*5+1+1+1+1+1+3=(i*5+3)+1+1+1+1+1 from by omega,show i*5+1+1+1+1+1+4=(i*5+4)+1+1+1+1+1 from by omega,
    List.getElem?_cons_succ]
   exact hc
def fX (base:Nat) (S:az) (v:Value) (b:Nat):Prop:=(b<base/\S b)\/ (base<=b/\v.ownBlock≠some b)
def gQ (w:World) (base:Nat) (S:az) (v:Value) (n:Nat) (l:List V):Prop:=
 l.length=n/\∃xs,w.ownsRow base 36 5 v n xs/\cQ w (fX base S v) l xs
theorem gQ.nil (w:World) (base:Nat) (S:az):gQ w base S (.slice none 0 0) 0 []:=⟨rfl, [],World.ownsRow_nil _ _ _ _,rfl⟩
theorem gQ.keep {w w':World} {base:Nat} {S:az} {v:Value} {n:Nat} {l:List V} (h:gQ w base S v n l) (e:∀b,b<w.heap.size-> ((b<base/\S b)\/base<=b)->w'.heap[b]? =w.heap[b]?):gQ w' base S v n l:=by
 obtain⟨h0,xs,h1,h2⟩:=h;refine⟨h0,xs,?_,h2.keep (fun b hb hlt=>e b hlt (by rcases hb with hb|hb;exact .inl hb;exact .inr hb.1)) (fun _ h _=>h)⟩;obtain⟨hl,h1⟩:=h1;refine⟨hl,?_⟩;rcases h1 with h1|⟨g,cap,cur,hv,hb,hg,hr⟩
 ·exact .inl h1
 ·have hlt:g<w.heap.size:=by
   rcases Nat.lt_or_ge g w.heap.size with h|h
   ·exact h
   ·rw [Array.getElem?_eq_none h] at hg;cases hg
  exact .inr ⟨g,cap,cur,hv,hb,by rw [e g hlt (.inr hb)];exact hg,hr⟩
theorem gQ.ext {w w':World} {base:Nat} {S:az} {v:Value} {n:Nat} {l:List V} (h:gQ w base S v n l) (e:Ext w w'):gQ w' base S v n l:=h.keep (fun b hb _=>Below.block e b hb)
theorem gQ.push {w w1:World} {base:Nat} {S:az} {v v':Value} {n:Nat} {l:List V} {xs:List Value} (h0:l.length=n) (hc:cQ w (fX base S v) l xs) (hv:v.ownBlock=none\/∃g,v.ownBlock=some g/\base<=g)
 {x:V} {ka:au} {kc:Nat} {la:au} {lc:Nat} (hx:x.In w (fX base S v) ka kc la lc)
 (hown:w1.ownsRow base 36 5 v' (n+1) (xs++ [.int .i64 x.k, .int .i64 x.n, .string x.s, .slice ka x.keys.length kc, .slice la x.l.length lc])) (hgrow:w.grownBy w1 v.ownBlock)
 (g:Nat) (hv':v'.ownBlock=some g) (hat:v.ownBlock=some g\/g=w.heap.size):gQ w1 base S v' (n+1) (l++ [x]):=by
 refine⟨by simp [h0],_,hown,?_⟩;have hk:Kept (fX base S v) w w1:=by
  intro b hb hlt;refine hgrow.block b hlt ?_;intro he;rcases hb with hb|hb
  ·rcases hv with hv|⟨g',hv,hg'⟩
   ·rw [hv] at he;cases he
   ·rw [hv] at he;simp only [Option.some.injEq] at he;omega
  ·exact hb.2 he.symm
 have hT:∀b,fX base S v b->b<w.heap.size->fX base S v' b:=by
  intro b hb hlt;rcases hb with hb|hb
  ·exact .inl hb
  ·refine .inr ⟨hb.1,?_⟩
   rw [hv'];rcases hat with hat|hat
   ·rw [hat] at hb;exact hb.2
   ·intro he;simp only [Option.some.injEq] at he;omega
 exact(hc.keep hk hT).snoc (hx.keep hk hT)
theorem gQ.rows {w:World} {base:Nat} {S:az} {v:Value} {n:Nat} {l:List V} (h:gQ w base S v n l):
 ∃a cap,v= .slice a n cap/\aM a n cap/\l.length=n/\Rows w (fun b=>(b<base/\S b)\/base<=b) l a:=by
 obtain⟨h0,xs,⟨hl,h1⟩,h2⟩:=h;rcases h1 with⟨hv,hn⟩|⟨g,cap,cur,hv,hb,hg,hnc,hcm,hcs,ht⟩
 ·subst hn
  exact⟨none,0,hv,aM.nil,h0, .inl (List.length_eq_zero_iff.1 h0)⟩
 ·refine⟨some ⟨g,0,none⟩,cap,hv,⟨hnc,hcm,by simp⟩,h0, .inr ⟨g,0,rfl, .inr hb,?_⟩⟩
  intro i hi;obtain⟨ka,kc,la,lc,⟨c0,c1,c2,c3,c4⟩,hin⟩:=h2.item i hi;have hx:∀j u,xs[j]? =some u->w.cell? ⟨g,j,none⟩=some u:=by
   intro j u hj;rw [cell_of_row w g j cur _ _ hg];rw [<-ht] at hj;rw [List.getElem?_take] at hj
   split at hj
   ·simpa using hj
   ·cases hj
  refine⟨ka,kc,la,lc,⟨?_,?_,?_,?_,?_⟩,hin.mono (fun b hb _=>by rcases hb with hb|hb;exact .inl hb;exact .inr hb.1)⟩
  ·rw [Nat.zero_add];exact hx _ _ c0
  ·rw [Nat.zero_add];exact hx _ _ c1
  ·rw [Nat.zero_add];exact hx _ _ c2
  ·rw [Nat.zero_add];exact hx _ _ c3
  ·rw [Nat.zero_add];exact hx _ _ c4
def ek (w:World) (base:Nat) (v:Value) (n:Nat) (ks:List ah):Prop:=ks.length=n/\w.ownsRow base 9 1 v n (ks.map Value.string)
theorem ek.nil (w:World) (base:Nat):ek w base (.slice none 0 0) 0 []:=⟨rfl,World.ownsRow_nil _ _ _ _⟩
theorem dX {w w':World} {base e size:Nat} {v:Value} {n:Nat} {xs:List Value} (h:w.ownsRow base e size v n xs) (k:∀b,b<w.heap.size->v.ownBlock=some b->w'.heap[b]? =w.heap[b]?):w'.ownsRow base e size v n xs:=by
 obtain⟨hl,h1⟩:=h;refine⟨hl,?_⟩;rcases h1 with h1|⟨g,cap,cur,hv,hb,hg,hr⟩
 ·exact .inl h1
 ·have hlt:g<w.heap.size:=by
   rcases Nat.lt_or_ge g w.heap.size with h|h
   ·exact h
   ·rw [Array.getElem?_eq_none h] at hg;cases hg
  exact .inr ⟨g,cap,cur,hv,hb,by rw [k g hlt (by rw [hv];rfl)];exact hg,hr⟩
theorem eD {w w':World} {base e size:Nat} {v:Value} {n:Nat} {xs:List Value} (h:w.ownsRow base e size v n xs) (x:Ext w w'):w'.ownsRow base e size v n xs:=dX h (fun b hb _=>Below.block x b hb)
theorem ek.ext {w w':World} {base:Nat} {v:Value} {n:Nat} {ks:List ah} (h:ek w base v n ks) (e:Ext w w'):ek w' base v n ks:=⟨h.1,dX h.2 (fun b hb _=>Below.block e b hb)⟩
theorem ek.strs {w:World} {base:Nat} {v:Value} {n:Nat} {ks:List ah} (h:ek w base v n ks):
 ∃a cap,v= .slice a n cap/\aM a n cap/\ks.length=n/\bR w (fun b=>base<=b) a ks:=by
 obtain⟨h0,hl,h1⟩:=h;rcases h1 with⟨hv,hn⟩|⟨g,cap,cur,hv,hb,hg,hnc,hcm,hcs,ht⟩
 ·subst hn
  exact⟨none,0,hv,aM.nil,h0, .inl (List.length_eq_zero_iff.1 h0)⟩
 ·refine⟨some ⟨g,0,none⟩,cap,hv,⟨hnc,hcm,by simp⟩,h0, .inr ⟨g,0,rfl,hb,?_⟩⟩
  intro i hi;rw [Nat.zero_add,cell_of_row w g i cur _ _ hg];have:(ks.map Value.string)[i]? =some (.string ks[i]):=by simp [hi]
  rw [<-ht,List.getElem?_take] at this
  split at this
  ·simpa using this
  ·cases this
theorem fT {w:World} {base e size:Nat} {v:Value} {n:Nat} {xs:List Value} (h:w.ownsRow base e size v n xs):∃a c,v= .slice a n c/\aM a n c:=by
 obtain⟨-,h⟩:=h;rcases h with⟨rfl,rfl⟩|⟨g,cap,cur,rfl,-,-,h1,h2,-⟩
 ·exact⟨none,0,rfl,aM.nil⟩
 ·exact⟨_,cap,rfl,h1,h2,by simp⟩
theorem Gc {w:World} {S:az} {a:au} {ks:List ah} (h:bR w S a ks):ks.length=0\/∃b,a=some b/\∀j u,(ks.map Value.string)[j]? =some u->w.cell? (b.add j)=some u:=by
 rcases h with h|⟨b,o,rfl,-,hc⟩
 ·exact .inl (by rw [h];rfl)
 ·refine .inr ⟨_,rfl,fun j u hj=> ?_⟩
  simp only [List.getElem?_map,Option.map_eq_some_iff] at hj;obtain⟨k,hk,rfl⟩:=hj;obtain⟨hlt,rfl⟩:=List.getElem?_eq_some_iff.1 hk;rw [Addr.add_lit];exact hc j hlt
theorem px (ks:List ah):∀u∈ks.map Value.string,u.oneCell'=true:=by
 intro u hu;simp only [List.mem_map] at hu;obtain⟨k,-,rfl⟩:=hu;rfl
structure Held (T:az) (a b:World):Prop where
 size:a.heap.size<=b.heap.size
 block:∀k,T k->k<a.heap.size->b.heap[k]? =a.heap[k]?
theorem Held.refl (T:az) (a:World):Held T a a:=⟨Nat.le_refl _,fun _ _ _=>rfl⟩
theorem Held.trans {T:az} {a b c:World} (h:Held T a b) (k:Held T b c):Held T a c:=
 ⟨Nat.le_trans h.size k.size,fun i hi hl=>(k.block i hi (Nat.lt_of_lt_of_le hl h.size)).trans (h.block i hi hl)⟩
theorem Held.ext {T:az} {a b c:World} (h:Held T a b) (e:Ext b c):Held T a c:=h.trans ⟨e.size,fun k _ hl=>Below.block e k hl⟩
theorem Ext.held {a b:World} (e:Ext a b) (T:az):Held T a b:=⟨e.size,fun k _ hl=>Below.block e k hl⟩
theorem Held.alloc {T:az} {a b:World} (h:Held T a b) (o:Obj):Held T a (b.alloc o):=h.ext ((Ext.refl b).alloc o)
theorem Held.drew {T:az} {a b:World} (h:Held T a b):Held T a b.drew:=h.ext ((Ext.refl b).drew)
theorem Held.drewN {T:az} {a b:World} (h:Held T a b) (n:Nat):Held T a (b.drewN n):=h.ext ((Ext.refl b).drewN n)
theorem Held.set {T:az} {a b:World} (h:Held T a b) {p:Addr} (hp:¬T p.block) (v:Value):Held T a (b.setCell p v):=
 h.trans ⟨Nat.le_of_eq (by simp),fun k hk _=>Below.heap_setCell _ _ _ _ (fun e=>hp (e▸hk))⟩
theorem Held.grown {T:az} {a b c:World} (h:Held T a b) {row:Option Nat} (g:b.grownBy c row) (hr:∀k,row=some k->¬T k):Held T a c:=
 h.trans ⟨g.size,fun k hk hl=>g.block k hl (fun e=>hr k e.symm hk)⟩
theorem Held.kept {T:az} {a b:World} (h:Held T a b):Kept T a b:=h.block
theorem Held.mono {S T:az} {a b:World} (h:Held S a b) (k:∀b,T b->S b):Held T a b:=⟨h.size,fun i hi=>h.block i (k i hi)⟩
theorem Ext.grown {a b c:World} (h:Ext a b) {row:Option Nat} (g:b.grownBy c row) (hr:∀k,row=some k->a.heap.size<=k):Ext a c:=Below.grown h g h.size hr
theorem af.held {T:az} {w w':World} {n:Nat} {vs:Array Value} {U:TypeId} (e:Held T w w') (h:af w n vs U) (hn:T n):af w' n vs U:=by
 have:=h.lt;unfold af at*;rw [e.block _ hn this];exact h
theorem af.grown {w w':World} {n:Nat} {vs:Array Value} {U:TypeId} (h:af w n vs U) {row:Option Nat} (g:w.grownBy w' row) (hr:some n≠row):af w' n vs U:=by
 have:=h.lt;unfold af at*;rw [g.block _ this hr];exact h
theorem aC {T:az} {a b:World} (h:Held T a b:=by with_reducible repeat (first|exact Held.refl _ _|assumption|apply Held.drew|apply Held.drewN|apply Held.alloc|(refine Held.set ?_ ?_ _;rotate_left;(focus(first|(simp;done)|(simp;omega)|omega)))|(refine Held.ext ?_ (by assumption))|(refine Held.grown ?_ (by assumption) (by assumption))|(refine Held.trans ?_ (by assumption)))):Held T a b:=h
structure At (x:V) (key:ah) (j:Nat):Prop where
 k:x.k=5
 len:x.keys.length=x.l.length
 lt:j<x.l.length
 eq:(x.keys[j]'(by omega)).toList=key.toList
 no:∀i,(h:i<j)-> (x.keys[i]'(by omega)).toList≠key.toList
def Rh (x:V) (key:ah):Prop:=x.k≠5\/x.keys.length≠x.l.length\/ (∀i,(h:i<x.keys.length)->x.keys[i].toList≠key.toList)
theorem Ri {x:V} {key:ah} {j:Nat} (h:x.find key=some j):At x key j:=by
 unfold V.find at h
 split at h
 ·rename_i hc
  rw [List.findIdx?_eq_some_iff_getElem] at h;obtain⟨h1,h2,h3⟩:=h;refine⟨hc.1,hc.2,by omega,by simpa using h2,fun i hi=> ?_⟩;have:=h3 i hi;simpa using this
 ·cases h
theorem Z2 {x:V} {key:ah} (h:x.find key=none):Rh x key:=by
 unfold V.find at h
 split at h
 ·right;right
  intro i hi;have:=List.findIdx?_eq_none_iff.1 h (x.keys[i]) (List.getElem_mem hi);simpa using this
 ·rename_i hc
  by_cases h5:x.k=5
  ·exact .inr (.inl fun h=>hc ⟨h5,h⟩)
  ·exact .inl h5
theorem Rj {x:V} {key:ah} {y:V} (h:x.member key=some y):∃j,∃a:At x key j,x.l[j]'a.lt=y:=by
 unfold V.member at h
 cases hf:x.find key with
 |none=>rw [hf] at h;cases h
 |some j=>
  rw [hf] at h;have a:=Ri hf;refine⟨j,a,?_⟩;simp only [Option.bind_some,List.getElem?_eq_getElem a.lt,Option.some.injEq] at h;exact h
theorem Z3 {x:V} {key:ah} (h:x.member key=none):Rh x key:=by
 unfold V.member at h
 cases hf:x.find key with
 |none=>exact Z2 hf
 |some j=>
  rw [hf] at h;have a:=Ri hf;simp [List.getElem?_eq_getElem a.lt] at h
theorem V.mJ (w:World) (S:az):V.zero.In w S none 0 none 0:=by
 rw [V.dz];exact⟨aM.nil,aM.nil, .inl rfl, .inl rfl⟩
theorem xf {x y:V} {key:ah} (hm:x.member key=some y) (ka:au) (kc:Nat) (la:au) (lc:Nat) (S:az) (w:World) (hsz:x.size<=1073741824) (hin:x.In w S ka kc la lc):
 Calls prog 39 #[x.val ka kc la lc, .string key] w (fe S y (.bool true) w):=by
 obtain⟨j,a,rfl⟩:=Rj hm;clear hm;have hl:=x.kB;have kA:(x.k==5)=true:=by simpa using a.k
 have hlen:((x.keys.length:Int)==(x.l.length:Int))=true:=by simpa using congrArg Int.ofNat a.len
 have hjl:=a.lt;have hll:x.keys.length<=x.l.length:=Nat.le_of_eq a.len;have ag1:x.l.length<=x.keys.length:=Nat.le_of_eq a.len.symm;go_enter func39,ntmps39;go_wp2_with fail
 go_loopg [6,7,23] (j+1) (fun g _ _ i wr=>∃k:Nat,k<=j/\i= .int .i64 k/\g=j+1-k/\aD wr w.heap.size x ka kc la lc/\aN wr (w.heap.size+1)/\Ext w wr)
 case atStart=>exact⟨0,by omega,rfl,rfl,aj,aj,Xt⟩
 case round=>
  obtain⟨k,hk,rfl,rfl,ag,ai,hx⟩:=hrel;obtain⟨hc0,aw,hl0⟩:=ag.see;obtain⟨hc1,aA,ay⟩:=ai.see;have hlt:k<x.keys.length:=by omega
  obtain⟨b,o,rfl,hS,e0⟩:=(hin.ext hx).key hlt;by_cases hkj:k=j
  ·subst hkj
   obtain⟨b',o',rfl,Am,iD,iE,iY,iF,⟨d0,d1,d2,d3,d4⟩,hin'⟩:=hin.item hjl;have d0:=hx.cell d0;have d1:=hx.cell d1;have d2:=hx.cell d2;have d3:=hx.cell d3;have d4:=hx.cell d4;have heq:(x.keys[k].toList==key.toList)=true:=by simpa using a.eq
   have dt:k<x.l.length:=hjl;go_wp2_with fail;refine aF (h:= ?_);exact⟨iD,iE,iY,iF,rfl,(hin'.ext Xt).mono (fun _ h _=> .inl h),Xt⟩
  ·have heq:(x.keys[k].toList==key.toList)=false:=by simpa using a.no k (by omega)
   go_wp2_with fail;go_roundg (j+1-(k+1))
   case measure=>omega
   case rel=>exact⟨k+1,by omega,by go_num,rfl,aj,aj,Xt⟩
theorem Gd {x:V} {key:ah} (hm:x.member key=none) (ka:au) (kc:Nat) (la:au) (lc:Nat) (S:az) (w:World) (hsz:x.size<=1073741824) (hin:x.In w S ka kc la lc):
 Calls prog 39 #[x.val ka kc la lc, .string key] w fun e w'=>e= .returned (.tuple #[.agg #[.int .i64 0, .int .i64 0, .string ⟨#[]⟩, .slice none 0 0, .slice none 0 0], .bool false])/\Ext w w':=by
 have hl:=x.kB;have hlk:=x.Ar;by_cases h5:x.k=5
 ·have kA:(x.k==5)=true:=by simpa using h5
  by_cases iq:x.keys.length=x.l.length
  ·have hlen:((x.keys.length:Int)==(x.l.length:Int))=true:=by simpa using congrArg Int.ofNat iq
   have Ja:=ae (((Z3 hm).resolve_left (fun h=>h h5)).resolve_left (fun h=>h iq));have hll:x.keys.length<=x.l.length:=Nat.le_of_eq iq;clear iq h5 hm;go_enter func39,ntmps39;go_wp2_with fail
   go_loopg [6,7,23] x.keys.length (fun g _ _ i wr=>∃k:Nat,k<=x.keys.length/\i= .int .i64 k/\g=x.keys.length-k/\aD wr w.heap.size x ka kc la lc/\aN wr (w.heap.size+1)/\Ext w wr)
   case atStart=>exact⟨0,by omega,rfl,rfl,aj,aj,Xt⟩
   case round=>
    obtain⟨k,hk,rfl,rfl,ag,ai,hx⟩:=hrel;obtain⟨hc0,aw,hl0⟩:=ag.see;obtain⟨hc1,aA,ay⟩:=ai.see;by_cases hlt:k<x.keys.length
    ·obtain⟨b,o,rfl,hS,e0⟩:=(hin.ext hx).key hlt
     have heq:(x.keys[k].toList==key.toList)=false:=by simpa using Ja.out k hlt
     go_wp2_with fail;go_roundg (x.keys.length-(k+1))
     case measure=>omega
     case rel=>exact⟨k+1,by omega,by go_num,rfl,aj,aj,Xt⟩
    ·go_wp2_with fail
     refine aF (h:= ?_);exact⟨rfl,Xt⟩
  ·have hlen:((x.keys.length:Int)==(x.l.length:Int))=false:=by simpa using fun h=>iq (by omega)
   clear iq h5 hm;go_enter func39,ntmps39;go_wp2_with fail;refine aF (h:= ?_);exact⟨rfl,Xt⟩
 ·have kA:(x.k==5)=false:=by simpa using h5
  clear h5 hm;go_enter func39,ntmps39;go_wp2_with fail;refine aF (h:= ?_);exact⟨rfl,Xt⟩
def V.iH (x:V) (key:ah):V:=(x.member key).getD V.zero
theorem Fe (x:V) (key:ah):x.iH key=V.zero\/ (x.iH key).size<x.size:=by
 unfold V.iH
 cases h:x.member key with
 |none=>exact .inl rfl
 |some y=>
  refine .inr ?_;unfold V.member at h;obtain⟨i,-,hi⟩:=Option.bind_eq_some_iff.1 h;exact V.yZ (List.mem_of_getElem? hi)
theorem qC (x:V) (key:ah) (ka:au) (kc:Nat) (la:au) (lc:Nat) (S:az) (w:World) (hsz:x.size<=1073741824) (hin:x.In w S ka kc la lc):
 Calls prog 39 #[x.val ka kc la lc, .string key] w (fe S (x.iH key) (.bool (x.member key).isSome) w):=by
 unfold V.iH
 cases h:x.member key with
 |some y=>exact xf h ka kc la lc S w hsz hin
 |none=>
  refine(Gd h ka kc la lc S w hsz hin).mono ?_;rintro e w' ⟨rfl,hx⟩;exact⟨none,0,none,0,rfl,V.mJ _ _,hx⟩
end Go.Proofs.YtlcebdaghmdkeabGreatDoor
namespace Go.Proofs.YtlcebdaghmdkeabGreatDoor
open Go.Proofs.Tryz
open Go.RowKit
attribute [local go_sem↓] Go.wp_at_zero Go.wp_at_succ
end Go.Proofs.YtlcebdaghmdkeabGreatDoor
namespace Go.Proofs.YtlcebdaghmdkeabGreatDoor
open Go.Proofs.Tryz
open Go.RowKit
abbrev All:az:=fun _=>True
theorem Rk {w:World} {S:az} {x:V} {ka:au} {kc:Nat} {la:au} {lc:Nat} (h:x.In w S ka kc la lc):x.In w All ka kc la lc:=h.mono fun _ _ _=>trivial
def fZ (w:World):Prop:=∃m,w.cell? ⟨0,0,none⟩=some (.int .i64 m)
theorem fZ.ext {w w':World} (h:fZ w) (e:Ext w w'):fZ w':=by obtain⟨m,hm⟩:=h;exact⟨m,e.cell hm⟩
theorem E7 (s old new:List UInt8) (ho:old≠ []) (hne:(old==new)=false):(Lib.replaceAll s old new).length<=s.length*(1+new.length):=by
 have h:∀(n:Nat) (s:List UInt8),s.length<=n-> (Lib.replaceAll s old new).length<=s.length*(1+new.length):=by
  intro n
  induction n with
  |zero=>intro s hs;obtain rfl:=List.eq_nil_of_length_eq_zero (Nat.le_zero.1 hs);rw [xd ho];simp
  |succ n ih=>
   intro s hs
   cases s with
   |nil=>rw [xd ho];simp
   |cons b l=>
    simp only [List.length_cons] at hs
    cases hp:old.isPrefixOf (b::l) with
    |true=>
     rw [KL ho hne hp];have hol:0<old.length:=List.length_pos_iff.2 ho;have h1:((b::l).drop old.length).length<=l.length:=by simp;omega
     have h2:=ih ((b::l).drop old.length) (by omega);have h3:((b::l).drop old.length).length*(1+new.length)<=l.length*(1+new.length):=Nat.mul_le_mul_right _ h1;simp only [List.length_append,List.length_cons];rw [Nat.succ_mul];omega
    |false=>
     rw [F7 ho hne hp];have h2:=ih l (by omega);simp only [List.length_cons];rw [Nat.succ_mul];omega
 exact h _ s (Nat.le_refl _)
theorem Ge (s:ah) (old new:List UInt8) (ho:old≠ []) (hne:(old==new)=false) (hn:new.length<=2) (hs:s.size<=1073741824) (w:World) (hm:fZ w):
 Calls prog 67 #[.string s, .string ⟨old.toArray⟩, .string ⟨new.toArray⟩] w fun e w'=>e= .returned (.string ⟨(Lib.replaceAll s.data.toList old new).toArray⟩)/\Ext w w':=by
 obtain⟨m,hm⟩:=hm;have hol:0<old.length:=List.length_pos_iff.2 ho;have h1:1<= (⟨old.toArray⟩:ah).size:=by simp [ByteArray.size];omega
 have h2:Lib.countB s ⟨old.toArray⟩<=s.size:=Lib.countB_le _ h1 _ _ (Nat.le_refl _);have h3:(⟨new.toArray⟩:ah).size<=2:=by simpa [ByteArray.size] using hn
 have h4:Lib.countB s ⟨old.toArray⟩*(⟨new.toArray⟩:ah).size<=s.size*2:=Nat.mul_le_mul h2 h3;refine(Tryz.strings_ReplaceAll s ⟨old.toArray⟩ ⟨new.toArray⟩ m w (by omega) hm h1 (by omega)).mono ?_;rintro e w' ⟨rfl,h⟩;exact⟨rfl,h⟩
theorem KY (l:List UInt8):(⟨l.toArray⟩:ah).size=l.length:=by simp [ByteArray.size]
theorem aac (s:List UInt8):(Lib.replaceAll s [126,49] [47]).length<=s.length*2:=E7 s _ _ (by simp) (by decide)
theorem aad (s:List UInt8):(Lib.replaceAll s [126] [126,48]).length<=s.length*3:=E7 s _ _ (by simp) (by decide)
theorem aae (r:List UInt8) (hs:r.length<=1073741824) (w:World) (hm:fZ w):
 Calls prog 66 #[.string ⟨r.toArray⟩, .string ⟨#[47]⟩] w fun e w'=>∃ps:List ah,ps.map (·.data.toList)=Lib.split r [47]/\e= .returned (.slice (some ⟨w.heap.size,0,none⟩) ps.length ps.length)/\w'=w.alloc (.cells (ps.map Value.string).toArray 9):=by
 obtain⟨m,hm⟩:=hm;refine(Tryz.strings_Split ⟨r.toArray⟩ ⟨#[47]⟩ m w (by rw [KY];omega) hm (by decide)).mono ?_;rintro e w' ⟨rfl,rfl⟩;have hl:=Lib.splitB_all ⟨#[47]⟩ (by decide) 0 _ ⟨r.toArray⟩ rfl;refine⟨_,?_,by rw [hl],rfl⟩;rw [Lib.splitB_data];simp [Lib.split,Lib.countB]
def Gf (r:Option (List (List UInt8))) (w:World) (e:Ending) (w':World):Prop:=
 (∃l a n c ks,r=some l/\e= .returned (.tuple #[.slice a n c, .int .i64 0])/\ks.length=n/\ks.map (·.data.toList)=l/\aM a n c/\bR w' (fun b=>w.heap.size<=b) a ks/\Ext w w')\/
 (r=none/\e= .returned (.tuple #[.slice none 0 0, .int .i64 1])/\Ext w w')
def rY (s:List UInt8) (i:Nat):Prop:=s[i]? =some 126-> (s[i+1]? =some 48\/s[i+1]? =some 49)
theorem aaf (x:UInt8) (r:List UInt8):lU (x::r)=((x !=126||(match r with|c::_=>c==48||c==49| []=>false))&&lU r):=by
 cases r<;>rfl
theorem KZ (s:List UInt8):lU s=true↔∀i,rY s i:=by
 induction s with
 |nil=>simp [lU,rY]
 |cons x r ih=>
  rw [aaf,Bool.and_eq_true,ih];constructor
  ·rintro⟨h1,h2⟩ i
   cases i with
   |zero=>
    intro hx;simp only [List.getElem?_cons_zero,Option.some.injEq] at hx;subst hx
    cases r with
    |nil=>simp at h1
    |cons c t=>simpa [rY] using h1
   |succ i=>simpa [rY] using h2 i
  ·intro h
   refine⟨?_,fun i=>by simpa [rY] using h (i+1)⟩;have h0:=h 0;by_cases hx:x=126
   ·subst hx
    have:=h0 rfl
    cases r with
    |nil=>simp at this
    |cons c t=>simpa using this
   ·simp [hx]
theorem aag {p:ah} (h:p.data.toList≠ []) (hb:¬(Lib.hasPrefix p.data.toList [47]=true/\p.size<=2000)):jV p.data.toList=none:=by
 unfold jV
 cases hp:p.data.toList with
 |nil=>exact absurd hp h
 |cons c r=>
  have hsz:p.size=(c::r).length:=by rw [<-hp];exact Array.length_toList.symm
  simp only;rw [if_neg];rintro⟨rfl,h2⟩;refine hb ⟨?_,by omega⟩;rw [hp];simp [Lib.hasPrefix,List.isPrefixOf]
theorem aah (p:ah) (w:World) (h0:p.data.toList= []\/ (p.data.toList≠ []/\¬(Lib.hasPrefix p.data.toList [47]=true/\p.size<=2000))):
 Calls prog 43 #[.string p] w (Gf (jV p.data.toList) w):=by
 rcases h0 with h|⟨h,hb⟩
 ·have hp:p=⟨#[]⟩:=by obtain⟨⟨l⟩⟩:=p;simp only at h;subst h;rfl
  subst hp;go_enter func43,ntmps43;go_wp2_with fail;go_ret2;exact .inl ⟨[],none,0,0, [],rfl,rfl,rfl,rfl,aM.nil, .inl rfl,Xt⟩
 ·have hn:=aag h hb
  have h1:p.toList.isEmpty=false:=by rw [ByteArray.toList_eq];cases hq:p.data.toList with|nil=>exact absurd hq h|cons=>rfl
  have h2:¬p.toList= []:=by rw [ByteArray.toList_eq];exact h
  rw [hn];clear hn
  cases hx:Lib.hasPrefix p.data.toList [47]
  ·have qP:∀w,Calls prog 65 #[.string p, .string ⟨#[47]⟩] w fun e w'=>∃q,e= .returned (.tuple #[.string q, .bool false])/\w'=w:=fun w=>by
    have hx':Lib.hasPrefix p.data.toList (⟨#[47]⟩:ah).data.toList=false:=hx;refine(Tryz.strings_CutPrefix p ⟨#[47]⟩ w).mono ?_;rintro e w' ⟨rfl,rfl⟩;exact⟨⟨(Lib.trimPrefix p.data.toList (⟨#[47]⟩:ah).data.toList).toArray⟩,by rw [hx'],rfl⟩
   clear hb hx;go_enter func43,ntmps43;go_wp2_with (go_at_call 65;refine(qP _).mono ?_;rintro e w1 ⟨q,rfl,rfl⟩);go_ret2;exact .inr ⟨rfl,rfl,Xt⟩
  ·have qP:∀w,Calls prog 65 #[.string p, .string ⟨#[47]⟩] w fun e w'=>∃q,e= .returned (.tuple #[.string q, .bool true])/\w'=w:=fun w=>by
    have hx':Lib.hasPrefix p.data.toList (⟨#[47]⟩:ah).data.toList=true:=hx;refine(Tryz.strings_CutPrefix p ⟨#[47]⟩ w).mono ?_;rintro e w' ⟨rfl,rfl⟩;exact⟨⟨(Lib.trimPrefix p.data.toList (⟨#[47]⟩:ah).data.toList).toArray⟩,by rw [hx'],rfl⟩
   have hs:(2000:Int)<(p.size:Int):=by have:¬p.size<=2000:=fun h=>hb ⟨hx,h⟩;omega
   clear hb hx;go_enter func43,ntmps43;go_wp2_with (go_at_call 65;refine(qP _).mono ?_;rintro e w1 ⟨q,rfl,rfl⟩);go_ret2;exact .inr ⟨rfl,rfl,Xt⟩
theorem OZ (s:List UInt8):(Lib.split s [47]).length<=s.length+1:=by
 induction s with
 |nil=>rw [Dl];simp
 |cons b l ih=>
  by_cases h:b=47
  ·subst h;rw [Dm];simp only [List.length_cons];omega
  ·rw [A7 h]
   cases hs:Lib.split l [47] with
   |nil=>simp [ahead]
   |cons p ps=>rw [hs] at ih;simp only [ahead,List.length_cons] at ih⊢;omega
theorem O0 (s:List UInt8):∀q∈Lib.split s [47],q.length<=s.length:=by
 induction s with
 |nil=>rw [Dl];simp
 |cons b l ih=>
  by_cases h:b=47
  ·subst h;rw [Dm]
   intro q hq;rcases List.mem_cons.1 hq with rfl|hq
   ·simp
   ·have:=ih q hq;simp only [List.length_cons];omega
  ·rw [A7 h]
   cases hs:Lib.split l [47] with
   |nil=>simp [ahead]
   |cons p ps=>
    rw [hs] at ih;intro q hq;simp only [ahead,List.mem_cons] at hq;rcases hq with rfl|hq
    ·have:=ih p (by simp);simp only [List.length_cons];omega
    ·have:=ih q (by simp [hq]);simp only [List.length_cons];omega
theorem aai (r:List UInt8) (h:(47::r:List UInt8).length<=2000):jV (47::r)=if(Lib.split r [47]).all lU=true then some ((Lib.split r [47]).map mK) else none:=by
 unfold jV;simp only;rw [if_pos ⟨trivial,h⟩]
theorem K0 {q:ah} {j:Nat} (h:j<q.size):q.data.toList[j]? =some q[j]:=by
 rw [List.getElem?_eq_getElem (by simpa using h)];rfl
theorem rZ {c:UInt8} {n:Nat} (hn:n<256) (h:(c.toNat:Int)=n):c=UInt8.ofNat n:=by
 apply UInt8.toNat_inj.1;simp;omega
theorem aaj (p:ah) (r:List UInt8) (hp:p.data.toList=47::r) (hs:p.size<=2000) (w:World) (hm:fZ w):Calls prog 43 #[.string p] w (Gf (jV p.data.toList) w):=by
 have hsz:p.size=r.length+1:=by have:p.size=p.data.toList.length:=Array.length_toList.symm;rw [this,hp];rfl
 have AO:=aai r (by simp;omega);rw [<-hp] at AO;have Hn:=ae AO;have qP:∀w,Calls prog 65 #[.string p, .string ⟨#[47]⟩] w fun e w'=>e= .returned (.tuple #[.string ⟨r.toArray⟩, .bool true])/\w=w':=fun w=>by
  have hx:Lib.hasPrefix p.data.toList (⟨#[47]⟩:ah).data.toList=true:=by rw [hp];simp [Lib.hasPrefix,List.isPrefixOf]
  refine(Tryz.strings_CutPrefix p ⟨#[47]⟩ w).mono ?_;rintro e w' ⟨rfl,rfl⟩;have ht:Lib.trimPrefix p.data.toList (⟨#[47]⟩:ah).data.toList=r:=by rw [Lib.trimPrefix,if_pos hx,hp];rfl
  exact⟨by rw [hx,ht],rfl⟩
 have h1:p.toList.isEmpty=false:=by rw [ByteArray.toList_eq,hp];rfl
 have h2:¬p.toList= []:=by rw [ByteArray.toList_eq,hp];simp
 have hs1:¬(2000:Int)<(p.size:Int):=by omega
 have hs2:(p.size:Int)<=2000:=by omega
 obtain⟨i0,hi,hz0,hz1,aak⟩:=info_parts Tryz.xe;clear AO hp;go_enter func43,ntmps43
 go_wp2_with (first
  |(go_at_call 65;refine(qP _).mono ?_;rintro e w1 ⟨rfl,rfl⟩)
  |(go_at_call 66;refine(aae r (by omega) _ (hm.ext Xt)).mono ?_;rintro e w1 ⟨ps,hps,rfl,rfl⟩))
 refine aI (R:=fun wx=>af wx w.heap.size (ps.map Value.string).toArray 9/\Ext w wx) ⟨aj,Xt⟩ ?_;rintro wx ⟨hB,hx⟩;have hmx:=hm.ext hx;have hpl:ps.length<=2000:=by have h:=OZ r;rw [<-hps] at h;simp only [List.length_map] at h;omega
 have tX:∀i (h:i<ps.length),(ps[i]).size<=2000:=by intro i h;have h3:=O0 r (ps[i]).data.toList (by rw [<-hps];exact List.mem_map_of_mem (List.getElem_mem h));have h4:(ps[i]).size=(ps[i]).data.toList.length:=Array.length_toList.symm;omega
 have hcell:∀i (h:i<ps.length),wx.cell? ⟨w.heap.size,i,none⟩=some (.string ps[i]):=by intro i h;rw [hB.cells i];simp [h]
 have mY:=ae hps;clear hps hB hm qP h1 h2 hs1 hs2
 go_loopg [6,8,9,27] ps.length (fun g t6 _ _ i wr=>∃(k:Nat) (a2:au) (c2:Nat) (ks:List ah),k<=ps.length/\i= .int .i64 k/\g=ps.length-k/\t6= .slice a2 k c2/\
  (∀i (h:i<ps.length),i<k->lU (ps[i]).data.toList=true)/\ks.map (·.data.toList)=(ps.take k).map (fun q=>mK q.data.toList)/\wr.ownsRow wx.heap.size 9 1 (.slice a2 k c2) k (ks.map Value.string)/\Ext wx wr)
 case atStart=>exact⟨0,none,0, [],by omega,rfl,rfl,rfl,fun i _ h=>by omega,by simp,World.ownsRow_nil _ _ _ _,Ext.refl _⟩
 case round=>
  obtain⟨k,a2,c2,ks,hk,rfl,rfl,rfl,htl,hks,hown,zi⟩:=hrel;have AY:=ae htl;have Dt:=ae hks;have cg:=ae hown;clear htl hks hown;by_cases hlt:k<ps.length
  ·have d0:=zi.cell (hcell k hlt)
   have uR:=tX k hlt;clear hcell tX;obtain⟨q,hq⟩:∃q,ps[k]=q:=⟨_,rfl⟩;rw [hq] at d0 uR;have Hq:=ae hq;clear hq;have hmr:=hmx.ext zi;go_wp2_with fail
   go_loopg [9,33] q.size (fun g _ i wi=>∃j:Nat,j<=q.size/\i= .int .i64 j/\g=q.size-j/\ (∀i,i<j->rY q.data.toList i)/\wi=wr)
   case atStart=>exact⟨0,Nat.zero_le _,rfl,rfl,fun i h=>by omega,rfl⟩
   case round=>
    obtain⟨j,hj,rfl,rfl,Rt,rfl⟩:=hrel;have Gg:=ae Rt;clear Rt;by_cases hjl:j<q.size
    ·have b0:=K0 hjl
     by_cases c:(q[j].toNat:Int)=126
     ·have cb:((q[j].toNat:Int)==126)=true:=by simpa using c
      have Ru:q.data.toList[j]? =some 126:=by rw [b0,rZ (n:=126) (by omega) c];rfl
      by_cases e:j+1<q.size
      ·have b1:=K0 e
       have e1:((j:Int)+1==(q.size:Int))=false:=by simp;omega
       by_cases z:(q[j+1].toNat:Int)=48
       ·have zb:((q[j+1].toNat:Int)==48)=true:=by simpa using z
        have zc:((q[j+1].toNat:Int) !=48)=false:=by simpa using z
        have Hg:=ae (show rY q.data.toList j from fun _=> .inl (by rw [b1,rZ (n:=48) (by omega) z];rfl));go_wp2_with fail;go_roundg (q.size-(j+1))
        case measure=>omega
        case rel=>exact⟨j+1,by omega,by go_num,rfl,fun i h=>by
         by_cases hij:i=j
         ·subst hij;exact Hg.out
         ·exact Gg.out i (by omega),rfl⟩
       ·have zb:((q[j+1].toNat:Int)==48)=false:=by simpa using z
        have zc:((q[j+1].toNat:Int) !=48)=true:=by simpa using z
        by_cases o:(q[j+1].toNat:Int)=49
        ·have ob:((q[j+1].toNat:Int)==49)=true:=by simpa using o
         have oc:((q[j+1].toNat:Int) !=49)=false:=by simpa using o
         have Hg:=ae (show rY q.data.toList j from fun _=> .inr (by rw [b1,rZ (n:=49) (by omega) o];rfl));go_wp2_with fail;go_roundg (q.size-(j+1))
         case measure=>omega
         case rel=>exact⟨j+1,by omega,by go_num,rfl,fun i h=>by
          by_cases hij:i=j
          ·subst hij;exact Hg.out
          ·exact Gg.out i (by omega),rfl⟩
        ·have ob:((q[j+1].toNat:Int)==49)=false:=by simpa using o
         have oc:((q[j+1].toNat:Int) !=49)=true:=by simpa using o
         have Hb:=ae (show¬rY q.data.toList j from fun h=>by
          rcases h Ru with h|h
          ·rw [b1] at h;simp only [Option.some.injEq] at h;rw [h] at z;exact z rfl
          ·rw [b1] at h;simp only [Option.some.injEq] at h;rw [h] at o;exact o rfl)
         go_wp2_with fail;go_ret2;refine .inr ⟨?_,rfl,Xt⟩;rw [Hn.out,if_neg];intro h;have h1:=List.all_eq_true.1 h q.data.toList (by rw [<-mY.out];exact List.mem_map_of_mem (by rw [<-Hq.out];exact List.getElem_mem hlt));exact Hb.out ((KZ _).1 h1 j)
      ·have e1:((j:Int)+1==(q.size:Int))=true:=by simp;omega
       have Hb:=ae (show¬rY q.data.toList j from fun h=>by
        have:q.data.toList[j+1]? =none:=List.getElem?_eq_none (by rw [Array.length_toList];exact Nat.le_of_not_lt e)
        rcases h Ru with h|h<;>rw [this] at h<;>cases h)
       go_wp2_with fail;go_ret2;refine .inr ⟨?_,rfl,Xt⟩;rw [Hn.out,if_neg];intro h;have h1:=List.all_eq_true.1 h q.data.toList (by rw [<-mY.out];exact List.mem_map_of_mem (by rw [<-Hq.out];exact List.getElem_mem hlt));exact Hb.out ((KZ _).1 h1 j)
     ·have cb:((q[j].toNat:Int)==126)=false:=by simpa using c
      have Hg:=ae (show rY q.data.toList j from fun h=>by rw [b0] at h;simp only [Option.some.injEq] at h;rw [h] at c;exact absurd rfl c);go_wp2_with fail;go_roundg (q.size-(j+1))
      case measure=>omega
      case rel=>exact⟨j+1,by omega,by go_num,rfl,fun i h=>by
       by_cases hij:i=j
       ·subst hij;exact Hg.out
       ·exact Gg.out i (by omega),rfl⟩
    ·obtain rfl:j=q.size:=by omega
     have hall:lU q.data.toList=true:=(KZ _).2 fun i=>by
      by_cases h:i<q.size
      ·exact Gg.out i h
      ·intro h2
       rw [List.getElem?_eq_none (by rw [Array.length_toList];exact Nat.le_of_not_lt h)] at h2
       cases h2
     have wV:=ae hall;clear hall;have h5:=aac q.data.toList;have h6:q.data.toList.length=q.size:=Array.length_toList;go_wp2_with fail;(refine(Ge q [126,49] [47] (by simp) (by decide) (by simp) (by omega) _ (hmr.ext Xt)).mono ?_);rintro e w1 ⟨rfl,h1⟩;go_wp2_with fail;(refine(Ge ⟨(Lib.replaceAll q.data.toList [126,49] [47]).toArray⟩ [126,48] [126] (by simp) (by decide) (by simp) (by rw [KY];omega) _ (hmr.ext Xt)).mono ?_);rintro e w2 ⟨rfl,h2⟩;obtain⟨nm,eF⟩:∃nm:ah,(⟨(Lib.replaceAll (⟨(Lib.replaceAll q.data.toList [126,49] [47]).toArray⟩:ah).data.toList [126,48] [126]).toArray⟩:ah)=nm:=⟨_,rfl⟩;have Gh:nm.data.toList=mK q.data.toList:=by rw [<-eF];rfl
     rw [eF];have hx2:Ext wr w2:=Xt;have dK:=ae (eD cg.out hx2);have hz2:=hx2.size;have hz3:=zi.size;go_wp2_with ((at_builtin;refine wpList_append_lies _ (by rfl) _ _ 33 (by rfl) wx.heap.size 9 i0 _ 1 16 underlying33 hi hz0 hz1 aak rfl (by decide) (.slice a2 k c2) k (ks.map Value.string) (by rfl) (dK.out.alloc _) ⟨w2.heap.size,0,none⟩ 1 1 [.string nm] (by rfl) (by rfl) (World.news_of_block (cs:= #[.string nm]) (t:=9) (fr:=(0,0)) (heap_alloc_new w2 _)) (by simp [Value.oneCell']) (by omega) (by unfold maxLen;omega) (by omega) (by simp;omega) _ rfl ?_;intro g6 bA w6 bF aY ck ug;have iM:=ae aY;have gY:=ae bF;clear aY bF ck));have bK:Ext wx w6:=Ext.grown (b:=w2.alloc _) Xt iM.out (fun g hg=>by have:=(cg.out.lt g hg).1;omega);go_roundg (ps.length-(k+1))
     case measure=>omega
     case rel=>
      refine⟨k+1,_,_,ks++ [nm],by omega,by go_num,rfl,rfl,fun i h hik=> ?_,?_,?_,Xt⟩
      ·by_cases e:i=k
       ·subst e;rw [Hq.out];exact wV.out
       ·exact AY.out i h (by omega)
      ·rw [List.map_append,Dt.out,List.take_succ_eq_append_getElem hlt,List.map_append]
       simp only [List.map_cons,List.map_nil,Gh,Hq.out]
      ·rw [List.map_append];exact gY.out
  ·obtain rfl:k=ps.length:=by omega
   have hkl:ks.length=ps.length:=by have:=congrArg List.length Dt.out;simpa using this
   go_wp2_with fail;go_ret2;obtain⟨a4,c4,cO,Ba,-,hst⟩:=ek.strs (base:=wx.heap.size) (ks:=ks) ⟨hkl,cg.out⟩;simp only [Value.slice.injEq,true_and] at cO;obtain⟨rfl,rfl⟩:=cO;refine .inl ⟨_,a2,ps.length,c2,ks,?_,rfl,hkl,rfl,Ba,hst.keep (fun _ _ _=>rfl) (fun b h _=>by have:=hx.size;omega),Xt⟩;rw [Hn.out,if_pos,Dt.out,List.take_of_length_le (Nat.le_refl _),<-mY.out,List.map_map]
   ·rfl
   ·rw [<-mY.out,List.all_eq_true]
    intro x hx;obtain⟨q,hq,rfl⟩:=List.mem_map.1 hx;obtain⟨i,hi,rfl⟩:=List.getElem_of_mem hq;exact AY.out i hi hi
theorem O2 (p:ah) (hs:p.size<=1073741824) (w:World) (hm:fZ w):Calls prog 43 #[.string p] w (Gf (jV p.data.toList) w):=by
 by_cases h:Lib.hasPrefix p.data.toList [47]=true/\p.size<=2000
 ·cases hp:p.data.toList with
  |nil=>rw [hp] at h;simp [Lib.hasPrefix,List.isPrefixOf] at h
  |cons c r=>
   have hc:c=47:=by have:=h.1;rw [hp] at this;simp [Lib.hasPrefix,List.isPrefixOf] at this;exact this.symm
   subst hc;rw [<-hp];exact aaj p r hp h.2 w hm
 ·refine aah p w ?_
  by_cases h0:p.data.toList= []
  ·exact .inl h0
  ·exact .inr ⟨h0,h⟩
theorem aal (ks:List ah) {k:Nat} (h:k<ks.length):joinL ((ks.take (k+1)).map (·.data.toList))=joinL ((ks.take k).map (·.data.toList))++47::lu (ks[k]).data.toList:=by
 unfold joinL;rw [List.take_succ_eq_append_getElem h,List.map_append,List.flatMap_append];simp only [List.map_cons,List.map_nil,List.flatMap_cons,List.flatMap_nil,List.append_nil]
theorem aam (a:au) (n c:Nat) (ks:List ah) (S:az) (w:World) (hks:bR w S a ks) (hn:ks.length=n) (hz:∀i (h:i<ks.length),(ks[i]).size<=2000000) (kI:n<=2000000) (hm:fZ w):
 Calls prog 44 #[.slice a n c] w fun e w'=>∃s:ah,e= .returned (.string s)/\s.data.toList=joinL (ks.map (·.data.toList))/\Ext w w':=by
 subst hn;go_enter func44,ntmps44;go_wp2_with fail
 go_loopg [3,5,8] ks.length (fun g t3 _ i wr=>∃(k:Nat) (s:ah),k<=ks.length/\i= .int .i64 k/\g=ks.length-k/\t3= .string s/\s.data.toList=joinL ((ks.take k).map (·.data.toList))/\s.size<=k*4000001/\Ext w wr)
 case atStart=>exact⟨0,⟨#[]⟩,by omega,rfl,rfl,rfl,rfl,by decide,Ext.refl _⟩
 case round=>
  obtain⟨k,s,hk,rfl,rfl,rfl,hs,Gi,hx⟩:=hrel;have Hs:=ae hs;clear hs;by_cases hlt:k<ks.length
  ·obtain⟨b,o,rfl,hS,hc⟩:=hks.resolve_left (by intro h;rw [h] at hlt;simp at hlt)
   have d0:=hx.cell (hc k hlt);have hz1:=hz k hlt;have Hj:=ae (aal ks hlt);clear hc hz;obtain⟨q,hq⟩:∃q,ks[k]=q:=⟨_,rfl⟩;rw [hq] at d0 hz1 Hj;clear hq;have h5:=aad q.data.toList;have h6:q.data.toList.length=q.size:=Array.length_toList;go_wp2_with fail;(refine(Ge q [126] [126,48] (by simp) (by decide) (by simp) (by omega) _ (hm.ext Xt)).mono ?_);rintro e w1 ⟨rfl,h1⟩;go_wp2_with fail;(refine(Ge ⟨(Lib.replaceAll q.data.toList [126] [126,48]).toArray⟩ [47] [126,49] (by simp) (by decide) (by simp) (by rw [KY];omega) _ (hm.ext Xt)).mono ?_);rintro e w2 ⟨rfl,h2⟩;obtain⟨nm,eF⟩:∃nm:ah,(⟨(Lib.replaceAll (⟨(Lib.replaceAll q.data.toList [126] [126,48]).toArray⟩:ah).data.toList [47] [126,49]).toArray⟩:ah)=nm:=⟨_,rfl⟩;have Gh:nm.data.toList=lu q.data.toList:=by rw [<-eF];rfl
   rw [eF];have hnz:nm.size<=4000000:=by have e1:=Q0 q.data.toList;have e2:nm.size=nm.data.toList.length:=Array.length_toList.symm;rw [Gh] at e2;omega
   have hk2:k*4000001<=2000000*4000001:=Nat.mul_le_mul_right _ (by omega);have c1:¬(⟨#[47]⟩:ah).size+nm.size>9223372036854775807:=by have:(⟨#[47]⟩:ah).size=1:=rfl;omega
   have e3:((⟨#[47]⟩:ah)++nm).size=1+nm.size:=by rw [ByteArray.size_append];rfl
   have c2:¬s.size+((⟨#[47]⟩:ah)++nm).size>9223372036854775807:=by rw [e3];omega
   go_wp2_with fail;go_roundg (ks.length-(k+1))
   case measure=>omega
   case rel=>exact⟨k+1,_,by omega,by go_num,rfl,rfl,by rw [Hj.out,<-Hs.out,<-Gh];simp,by rw [ByteArray.size_append,e3,Nat.succ_mul];omega,Xt⟩
  ·obtain rfl:k=ks.length:=by omega
   go_wp2_with fail;go_ret;exact⟨s,rfl,by rw [Hs.out,List.take_length],Xt⟩
section
variable {P:Program}
theorem ni (w:World) (dT sT ty elem:TypeId) (K g o dLen dCap:Nat) (a:Addr) (sLen sCap:Nat) (cur:Array Value) (t:TypeId) (cs:List Value) (m:Nat)
 (hu:P.underlying dT=some (.slice elem)) (hs:(P.info? elem).map (·.size)=some K) (hm:Nat.min sLen dLen=m)
 (hg:w.heap[g]? =some (.cells cur t (0,0))) (hn:cs.length=m*K)
 (hsrc:∀j v,cs[j]? =some v->w.cell? (a.add j)=some v) (hfit:o+cs.length<=cur.size) (h1:∀v∈cs,v.oneCell'=true):
 (Builtin.copy_ #[dT,sT] ty #[.slice (some ⟨g,o,none⟩) dLen dCap, .slice (some a) sLen sCap]).run P w=
  .ok (goInt m) (w.setRow g (cur.toList.take o++cs++cur.toList.drop (o+cs.length)).toArray):=by
 subst hm;have hl:=run_firstCells_some (P:=P) w K (Nat.min sLen dLen) a sLen sCap cs hn hsrc;have hst:=run_storeCells_at P g o t cs 0 cur w hg (by simpa using hfit) h1;simp only [Nat.add_zero] at hst
 cases hq:P.info? elem with
 |none=>simp [hq] at hs
 |some i=>
  have hi:i.size=K:=by simpa [hq] using hs
  simp [Builtin.copy_,run_underlying hu,Builtin.lenOf,sizeOf,typeInfo,hq,hi,hl,hst]
theorem aan (z:Array Value):(Builtin.zeroCells z 1).toList=z.toList:=by
 simp [Builtin.zeroCells];apply List.ext_getElem
 ·simp
 ·intro i h1 h2
  have h:i<z.size:=by simpa using h2
  simp [Nat.mod_eq_of_lt h,h]
theorem Jd (w:World) (t e ty:TypeId) (z:Value) (ht:P.underlying t=some (.slice e)) (hv:∀w,(zeroValue e).run P w= .ok z w) (h1:∀u∈z.cells.toList,u.oneCell'=true) (g o c:Nat) (cur:Array Value) (T:TypeId)
 (hg:w.heap[g]? =some (.cells cur T (0,0))) (hfit:o+z.cells.size<=cur.size):
 (Builtin.clear_ #[t] ty #[.slice (some ⟨g,o,none⟩) 1 c]).run P w= .ok (.tuple #[]) (w.setRow g (cur.toList.take o++z.cells.toList++cur.toList.drop (o+z.cells.size)).toArray):=by
 have hst:=run_storeCells_at P g o T z.cells.toList 0 cur w hg (by simpa using hfit) h1;simp only [Nat.add_zero,Array.length_toList] at hst;simp [Builtin.clear_,run_underlying ht,hv,aan,hst]
theorem Al {ops:Array Oper} {o:Oper} {a:Act} {w:World} {K:Act->World->Prop} {Q:Exit->Act->World->Prop} {E:Prop}
 (hg:o.guard=none) (d x:Operand) (dT sT:TypeId) (hop:o.op=Op.call {callee:=Callee.builtin Builtin.append,args:= #[d,x],argTypes:= #[dT,sT]})
 (v u:Value) (hd:a.eval d=v) (hx:a.eval x=u) {v':Value} {w':World} (hr:(Builtin.append_ #[dT,sT] o.type #[v,u]).run P w= .ok v' w') (hK:K (a.put o.dst v') w'):
 if Region.wanted o (yielded ops a.tmps)=true then Oper.wp P o a w K Q else E:=by
 have hw:Region.wanted o (yielded ops a.tmps)=true:=by simp [Region.wanted,hg]
 rw [if_pos hw];unfold Oper.wp;simp [execOp,hop,resolve,invoke,builtin,hd,hx,hr,Result.andThen];exact hK
end
theorem uh {w:World} {base e K:Nat} {v:Value} {n:Nat} {xs:List Value} (h:w.ownsRow base e K v n xs) (hn:0<n):
 ∃g cap cur,v= .slice (some ⟨g,0,none⟩) n cap/\base<=g/\w.heap[g]? =some (.cells cur e (0,0))/\n<=cap/\cap<=maxLen/\cur.size=cap*K/\cur.toList.take (n*K)=xs:=by
 rcases h.2 with⟨-,h0⟩|h
 ·omega
 ·exact h
theorem rH {w:World} {base e K g n cap:Nat} {cur:Array Value} {xs:List Value} (hb:base<=g) (hg:w.heap[g]? =some (.cells cur e (0,0))) (hn:n<=cap) (hm:cap<=maxLen) (hs:cur.size=cap*K) (ht:cur.toList.take (n*K)=xs):
 w.ownsRow base e K (.slice (some ⟨g,0,none⟩) n cap) n xs:=by
 refine⟨?_, .inr ⟨g,cap,cur,rfl,hb,hg,hn,hm,hs,ht⟩⟩;rw [<-ht,List.length_take,Array.length_toList,hs];have:=Nat.mul_le_mul_right K hn;omega
theorem jE (w:World) (g:Nat) (cs:Array Value):w.grownBy (w.setRow g cs) (some g):=
 ⟨rfl,rfl,rfl,by simp,fun k _ hk=>setRow_other w g k cs (fun e=>hk (by rw [e]))⟩
theorem nI {w w':World} {r:Option Nat} (h:w.drew.grownBy w' r):w.grownBy w' r:=⟨h.os,h.tape,h.output,h.size,h.block⟩
theorem rI {a b c:World} {r:Option Nat} (h:a.grownBy b r) (k:b.grownBy c r):a.grownBy c r:=
 ⟨k.os.trans h.os,k.tape.trans h.tape,k.output.trans h.output,Nat.le_trans h.size k.size,fun i hi hr=>(k.block i (Nat.lt_of_lt_of_le hi h.size) hr).trans (h.block i hi hr)⟩
theorem Gj {α:Type} (cur:List α) (new:List α) (a b:Nat) (hab:a<=b) (hb:b+new.length<=cur.length) (cs:List α) (hcs:cs=(cur.take b).drop a):
 let c1:=cur.take (a+new.length)++cs++cur.drop (a+new.length+cs.length)
 (c1.take a++new++c1.drop (a+new.length)).take (b+new.length)=(cur.take b).take a++new++(cur.take b).drop a/\ (c1.take a++new++c1.drop (a+new.length)).length=cur.length/\c1.length=cur.length:=by
 subst hcs;intro c1;have hl:((cur.take b).drop a).length=b-a:=by simp;omega
 have l1:c1.length=cur.length:=by show (cur.take (a+new.length)++(cur.take b).drop a++cur.drop (a+new.length+((cur.take b).drop a).length)).length=_;rw [List.length_append,List.length_append,hl];simp;omega
 refine⟨?_,?_,l1⟩
 ·have e1:c1.take a=(cur.take b).take a:=by
   show (cur.take (a+new.length)++(cur.take b).drop a++cur.drop (a+new.length+((cur.take b).drop a).length)).take a=_;rw [List.append_assoc,List.take_append_of_le_length (by simp;omega),List.take_take,List.take_take];congr 1;omega
  have e2:(c1.drop (a+new.length))=(cur.take b).drop a++cur.drop (a+new.length+((cur.take b).drop a).length):=by
   show (cur.take (a+new.length)++(cur.take b).drop a++cur.drop (a+new.length+((cur.take b).drop a).length)).drop (a+new.length)=_;rw [List.append_assoc];have:(cur.take (a+new.length)).length=a+new.length:=by simp;omega
   rw [List.drop_append_of_le_length (by omega),List.drop_of_length_le (by omega),List.nil_append]
  rw [e1,e2];have l2:((cur.take b).take a++new++(cur.take b).drop a).length=b+new.length:=by simp;omega
  rw [<-List.append_assoc,<-l2,List.take_left]
 ·have:(c1.take a).length=a:=by rw [List.length_take,l1];omega
  rw [List.length_append,List.length_append,this,List.length_drop,l1];omega
theorem Gk {α:Type} (xs new z1 z2:List α) (a:Nat) (ha:a<=xs.length) (hz:z1.length=new.length+(xs.length-a)):
 let c0:=xs.take a++z1++z2
 let c1:=c0.take a++new++c0.drop (a+new.length)
 (c1.take (a+new.length)++xs.drop a++c1.drop (a+new.length+(xs.drop a).length)).take (xs.length+new.length)=xs.take a++new++xs.drop a/\
 (c1.take (a+new.length)++xs.drop a++c1.drop (a+new.length+(xs.drop a).length)).length=c0.length/\c1.length=c0.length:=by
 intro c0 c1;have l0:c0.length=xs.length+new.length+z2.length:=by show (xs.take a++z1++z2).length=_;simp;omega
 have hd:(xs.drop a).length=xs.length-a:=by simp
 have e0:c0.take a=xs.take a:=by show (xs.take a++z1++z2).take a=_;rw [List.append_assoc,List.take_append_of_le_length (by simp;omega),List.take_take,Nat.min_self]
 have lt:(c0.take a).length=a:=by rw [List.length_take,l0];omega
 have l1:c1.length=c0.length:=by show (c0.take a++new++c0.drop (a+new.length)).length=_;rw [List.length_append,List.length_append,lt,List.length_drop,l0];omega
 have e1:c1.take (a+new.length)=xs.take a++new:=by show (c0.take a++new++c0.drop (a+new.length)).take (a+new.length)=_;rw [List.take_append_of_le_length (by rw [List.length_append,lt];omega),List.take_of_length_le (by rw [List.length_append,lt];omega),e0]
 refine⟨?_,?_,l1⟩
 ·rw [e1]
  have l2:(xs.take a++new++xs.drop a).length=xs.length+new.length:=by simp;omega
  rw [<-l2,List.take_left]
 ·have:(c1.take (a+new.length)).length=a+new.length:=by rw [List.length_take,l1,l0];omega
  rw [List.length_append,List.length_append,this,hd,List.length_drop,l1,l0];omega
theorem Jc {α:Type} (cur z:List α) (a k b:Nat) (hab:a+k<=b) (hb:b<=cur.length) (hz:z.length=k) (cs:List α) (hcs:cs=(cur.take b).drop (a+k)):
 let c1:=cur.take a++cs++cur.drop (a+cs.length)
 (c1.take (b-k)++z++c1.drop (b-k+k)).take (b-k)=(cur.take b).take a++(cur.take b).drop (a+k)/\ (c1.take (b-k)++z++c1.drop (b-k+k)).length=cur.length/\c1.length=cur.length:=by
 subst hcs;intro c1;have hl:((cur.take b).drop (a+k)).length=b-(a+k):=by simp;omega
 have ha:(cur.take a).length=a:=by simp;omega
 have l1:c1.length=cur.length:=by show (cur.take a++(cur.take b).drop (a+k)++cur.drop (a+((cur.take b).drop (a+k)).length)).length=_;rw [List.length_append,List.length_append,hl,ha,List.length_drop];omega
 have e1:c1.take (b-k)=(cur.take b).take a++(cur.take b).drop (a+k):=by
  show (cur.take a++(cur.take b).drop (a+k)++cur.drop (a+((cur.take b).drop (a+k)).length)).take (b-k)=_;have l2:(cur.take a++(cur.take b).drop (a+k)).length=b-k:=by rw [List.length_append,ha,hl];omega
  rw [<-l2,List.take_left,List.take_take];congr 2;omega
 have lt:(c1.take (b-k)).length=b-k:=by rw [List.length_take,l1];omega
 refine⟨?_,?_,l1⟩
 ·rw [List.append_assoc,List.take_append_of_le_length (by omega),List.take_of_length_le (by omega),e1]
 ·rw [List.length_append,List.length_append,lt,hz,List.length_drop,l1]
  omega
end Go.Proofs.YtlcebdaghmdkeabGreatDoor
