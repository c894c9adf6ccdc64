import Derived.Deep.AppendLies
import Derived.Deep.DrawnRows
import Derived.Laws.AppendOwnNone
import Derived.OwnWalk
import Derived.Lib.ReplaceLaws
import Derived.Laws.Concat
import Derived.Lib.SliceRun
import Derived.Lib.Overlaps
import Derived.Lib.AppendZerosOnto
import Derived.Laws.CopyRow
import Derived.Laws.Externs
import Derived.Deep.RegionLaw
import Derived.Lib.JoinLaws
import Derived.Test.YtlcebdaghmdkeabGreatDoorM1
import Derived.Test.YtlcebdaghmdkeabGreatDoorShelf
set_option linter.all false
set_option maxRecDepth 100000
set_option maxHeartbeats 64000000
namespace Go.Proofs.YtlcebdaghmdkeabGreatDoor
open Go.Proofs.Tryz
open Go.RowKit
theorem Tryz.yj:(prog.info? 36).map (fun i=>(i.zero,i.size,i.bytes))=some (some (.agg #[.int .i64 0, .int .i64 0, .string ⟨#[]⟩, .slice none 0 0, .slice none 0 0]),5,80):=by kernel_rfl
theorem Tryz.vP:(prog.info? 9).map (fun i=>(i.zero,i.size,i.bytes))=some (some (.string ⟨#[]⟩),1,16):=by kernel_rfl
def cH (w:World) (T:aw):List V->List Value->Prop
 | [],xs=>xs= []
 |x::r,xs=>∃ka kc la lc t,xs= .int .i64 x.k:: .int .i64 x.n:: .string x.s:: .slice ka x.keys.length kc:: .slice la x.l.length lc::t/\x.In w T ka kc la lc/\cH w T r t
theorem cH.keep {S T:aw} {w w':World} {l:List V} {xs:List Value} (h:cH w S l xs) (hk:Kept S w w') (hT:∀b,S b->b<w.heap.size->T b):cH w' T l xs:=by
 induction l generalizing xs with
 |nil=>exact h
 |cons x r ih=>
  obtain⟨ka,kc,la,lc,t,rfl,h1,h2⟩:=h;exact⟨ka,kc,la,lc,t,rfl,h1.keep hk hT,ih h2⟩
theorem cH.snoc {w:World} {T:aw} {l:List V} {xs:List Value} (h:cH w T l xs) {x:V} {ka:aq} {kc:Nat} {la:aq} {lc:Nat} (hx:x.In w T ka kc la lc):
 cH w T (l++ [x]) (xs++ [.int .i64 x.k, .int .i64 x.n, .string x.s, .slice ka x.keys.length kc, .slice la x.l.length lc]):=by
 induction l generalizing xs with
 |nil=>subst h;exact⟨ka,kc,la,lc, [],rfl,hx,rfl⟩
 |cons y r ih=>
  obtain⟨a,b,c,d,t,rfl,h1,h2⟩:=h;exact⟨a,b,c,d,_,rfl,h1,ih h2⟩
theorem cH.len {w:World} {T:aw} {l:List V} {xs:List Value} (h:cH w T l xs):xs.length=l.length*5:=by
 induction l generalizing xs with
 |nil=>subst h;rfl
 |cons y r ih=>
  obtain⟨a,b,c,d,t,rfl,h1,h2⟩:=h;have:=ih h2;simp only [List.length_cons,this];omega
theorem cH.item {w:World} {T:aw} {l:List V} {xs:List Value} (h:cH w T l xs):∀i (hi:i<l.length),∃ka kc la lc,(xs[i*5]? =some (.int .i64 l[i].k)/\xs[i*5+1]? =some (.int .i64 l[i].n)/\xs[i*5+2]? =some (.string l[i].s)/\
 xs[i*5+3]? =some (.slice ka l[i].keys.length kc)/\xs[i*5+4]? =some (.slice la l[i].l.length lc))/\l[i].In w T ka kc la lc:=by
 induction l generalizing xs with
 |nil=>intro i hi;simp at hi
 |cons y r ih=>
  obtain⟨a,b,c,d,t,rfl,h1,h2⟩:=h;intro i hi
  match i with
  |0=>exact⟨a,b,c,d,by simp,by simpa using h1⟩
  |i+1=>
   obtain⟨ka,kc,la,lc,hc,hin⟩:=ih h2 i (by simpa using hi);refine⟨ka,kc,la,lc,?_,by simpa using hin⟩
   simp only [List.getElem_cons_succ,show (i+1)*5=i*5+1+1+1+1+1 from by omega,show i*5+1+1+1+1+1+1=i*5+1+1+1+1+1+1 from rfl,
    show i*5+1+1+1+1+1+2=(i*5+2)+1+1+1+1+1 from by omega,show i*5+1+1+1+1+1+3=(i*5+3)+1+1+1+1+1 from by omega,show i*5+1+1+1+1+1+4=(i*5+4)+1+1+1+1+1 from by omega,
    List.getElem?_cons_succ]
   exact hc
def dR (base:Nat) (S:aw) (v:Value) (b:Nat):Prop:=(b<base/\S b)\/ (base<=b/\v.ownBlock≠some b)
def gA (w:World) (base:Nat) (S:aw) (v:Value) (n:Nat) (l:List V):Prop:=
 l.length=n/\∃xs,w.ownsRow base 36 5 v n xs/\cH w (dR base S v) l xs
theorem gA.nil (w:World) (base:Nat) (S:aw):gA w base S (.slice none 0 0) 0 []:=⟨rfl, [],World.ownsRow_nil _ _ _ _,rfl⟩
theorem gA.keep {w w':World} {base:Nat} {S:aw} {v:Value} {n:Nat} {l:List V} (h:gA w base S v n l) (e:∀b,b<w.heap.size-> ((b<base/\S b)\/base<=b)->w'.heap[b]? =w.heap[b]?):gA w' base S v n l:=by
 obtain⟨h0,xs,h1,h2⟩:=h;refine⟨h0,xs,?_,h2.keep (fun b hb hlt=>e b hlt (by rcases hb with hb|hb;exact .inl hb;exact .inr hb.1)) (fun _ h _=>h)⟩;obtain⟨hl,h1⟩:=h1;refine⟨hl,?_⟩;rcases h1 with h1|⟨g,cap,cur,hv,hb,hg,hr⟩
 ·exact .inl h1
 ·have hlt:g<w.heap.size:=by
   rcases Nat.lt_or_ge g w.heap.size with h|h
   ·exact h
   ·rw [Array.getElem?_eq_none h] at hg;cases hg
  exact .inr ⟨g,cap,cur,hv,hb,by rw [e g hlt (.inr hb)];exact hg,hr⟩
theorem gA.ext {w w':World} {base:Nat} {S:aw} {v:Value} {n:Nat} {l:List V} (h:gA w base S v n l) (e:Ext w w'):gA w' base S v n l:=h.keep (fun b hb _=>Below.block e b hb)
theorem gA.push {w w1:World} {base:Nat} {S:aw} {v v':Value} {n:Nat} {l:List V} {xs:List Value} (h0:l.length=n) (hc:cH w (dR base S v) l xs) (hv:v.ownBlock=none\/∃g,v.ownBlock=some g/\base<=g)
 {x:V} {ka:aq} {kc:Nat} {la:aq} {lc:Nat} (hx:x.In w (dR base S v) ka kc la lc)
 (hown:w1.ownsRow base 36 5 v' (n+1) (xs++ [.int .i64 x.k, .int .i64 x.n, .string x.s, .slice ka x.keys.length kc, .slice la x.l.length lc])) (hgrow:w.grownBy w1 v.ownBlock)
 (g:Nat) (hv':v'.ownBlock=some g) (hat:v.ownBlock=some g\/g=w.heap.size):gA w1 base S v' (n+1) (l++ [x]):=by
 refine⟨by simp [h0],_,hown,?_⟩;have hk:Kept (dR base S v) w w1:=by
  intro b hb hlt;refine hgrow.block b hlt ?_;intro he;rcases hb with hb|hb
  ·rcases hv with hv|⟨g',hv,hg'⟩
   ·rw [hv] at he;cases he
   ·rw [hv] at he;simp only [Option.some.injEq] at he;omega
  ·exact hb.2 he.symm
 have hT:∀b,dR base S v b->b<w.heap.size->dR base S v' b:=by
  intro b hb hlt;rcases hb with hb|hb
  ·exact .inl hb
  ·refine .inr ⟨hb.1,?_⟩
   rw [hv'];rcases hat with hat|hat
   ·rw [hat] at hb;exact hb.2
   ·intro he;simp only [Option.some.injEq] at he;omega
 exact(hc.keep hk hT).snoc (hx.keep hk hT)
theorem gA.rows {w:World} {base:Nat} {S:aw} {v:Value} {n:Nat} {l:List V} (h:gA w base S v n l):
 ∃a cap,v= .slice a n cap/\aM a n cap/\l.length=n/\Rows w (fun b=>(b<base/\S b)\/base<=b) l a:=by
 obtain⟨h0,xs,⟨hl,h1⟩,h2⟩:=h;rcases h1 with⟨hv,hn⟩|⟨g,cap,cur,hv,hb,hg,hnc,hcm,hcs,ht⟩
 ·subst hn
  exact⟨none,0,hv,aM.nil,h0, .inl (List.length_eq_zero_iff.1 h0)⟩
 ·refine⟨some ⟨g,0,none⟩,cap,hv,⟨hnc,hcm,by simp⟩,h0, .inr ⟨g,0,rfl, .inr hb,?_⟩⟩
  intro i hi;obtain⟨ka,kc,la,lc,⟨c0,c1,c2,c3,c4⟩,hin⟩:=h2.item i hi;have hx:∀j u,xs[j]? =some u->w.cell? ⟨g,j,none⟩=some u:=by
   intro j u hj;rw [cell_of_row w g j cur _ _ hg];rw [<-ht] at hj;rw [List.getElem?_take] at hj
   split at hj
   ·simpa using hj
   ·cases hj
  refine⟨ka,kc,la,lc,⟨?_,?_,?_,?_,?_⟩,hin.mono (fun b hb _=>by rcases hb with hb|hb;exact .inl hb;exact .inr hb.1)⟩
  ·rw [Nat.zero_add];exact hx _ _ c0
  ·rw [Nat.zero_add];exact hx _ _ c1
  ·rw [Nat.zero_add];exact hx _ _ c2
  ·rw [Nat.zero_add];exact hx _ _ c3
  ·rw [Nat.zero_add];exact hx _ _ c4
def dK (w:World) (base:Nat) (v:Value) (n:Nat) (ks:List ah):Prop:=ks.length=n/\w.ownsRow base 9 1 v n (ks.map Value.string)
theorem dK.nil (w:World) (base:Nat):dK w base (.slice none 0 0) 0 []:=⟨rfl,World.ownsRow_nil _ _ _ _⟩
theorem dL {w w':World} {base e size:Nat} {v:Value} {n:Nat} {xs:List Value} (h:w.ownsRow base e size v n xs) (k:∀b,b<w.heap.size->v.ownBlock=some b->w'.heap[b]? =w.heap[b]?):w'.ownsRow base e size v n xs:=by
 obtain⟨hl,h1⟩:=h;refine⟨hl,?_⟩;rcases h1 with h1|⟨g,cap,cur,hv,hb,hg,hr⟩
 ·exact .inl h1
 ·have hlt:g<w.heap.size:=by
   rcases Nat.lt_or_ge g w.heap.size with h|h
   ·exact h
   ·rw [Array.getElem?_eq_none h] at hg;cases hg
  exact .inr ⟨g,cap,cur,hv,hb,by rw [k g hlt (by rw [hv];rfl)];exact hg,hr⟩
theorem eu {w w':World} {base e size:Nat} {v:Value} {n:Nat} {xs:List Value} (h:w.ownsRow base e size v n xs) (x:Ext w w'):w'.ownsRow base e size v n xs:=dL h (fun b hb _=>Below.block x b hb)
theorem dK.ext {w w':World} {base:Nat} {v:Value} {n:Nat} {ks:List ah} (h:dK w base v n ks) (e:Ext w w'):dK w' base v n ks:=⟨h.1,dL h.2 (fun b hb _=>Below.block e b hb)⟩
theorem dK.strs {w:World} {base:Nat} {v:Value} {n:Nat} {ks:List ah} (h:dK w base v n ks):
 ∃a cap,v= .slice a n cap/\aM a n cap/\ks.length=n/\bC w (fun b=>base<=b) a ks:=by
 obtain⟨h0,hl,h1⟩:=h;rcases h1 with⟨hv,hn⟩|⟨g,cap,cur,hv,hb,hg,hnc,hcm,hcs,ht⟩
 ·subst hn
  exact⟨none,0,hv,aM.nil,h0, .inl (List.length_eq_zero_iff.1 h0)⟩
 ·refine⟨some ⟨g,0,none⟩,cap,hv,⟨hnc,hcm,by simp⟩,h0, .inr ⟨g,0,rfl,hb,?_⟩⟩
  intro i hi;rw [Nat.zero_add,cell_of_row w g i cur _ _ hg];have:(ks.map Value.string)[i]? =some (.string ks[i]):=by simp [hi]
  rw [<-ht,List.getElem?_take] at this
  split at this
  ·simpa using this
  ·cases this
theorem fG {w:World} {base e size:Nat} {v:Value} {n:Nat} {xs:List Value} (h:w.ownsRow base e size v n xs):∃a c,v= .slice a n c/\aM a n c:=by
 obtain⟨-,h⟩:=h;rcases h with⟨rfl,rfl⟩|⟨g,cap,cur,rfl,-,-,h1,h2,-⟩
 ·exact⟨none,0,rfl,aM.nil⟩
 ·exact⟨_,cap,rfl,h1,h2,by simp⟩
theorem E1 {w:World} {S:aw} {a:aq} {ks:List ah} (h:bC w S a ks):ks.length=0\/∃b,a=some b/\∀j u,(ks.map Value.string)[j]? =some u->w.cell? (b.add j)=some u:=by
 rcases h with h|⟨b,o,rfl,-,hc⟩
 ·exact .inl (by rw [h];rfl)
 ·refine .inr ⟨_,rfl,fun j u hj=> ?_⟩
  simp only [List.getElem?_map,Option.map_eq_some_iff] at hj;obtain⟨k,hk,rfl⟩:=hj;obtain⟨hlt,rfl⟩:=List.getElem?_eq_some_iff.1 hk;rw [Addr.add_lit];exact hc j hlt
theorem oG (ks:List ah):∀u∈ks.map Value.string,u.oneCell'=true:=by
 intro u hu;simp only [List.mem_map] at hu;obtain⟨k,-,rfl⟩:=hu;rfl
structure Held (T:aw) (a b:World):Prop where
 size:a.heap.size<=b.heap.size
 block:∀k,T k->k<a.heap.size->b.heap[k]? =a.heap[k]?
theorem Held.refl (T:aw) (a:World):Held T a a:=⟨Nat.le_refl _,fun _ _ _=>rfl⟩
theorem Held.trans {T:aw} {a b c:World} (h:Held T a b) (k:Held T b c):Held T a c:=
 ⟨Nat.le_trans h.size k.size,fun i hi hl=>(k.block i hi (Nat.lt_of_lt_of_le hl h.size)).trans (h.block i hi hl)⟩
theorem Held.ext {T:aw} {a b c:World} (h:Held T a b) (e:Ext b c):Held T a c:=h.trans ⟨e.size,fun k _ hl=>Below.block e k hl⟩
theorem Ext.held {a b:World} (e:Ext a b) (T:aw):Held T a b:=⟨e.size,fun k _ hl=>Below.block e k hl⟩
theorem Held.alloc {T:aw} {a b:World} (h:Held T a b) (o:Obj):Held T a (b.alloc o):=h.ext ((Ext.refl b).alloc o)
theorem Held.drew {T:aw} {a b:World} (h:Held T a b):Held T a b.drew:=h.ext ((Ext.refl b).drew)
theorem Held.drewN {T:aw} {a b:World} (h:Held T a b) (n:Nat):Held T a (b.drewN n):=h.ext ((Ext.refl b).drewN n)
theorem Held.set {T:aw} {a b:World} (h:Held T a b) {p:Addr} (hp:¬T p.block) (v:Value):Held T a (b.setCell p v):=
 h.trans ⟨Nat.le_of_eq (by simp),fun k hk _=>Below.heap_setCell _ _ _ _ (fun e=>hp (e▸hk))⟩
theorem Held.grown {T:aw} {a b c:World} (h:Held T a b) {row:Option Nat} (g:b.grownBy c row) (hr:∀k,row=some k->¬T k):Held T a c:=
 h.trans ⟨g.size,fun k hk hl=>g.block k hl (fun e=>hr k e.symm hk)⟩
theorem Held.kept {T:aw} {a b:World} (h:Held T a b):Kept T a b:=h.block
theorem Held.mono {S T:aw} {a b:World} (h:Held S a b) (k:∀b,T b->S b):Held T a b:=⟨h.size,fun i hi=>h.block i (k i hi)⟩
theorem Ext.grown {a b c:World} (h:Ext a b) {row:Option Nat} (g:b.grownBy c row) (hr:∀k,row=some k->a.heap.size<=k):Ext a c:=Below.grown h g h.size hr
theorem af.held {T:aw} {w w':World} {n:Nat} {vs:Array Value} {U:TypeId} (e:Held T w w') (h:af w n vs U) (hn:T n):af w' n vs U:=by
 have:=h.lt;unfold af at*;rw [e.block _ hn this];exact h
theorem af.grown {w w':World} {n:Nat} {vs:Array Value} {U:TypeId} (h:af w n vs U) {row:Option Nat} (g:w.grownBy w' row) (hr:some n≠row):af w' n vs U:=by
 have:=h.lt;unfold af at*;rw [g.block _ this hr];exact h
theorem aB {T:aw} {a b:World} (h:Held T a b:=by with_reducible repeat (first|exact Held.refl _ _|assumption|apply Held.drew|apply Held.drewN|apply Held.alloc|(refine Held.set ?_ ?_ _;rotate_left;(focus(first|(simp;done)|(simp;omega)|omega)))|(refine Held.ext ?_ (by assumption))|(refine Held.grown ?_ (by assumption) (by assumption))|(refine Held.trans ?_ (by assumption)))):Held T a b:=h
structure At (x:V) (key:ah) (j:Nat):Prop where
 k:x.k=5
 len:x.keys.length=x.l.length
 lt:j<x.l.length
 eq:(x.keys[j]'(by omega)).toList=key.toList
 no:∀i,(h:i<j)-> (x.keys[i]'(by omega)).toList≠key.toList
def PA (x:V) (key:ah):Prop:=x.k≠5\/x.keys.length≠x.l.length\/ (∀i,(h:i<x.keys.length)->x.keys[i].toList≠key.toList)
theorem PB {x:V} {key:ah} {j:Nat} (h:x.find key=some j):At x key j:=by
 unfold V.find at h
 split at h
 ·rename_i hc
  rw [List.findIdx?_eq_some_iff_getElem] at h;obtain⟨h1,h2,h3⟩:=h;refine⟨hc.1,hc.2,by omega,by simpa using h2,fun i hi=> ?_⟩;have:=h3 i hi;simpa using this
 ·cases h
theorem YI {x:V} {key:ah} (h:x.find key=none):PA x key:=by
 unfold V.find at h
 split at h
 ·right;right
  intro i hi;have:=List.findIdx?_eq_none_iff.1 h (x.keys[i]) (List.getElem_mem hi);simpa using this
 ·rename_i hc
  by_cases h5:x.k=5
  ·exact .inr (.inl fun h=>hc ⟨h5,h⟩)
  ·exact .inl h5
theorem PD {x:V} {key:ah} {y:V} (h:x.member key=some y):∃j,∃a:At x key j,x.l[j]'a.lt=y:=by
 unfold V.member at h
 cases hf:x.find key with
 |none=>rw [hf] at h;cases h
 |some j=>
  rw [hf] at h;have a:=PB hf;refine⟨j,a,?_⟩;simp only [Option.bind_some,List.getElem?_eq_getElem a.lt,Option.some.injEq] at h;exact h
theorem YJ {x:V} {key:ah} (h:x.member key=none):PA x key:=by
 unfold V.member at h
 cases hf:x.find key with
 |none=>exact YI hf
 |some j=>
  rw [hf] at h;have a:=PB hf;simp [List.getElem?_eq_getElem a.lt] at h
theorem V.mY (w:World) (S:aw):V.zero.In w S none 0 none 0:=by
 rw [V.df];exact⟨aM.nil,aM.nil, .inl rfl, .inl rfl⟩
theorem vQ {x y:V} {key:ah} (hm:x.member key=some y) (ka:aq) (kc:Nat) (la:aq) (lc:Nat) (S:aw) (w:World) (hsz:x.size<=1073741824) (hin:x.In w S ka kc la lc):
 Calls prog 39 #[x.val ka kc la lc, .string key] w (eO S y (.bool true) w):=by
 obtain⟨j,a,rfl⟩:=PD hm;clear hm;have hl:=x.jO;have mU:(x.k==5)=true:=by simpa using a.k
 have hlen:((x.keys.length:Int)==(x.l.length:Int))=true:=by simpa using congrArg Int.ofNat a.len
 have hjl:=a.lt;have hll:x.keys.length<=x.l.length:=Nat.le_of_eq a.len;have afH:x.l.length<=x.keys.length:=Nat.le_of_eq a.len.symm;go_enter func39,ntmps39;go_wp2_with fail
 go_loopg [6,7,23] (j+1) (fun g _ _ i wr=>∃k:Nat,k<=j/\i= .int .i64 k/\g=j+1-k/\aC wr w.heap.size x ka kc la lc/\aN wr (w.heap.size+1)/\Ext w wr)
 case atStart=>exact⟨0,by omega,rfl,rfl,aj,aj,Xt⟩
 case round=>
  obtain⟨k,hk,rfl,rfl,ag,ai,hx⟩:=hrel;obtain⟨hc0,ax,hl0⟩:=ag.see;obtain⟨hc1,aA,ay⟩:=ai.see;have hlt:k<x.keys.length:=by omega
  obtain⟨b,o,rfl,hS,e0⟩:=(hin.ext hx).key hlt;by_cases hkj:k=j
  ·subst hkj
   obtain⟨b',o',rfl,zu,fI,fJ,fW,fK,⟨d0,d1,d2,d3,d4⟩,hin'⟩:=hin.item hjl;have d0:=hx.cell d0;have d1:=hx.cell d1;have d2:=hx.cell d2;have d3:=hx.cell d3;have d4:=hx.cell d4;have heq:(x.keys[k].toList==key.toList)=true:=by simpa using a.eq
   have dA:k<x.l.length:=hjl;go_wp2_with fail;refine aF (h:= ?_);exact⟨fI,fJ,fW,fK,rfl,(hin'.ext Xt).mono (fun _ h _=> .inl h),Xt⟩
  ·have heq:(x.keys[k].toList==key.toList)=false:=by simpa using a.no k (by omega)
   go_wp2_with fail;go_roundg (j+1-(k+1))
   case measure=>omega
   case rel=>exact⟨k+1,by omega,by go_num,rfl,aj,aj,Xt⟩
theorem E2 {x:V} {key:ah} (hm:x.member key=none) (ka:aq) (kc:Nat) (la:aq) (lc:Nat) (S:aw) (w:World) (hsz:x.size<=1073741824) (hin:x.In w S ka kc la lc):
 Calls prog 39 #[x.val ka kc la lc, .string key] w fun e w'=>e= .returned (.tuple #[.agg #[.int .i64 0, .int .i64 0, .string ⟨#[]⟩, .slice none 0 0, .slice none 0 0], .bool false])/\Ext w w':=by
 have hl:=x.jO;have hlk:=x.xq;by_cases h5:x.k=5
 ·have mU:(x.k==5)=true:=by simpa using h5
  by_cases gW:x.keys.length=x.l.length
  ·have hlen:((x.keys.length:Int)==(x.l.length:Int))=true:=by simpa using congrArg Int.ofNat gW
   have GX:=ae (((YJ hm).resolve_left (fun h=>h h5)).resolve_left (fun h=>h gW));have hll:x.keys.length<=x.l.length:=Nat.le_of_eq gW;clear gW h5 hm;go_enter func39,ntmps39;go_wp2_with fail
   go_loopg [6,7,23] x.keys.length (fun g _ _ i wr=>∃k:Nat,k<=x.keys.length/\i= .int .i64 k/\g=x.keys.length-k/\aC wr w.heap.size x ka kc la lc/\aN wr (w.heap.size+1)/\Ext w wr)
   case atStart=>exact⟨0,by omega,rfl,rfl,aj,aj,Xt⟩
   case round=>
    obtain⟨k,hk,rfl,rfl,ag,ai,hx⟩:=hrel;obtain⟨hc0,ax,hl0⟩:=ag.see;obtain⟨hc1,aA,ay⟩:=ai.see;by_cases hlt:k<x.keys.length
    ·obtain⟨b,o,rfl,hS,e0⟩:=(hin.ext hx).key hlt
     have heq:(x.keys[k].toList==key.toList)=false:=by simpa using GX.out k hlt
     go_wp2_with fail;go_roundg (x.keys.length-(k+1))
     case measure=>omega
     case rel=>exact⟨k+1,by omega,by go_num,rfl,aj,aj,Xt⟩
    ·go_wp2_with fail
     refine aF (h:= ?_);exact⟨rfl,Xt⟩
  ·have hlen:((x.keys.length:Int)==(x.l.length:Int))=false:=by simpa using fun h=>gW (by omega)
   clear gW h5 hm;go_enter func39,ntmps39;go_wp2_with fail;refine aF (h:= ?_);exact⟨rfl,Xt⟩
 ·have mU:(x.k==5)=false:=by simpa using h5
  clear h5 hm;go_enter func39,ntmps39;go_wp2_with fail;refine aF (h:= ?_);exact⟨rfl,Xt⟩
def V.ik (x:V) (key:ah):V:=(x.member key).getD V.zero
theorem D8 (x:V) (key:ah):x.ik key=V.zero\/ (x.ik key).size<x.size:=by
 unfold V.ik
 cases h:x.member key with
 |none=>exact .inl rfl
 |some y=>
  refine .inr ?_;unfold V.member at h;obtain⟨i,-,hi⟩:=Option.bind_eq_some_iff.1 h;exact V.xZ (List.mem_of_getElem? hi)
theorem pP (x:V) (key:ah) (ka:aq) (kc:Nat) (la:aq) (lc:Nat) (S:aw) (w:World) (hsz:x.size<=1073741824) (hin:x.In w S ka kc la lc):
 Calls prog 39 #[x.val ka kc la lc, .string key] w (eO S (x.ik key) (.bool (x.member key).isSome) w):=by
 unfold V.ik
 cases h:x.member key with
 |some y=>exact vQ h ka kc la lc S w hsz hin
 |none=>
  refine(E2 h ka kc la lc S w hsz hin).mono ?_;rintro e w' ⟨rfl,hx⟩;exact⟨none,0,none,0,rfl,V.mY _ _,hx⟩
end Go.Proofs.YtlcebdaghmdkeabGreatDoor
namespace Go.Proofs.YtlcebdaghmdkeabGreatDoor
open Go.Proofs.Tryz
open Go.RowKit
attribute [local go_sem↓] Go.wp_at_zero Go.wp_at_succ
end Go.Proofs.YtlcebdaghmdkeabGreatDoor
namespace Go.Proofs.YtlcebdaghmdkeabGreatDoor
open Go.Proofs.Tryz
open Go.RowKit
abbrev All:aw:=fun _=>True
theorem PE {w:World} {S:aw} {x:V} {ka:aq} {kc:Nat} {la:aq} {lc:Nat} (h:x.In w S ka kc la lc):x.In w All ka kc la lc:=h.mono fun _ _ _=>trivial
def fL (w:World):Prop:=∃m,w.cell? ⟨0,0,none⟩=some (.int .i64 m)
theorem fL.ext {w w':World} (h:fL w) (e:Ext w w'):fL w':=by obtain⟨m,hm⟩:=h;exact⟨m,e.cell hm⟩
theorem D3 (s old new:List UInt8) (ho:old≠ []) (hne:(old==new)=false):(Lib.replaceAll s old new).length<=s.length*(1+new.length):=by
 have h:∀(n:Nat) (s:List UInt8),s.length<=n-> (Lib.replaceAll s old new).length<=s.length*(1+new.length):=by
  intro n
  induction n with
  |zero=>intro s hs;obtain rfl:=List.eq_nil_of_length_eq_zero (Nat.le_zero.1 hs);rw [vO ho];simp
  |succ n ih=>
   intro s hs
   cases s with
   |nil=>rw [vO ho];simp
   |cons b l=>
    simp only [List.length_cons] at hs
    cases hp:old.isPrefixOf (b::l) with
    |true=>
     rw [Jz ho hne hp];have hol:0<old.length:=List.length_pos_iff.2 ho;have h1:((b::l).drop old.length).length<=l.length:=by simp;omega
     have h2:=ih ((b::l).drop old.length) (by omega);have h3:((b::l).drop old.length).length*(1+new.length)<=l.length*(1+new.length):=Nat.mul_le_mul_right _ h1;simp only [List.length_append,List.length_cons];rw [Nat.succ_mul];omega
    |false=>
     rw [EW ho hne hp];have h2:=ih l (by omega);simp only [List.length_cons];rw [Nat.succ_mul];omega
 exact h _ s (Nat.le_refl _)
theorem E3 (s:ah) (old new:List UInt8) (ho:old≠ []) (hne:(old==new)=false) (hn:new.length<=2) (hs:s.size<=1073741824) (w:World) (hm:fL w):
 Calls prog 67 #[.string s, .string ⟨old.toArray⟩, .string ⟨new.toArray⟩] w fun e w'=>e= .returned (.string ⟨(Lib.replaceAll s.data.toList old new).toArray⟩)/\Ext w w':=by
 obtain⟨m,hm⟩:=hm;have hol:0<old.length:=List.length_pos_iff.2 ho;have h1:1<= (⟨old.toArray⟩:ah).size:=by simp [ByteArray.size];omega
 have h2:Lib.countB s ⟨old.toArray⟩<=s.size:=Lib.countB_le _ h1 _ _ (Nat.le_refl _);have h3:(⟨new.toArray⟩:ah).size<=2:=by simpa [ByteArray.size] using hn
 have h4:Lib.countB s ⟨old.toArray⟩*(⟨new.toArray⟩:ah).size<=s.size*2:=Nat.mul_le_mul h2 h3;refine(Tryz.strings_ReplaceAll s ⟨old.toArray⟩ ⟨new.toArray⟩ m w (by omega) hm h1 (by omega)).mono ?_;rintro e w' ⟨rfl,h⟩;exact⟨rfl,h⟩
theorem JM (l:List UInt8):(⟨l.toArray⟩:ah).size=l.length:=by simp [ByteArray.size]
theorem YT (s:List UInt8):(Lib.replaceAll s [126,49] [47]).length<=s.length*2:=D3 s _ _ (by simp) (by decide)
theorem YU (s:List UInt8):(Lib.replaceAll s [126] [126,48]).length<=s.length*3:=D3 s _ _ (by simp) (by decide)
theorem YV (r:List UInt8) (hs:r.length<=1073741824) (w:World) (hm:fL w):
 Calls prog 66 #[.string ⟨r.toArray⟩, .string ⟨#[47]⟩] w fun e w'=>∃ps:List ah,ps.map (·.data.toList)=Lib.split r [47]/\e= .returned (.slice (some ⟨w.heap.size,0,none⟩) ps.length ps.length)/\w'=w.alloc (.cells (ps.map Value.string).toArray 9):=by
 obtain⟨m,hm⟩:=hm;refine(Tryz.strings_Split ⟨r.toArray⟩ ⟨#[47]⟩ m w (by rw [JM];omega) hm (by decide)).mono ?_;rintro e w' ⟨rfl,rfl⟩;have hl:=Lib.splitB_all ⟨#[47]⟩ (by decide) 0 _ ⟨r.toArray⟩ rfl;refine⟨_,?_,by rw [hl],rfl⟩;rw [Lib.splitB_data];simp [Lib.split,Lib.countB]
def E4 (r:Option (List (List UInt8))) (w:World) (e:Ending) (w':World):Prop:=
 (∃l a n c ks,r=some l/\e= .returned (.tuple #[.slice a n c, .int .i64 0])/\ks.length=n/\ks.map (·.data.toList)=l/\aM a n c/\bC w' (fun b=>w.heap.size<=b) a ks/\Ext w w')\/
 (r=none/\e= .returned (.tuple #[.slice none 0 0, .int .i64 1])/\Ext w w')
def q9 (s:List UInt8) (i:Nat):Prop:=s[i]? =some 126-> (s[i+1]? =some 48\/s[i+1]? =some 49)
theorem YW (x:UInt8) (r:List UInt8):lv (x::r)=((x !=126||(match r with|c::_=>c==48||c==49| []=>false))&&lv r):=by
 cases r<;>rfl
theorem JN (s:List UInt8):lv s=true↔∀i,q9 s i:=by
 induction s with
 |nil=>simp [lv,q9]
 |cons x r ih=>
  rw [YW,Bool.and_eq_true,ih];constructor
  ·rintro⟨h1,h2⟩ i
   cases i with
   |zero=>
    intro hx;simp only [List.getElem?_cons_zero,Option.some.injEq] at hx;subst hx
    cases r with
    |nil=>simp at h1
    |cons c t=>simpa [q9] using h1
   |succ i=>simpa [q9] using h2 i
  ·intro h
   refine⟨?_,fun i=>by simpa [q9] using h (i+1)⟩;have h0:=h 0;by_cases hx:x=126
   ·subst hx
    have:=h0 rfl
    cases r with
    |nil=>simp at this
    |cons c t=>simpa using this
   ·simp [hx]
theorem YX {p:ah} (h:p.data.toList≠ []) (hb:¬(Lib.hasPrefix p.data.toList [47]=true/\p.size<=2000)):jQ p.data.toList=none:=by
 unfold jQ
 cases hp:p.data.toList with
 |nil=>exact absurd hp h
 |cons c r=>
  have hsz:p.size=(c::r).length:=by rw [<-hp];exact Array.length_toList.symm
  simp only;rw [if_neg];rintro⟨rfl,h2⟩;refine hb ⟨?_,by omega⟩;rw [hp];simp [Lib.hasPrefix,List.isPrefixOf]
theorem YY (p:ah) (w:World) (h0:p.data.toList= []\/ (p.data.toList≠ []/\¬(Lib.hasPrefix p.data.toList [47]=true/\p.size<=2000))):
 Calls prog 43 #[.string p] w (E4 (jQ p.data.toList) w):=by
 rcases h0 with h|⟨h,hb⟩
 ·have hp:p=⟨#[]⟩:=by obtain⟨⟨l⟩⟩:=p;simp only at h;subst h;rfl
  subst hp;go_enter func43,ntmps43;go_wp2_with fail;go_ret2;exact .inl ⟨[],none,0,0, [],rfl,rfl,rfl,rfl,aM.nil, .inl rfl,Xt⟩
 ·have hn:=YX h hb
  have h1:p.toList.isEmpty=false:=by rw [ByteArray.toList_eq];cases hq:p.data.toList with|nil=>exact absurd hq h|cons=>rfl
  have h2:¬p.toList= []:=by rw [ByteArray.toList_eq];exact h
  rw [hn];clear hn
  cases hx:Lib.hasPrefix p.data.toList [47]
  ·have pY:∀w,Calls prog 65 #[.string p, .string ⟨#[47]⟩] w fun e w'=>∃q,e= .returned (.tuple #[.string q, .bool false])/\w'=w:=fun w=>by
    have hx':Lib.hasPrefix p.data.toList (⟨#[47]⟩:ah).data.toList=false:=hx;refine(Tryz.strings_CutPrefix p ⟨#[47]⟩ w).mono ?_;rintro e w' ⟨rfl,rfl⟩;exact⟨⟨(Lib.trimPrefix p.data.toList (⟨#[47]⟩:ah).data.toList).toArray⟩,by rw [hx'],rfl⟩
   clear hb hx;go_enter func43,ntmps43;go_wp2_with (go_at_call 65;refine(pY _).mono ?_;rintro e w1 ⟨q,rfl,rfl⟩);go_ret2;exact .inr ⟨rfl,rfl,Xt⟩
  ·have pY:∀w,Calls prog 65 #[.string p, .string ⟨#[47]⟩] w fun e w'=>∃q,e= .returned (.tuple #[.string q, .bool true])/\w'=w:=fun w=>by
    have hx':Lib.hasPrefix p.data.toList (⟨#[47]⟩:ah).data.toList=true:=hx;refine(Tryz.strings_CutPrefix p ⟨#[47]⟩ w).mono ?_;rintro e w' ⟨rfl,rfl⟩;exact⟨⟨(Lib.trimPrefix p.data.toList (⟨#[47]⟩:ah).data.toList).toArray⟩,by rw [hx'],rfl⟩
   have hs:(2000:Int)<(p.size:Int):=by have:¬p.size<=2000:=fun h=>hb ⟨hx,h⟩;omega
   clear hb hx;go_enter func43,ntmps43;go_wp2_with (go_at_call 65;refine(pY _).mono ?_;rintro e w1 ⟨q,rfl,rfl⟩);go_ret2;exact .inr ⟨rfl,rfl,Xt⟩
theorem M7 (s:List UInt8):(Lib.split s [47]).length<=s.length+1:=by
 induction s with
 |nil=>rw [Cg];simp
 |cons b l ih=>
  by_cases h:b=47
  ·subst h;rw [Ch];simp only [List.length_cons];omega
  ·rw [zZ h]
   cases hs:Lib.split l [47] with
   |nil=>simp [ahead]
   |cons p ps=>rw [hs] at ih;simp only [ahead,List.length_cons] at ih⊢;omega
theorem M8 (s:List UInt8):∀q∈Lib.split s [47],q.length<=s.length:=by
 induction s with
 |nil=>rw [Cg];simp
 |cons b l ih=>
  by_cases h:b=47
  ·subst h;rw [Ch]
   intro q hq;rcases List.mem_cons.1 hq with rfl|hq
   ·simp
   ·have:=ih q hq;simp only [List.length_cons];omega
  ·rw [zZ h]
   cases hs:Lib.split l [47] with
   |nil=>simp [ahead]
   |cons p ps=>
    rw [hs] at ih;intro q hq;simp only [ahead,List.mem_cons] at hq;rcases hq with rfl|hq
    ·have:=ih p (by simp);simp only [List.length_cons];omega
    ·have:=ih q (by simp [hq]);simp only [List.length_cons];omega
theorem YZ (r:List UInt8) (h:(47::r:List UInt8).length<=2000):jQ (47::r)=if(Lib.split r [47]).all lv=true then some ((Lib.split r [47]).map l9) else none:=by
 unfold jQ;simp only;rw [if_pos ⟨trivial,h⟩]
theorem JO {q:ah} {j:Nat} (h:j<q.size):q.data.toList[j]? =some q[j]:=by
 rw [List.getElem?_eq_getElem (by simpa using h)];rfl
theorem ra {c:UInt8} {n:Nat} (hn:n<256) (h:(c.toNat:Int)=n):c=UInt8.ofNat n:=by
 apply UInt8.toNat_inj.1;simp;omega
theorem Y0 (p:ah) (r:List UInt8) (hp:p.data.toList=47::r) (hs:p.size<=2000) (w:World) (hm:fL w):Calls prog 43 #[.string p] w (E4 (jQ p.data.toList) w):=by
 have hsz:p.size=r.length+1:=by have:p.size=p.data.toList.length:=Array.length_toList.symm;rw [this,hp];rfl
 have zN:=YZ r (by simp;omega);rw [<-hp] at zN;have Hn:=ae zN;have pY:∀w,Calls prog 65 #[.string p, .string ⟨#[47]⟩] w fun e w'=>e= .returned (.tuple #[.string ⟨r.toArray⟩, .bool true])/\w=w':=fun w=>by
  have hx:Lib.hasPrefix p.data.toList (⟨#[47]⟩:ah).data.toList=true:=by rw [hp];simp [Lib.hasPrefix,List.isPrefixOf]
  refine(Tryz.strings_CutPrefix p ⟨#[47]⟩ w).mono ?_;rintro e w' ⟨rfl,rfl⟩;have ht:Lib.trimPrefix p.data.toList (⟨#[47]⟩:ah).data.toList=r:=by rw [Lib.trimPrefix,if_pos hx,hp];rfl
  exact⟨by rw [hx,ht],rfl⟩
 have h1:p.toList.isEmpty=false:=by rw [ByteArray.toList_eq,hp];rfl
 have h2:¬p.toList= []:=by rw [ByteArray.toList_eq,hp];simp
 have hs1:¬(2000:Int)<(p.size:Int):=by omega
 have hs2:(p.size:Int)<=2000:=by omega
 obtain⟨i0,hi,hz0,hz1,Y1⟩:=info_parts Tryz.vP;clear zN hp;go_enter func43,ntmps43
 go_wp2_with (first
  |(go_at_call 65;refine(pY _).mono ?_;rintro e w1 ⟨rfl,rfl⟩)
  |(go_at_call 66;refine(YV r (by omega) _ (hm.ext Xt)).mono ?_;rintro e w1 ⟨ps,hps,rfl,rfl⟩))
 refine aI (R:=fun wx=>af wx w.heap.size (ps.map Value.string).toArray 9/\Ext w wx) ⟨aj,Xt⟩ ?_;rintro wx ⟨hB,hx⟩;have hmx:=hm.ext hx;have hpl:ps.length<=2000:=by have h:=M7 r;rw [<-hps] at h;simp only [List.length_map] at h;omega
 have xX:∀i (h:i<ps.length),(ps[i]).size<=2000:=by intro i h;have h3:=M8 r (ps[i]).data.toList (by rw [<-hps];exact List.mem_map_of_mem (List.getElem_mem h));have h4:(ps[i]).size=(ps[i]).data.toList.length:=Array.length_toList.symm;omega
 have hcell:∀i (h:i<ps.length),wx.cell? ⟨w.heap.size,i,none⟩=some (.string ps[i]):=by intro i h;rw [hB.cells i];simp [h]
 have mD:=ae hps;clear hps hB hm pY h1 h2 hs1 hs2
 go_loopg [6,8,9,27] ps.length (fun g t6 _ _ i wr=>∃(k:Nat) (a2:aq) (c2:Nat) (ks:List ah),k<=ps.length/\i= .int .i64 k/\g=ps.length-k/\t6= .slice a2 k c2/\
  (∀i (h:i<ps.length),i<k->lv (ps[i]).data.toList=true)/\ks.map (·.data.toList)=(ps.take k).map (fun q=>l9 q.data.toList)/\wr.ownsRow wx.heap.size 9 1 (.slice a2 k c2) k (ks.map Value.string)/\Ext wx wr)
 case atStart=>exact⟨0,none,0, [],by omega,rfl,rfl,rfl,fun i _ h=>by omega,by simp,World.ownsRow_nil _ _ _ _,Ext.refl _⟩
 case round=>
  obtain⟨k,a2,c2,ks,hk,rfl,rfl,rfl,htl,hks,hown,JQ⟩:=hrel;have zS:=ae htl;have Co:=ae hks;have bW:=ae hown;clear htl hks hown;by_cases hlt:k<ps.length
  ·have d0:=JQ.cell (hcell k hlt)
   have xu:=xX k hlt;clear hcell xX;obtain⟨q,hq⟩:∃q,ps[k]=q:=⟨_,rfl⟩;rw [hq] at d0 xu;have Hq:=ae hq;clear hq;have hmr:=hmx.ext JQ;go_wp2_with fail
   go_loopg [9,33] q.size (fun g _ i wi=>∃j:Nat,j<=q.size/\i= .int .i64 j/\g=q.size-j/\ (∀i,i<j->q9 q.data.toList i)/\wi=wr)
   case atStart=>exact⟨0,Nat.zero_le _,rfl,rfl,fun i h=>by omega,rfl⟩
   case round=>
    obtain⟨j,hj,rfl,rfl,PL,rfl⟩:=hrel;have E5:=ae PL;clear PL;by_cases hjl:j<q.size
    ·have b0:=JO hjl
     by_cases c:(q[j].toNat:Int)=126
     ·have cb:((q[j].toNat:Int)==126)=true:=by simpa using c
      have PN:q.data.toList[j]? =some 126:=by rw [b0,ra (n:=126) (by omega) c];rfl
      by_cases e:j+1<q.size
      ·have b1:=JO e
       have e1:((j:Int)+1==(q.size:Int))=false:=by simp;omega
       by_cases z:(q[j+1].toNat:Int)=48
       ·have zb:((q[j+1].toNat:Int)==48)=true:=by simpa using z
        have zc:((q[j+1].toNat:Int) !=48)=false:=by simpa using z
        have Hg:=ae (show q9 q.data.toList j from fun _=> .inl (by rw [b1,ra (n:=48) (by omega) z];rfl));go_wp2_with fail;go_roundg (q.size-(j+1))
        case measure=>omega
        case rel=>exact⟨j+1,by omega,by go_num,rfl,fun i h=>by
         by_cases hij:i=j
         ·subst hij;exact Hg.out
         ·exact E5.out i (by omega),rfl⟩
       ·have zb:((q[j+1].toNat:Int)==48)=false:=by simpa using z
        have zc:((q[j+1].toNat:Int) !=48)=true:=by simpa using z
        by_cases o:(q[j+1].toNat:Int)=49
        ·have ob:((q[j+1].toNat:Int)==49)=true:=by simpa using o
         have oc:((q[j+1].toNat:Int) !=49)=false:=by simpa using o
         have Hg:=ae (show q9 q.data.toList j from fun _=> .inr (by rw [b1,ra (n:=49) (by omega) o];rfl));go_wp2_with fail;go_roundg (q.size-(j+1))
         case measure=>omega
         case rel=>exact⟨j+1,by omega,by go_num,rfl,fun i h=>by
          by_cases hij:i=j
          ·subst hij;exact Hg.out
          ·exact E5.out i (by omega),rfl⟩
        ·have ob:((q[j+1].toNat:Int)==49)=false:=by simpa using o
         have oc:((q[j+1].toNat:Int) !=49)=true:=by simpa using o
         have Hb:=ae (show¬q9 q.data.toList j from fun h=>by
          rcases h PN with h|h
          ·rw [b1] at h;simp only [Option.some.injEq] at h;rw [h] at z;exact z rfl
          ·rw [b1] at h;simp only [Option.some.injEq] at h;rw [h] at o;exact o rfl)
         go_wp2_with fail;go_ret2;refine .inr ⟨?_,rfl,Xt⟩;rw [Hn.out,if_neg];intro h;have h1:=List.all_eq_true.1 h q.data.toList (by rw [<-mD.out];exact List.mem_map_of_mem (by rw [<-Hq.out];exact List.getElem_mem hlt));exact Hb.out ((JN _).1 h1 j)
      ·have e1:((j:Int)+1==(q.size:Int))=true:=by simp;omega
       have Hb:=ae (show¬q9 q.data.toList j from fun h=>by
        have:q.data.toList[j+1]? =none:=List.getElem?_eq_none (by rw [Array.length_toList];exact Nat.le_of_not_lt e)
        rcases h PN with h|h<;>rw [this] at h<;>cases h)
       go_wp2_with fail;go_ret2;refine .inr ⟨?_,rfl,Xt⟩;rw [Hn.out,if_neg];intro h;have h1:=List.all_eq_true.1 h q.data.toList (by rw [<-mD.out];exact List.mem_map_of_mem (by rw [<-Hq.out];exact List.getElem_mem hlt));exact Hb.out ((JN _).1 h1 j)
     ·have cb:((q[j].toNat:Int)==126)=false:=by simpa using c
      have Hg:=ae (show q9 q.data.toList j from fun h=>by rw [b0] at h;simp only [Option.some.injEq] at h;rw [h] at c;exact absurd rfl c);go_wp2_with fail;go_roundg (q.size-(j+1))
      case measure=>omega
      case rel=>exact⟨j+1,by omega,by go_num,rfl,fun i h=>by
       by_cases hij:i=j
       ·subst hij;exact Hg.out
       ·exact E5.out i (by omega),rfl⟩
    ·obtain rfl:j=q.size:=by omega
     have hall:lv q.data.toList=true:=(JN _).2 fun i=>by
      by_cases h:i<q.size
      ·exact E5.out i h
      ·intro h2
       rw [List.getElem?_eq_none (by rw [Array.length_toList];exact Nat.le_of_not_lt h)] at h2
       cases h2
     have vH:=ae hall;clear hall;have h5:=YT q.data.toList;have h6:q.data.toList.length=q.size:=Array.length_toList;go_wp2_with fail;(refine(E3 q [126,49] [47] (by simp) (by decide) (by simp) (by omega) _ (hmr.ext Xt)).mono ?_);rintro e w1 ⟨rfl,h1⟩;go_wp2_with fail;(refine(E3 ⟨(Lib.replaceAll q.data.toList [126,49] [47]).toArray⟩ [126,48] [126] (by simp) (by decide) (by simp) (by rw [JM];omega) _ (hmr.ext Xt)).mono ?_);rintro e w2 ⟨rfl,h2⟩;obtain⟨nm,dZ⟩:∃nm:ah,(⟨(Lib.replaceAll (⟨(Lib.replaceAll q.data.toList [126,49] [47]).toArray⟩:ah).data.toList [126,48] [126]).toArray⟩:ah)=nm:=⟨_,rfl⟩;have E6:nm.data.toList=l9 q.data.toList:=by rw [<-dZ];rfl
     rw [dZ];have hx2:Ext wr w2:=Xt;have dC:=ae (eu bW.out hx2);have hz2:=hx2.size;have hz3:=JQ.size;go_wp2_with ((at_builtin;refine wpList_append_lies _ (by rfl) _ _ 33 (by rfl) wx.heap.size 9 i0 _ 1 16 underlying33 hi hz0 hz1 Y1 rfl (by decide) (.slice a2 k c2) k (ks.map Value.string) (by rfl) (dC.out.alloc _) ⟨w2.heap.size,0,none⟩ 1 1 [.string nm] (by rfl) (by rfl) (World.news_of_block (cs:= #[.string nm]) (t:=9) (fr:=(0,0)) (heap_alloc_new w2 _)) (by simp [Value.oneCell']) (by omega) (by unfold maxLen;omega) (by omega) (by simp;omega) _ rfl ?_;intro g6 bp w6 bz aW bX sU;have iC:=ae aW;have gL:=ae bz;clear aW bz bX));have bS:Ext wx w6:=Ext.grown (b:=w2.alloc _) Xt iC.out (fun g hg=>by have:=(bW.out.lt g hg).1;omega);go_roundg (ps.length-(k+1))
     case measure=>omega
     case rel=>
      refine⟨k+1,_,_,ks++ [nm],by omega,by go_num,rfl,rfl,fun i h hik=> ?_,?_,?_,Xt⟩
      ·by_cases e:i=k
       ·subst e;rw [Hq.out];exact vH.out
       ·exact zS.out i h (by omega)
      ·rw [List.map_append,Co.out,List.take_succ_eq_append_getElem hlt,List.map_append]
       simp only [List.map_cons,List.map_nil,E6,Hq.out]
      ·rw [List.map_append];exact gL.out
  ·obtain rfl:k=ps.length:=by omega
   have hkl:ks.length=ps.length:=by have:=congrArg List.length Co.out;simpa using this
   go_wp2_with fail;go_ret2;obtain⟨a4,c4,cM,z8,-,hst⟩:=dK.strs (base:=wx.heap.size) (ks:=ks) ⟨hkl,bW.out⟩;simp only [Value.slice.injEq,true_and] at cM;obtain⟨rfl,rfl⟩:=cM;refine .inl ⟨_,a2,ps.length,c2,ks,?_,rfl,hkl,rfl,z8,hst.keep (fun _ _ _=>rfl) (fun b h _=>by have:=hx.size;omega),Xt⟩;rw [Hn.out,if_pos,Co.out,List.take_of_length_le (Nat.le_refl _),<-mD.out,List.map_map]
   ·rfl
   ·rw [<-mD.out,List.all_eq_true]
    intro x hx;obtain⟨q,hq,rfl⟩:=List.mem_map.1 hx;obtain⟨i,hi,rfl⟩:=List.getElem_of_mem hq;exact zS.out i hi hi
theorem Na (p:ah) (hs:p.size<=1073741824) (w:World) (hm:fL w):Calls prog 43 #[.string p] w (E4 (jQ p.data.toList) w):=by
 by_cases h:Lib.hasPrefix p.data.toList [47]=true/\p.size<=2000
 ·cases hp:p.data.toList with
  |nil=>rw [hp] at h;simp [Lib.hasPrefix,List.isPrefixOf] at h
  |cons c r=>
   have hc:c=47:=by have:=h.1;rw [hp] at this;simp [Lib.hasPrefix,List.isPrefixOf] at this;exact this.symm
   subst hc;rw [<-hp];exact Y0 p r hp h.2 w hm
 ·refine YY p w ?_
  by_cases h0:p.data.toList= []
  ·exact .inl h0
  ·exact .inr ⟨h0,h⟩
theorem Y2 (ks:List ah) {k:Nat} (h:k<ks.length):joinL ((ks.take (k+1)).map (·.data.toList))=joinL ((ks.take k).map (·.data.toList))++47::kR (ks[k]).data.toList:=by
 unfold joinL;rw [List.take_succ_eq_append_getElem h,List.map_append,List.flatMap_append];simp only [List.map_cons,List.map_nil,List.flatMap_cons,List.flatMap_nil,List.append_nil]
theorem Y3 (a:aq) (n c:Nat) (ks:List ah) (S:aw) (w:World) (hks:bC w S a ks) (hn:ks.length=n) (hz:∀i (h:i<ks.length),(ks[i]).size<=2000000) (kx:n<=2000000) (hm:fL w):
 Calls prog 44 #[.slice a n c] w fun e w'=>∃s:ah,e= .returned (.string s)/\s.data.toList=joinL (ks.map (·.data.toList))/\Ext w w':=by
 subst hn;go_enter func44,ntmps44;go_wp2_with fail
 go_loopg [3,5,8] ks.length (fun g t3 _ i wr=>∃(k:Nat) (s:ah),k<=ks.length/\i= .int .i64 k/\g=ks.length-k/\t3= .string s/\s.data.toList=joinL ((ks.take k).map (·.data.toList))/\s.size<=k*4000001/\Ext w wr)
 case atStart=>exact⟨0,⟨#[]⟩,by omega,rfl,rfl,rfl,rfl,by decide,Ext.refl _⟩
 case round=>
  obtain⟨k,s,hk,rfl,rfl,rfl,hs,E7,hx⟩:=hrel;have Hs:=ae hs;clear hs;by_cases hlt:k<ks.length
  ·obtain⟨b,o,rfl,hS,hc⟩:=hks.resolve_left (by intro h;rw [h] at hlt;simp at hlt)
   have d0:=hx.cell (hc k hlt);have hz1:=hz k hlt;have Hj:=ae (Y2 ks hlt);clear hc hz;obtain⟨q,hq⟩:∃q,ks[k]=q:=⟨_,rfl⟩;rw [hq] at d0 hz1 Hj;clear hq;have h5:=YU q.data.toList;have h6:q.data.toList.length=q.size:=Array.length_toList;go_wp2_with fail;(refine(E3 q [126] [126,48] (by simp) (by decide) (by simp) (by omega) _ (hm.ext Xt)).mono ?_);rintro e w1 ⟨rfl,h1⟩;go_wp2_with fail;(refine(E3 ⟨(Lib.replaceAll q.data.toList [126] [126,48]).toArray⟩ [47] [126,49] (by simp) (by decide) (by simp) (by rw [JM];omega) _ (hm.ext Xt)).mono ?_);rintro e w2 ⟨rfl,h2⟩;obtain⟨nm,dZ⟩:∃nm:ah,(⟨(Lib.replaceAll (⟨(Lib.replaceAll q.data.toList [126] [126,48]).toArray⟩:ah).data.toList [47] [126,49]).toArray⟩:ah)=nm:=⟨_,rfl⟩;have E6:nm.data.toList=kR q.data.toList:=by rw [<-dZ];rfl
   rw [dZ];have hnz:nm.size<=4000000:=by have e1:=Pn q.data.toList;have e2:nm.size=nm.data.toList.length:=Array.length_toList.symm;rw [E6] at e2;omega
   have hk2:k*4000001<=2000000*4000001:=Nat.mul_le_mul_right _ (by omega);have c1:¬(⟨#[47]⟩:ah).size+nm.size>9223372036854775807:=by have:(⟨#[47]⟩:ah).size=1:=rfl;omega
   have e3:((⟨#[47]⟩:ah)++nm).size=1+nm.size:=by rw [ByteArray.size_append];rfl
   have c2:¬s.size+((⟨#[47]⟩:ah)++nm).size>9223372036854775807:=by rw [e3];omega
   go_wp2_with fail;go_roundg (ks.length-(k+1))
   case measure=>omega
   case rel=>exact⟨k+1,_,by omega,by go_num,rfl,rfl,by rw [Hj.out,<-Hs.out,<-E6];simp,by rw [ByteArray.size_append,e3,Nat.succ_mul];omega,Xt⟩
  ·obtain rfl:k=ks.length:=by omega
   go_wp2_with fail;go_ret;exact⟨s,rfl,by rw [Hs.out,List.take_length],Xt⟩
section
variable {P:Program}
theorem mF (w:World) (dT sT ty elem:TypeId) (K g o dLen dCap:Nat) (a:Addr) (sLen sCap:Nat) (cur:Array Value) (t:TypeId) (cs:List Value) (m:Nat)
 (hu:P.underlying dT=some (.slice elem)) (hs:(P.info? elem).map (·.size)=some K) (hm:Nat.min sLen dLen=m)
 (hg:w.heap[g]? =some (.cells cur t (0,0))) (hn:cs.length=m*K)
 (hsrc:∀j v,cs[j]? =some v->w.cell? (a.add j)=some v) (hfit:o+cs.length<=cur.size) (h1:∀v∈cs,v.oneCell'=true):
 (Builtin.copy_ #[dT,sT] ty #[.slice (some ⟨g,o,none⟩) dLen dCap, .slice (some a) sLen sCap]).run P w=
  .ok (goInt m) (w.setRow g (cur.toList.take o++cs++cur.toList.drop (o+cs.length)).toArray):=by
 subst hm;have hl:=run_firstCells_some (P:=P) w K (Nat.min sLen dLen) a sLen sCap cs hn hsrc;have hst:=run_storeCells_at P g o t cs 0 cur w hg (by simpa using hfit) h1;simp only [Nat.add_zero] at hst
 cases hq:P.info? elem with
 |none=>simp [hq] at hs
 |some i=>
  have hi:i.size=K:=by simpa [hq] using hs
  simp [Builtin.copy_,run_underlying hu,Builtin.lenOf,sizeOf,typeInfo,hq,hi,hl,hst]
theorem Y4 (z:Array Value):(Builtin.zeroCells z 1).toList=z.toList:=by
 simp [Builtin.zeroCells];apply List.ext_getElem
 ·simp
 ·intro i h1 h2
  have h:i<z.size:=by simpa using h2
  simp [Nat.mod_eq_of_lt h,h]
theorem G0 (w:World) (t e ty:TypeId) (z:Value) (ht:P.underlying t=some (.slice e)) (hv:∀w,(zeroValue e).run P w= .ok z w) (h1:∀u∈z.cells.toList,u.oneCell'=true) (g o c:Nat) (cur:Array Value) (T:TypeId)
 (hg:w.heap[g]? =some (.cells cur T (0,0))) (hfit:o+z.cells.size<=cur.size):
 (Builtin.clear_ #[t] ty #[.slice (some ⟨g,o,none⟩) 1 c]).run P w= .ok (.tuple #[]) (w.setRow g (cur.toList.take o++z.cells.toList++cur.toList.drop (o+z.cells.size)).toArray):=by
 have hst:=run_storeCells_at P g o T z.cells.toList 0 cur w hg (by simpa using hfit) h1;simp only [Nat.add_zero,Array.length_toList] at hst;simp [Builtin.clear_,run_underlying ht,hv,Y4,hst]
theorem zr {ops:Array Oper} {o:Oper} {a:Act} {w:World} {K:Act->World->Prop} {Q:Exit->Act->World->Prop} {E:Prop}
 (hg:o.guard=none) (d x:Operand) (dT sT:TypeId) (hop:o.op=Op.call {callee:=Callee.builtin Builtin.append,args:= #[d,x],argTypes:= #[dT,sT]})
 (v u:Value) (hd:a.eval d=v) (hx:a.eval x=u) {v':Value} {w':World} (hr:(Builtin.append_ #[dT,sT] o.type #[v,u]).run P w= .ok v' w') (hK:K (a.put o.dst v') w'):
 if Region.wanted o (yielded ops a.tmps)=true then Oper.wp P o a w K Q else E:=by
 have hw:Region.wanted o (yielded ops a.tmps)=true:=by simp [Region.wanted,hg]
 rw [if_pos hw];unfold Oper.wp;simp [execOp,hop,resolve,invoke,builtin,hd,hx,hr,Result.andThen];exact hK
end
theorem pz {w:World} {base e K:Nat} {v:Value} {n:Nat} {xs:List Value} (h:w.ownsRow base e K v n xs) (hn:0<n):
 ∃g cap cur,v= .slice (some ⟨g,0,none⟩) n cap/\base<=g/\w.heap[g]? =some (.cells cur e (0,0))/\n<=cap/\cap<=maxLen/\cur.size=cap*K/\cur.toList.take (n*K)=xs:=by
 rcases h.2 with⟨-,h0⟩|h
 ·omega
 ·exact h
theorem qC {w:World} {base e K g n cap:Nat} {cur:Array Value} {xs:List Value} (hb:base<=g) (hg:w.heap[g]? =some (.cells cur e (0,0))) (hn:n<=cap) (hm:cap<=maxLen) (hs:cur.size=cap*K) (ht:cur.toList.take (n*K)=xs):
 w.ownsRow base e K (.slice (some ⟨g,0,none⟩) n cap) n xs:=by
 refine⟨?_, .inr ⟨g,cap,cur,rfl,hb,hg,hn,hm,hs,ht⟩⟩;rw [<-ht,List.length_take,Array.length_toList,hs];have:=Nat.mul_le_mul_right K hn;omega
theorem jo (w:World) (g:Nat) (cs:Array Value):w.grownBy (w.setRow g cs) (some g):=
 ⟨rfl,rfl,rfl,by simp,fun k _ hk=>setRow_other w g k cs (fun e=>hk (by rw [e]))⟩
theorem mW {w w':World} {r:Option Nat} (h:w.drew.grownBy w' r):w.grownBy w' r:=⟨h.os,h.tape,h.output,h.size,h.block⟩
theorem qD {a b c:World} {r:Option Nat} (h:a.grownBy b r) (k:b.grownBy c r):a.grownBy c r:=
 ⟨k.os.trans h.os,k.tape.trans h.tape,k.output.trans h.output,Nat.le_trans h.size k.size,fun i hi hr=>(k.block i (Nat.lt_of_lt_of_le hi h.size) hr).trans (h.block i hi hr)⟩
theorem E8 {α:Type} (cur:List α) (new:List α) (a b:Nat) (hab:a<=b) (hb:b+new.length<=cur.length) (cs:List α) (hcs:cs=(cur.take b).drop a):
 let c1:=cur.take (a+new.length)++cs++cur.drop (a+new.length+cs.length)
 (c1.take a++new++c1.drop (a+new.length)).take (b+new.length)=(cur.take b).take a++new++(cur.take b).drop a/\ (c1.take a++new++c1.drop (a+new.length)).length=cur.length/\c1.length=cur.length:=by
 subst hcs;intro c1;have hl:((cur.take b).drop a).length=b-a:=by simp;omega
 have l1:c1.length=cur.length:=by show (cur.take (a+new.length)++(cur.take b).drop a++cur.drop (a+new.length+((cur.take b).drop a).length)).length=_;rw [List.length_append,List.length_append,hl];simp;omega
 refine⟨?_,?_,l1⟩
 ·have e1:c1.take a=(cur.take b).take a:=by
   show (cur.take (a+new.length)++(cur.take b).drop a++cur.drop (a+new.length+((cur.take b).drop a).length)).take a=_;rw [List.append_assoc,List.take_append_of_le_length (by simp;omega),List.take_take,List.take_take];congr 1;omega
  have e2:(c1.drop (a+new.length))=(cur.take b).drop a++cur.drop (a+new.length+((cur.take b).drop a).length):=by
   show (cur.take (a+new.length)++(cur.take b).drop a++cur.drop (a+new.length+((cur.take b).drop a).length)).drop (a+new.length)=_;rw [List.append_assoc];have:(cur.take (a+new.length)).length=a+new.length:=by simp;omega
   rw [List.drop_append_of_le_length (by omega),List.drop_of_length_le (by omega),List.nil_append]
  rw [e1,e2];have l2:((cur.take b).take a++new++(cur.take b).drop a).length=b+new.length:=by simp;omega
  rw [<-List.append_assoc,<-l2,List.take_left]
 ·have:(c1.take a).length=a:=by rw [List.length_take,l1];omega
  rw [List.length_append,List.length_append,this,List.length_drop,l1];omega
theorem E9 {α:Type} (xs new z1 z2:List α) (a:Nat) (ha:a<=xs.length) (hz:z1.length=new.length+(xs.length-a)):
 let c0:=xs.take a++z1++z2
 let c1:=c0.take a++new++c0.drop (a+new.length)
 (c1.take (a+new.length)++xs.drop a++c1.drop (a+new.length+(xs.drop a).length)).take (xs.length+new.length)=xs.take a++new++xs.drop a/\
 (c1.take (a+new.length)++xs.drop a++c1.drop (a+new.length+(xs.drop a).length)).length=c0.length/\c1.length=c0.length:=by
 intro c0 c1;have l0:c0.length=xs.length+new.length+z2.length:=by show (xs.take a++z1++z2).length=_;simp;omega
 have hd:(xs.drop a).length=xs.length-a:=by simp
 have e0:c0.take a=xs.take a:=by show (xs.take a++z1++z2).take a=_;rw [List.append_assoc,List.take_append_of_le_length (by simp;omega),List.take_take,Nat.min_self]
 have lt:(c0.take a).length=a:=by rw [List.length_take,l0];omega
 have l1:c1.length=c0.length:=by show (c0.take a++new++c0.drop (a+new.length)).length=_;rw [List.length_append,List.length_append,lt,List.length_drop,l0];omega
 have e1:c1.take (a+new.length)=xs.take a++new:=by show (c0.take a++new++c0.drop (a+new.length)).take (a+new.length)=_;rw [List.take_append_of_le_length (by rw [List.length_append,lt];omega),List.take_of_length_le (by rw [List.length_append,lt];omega),e0]
 refine⟨?_,?_,l1⟩
 ·rw [e1]
  have l2:(xs.take a++new++xs.drop a).length=xs.length+new.length:=by simp;omega
  rw [<-l2,List.take_left]
 ·have:(c1.take (a+new.length)).length=a+new.length:=by rw [List.length_take,l1,l0];omega
  rw [List.length_append,List.length_append,this,hd,List.length_drop,l1,l0];omega
theorem GZ {α:Type} (cur z:List α) (a k b:Nat) (hab:a+k<=b) (hb:b<=cur.length) (hz:z.length=k) (cs:List α) (hcs:cs=(cur.take b).drop (a+k)):
 let c1:=cur.take a++cs++cur.drop (a+cs.length)
 (c1.take (b-k)++z++c1.drop (b-k+k)).take (b-k)=(cur.take b).take a++(cur.take b).drop (a+k)/\ (c1.take (b-k)++z++c1.drop (b-k+k)).length=cur.length/\c1.length=cur.length:=by
 subst hcs;intro c1;have hl:((cur.take b).drop (a+k)).length=b-(a+k):=by simp;omega
 have ha:(cur.take a).length=a:=by simp;omega
 have l1:c1.length=cur.length:=by show (cur.take a++(cur.take b).drop (a+k)++cur.drop (a+((cur.take b).drop (a+k)).length)).length=_;rw [List.length_append,List.length_append,hl,ha,List.length_drop];omega
 have e1:c1.take (b-k)=(cur.take b).take a++(cur.take b).drop (a+k):=by
  show (cur.take a++(cur.take b).drop (a+k)++cur.drop (a+((cur.take b).drop (a+k)).length)).take (b-k)=_;have l2:(cur.take a++(cur.take b).drop (a+k)).length=b-k:=by rw [List.length_append,ha,hl];omega
  rw [<-l2,List.take_left,List.take_take];congr 2;omega
 have lt:(c1.take (b-k)).length=b-k:=by rw [List.length_take,l1];omega
 refine⟨?_,?_,l1⟩
 ·rw [List.append_assoc,List.take_append_of_le_length (by omega),List.take_of_length_le (by omega),e1]
 ·rw [List.length_append,List.length_append,lt,hz,List.length_drop,l1]
  omega
theorem Y5 (base g m cap k:Nat) (cur:Array Value) (w:World) (hb:base<=g) (hg:w.heap[g]? =some (.cells cur 9 (0,0))) (hnc:m<cap) (hm:cap<=maxLen) (hcs:cur.size=cap*1)
 (hk:k<=m) (h1c:∀u∈cur.toList.take (m+1),u.oneCell'=true):
 Calls prog 211 #[.slice (some ⟨g,0,none⟩) (m+1) cap, .int .i64 k, .int .i64 ((k:Int)+1)] w fun e w'=>e= .returned (.slice (some ⟨g,0,none⟩) m cap)/\
  w'.ownsRow base 9 1 (.slice (some ⟨g,0,none⟩) m cap) m ((cur.toList.take (m+1)).take (k)++(cur.toList.take (m+1)).drop (k+1))/\w.grownBy w' (some g):=by
 obtain⟨i0,hi,hz0,hz1,hz2⟩:=info_parts Tryz.vP;have hm2:cap<=9223372036854775807:=hm;have zq:(m+1)*1<=cap*1:=Nat.mul_le_mul_right _ hnc;obtain⟨cs,bU⟩:∃cs,cs=(cur.toList.take (m+1)).drop (k+1):=⟨_,rfl⟩;have hcl:cs.length=(m-k)*1:=by rw [bU];simp;omega
 have hdel:=GZ cur.toList ([Value.string ⟨#[]⟩]:List Value) (k) 1 (m+1) (by omega) (by rw [Array.length_toList,hcs];omega) rfl cs (by rw [bU];first|done|(congr 1<;>omega));simp only at hdel;rw [show m+1-1=m by omega] at hdel;obtain⟨ay,hl2,aS⟩:=hdel;obtain⟨c1,hc1⟩:∃c1,c1=cur.toList.take (k)++cs++cur.toList.drop (k+cs.length):=⟨_,rfl⟩;rw [<-hc1] at ay hl2 aS;obtain⟨W1,hW1⟩:∃W1,W1=w.drew.setRow g c1.toArray:=⟨_,rfl⟩;have hg1:W1.heap[g]? =some (.cells c1.toArray 9 (0,0)):=by rw [hW1];exact setRow_heap w.drew g cur _ 9 _ hg
 have hap:∀(ad:Addr) ty,(cap=k+1\/ad=⟨g,k+1,none⟩)-> (Builtin.append_ #[33,33] ty #[.slice (some ⟨g,0,none⟩) k cap, .slice (some ad) (m+1-(k+1)) (cap-(k+1))]).run prog w.drew= .ok (.slice (some ⟨g,0,none⟩) m cap) W1:=fun ad ty had=>by
  have hsrc:∀j u,cs[j]? =some u->w.drew.cell? (ad.add j)=some u:=by
   rcases had with h|rfl
   ·have h0:m-k=0:=by omega
    have:cs.length=0:=by rw [hcl,h0,Nat.zero_mul]
    obtain rfl:=List.eq_nil_of_length_eq_zero this;intro j u hj;simp at hj
   ·intro j v hj
    rw [Addr.add_lit,bU,List.getElem?_drop,List.getElem?_take] at*
    split at hj
    ·show w.cell? _=_
     rw [cell_of_row w g _ cur _ _ hg];simpa using hj
    ·cases hj
  have h:=run_append_room (P:=prog) w.drew 33 ty 9 i0 underlying33 hi g k cap cur hg ad (m+1-(k+1)) (cap-(k+1)) cs (by rw [hz1,hcl];first|done|(congr 1;omega)) hsrc (fun u hu=>h1c u (List.mem_of_mem_drop (by rw [<-bU];exact hu))) (by omega) (by rw [hz1,hcl,hcs];omega);rw [h,hW1,hc1,hz1];rw [show k+(m+1-(k+1))=m by omega]
  first|done|simp only [Nat.mul_one]
 obtain⟨W2,hW2⟩:∃W2,W2=W1.setRow g (c1.take (m)++([Value.string ⟨#[]⟩]:List Value)++c1.drop (m+1)).toArray:=⟨_,rfl⟩;have hsz1:c1.toArray.size=cap*1:=by rw [List.size_toArray,aS,Array.length_toList,hcs]
 have A3:∀ty,(Builtin.clear_ #[33] ty #[.slice (some ⟨g,m,none⟩) 1 (cap-m)]).run prog W1= .ok (.tuple #[]) W2:=fun ty=>by have hz:(Value.string ⟨#[]⟩:Value).cells.size=1:=rfl;have h:=G0 (P:=prog) W1 33 9 ty (Value.string ⟨#[]⟩) underlying33 (fun w=>by simp [Go.zeroValue,typeInfo,hi,hz0]) (by decide) g (m) (cap-m) c1.toArray 9 hg1 (by rw [hsz1,hz];omega);rw [h,hW2];rfl
 have iL:W2.ownsRow base 9 1 (.slice (some ⟨g,0,none⟩) m cap) m ((cur.toList.take (m+1)).take (k)++(cur.toList.take (m+1)).drop (k+1)):=by
  rw [hW2];refine qC hb (setRow_heap W1 g _ _ 9 _ hg1) (by omega) hm ?_ ?_
  ·rw [List.size_toArray,hl2,Array.length_toList,hcs]
  ·rw [show m*1=m by omega]
   rw [List.toList_toArray,ay]
   try(congr 2<;>omega)
 have iM:w.grownBy W2 (some g):=by rw [hW2,hW1];exact qD (mW (jo w.drew g _)) (jo _ g _)
 have mixed:prog.follows Departure.mixedOrders=true:=by kernel_rfl
 have hz3:¬((k:Int)=(k:Int)+1):=by omega
 have hb1:(0:Int)<= (k:Int)+1:=by omega
 have htn:((k:Int)+1).toNat=k+1:=by omega
 have hin:k<=cap:=by omega
 have bR:k+1<=cap:=by omega
 have bn:k<=k+1:=by omega
 have dv:k+1<=m+1:=by omega
 have fH:m+1<=cap:=by omega
 have bY:m<=m+1:=by omega
 have hb3:((k:Int)+1)<= ((m:Int)+1):=by omega
 have hcm:¬(cap=m):=by omega
 have hcm2:m+1-m=1:=by omega
 have lZ:=ae iL;have jq:=ae iM;clear iL iM hW2 hsz1 hW1 hg1 ay hl2 aS hc1 bU hcl hg h1c hcs hi hz0 hz1 hz2;by_cases uV:cap=k+1
 ·obtain rfl:m=k:=by omega
  subst uV;have qE:=fun ty=>hap ⟨g,0,none⟩ ty (.inl rfl);clear hap;have G3:(m:Int)<= (m:Int)+1:=by omega
  rw [show m+1-m=1 by omega] at A3;go_enter func211,ntmps211;go_wp2_with fail
  go_region_law_o (refine zr rfl _ _ 33 33 rfl _ _ (by simp [Act.eval,Act.put]) (by simp [Act.eval,Act.put]) (qE _) ?_)
  go_wp2;go_ret;exact⟨rfl,lZ.out,jq.out⟩
 ·have qE:=fun ty=>hap ⟨g,k+1,none⟩ ty (.inr rfl)
  clear hap;go_enter func211,ntmps211;go_wp2_with fail
  go_region_law_o (refine zr rfl _ _ 33 33 rfl _ _ (by simp [Act.eval,Act.put]) (by simp [Act.eval,Act.put,uV]) (qE _) ?_)
  go_wp2;go_ret;exact⟨rfl,lZ.out,jq.out⟩
theorem Y6 (base g m cap k:Nat) (cur:Array Value) (w:World) (hb:base<=g) (hg:w.heap[g]? =some (.cells cur 36 (0,0))) (hnc:m<cap) (hm:cap<=maxLen) (hcs:cur.size=cap*5)
 (hk:k<=m) (h1c:∀u∈cur.toList.take ((m+1)*5),u.oneCell'=true):
 Calls prog 212 #[.slice (some ⟨g,0,none⟩) (m+1) cap, .int .i64 k, .int .i64 ((k:Int)+1)] w fun e w'=>e= .returned (.slice (some ⟨g,0,none⟩) m cap)/\
  w'.ownsRow base 36 5 (.slice (some ⟨g,0,none⟩) m cap) m ((cur.toList.take ((m+1)*5)).take (k*5)++(cur.toList.take ((m+1)*5)).drop ((k+1)*5))/\w.grownBy w' (some g):=by
 obtain⟨i0,hi,hz0,hz1,hz2⟩:=info_parts Tryz.yj;have hm2:cap<=9223372036854775807:=hm;have zq:(m+1)*5<=cap*5:=Nat.mul_le_mul_right _ hnc;obtain⟨cs,bU⟩:∃cs,cs=(cur.toList.take ((m+1)*5)).drop ((k+1)*5):=⟨_,rfl⟩;have hcl:cs.length=(m-k)*5:=by rw [bU];simp;omega
 have hdel:=GZ cur.toList ([Value.int .i64 0, .int .i64 0, .string ⟨#[]⟩, .slice none 0 0, .slice none 0 0]:List Value) (k*5) 5 ((m+1)*5) (by omega) (by rw [Array.length_toList,hcs];omega) rfl cs (by rw [bU];first|done|(congr 1<;>omega));simp only at hdel;rw [show (m+1)*5-5=m*5 by omega] at hdel;obtain⟨ay,hl2,aS⟩:=hdel;obtain⟨c1,hc1⟩:∃c1,c1=cur.toList.take (k*5)++cs++cur.toList.drop (k*5+cs.length):=⟨_,rfl⟩;rw [<-hc1] at ay hl2 aS;obtain⟨W1,hW1⟩:∃W1,W1=w.drew.setRow g c1.toArray:=⟨_,rfl⟩;have hg1:W1.heap[g]? =some (.cells c1.toArray 36 (0,0)):=by rw [hW1];exact setRow_heap w.drew g cur _ 36 _ hg
 have hap:∀(ad:Addr) ty,(cap=k+1\/ad=⟨g,(k+1)*5,none⟩)-> (Builtin.append_ #[34,34] ty #[.slice (some ⟨g,0,none⟩) k cap, .slice (some ad) (m+1-(k+1)) (cap-(k+1))]).run prog w.drew= .ok (.slice (some ⟨g,0,none⟩) m cap) W1:=fun ad ty had=>by
  have hsrc:∀j u,cs[j]? =some u->w.drew.cell? (ad.add j)=some u:=by
   rcases had with h|rfl
   ·have h0:m-k=0:=by omega
    have:cs.length=0:=by rw [hcl,h0,Nat.zero_mul]
    obtain rfl:=List.eq_nil_of_length_eq_zero this;intro j u hj;simp at hj
   ·intro j v hj
    rw [Addr.add_lit,bU,List.getElem?_drop,List.getElem?_take] at*
    split at hj
    ·show w.cell? _=_
     rw [cell_of_row w g _ cur _ _ hg];simpa using hj
    ·cases hj
  have h:=run_append_room (P:=prog) w.drew 34 ty 36 i0 underlying34 hi g k cap cur hg ad (m+1-(k+1)) (cap-(k+1)) cs (by rw [hz1,hcl];first|done|(congr 1;omega)) hsrc (fun u hu=>h1c u (List.mem_of_mem_drop (by rw [<-bU];exact hu))) (by omega) (by rw [hz1,hcl,hcs];omega);rw [h,hW1,hc1,hz1];rw [show k+(m+1-(k+1))=m by omega]
  first|done|simp only [Nat.mul_one]
 obtain⟨W2,hW2⟩:∃W2,W2=W1.setRow g (c1.take (m*5)++([Value.int .i64 0, .int .i64 0, .string ⟨#[]⟩, .slice none 0 0, .slice none 0 0]:List Value)++c1.drop (m*5+5)).toArray:=⟨_,rfl⟩;have hsz1:c1.toArray.size=cap*5:=by rw [List.size_toArray,aS,Array.length_toList,hcs]
 have A3:∀ty,(Builtin.clear_ #[34] ty #[.slice (some ⟨g,m*5,none⟩) 1 (cap-m)]).run prog W1= .ok (.tuple #[]) W2:=fun ty=>by have hz:(.agg #[.int .i64 0, .int .i64 0, .string ⟨#[]⟩, .slice none 0 0, .slice none 0 0]:Value).cells.size=5:=rfl;have h:=G0 (P:=prog) W1 34 36 ty (.agg #[.int .i64 0, .int .i64 0, .string ⟨#[]⟩, .slice none 0 0, .slice none 0 0]) underlying34 (fun w=>by simp [Go.zeroValue,typeInfo,hi,hz0]) (by decide) g (m*5) (cap-m) c1.toArray 36 hg1 (by rw [hsz1,hz];omega);rw [h,hW2];rfl
 have iL:W2.ownsRow base 36 5 (.slice (some ⟨g,0,none⟩) m cap) m ((cur.toList.take ((m+1)*5)).take (k*5)++(cur.toList.take ((m+1)*5)).drop ((k+1)*5)):=by
  rw [hW2];refine qC hb (setRow_heap W1 g _ _ 36 _ hg1) (by omega) hm ?_ ?_
  ·rw [List.size_toArray,hl2,Array.length_toList,hcs]
  ·rw [show m*5=m*5 by omega]
   rw [List.toList_toArray,ay]
   try(congr 2<;>omega)
 have iM:w.grownBy W2 (some g):=by rw [hW2,hW1];exact qD (mW (jo w.drew g _)) (jo _ g _)
 have mixed:prog.follows Departure.mixedOrders=true:=by kernel_rfl
 have hz3:¬((k:Int)=(k:Int)+1):=by omega
 have hb1:(0:Int)<= (k:Int)+1:=by omega
 have htn:((k:Int)+1).toNat=k+1:=by omega
 have hin:k<=cap:=by omega
 have bR:k+1<=cap:=by omega
 have bn:k<=k+1:=by omega
 have dv:k+1<=m+1:=by omega
 have fH:m+1<=cap:=by omega
 have bY:m<=m+1:=by omega
 have hb3:((k:Int)+1)<= ((m:Int)+1):=by omega
 have hcm:¬(cap=m):=by omega
 have hcm2:m+1-m=1:=by omega
 have lZ:=ae iL;have jq:=ae iM;clear iL iM hW2 hsz1 hW1 hg1 ay hl2 aS hc1 bU hcl hg h1c hcs hi hz0 hz1 hz2;by_cases uV:cap=k+1
 ·obtain rfl:m=k:=by omega
  subst uV;have qE:=fun ty=>hap ⟨g,0,none⟩ ty (.inl rfl);clear hap;have G3:(m:Int)<= (m:Int)+1:=by omega
  rw [show m+1-m=1 by omega] at A3;go_enter func212,ntmps212;go_wp2_with fail
  go_region_law_o (refine zr rfl _ _ 34 34 rfl _ _ (by simp [Act.eval,Act.put]) (by simp [Act.eval,Act.put]) (qE _) ?_)
  go_wp2;go_ret;exact⟨rfl,lZ.out,jq.out⟩
 ·have qE:=fun ty=>hap ⟨g,(k+1)*5,none⟩ ty (.inr rfl)
  clear hap;go_enter func212,ntmps212;go_wp2_with fail
  go_region_law_o (refine zr rfl _ _ 34 34 rfl _ _ (by simp [Act.eval,Act.put]) (by simp [Act.eval,Act.put,uV]) (qE _) ?_)
  go_wp2;go_ret;exact⟨rfl,lZ.out,jq.out⟩
theorem acX (base g n cap k vb vc:Nat) (cur:Array Value) (new:List Value) (w:World) (TB:TypeId) (hb:base<=g) (hg:w.heap[g]? =some (.cells cur 36 (0,0))) (hnc:n<cap) (hm:cap<=maxLen) (hcs:cur.size=cap*5)
 (hk:k<n) (hB:af w vb new.toArray TB) (hvb:vb≠g) (hnew:new.length=5) (h1c:∀u∈cur.toList.take (n*5),u.oneCell'=true) (h1:∀u∈new,u.oneCell'=true):
 Calls prog 105 #[.slice (some ⟨g,0,none⟩) n cap, .int .i64 k, .slice (some ⟨vb,0,none⟩) 1 vc] w fun e w'=>e= .returned (.slice (some ⟨g,0,none⟩) (n+1) cap)/\
  w'.ownsRow base 36 5 (.slice (some ⟨g,0,none⟩) (n+1) cap) (n+1) ((cur.toList.take (n*5)).take (k*5)++new++(cur.toList.take (n*5)).drop (k*5))/\w.grownBy w' (some g):=by
 obtain⟨i0,hi,hz0,hz1,hz2⟩:=info_parts Tryz.yj;have hsz:(prog.info? 36).map (·.size)=some 5:=by rw [hi];simp [hz1]
 have hm2:cap<=9223372036854775807:=hm;have zq:(n+1)*5<=cap*5:=Nat.mul_le_mul_right _ hnc;have hB':w.heap[vb]? =some (.cells new.toArray TB (0,0)):=hB;have hov:∀lb cb,(callFunc 163 #[.slice (some ⟨vb,0,none⟩) 1 vc, .slice (some ⟨g,(k+1)*5,none⟩) lb cb]).run prog w= .ok (.value (.bool false)) w:=fun lb cb=>by
  rw [run_callFunc_extern func163 (by kernel_rfl) (by kernel_rfl) (by kernel_rfl) (e:=Extern.SlicesOverlaps.overlaps #[34,34] #[4]) (by kernel_rfl),
   Lib.run_overlaps_apart w 34 4 36 underlying34 5 (by intro w;simp [Go.sizeOf,typeInfo,hi,hz1]) ⟨vb,0,none⟩ ⟨g,(k+1)*5,none⟩ 1 vc lb cb hvb TB 36 new.length cur.size (by simp [World.shape?,hB']) (by simp [World.shape?,hg]) (by rw [hcs];omega) (hB.free 0) (hB.free new.length)]
  rfl
 obtain⟨cs,bU⟩:∃cs,cs=(cur.toList.take (n*5)).drop (k*5):=⟨_,rfl⟩;have hcl:cs.length=(n-k)*5:=by rw [bU];simp;omega
 have hcell:∀j v,cs[j]? =some v->w.drew.cell? ((⟨g,k*5,none⟩:Addr).add j)=some v:=fun j v hj=>by
  rw [Addr.add_lit,bU,List.getElem?_drop,List.getElem?_take] at*
  split at hj
  ·show w.cell? _=_
   rw [cell_of_row w g _ cur _ _ hg];simpa using hj
  ·cases hj
 have hlist:=E8 cur.toList new (k*5) (n*5) (by omega) (by rw [hnew,Array.length_toList,hcs];omega) cs bU;simp only at hlist;obtain⟨ay,hl2,aS⟩:=hlist;have nP:∀ty,(Builtin.copy_ #[34,34] ty #[.slice (some ⟨g,(k+1)*5,none⟩) (n-k) (cap-(k+1)), .slice (some ⟨g,k*5,none⟩) (n+1-k) (cap-k)]).run prog w.drew= .ok (goInt (n-k:Nat)) (w.drew.setRow g (cur.toList.take ((k+1)*5)++cs++cur.toList.drop ((k+1)*5+cs.length)).toArray):=fun ty=>
  mF w.drew _ _ ty 36 5 g ((k+1)*5) _ _ ⟨g,k*5,none⟩ _ _ cur 36 cs (n-k) underlying34 hsz (by simp only [Nat.min_def];split<;>omega) hg hcl hcell (by rw [hcl,hcs];omega) (fun v hv=>h1c v (List.mem_of_mem_drop (by rw [<-bU];exact hv)))
 have fq:(k+1)*5=k*5+new.length:=by omega
 obtain⟨c1,hc1⟩:∃c1,c1=cur.toList.take ((k+1)*5)++cs++cur.toList.drop ((k+1)*5+cs.length):=⟨_,rfl⟩;rw [<-hc1] at nP;rw [<-fq,<-hc1] at ay hl2 aS;obtain⟨W1,hW1⟩:∃W1,W1=w.drew.setRow g c1.toArray:=⟨_,rfl⟩;rw [<-hW1] at nP;have hg1:W1.heap[g]? =some (.cells c1.toArray 36 (0,0)):=by rw [hW1];exact setRow_heap w.drew g cur _ 36 _ hg
 have kY:∀ty,(Builtin.copy_ #[34,34] ty #[.slice (some ⟨g,k*5,none⟩) (n+1-k) (cap-k), .slice (some ⟨vb,0,none⟩) 1 vc]).run prog W1= .ok (goInt (1:Nat)) (W1.setRow g (c1.toArray.toList.take (k*5)++new++c1.toArray.toList.drop (k*5+new.length)).toArray):=fun ty=>
  mF W1 _ _ ty 36 5 g (k*5) _ _ ⟨vb,0,none⟩ _ _ c1.toArray 36 new 1 underlying34 hsz (by simp only [Nat.min_def];split<;>omega) hg1 (by omega) (fun j v hj=>by
   rw [Addr.add_lit,hW1,cell_setRow_other _ _ _ _ (by exact hvb)];show w.cell? _=_
   rw [cell_of_row w vb _ _ _ _ hB'];first|done|simpa using hj) (by simp only [List.size_toArray,aS,Array.length_toList,hcs,hnew];omega) h1
 rw [<-fq] at kY;simp only [List.toList_toArray] at kY;have mixed:prog.follows Departure.mixedOrders=true:=by kernel_rfl
 have hw1:IntKind.i64.wrap ((k:Int)+1)=(k:Int)+1:=by rw [IntKind.wrap_i64];omega
 have hz3:¬((k:Int)=(n:Int)):=by omega
 have hb1:(0:Int)<= (k:Int)+1:=by omega
 have htn:((k:Int)+1).toNat=k+1:=by omega
 have hb2:¬(cap=k+1):=by omega
 have hb3:(k:Int)<= (n:Int)+1:=by omega
 have hin:k<=n:=by omega
 have hb4:¬(cap=k):=by omega
 have iL:(W1.setRow g (c1.take (k*5)++new++c1.drop ((k+1)*5)).toArray).ownsRow base 36 5 (.slice (some ⟨g,0,none⟩) (n+1) cap) (n+1) ((cur.toList.take (n*5)).take (k*5)++new++(cur.toList.take (n*5)).drop (k*5)):=by
  refine qC hb (setRow_heap W1 g _ _ 36 _ hg1) hnc hm ?_ ?_
  ·rw [List.size_toArray,hl2,Array.length_toList,hcs]
  ·rw [<-ay,hnew]
   rw [show (n+1)*5=n*5+5 from by omega]
 have iM:w.grownBy (W1.setRow g (c1.take (k*5)++new++c1.drop ((k+1)*5)).toArray) (some g):=by rw [hW1];exact qD (mW (jo w.drew g _)) (jo _ g _)
 obtain⟨W2,hW2⟩:∃W2,W2=W1.setRow g (c1.take (k*5)++new++c1.drop ((k+1)*5)).toArray:=⟨_,rfl⟩;rw [<-hW2] at kY iL iM;have lZ:=ae iL;have jq:=ae iM;clear iL iM fq hW2 hW1 hg1 ay hl2 aS hc1 hcell bU hcl hg h1c h1 hcs hB hB';go_enter func105,ntmps105;go_wp2_with (simp only [hov])
 go_region_law_o (refine step_copy_runI rfl _ _ 34 34 rfl _ _ (by simp [Act.eval,Act.put]) (by simp [Act.eval,Act.put]) (nP _) ?_)
 go_wp2_with (at_builtin;refine wpList_copy_runI _ rfl _ _ 34 34 rfl _ _ rfl rfl (kY _) ?_);go_ret;exact⟨rfl,lZ.out,jq.out⟩
theorem acY (base g n cap k vb vc:Nat) (cur:Array Value) (new:List Value) (w:World) (TB:TypeId) (eB:base<=w.heap.size) (hg:w.heap[g]? =some (.cells cur 36 (0,0))) (hnc:n<=cap) (hfull:cap<n+1) (cZ:n<=1073741824) (hcs:cur.size=cap*5)
 (hk:k<n) (hB:af w vb new.toArray TB) (hnew:new.length=5) (h1c:∀u∈cur.toList.take (n*5),u.oneCell'=true) (h1:∀u∈new,u.oneCell'=true):
 Calls prog 105 #[.slice (some ⟨g,0,none⟩) n cap, .int .i64 k, .slice (some ⟨vb,0,none⟩) 1 vc] w fun e w'=>∃G,e= .returned (.slice (some ⟨w.heap.size,0,none⟩) (n+1) G)/\
  w'.ownsRow base 36 5 (.slice (some ⟨w.heap.size,0,none⟩) (n+1) G) (n+1) ((cur.toList.take (n*5)).take (k*5)++new++(cur.toList.take (n*5)).drop (k*5))/\Ext w w':=by
 obtain⟨i0,hi,hz0,hz1,hz2⟩:=info_parts Tryz.yj;have hsz:(prog.info? 36).map (·.size)=some 5:=by rw [hi];simp [hz1]
 obtain⟨cs,bU⟩:∃cs,cs=cur.toList.take (n*5):=⟨_,rfl⟩;rw [<-bU] at h1c⊢;have qi:n*5<=cap*5:=Nat.mul_le_mul_right _ hnc;have hcl:cs.length=n*5:=by rw [bU];simp;omega
 have uJ:g<w.heap.size:=lt_of_block hg;have Lx:vb<w.heap.size:=hB.lt;have hB':w.heap[vb]? =some (.cells new.toArray TB (0,0)):=hB;have hcell:∀j v,cs[j]? =some v->w.cell? ⟨g,j,none⟩=some v:=fun j v hj=>by
  rw [cell_of_row w g j cur _ _ hg];rw [bU,List.getElem?_take] at hj
  split at hj
  ·simpa using hj
  ·cases hj
 have hold:(Builtin.firstCells i0.size k (.slice (some ⟨g,0,none⟩) k cap)).run prog w.drew= .ok (cs.take (k*5)).toArray w.drew:=by
  rw [hz1]
  exact run_firstCells_some w.drew 5 k ⟨g,0,none⟩ k cap (cs.take (k*5)) (by rw [List.length_take];omega) (fun j v hj=>by
   rw [Addr.add_lit];rw [List.getElem?_take] at hj
   split at hj
   ·rw [Nat.zero_add];exact hcell j v hj
   ·cases hj)
 have hkk:(n:Int)+1-(k:Int)=((n+1-k:Nat):Int):=by omega
 have hik:k+(n+1-k)=n+1:=by omega
 have kX:∀ty,(Builtin.append_ #[34,3] ty #[.slice (some ⟨g,0,none⟩) k cap, .int .i64 ((n:Int)+1-(k:Int))]).run prog w=
  .ok (.slice (some ⟨w.heap.size,0,none⟩) (n+1) (grownCap w (n+1) cap 36)) (w.drew.alloc (.cells ((cs.take (k*5)).toArray++Builtin.zeroCells (Value.cells (.agg #[.int .i64 0, .int .i64 0, .string ⟨#[]⟩, .slice none 0 0, .slice none 0 0])) (n+1-k)++Builtin.zeroCells (Value.cells (.agg #[.int .i64 0, .int .i64 0, .string ⟨#[]⟩, .slice none 0 0, .slice none 0 0])) (grownCap w (n+1) cap 36-(n+1))) 36)):=fun ty=>by
  have h:=Lib.run_append_grow_zeros w 34 3 ty 36 i0 _ .i64 .i64 underlying34 underlying3 hi hz0 (some ⟨g,0,none⟩) k cap (cs.take (k*5)) hold (n+1-k) (by omega) (by omega) (by omega) (by omega) (by rw [hz2];omega) (by rw [hz2,hik];exact growslice_fits (by omega) (by omega));rw [hik] at h;rw [hkk];exact h
 obtain⟨G,hG⟩:∃G,G=grownCap w (n+1) cap 36:=⟨_,rfl⟩;have yO:n+1<=G:=by rw [hG];exact grownCap_ge w _ _ _
 have rT:G<=maxLen:=by rw [hG];exact grownCap_le_maxLen w (n+1) cap 36 (by unfold maxLen;omega)
 have LA:G<=9223372036854775807:=rT;rw [<-hG] at kX;obtain⟨z1,nQ⟩:∃z1,z1=(Builtin.zeroCells (Value.cells (.agg #[.int .i64 0, .int .i64 0, .string ⟨#[]⟩, .slice none 0 0, .slice none 0 0])) (n+1-k)).toList:=⟨_,rfl⟩;obtain⟨z2,nR⟩:∃z2,z2=(Builtin.zeroCells (Value.cells (.agg #[.int .i64 0, .int .i64 0, .string ⟨#[]⟩, .slice none 0 0, .slice none 0 0])) (G-(n+1))).toList:=⟨_,rfl⟩;have nS:z1.length=(n+1-k)*5:=by rw [nQ,Array.length_toList,size_zeroCells];simp [Value.cells]
 have rU:z2.length=(G-(n+1))*5:=by rw [nR,Array.length_toList,size_zeroCells];simp [Value.cells]
 obtain⟨c0,hc0⟩:∃c0:List Value,c0=cs.take (k*5)++z1++z2:=⟨_,rfl⟩;have hrow:(cs.take (k*5)).toArray++Builtin.zeroCells (Value.cells (.agg #[.int .i64 0, .int .i64 0, .string ⟨#[]⟩, .slice none 0 0, .slice none 0 0])) (n+1-k)++Builtin.zeroCells (Value.cells (.agg #[.int .i64 0, .int .i64 0, .string ⟨#[]⟩, .slice none 0 0, .slice none 0 0])) (G-(n+1))=c0.toArray:=by apply Array.toList_inj.1;rw [hc0,nQ,nR];simp
 rw [hrow] at kX;have hlist:=E9 cs new z1 z2 (k*5) (by omega) (by rw [nS,hnew,hcl];omega);simp only at hlist;rw [<-hc0] at hlist;obtain⟨ay,hl2,aS⟩:=hlist;have hl0:c0.length=G*5:=by rw [hc0,List.length_append,List.length_append,nS,rU,List.length_take,hcl];omega
 obtain⟨c1,hc1⟩:∃c1,c1=c0.take (k*5)++new++c0.drop (k*5+new.length):=⟨_,rfl⟩;rw [<-hc1] at ay hl2 aS;have fq:k*5+new.length=(k+1)*5:=by omega
 have nT:∀W:World,(∀b,W.heap[b]? =(w.drew.alloc (.cells c0.toArray 36)).heap[b]?)->W.heap[w.heap.size]? =some (.cells c0.toArray 36 (0,0)):=fun W h=>by rw [h];show (w.heap.push _)[w.heap.size]? =_;simp
 have yP:∀(W:World),(∀b,W.heap[b]? =(w.drew.alloc (.cells c0.toArray 36)).heap[b]?)->∀ty dc,(Builtin.copy_ #[34,34] ty #[.slice (some ⟨w.heap.size,k*5,none⟩) (n+1-k) dc, .slice (some ⟨vb,0,none⟩) 1 vc]).run prog W= .ok (goInt (1:Nat)) (W.setRow w.heap.size c1.toArray):=fun W hW ty dc=>by
  have h:=mF W 34 34 ty 36 5 w.heap.size (k*5) (n+1-k) dc ⟨vb,0,none⟩ 1 vc c0.toArray 36 new 1 underlying34 hsz (by simp only [Nat.min_def];split<;>omega) (nT W hW) (by omega) (fun j v hj=>by
   have yQ:W.heap[vb]? =some (.cells new.toArray TB (0,0)):=by rw [hW];show (w.heap.push _)[vb]? =_;rw [Array.getElem?_push,if_neg (by omega)];exact hB'
   rw [Addr.add_lit,cell_of_row W vb _ _ _ _ yQ];simpa using hj) (by rw [List.size_toArray,hl0,hnew];omega) h1
  simp only [List.toList_toArray] at h;rw [<-hc1] at h;exact h
 have LB:g≠w.heap.size:=by omega
 have nU:∀(W:World),W.heap[w.heap.size]? =some (.cells c1.toArray 36 (0,0))-> (∀b,b<w.heap.size->W.heap[b]? =w.heap[b]?)->∀ty dc sc,(Builtin.copy_ #[34,34] ty #[.slice (some ⟨w.heap.size,(k+1)*5,none⟩) (n-k) dc, .slice (some ⟨g,k*5,none⟩) (n-k) sc]).run prog W= .ok (goInt (n-k:Nat)) (W.setRow w.heap.size (c1.take (k*5+new.length)++cs.drop (k*5)++c1.drop (k*5+new.length+(cs.drop (k*5)).length)).toArray):=fun W hW hO ty dc sc=>by
  have h:=mF W 34 34 ty 36 5 w.heap.size ((k+1)*5) (n-k) dc ⟨g,k*5,none⟩ (n-k) sc c1.toArray 36 (cs.drop (k*5)) (n-k) underlying34 hsz (by simp) hW (by rw [List.length_drop,hcl];omega) (fun j v hj=>by
   have hbg:W.heap[g]? =some (.cells cur 36 (0,0)):=by rw [hO g uJ];exact hg
   rw [List.getElem?_drop] at hj;rw [Addr.add_lit,cell_of_row W g _ _ _ _ hbg,<-cell_of_row w g _ _ _ _ hg]
   exact hcell _ v hj) (by rw [List.size_toArray,aS,hl0,List.length_drop,hcl];omega) (fun v hv=>h1c v (List.mem_of_mem_drop hv))
  simp only [List.toList_toArray] at h;rw [fq];exact h
 obtain⟨c2,hc2⟩:∃c2,c2=c1.take (k*5+new.length)++cs.drop (k*5)++c1.drop (k*5+new.length+(cs.drop (k*5)).length):=⟨_,rfl⟩;rw [<-hc2] at nU ay hl2;have hfin:∀W:World,W.heap[w.heap.size]? =some (.cells c1.toArray 36 (0,0))-> (W.setRow w.heap.size c2.toArray).ownsRow base 36 5 (.slice (some ⟨w.heap.size,0,none⟩) (n+1) G) (n+1) (cs.take (k*5)++new++cs.drop (k*5)):=fun W hW=>by
  refine qC eB (setRow_heap W w.heap.size _ _ 36 _ hW) yO rT ?_ ?_
  ·rw [List.size_toArray,hl2,hl0]
  ·rw [<-ay,hcl,hnew]
   rw [show (n+1)*5=n*5+5 from by omega]
 have rV:∀W:World,W.heap[w.heap.size]? =some (.cells c0.toArray 36 (0,0))-> (W.setRow w.heap.size c1.toArray).heap[w.heap.size]? =some (.cells c1.toArray 36 (0,0)):=fun W hW=>setRow_heap W w.heap.size _ _ 36 _ hW;have mixed:prog.follows Departure.mixedOrders=true:=by kernel_rfl
 have hw1:IntKind.i64.wrap ((k:Int)+1)=(k:Int)+1:=by rw [IntKind.wrap_i64];omega
 have hz3:¬((k:Int)=(n:Int)):=by omega
 have iu:(cap:Int)<(n:Int)+1:=by omega
 have hb1:(0:Int)<= (k:Int)+1:=by omega
 have hin:k<=n:=by omega
 have htn:((k:Int)+1).toNat=k+1:=by omega
 have hb3:(k:Int)<= (n:Int):=by omega
 have LC:¬(G=k):=by omega
 have LD:¬(G=k+1):=by omega
 have lj:¬(cap=k):=by omega
 have hE:∀b:Nat,((w.alloc (.cells c0.toArray 36)).drew).heap[b]? =(w.drew.alloc (.cells c0.toArray 36)).heap[b]? :=fun _=>rfl;have nV:(((w.alloc (.cells c0.toArray 36)).drew.setRow w.heap.size c1.toArray).drew).heap[w.heap.size]? =some (.cells c1.toArray 36 (0,0)):=rV _ (nT _ hE);have rW:∀b,b<w.heap.size-> (((w.alloc (.cells c0.toArray 36)).drew.setRow w.heap.size c1.toArray).drew).heap[b]? =w.heap[b]? :=fun b hb=>by show ((w.drew.alloc (.cells c0.toArray 36)).setRow w.heap.size c1.toArray).heap[b]? =_;rw [setRow_other _ _ _ _ (by omega)];show (w.heap.push _)[b]? =_;rw [Array.getElem?_push,if_neg (by omega)]
 have bK:=nU _ nV rW;have rX:=hfin _ nV;have rY:Ext w ((((w.alloc (.cells c0.toArray 36)).drew.setRow w.heap.size c1.toArray).drew).setRow w.heap.size c2.toArray):=by refine Ext.grown (row:=some w.heap.size) (b:=w.alloc (.cells c0.toArray 36)) ((Ext.refl w).alloc _) ?_ (by simp);exact qD (b:=(w.alloc (.cells c0.toArray 36)).drew.setRow w.heap.size c1.toArray) (mW (jo (w.alloc (.cells c0.toArray 36)).drew w.heap.size c1.toArray)) (mW (jo (((w.alloc (.cells c0.toArray 36)).drew.setRow w.heap.size c1.toArray).drew) w.heap.size c2.toArray))
 have oN:=ae rX;have yR:=ae rY;clear hfin rX rY nU nV rW ay hl2 aS hc1 hc2 hcell bU hcl hg h1c h1 hcs hB hB' fq hold hkk hik nQ nR nS rU hc0 hrow hl0 hG qi nT rV hi hz0 hz1 hz2 hsz;go_enter func105,ntmps105
 go_wp2_with (first
  |(at_builtin;refine Lib.wpList_append_run _ rfl _ _ _ _ rfl _ _ rfl rfl _ _ (kX _) ?_)
  |(at_builtin;refine wpList_copy_runI _ rfl _ _ 34 34 rfl _ _ rfl rfl (yP _ hE _ _) ?_))
 go_region_law_o (refine step_copy_runI rfl _ _ 34 34 rfl (.slice (some ⟨w.heap.size,(k+1)*5,none⟩) (n-k) (G-(k+1))) (.slice (some ⟨g,k*5,none⟩) (n-k) (cap-k)) (by simp [Act.eval,Act.put]) (by simp [Act.eval,Act.put]) (bK _ _ _) ?_)
 go_wp2;go_ret;exact⟨G,rfl,oN.out,yR.out⟩
theorem acZ (base n vb vc:Nat) (v:Value) (xs new:List Value) (w:World) (TB:TypeId) (eB:base<=w.heap.size) (hown:w.ownsRow base 36 5 v n xs) (cZ:n<=1073741824)
 (hB:af w vb new.toArray TB) (hnew:new.length=5) (h1:∀u∈new,u.oneCell'=true):
 Calls prog 105 #[v, .int .i64 n, .slice (some ⟨vb,0,none⟩) 1 vc] w fun e w'=>∃g cap,e= .returned (.slice (some ⟨g,0,none⟩) (n+1) cap)/\
  w'.ownsRow base 36 5 (.slice (some ⟨g,0,none⟩) (n+1) cap) (n+1) (xs++new)/\w.grownBy w' v.ownBlock/\ (v.ownBlock=some g\/g=w.heap.size):=by
 obtain⟨i0,hi,hz0,hz1,hz2⟩:=info_parts Tryz.yj;obtain⟨a,c,rfl,hok⟩:=fG hown;have hB':w.heap[vb]? =some (.cells new.toArray TB (0,0)):=hB;have hsl:(a=none/\n=0/\c=0)\/∃g,a=some ⟨g,0,none⟩:=by
  rcases hown.2 with⟨h,h0⟩|⟨g,cap,cur,h,-⟩
  ·simp only [Value.slice.injEq] at h;exact .inl ⟨h.1,h.2.1,h.2.2⟩
  ·simp only [Value.slice.injEq] at h;exact .inr ⟨g,h.1⟩
 have hcell:∀(j:Nat) (u:Value),new[j]? =some u->w.cell? ((⟨vb,0,none⟩:Addr).add j)=some u:=fun j u hj=>by rw [Addr.add_lit,cell_of_row w vb _ _ _ _ hB'];simpa using hj
 have rZ:=ae hcell;have bW:=ae hown;have hnc:=hok.1;have LF:c<=9223372036854775807:=hok.2.1;have hsk:(1:Nat)*5=new.length:=by omega
 clear hcell hown hB' hB hok;rcases hsl with⟨rfl,rfl,rfl⟩|⟨g0,rfl⟩
 ·go_enter func105,ntmps105
  go_wp2_with ((at_builtin;refine wpList_append_lies _ (by rfl) _ _ 34 (by rfl) base 36 i0 _ 5 80 underlying34 hi hz0 hz1 hz2 rfl (by decide) _ _ xs (by rfl) bW.out ⟨vb,0,none⟩ 1 vc new (by rfl) hsk.symm rZ.out h1 (by omega) (by unfold maxLen;omega) (by omega) eB _ rfl ?_;intro g6 bp w6 bz aW bX sU;have gL:=ae bz;have iC:=ae aW;have fF:=ae bX;clear bz aW bX));go_ret;exact⟨g6,bp,rfl,gL.out,iC.out,fF.out⟩
 ·go_enter func105,ntmps105
  go_wp2_with ((at_builtin;refine wpList_append_lies _ (by rfl) _ _ 34 (by rfl) base 36 i0 _ 5 80 underlying34 hi hz0 hz1 hz2 rfl (by decide) _ _ xs (by rfl) bW.out ⟨vb,0,none⟩ 1 vc new (by rfl) hsk.symm rZ.out h1 (by omega) (by unfold maxLen;omega) (by omega) eB _ rfl ?_;intro g6 bp w6 bz aW bX sU;have gL:=ae bz;have iC:=ae aW;have fF:=ae bX;clear bz aW bX))
  all_goals (go_ret;exact⟨g6,bp,rfl,gL.out,iC.out,fF.out⟩)
theorem qB (base n k vb vc:Nat) (v:Value) (xs new:List Value) (w:World) (TB:TypeId) (eB:base<=w.heap.size) (hown:w.ownsRow base 36 5 v n xs) (cZ:n<=1073741824) (hk:k<=n)
 (hB:af w vb new.toArray TB) (hvb:v.ownBlock≠some vb) (hnew:new.length=5) (h1c:∀u∈xs,u.oneCell'=true) (h1:∀u∈new,u.oneCell'=true):
 Calls prog 105 #[v, .int .i64 k, .slice (some ⟨vb,0,none⟩) 1 vc] w fun e w'=>∃g cap,e= .returned (.slice (some ⟨g,0,none⟩) (n+1) cap)/\
  w'.ownsRow base 36 5 (.slice (some ⟨g,0,none⟩) (n+1) cap) (n+1) (xs.take (k*5)++new++xs.drop (k*5))/\w.grownBy w' v.ownBlock/\ (v.ownBlock=some g\/g=w.heap.size):=by
 by_cases hkn:k=n
 ·subst hkn
  have hl:=hown.1;refine(acZ base k vb vc v xs new w TB eB hown cZ hB hnew h1).mono ?_;rintro e w' ⟨g,cap,he,h2,h3,h4⟩;refine⟨g,cap,he,?_,h3,h4⟩;rw [List.take_of_length_le (by omega),List.drop_of_length_le (by omega),List.append_nil];exact h2
 ·obtain⟨g,cap,cur,rfl,hb,hg,hnc,hm,hcs,ht⟩:=pz hown (by omega)
  have ht':cur.toList.take (n*5)=xs:=by simpa using ht
  by_cases hroom:n<cap
  ·refine(acX base g n cap k vb vc cur new w TB hb hg hroom hm hcs (by omega) hB (fun e=>hvb (by rw [e];rfl)) hnew (by rw [ht'];exact h1c) h1).mono ?_
   rintro e w' ⟨he,h2,h3⟩;rw [ht'] at h2;exact⟨g,cap,he,h2,h3, .inl rfl⟩
  ·refine(acY base g n cap k vb vc cur new w TB eB hg hnc (by omega) cZ hcs (by omega) hB hnew (by rw [ht'];exact h1c) h1).mono ?_
   rintro e w' ⟨G,he,h2,h3⟩;rw [ht'] at h2;exact⟨w.heap.size,G,he,h2,⟨h3.os,h3.tape,h3.output,h3.size,fun k hk _=>h3.block k hk⟩, .inr rfl⟩
end Go.Proofs.YtlcebdaghmdkeabGreatDoor
