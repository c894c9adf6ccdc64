import Derived.Test.YtlcebdaghmdkeabGreatDoorZ2
import Derived.Test.YtlcebdaghmdkeabGreatDoorZ6
import Derived.Test.YtlcebdaghmdkeabGreatDoorZ7
set_option linter.all false
set_option maxRecDepth 100000
set_option maxHeartbeats 64000000
namespace Go.Proofs.YtlcebdaghmdkeabGreatDoor
open Go.RowKit
end Go.Proofs.YtlcebdaghmdkeabGreatDoor
namespace Go.Proofs.YtlcebdaghmdkeabGreatDoor
abbrev En:ah:=⟨#[111,112]⟩
abbrev nz:ah:=⟨#[112,97,116,104]⟩
abbrev vP:ah:=⟨#[102,114,111,109]⟩
abbrev xN:ah:=⟨#[118,97,108,117,101]⟩
def wH:List ah:= [⟨#[]⟩,⟨#[97,100,100]⟩,⟨#[114,101,109,111,118,101]⟩,⟨#[114,101,112,108,97,99,101]⟩,⟨#[109,111,118,101]⟩,⟨#[99,111,112,121]⟩,⟨#[116,101,115,116]⟩]
def qz (i:Nat):ah:=wH.getD i ⟨#[]⟩
def oC (s:ah) (ok:Bool):Nat->Int
 |0=>0
 |k+1=>if 1<=k/\ok=true/\qz k=s then(k:Int) else oC s ok k
theorem adi (s:ah) (ok:Bool):oC s ok 1=0:=by simp [oC]
theorem adk (s:ah) (ok:Bool) (k:Nat):0<=oC s ok k/\oC s ok k<max 1 k:=by
 induction k with
 |zero=>simp [oC]
 |succ k ih=>unfold oC;split<;>omega
def V.txt (x:V) (key:ah):ah×Bool:=((x.iH key).s,(x.member key).isSome&& (x.iH key).k==3)
def V.kd (x:V):Int:=oC (x.txt En).1 (x.txt En).2 7
def V.iQ (x:V):Option bM:=
 if x.kd=0 then none else if(x.txt nz).2=false then none
 else if x.kd=1\/x.kd=3\/x.kd=6 then(if(x.member xN).isSome=true then some ⟨x.kd,(x.txt nz).1,⟨#[]⟩,x.iH xN⟩ else none)
 else if x.kd=4\/x.kd=5 then(if(x.txt vP).2=true then some ⟨x.kd,(x.txt nz).1,(x.txt vP).1,V.zero⟩ else none)
 else some ⟨x.kd,(x.txt nz).1,⟨#[]⟩,V.zero⟩
def nA:List V->Option (List bM)
 | []=>some []
 |x::r=>match x.iQ with
  |none=>none
  |some o=>(nA r).map (o::·)
theorem T4:∀ {l:List V} {k:Nat} (h:k<l.length),l[k].iQ=none->nA l=none
 |x::r,0,_,h=>by simp only [List.getElem_cons_zero] at h;simp [nA,h]
 |x::r,k+1,hk,h=>by
  have ih:=T4 (l:=r) (k:=k) (by simpa using hk) (by simpa using h);unfold nA
  cases x.iQ with
  |none=>rfl
  |some o=>simp [ih]
theorem adn {l:List V} {k:Nat} (hk:k<l.length) {os:List bM} (h:nA (l.take k)=some os) {o:bM} (ho:l[k].iQ=some o):nA (l.take (k+1))=some (os++ [o]):=by
 induction l generalizing k os with
 |nil=>simp at hk
 |cons x r ih=>
  cases k with
  |zero=>
   simp only [List.getElem_cons_zero] at ho;simp only [List.take_zero,nA,Option.some.injEq] at h;subst h;simp [nA,ho]
  |succ k=>
   simp only [List.take_succ_cons] at h⊢;unfold nA at h⊢
   cases hx:x.iQ with
   |none=>rw [hx] at h;cases h
   |some q=>
    rw [hx] at h;simp only at h⊢
    cases hr:nA (r.take k) with
    |none=>rw [hr] at h;cases h
    |some t=>
     rw [hr] at h;simp only [Option.map_some,Option.some.injEq] at h;subst h;rw [ih (by simpa using hk) hr (by simpa using ho)];simp
def jM (v:V):List bM×Int:=
 if v.fine=false\/v.k≠4 then([],1) else if 20<v.l.length then([],2) else match nA v.l with
  |none=>([],1)
  |some l=>(l,0)
theorem T5 {v:V} (h:v.fine=false\/v.k≠4):jM v=([],1):=by unfold jM;rw [if_pos h]
theorem ado {v:V} (h:v.fine=true) (h4:v.k=4) (hl:20<v.l.length):jM v=([],2):=by unfold jM;rw [if_neg (by simp [h,h4]),if_pos hl]
theorem adp {v:V} (h:v.fine=true) (h4:v.k=4) (hl:¬20<v.l.length) {k:Nat} (hk:k<v.l.length) (hb:v.l[k].iQ=none):jM v=([],1):=by unfold jM;rw [if_neg (by simp [h,h4]),if_neg hl,T4 hk hb]
theorem adq {v:V} (h:v.fine=true) (h4:v.k=4) (hl:¬20<v.l.length) {os:List bM} (ho:nA (v.l.take v.l.length)=some os):jM v=(os,0):=by
 unfold jM;rw [if_neg (by simp [h,h4]),if_neg hl];rw [List.take_length] at ho;rw [ho]
end Go.Proofs.YtlcebdaghmdkeabGreatDoor
namespace Go.Proofs.YtlcebdaghmdkeabGreatDoor
open Go.Proofs.Tryz
open Go.RowKit
attribute [local go_sem↓] Go.wp_at_zero Go.wp_at_succ
theorem Xv (s:List UInt8):(mK s).length<=s.length*4:=by
 have h1:=E7 s [126,49] [47] (by simp) (by decide);have h2:=E7 (Lib.replaceAll s [126,49] [47]) [126,48] [126] (by simp) (by decide);unfold mK;simp only [List.length_cons,List.length_nil] at h1 h2;omega
theorem Xw {p:List UInt8} {l:List (List UInt8)} (h:jV p=some l):l.length<=2001/\∀q∈l,q.length<=8000:=by
 unfold jV at h
 cases p with
 |nil=>simp at h;subst h;simp
 |cons c r=>
  simp only at h
  split at h
  ·rename_i hc
   have hr:r.length<=2000:=by have:=hc.2;simp at this;omega
   split at h
   ·simp only [Option.some.injEq] at h
    subst h;refine⟨by have:=OZ r;simp;omega,fun q hq=> ?_⟩;obtain⟨s,hs,rfl⟩:=List.mem_map.1 hq;have:=O0 r s hs;have:=Xv s;omega
   ·cases h
  ·cases h
theorem O1 {p:ah} {ks:List ah} (h:cJ p=some ks):jV p.data.toList=some (ks.map (·.data.toList)):=by
 unfold cJ at h
 cases hn:jV p.data.toList with
 |none=>rw [hn] at h;cases h
 |some m=>
  rw [hn] at h;simp only [Option.map_some,Option.some.injEq] at h;subst h;have:((fun x:ah=>x.data.toList)∘fun s:List UInt8=>(⟨s.toArray⟩:ah))=id:=by funext s;rfl
  simp [this]
theorem Cg {p:ah} {ks:List ah} (h:cJ p=some ks):ks.length<=2001/\∀k∈ks,k.size<=8000:=by
 obtain⟨h1,h2⟩:=Xw (O1 h);refine⟨by simpa using h1,fun k hk=> ?_⟩;have:=h2 k.data.toList (List.mem_map_of_mem hk);have e:k.data.toList.length=k.size:=Array.length_toList;omega
def Xx (x:V) (p:ah) (w:World) (e:Ending) (w':World):Prop:=
 (∃a n c ks,cJ p=some ks/\x.fine=true/\e= .returned (.tuple #[.slice a n c, .int .i64 0])/\ks.length=n/\aM a n c/\bR w' (fun b=>w.heap.size<=b) a ks/\Ext w w')\/
 ((cJ p=none\/x.fine=false)/\e= .returned (.tuple #[.slice none 0 0, .int .i64 1])/\Ext w w')
theorem Ag (x:V) (ka:au) (kc:Nat) (la:au) (lc:Nat) (S:az) (p:ah) (w:World) (hsz:x.size<=1073741824) (hin:x.In w S ka kc la lc) (hp:p.size<=1073741824) (hm:fZ w):
 Calls prog 45 #[x.val ka kc la lc, .string p] w (Xx x p w):=by
 have aw:x.fine=false\/x.fine=true:=by cases x.fine<;>simp
 rcases aw with hf|hf
 all_goals
  have Hf:=ae hf;go_enter func45,ntmps45;go_upto_region 1 with fail
  refine aI (R:=fun wx=>aD wx w.heap.size x ka kc la lc/\Ext w wx) ⟨aj,Xt⟩ ?_;rintro wa ⟨ag,aH⟩;go_wp2_with fail;(refine(O2 p hp _ (hm.ext Xt)).mono ?_);rintro e w1 (⟨l',a,n,c,ks,h1,rfl,h2,h3,h4,h5,h6⟩|⟨h1,rfl,h6⟩)
 ·have hnb:=E8 (ks:=ks) (p:=p) (by rw [h1,h3])
  have kW:=ae hnb;have ag:=af.ext h6 ag;have hx1:Ext w w1:=Xt;have agI:=aH.size;clear h6 aH h1 h3 hnb h2 h5;obtain⟨hc0,aw,hl0⟩:=ag.see;go_wp2_with fail;(with_reducible refine(cT x ka kc la lc S _ hsz (hin.ext Xt)).mono ?_);rintro e w2 ⟨rfl,h2'⟩;obtain⟨rK,rL,ma⟩:=cp h2';(try simp at ma);rw [hf];go_wp2;go_ret2;exact .inr ⟨.inr Hf.out,rfl,Xt⟩
 ·have kW:=ae (Jk h1)
  have hx1:Ext w w1:=Xt;clear h1 h6 aH ag;go_wp2_with fail;go_ret2;exact .inr ⟨.inl kW.out,rfl,Xt⟩
 ·have hnb:=E8 (ks:=ks) (p:=p) (by rw [h1,h3])
  have kW:=ae hnb;have H2:=ae h2;have ag:=af.ext h6 ag;have hx1:Ext w w1:=Xt;have h5:=h5.keep (T:=fun b=>w.heap.size<=b) (fun _ _ _=>rfl) (fun b h _=>Nat.le_trans aH.size h);clear h6 aH h1 h3 hnb h2;obtain⟨hc0,aw,hl0⟩:=ag.see;go_wp2_with fail;(with_reducible refine(cT x ka kc la lc S _ hsz (hin.ext Xt)).mono ?_);rintro e w2 ⟨rfl,h2'⟩;obtain⟨rK,rL,ma⟩:=cp h2';(try simp at ma);rw [hf];go_wp2;go_ret2;exact .inl ⟨a,n,c,ks,kW.out,Hf.out,rfl,H2.out,h4,h5.ext Xt,Xt⟩
 ·have kW:=ae (Jk h1)
  have hx1:Ext w w1:=Xt;clear h1 h6 aH ag;go_wp2_with fail;go_ret2;exact .inr ⟨.inl kW.out,rfl,Xt⟩
end Go.Proofs.YtlcebdaghmdkeabGreatDoor
namespace Go.Proofs.YtlcebdaghmdkeabGreatDoor
open Go.Proofs.Tryz
structure Ow where
 name:ah
 paths:List ah
def gK (s:ah):Bool:=(s.data.toList.all fun c=>decide (97<= (c.toNat:Int)/\ (c.toNat:Int)<=122))&&decide (1<=s.size)&&decide (s.size<=12)
def bJ (p:ah):List ah:=(cJ p).getD []
def lR (l:List ah):ah:=⟨(joinL (l.map (·.data.toList))).toArray⟩
def yJ (p:ah):Bool:=match cJ p with|some l=>decide (l≠ [])|none=>false
def qI (ps:List ah):Bool:=decide (∀k,(h:k<ps.length)->yJ ps[k]=true/\ (0<k->bC (ps[k-1]'(by omega)) ps[k]=true))
def gU (l:List Ow):Bool:=
 decide (∀i,(h:i<l.length)->gK l[i].name=true/\ (0<i->bC (l[i-1]'(by omega)).name l[i].name=true)/\l[i].paths≠ []/\qI l[i].paths=true)&&decide (l.length<=6)
def V.eN:V->List ah->List (List ah)
 | .mk k _ _ ks l,ns=>if k≠5\/ (l= []/\ns≠ []) then [ns] else go l ks ns
where go:List V->List ah->List ah->List (List ah)
 |x::l,k::ks,ns=>V.eN x (ns++ [k])++go l ks ns
 |_,_,_=> []
theorem AL (x:V) (ns:List ah):x.eN ns=if x.k≠5\/ (x.l= []/\ns≠ []) then [ns] else V.eN.go x.l x.keys ns:=by
 obtain⟨k,n,s,ks,l⟩:=x;rw [V.eN];rfl
theorem yM (x:V) (l:List V) (k:ah) (ks ns:List ah):V.eN.go (x::l) (k::ks) ns=x.eN (ns++ [k])++V.eN.go l ks ns:=by rw [V.eN.go]
theorem yL (ks ns:List ah):V.eN.go [] ks ns= []:=by cases ks<;>rfl
theorem Fx (l:List V) (ns:List ah):V.eN.go l [] ns= []:=by cases l<;>rfl
theorem RH (ns:List ah):∀(l:List V) (ks:List ah) (x:V) (k:ah),ks.length=l.length->V.eN.go (l++ [x]) (ks++ [k]) ns=V.eN.go l ks ns++x.eN (ns++ [k])
 | [], [],x,k,_=>by simp [yM,yL]
 | [],_::_,_,_,h=>by simp at h
 |_::_, [],_,_,h=>by simp at h
 |y::l,a::ks,x,k,h=>by rw [List.cons_append,List.cons_append,yM,yM,RH ns l ks x k (by simpa using h),List.append_assoc]
def zn (p:ah):List ah->List ah
 | []=> [p]
 |q::r=>if bC p q=true then p::q::r else q::zn p r
def uj:List ah->List ah
 | []=> []
 |p::r=>zn p (uj r)
abbrev Sorted (l:List ah):Prop:=l.Pairwise fun a b=>bC b a=false
theorem K7 (p:ah):∀l,(zn p l).Perm (p::l)
 | []=> .refl _
 |q::r=>by
  rw [zn]
  split
  ·exact .refl _
  ·exact((K7 p r).cons q).trans (.swap p q r)
theorem wS:∀l,(uj l).Perm l
 | []=> .refl _
 |p::r=>(K7 p _).trans ((wS r).cons p)
theorem aaO {a b c:ah} (h1:bC b a=false) (h2:bC c b=false):bC c a=false:=by
 cases h:bC c a with
 |false=>rfl
 |true=>
  rcases Fz a b with h3|rfl|h3
  ·rw [tS h h3] at h2;cases h2
  ·rw [h] at h2;cases h2
  ·rw [h3] at h1;cases h1
theorem RI (p:ah):∀l,Sorted l->Sorted (zn p l)
 | [],_=>by simp [zn]
 |q::r,h=>by
  rw [zn];obtain⟨h1,h2⟩:=List.pairwise_cons.1 h
  split
  ·rename_i hlt
   refine List.pairwise_cons.2 ⟨fun b hb=> ?_,h⟩;rcases List.mem_cons.1 hb with rfl|hb
   ·exact KB hlt
   ·exact aaO (KB hlt) (h1 b hb)
  ·rename_i hlt
   refine List.pairwise_cons.2 ⟨fun b hb=> ?_,RI p r h2⟩;rcases List.mem_cons.1 ((K7 p r).mem_iff.1 hb) with rfl|hb
   ·simpa using hlt
   ·exact h1 b hb
theorem JN:∀l,Sorted (uj l)
 | []=> .nil
 |p::r=>RI p _ (JN r)
theorem sorted_perm:∀ {l m:List ah},Sorted l->Sorted m->l.Perm m->l=m
 | [],m,_,_,h=>by simpa using h.symm
 |a::l, [],_,_,h=>by simp at h
 |a::l,b::m,hl,hm,h=>by
  obtain⟨ay,hl2⟩:=List.pairwise_cons.1 hl;obtain⟨CC,hm2⟩:=List.pairwise_cons.1 hm;have e:a=b:=by
   rcases List.mem_cons.1 (h.mem_iff.1 (List.mem_cons_self ..)) with e|ha
   ·exact e
   rcases List.mem_cons.1 (h.mem_iff.2 (List.mem_cons_self ..)) with e|hb
   ·exact e.symm
   have h1:=ay b hb;have h2:=CC a ha;rcases Fz a b with h3|h3|h3
   ·rw [h3] at h2;cases h2
   ·exact h3
   ·rw [h3] at h1;cases h1
  subst e;rw [sorted_perm hl2 hm2 ((List.perm_cons a).1 h)]
def V.leaves (x:V):List ah:=if x.fine=true/\x.k=5 then uj ((x.eN []).map lR) else []
def bp:List ah->V->Option V
 | [],x=>some x
 |a::r,x=>(x.member a).bind (bp r)
def bG (x:V) (p:ah):Option V:=bp (bJ p) x
def fV (p q:ah):Bool:=(p.data.toList++ [47]).isPrefixOf q.data.toList
def jb (now want:V):Bool:=now.same want||(decide (now.k=5)&&decide (want.k=5)&&decide (want.l.length=0))
def lj (v want:V) (q:ah):List ah->Bool
 | []=>false
 |p::r=>if(fV p q||fV q p)=true then true else if p=q then(match bG v p with|none=>true|some now=> !jb now ((bG want p).getD V.zero)) else lj v want q r
def eA (v want:V) (q:ah):Bool:=lj v want q want.leaves
def vg (v want:V) (who:ah) (o:Ow):List (ah×ah):=if o.name=who then [] else(o.paths.filter (eA v want)).map fun q=>(o.name,q)
def ja (v:V) (l:List Ow) (who:ah) (want:V):List (ah×ah):=l.flatMap (vg v want who)
def gW:List ah->V->V->V
 | [],_,x=>x
 |a::r,v,x=>if r≠ [] then v.base.put a (gW r ((v.base.member a).getD V.zero) x) else
  match v.base.member a with|some old=>if jb old x=true then v.base else v.base.put a x|none=>v.base.put a x
def eK:List ah->V->V
 | [],v=>v
 |a::r,v=>match v.member a with
  |none=>v
  |some old=>if r= [] then v.del a else if(eK r old).k=5/\ (eK r old).l= []/\old.l≠ [] then v.del a else v.put a (eK r old)
def jc (f:ah->Bool) (o:Ow):Option Ow:=if o.paths.filter f= [] then none else some ⟨o.name,o.paths.filter f⟩
def np (v:V) (l:List Ow):List Ow:=l.filterMap (jc fun p=>(bG v p).isSome)
def ez (v want:V) (who:ah) (l:List Ow):List Ow:=(l.filter fun o=>decide (o.name≠who)).filterMap (jc fun q=> !eA v want q)
def lS (who:ah) (l:List Ow):List ah:=l.foldl (fun old o=>if o.name=who then o.paths else old) []
def qK (p q:ah):Bool:=decide (p=q)||fV p q||fV q p
def p9 (out:List Ow) (p:ah):Bool:=out.any fun o=>o.paths.any (qK p)
def yO (paths:List ah) (p:ah):Bool:=paths.any fun q=>decide (p=q)
def iK (paths:List ah) (out:List Ow) (next:V) (p:ah):V:=if yO paths p=false/\p9 out p=false then eK (bJ p) next else next
def iJ (want:V) (next:V) (p:ah):V:=gW (bJ p) next ((bG want p).getD V.zero)
def eZ (v:V) (l:List Ow) (who:ah) (want:V):V:=want.leaves.foldl (iJ want) ((lS who l).foldl (iK want.leaves (ez v want who l)) v)
def mS (l:List Ow) (who:ah):Nat:=posOf (l.map Ow.name) who
def fK (l:List Ow) (who:ah) (ps:List ah):List Ow:=if ps= [] then l else l.take (mS l who)++⟨who,ps⟩::l.drop (mS l who)
def fW (v:V) (l:List Ow) (who:ah) (want:V):List Ow:=fK (ez v want who l) who want.leaves
def p6 (v:V) (l:List Ow) (who:ah) (want:V):Bool:=v.fine&&want.fine&&decide (v.k=5)&&decide (want.k=5)&&gU l&&gK who
def ik (v:V) (l:List Ow) (who:ah) (want:V) (force:Bool):V×List Ow×List (ah×ah)×Int:=
 if p6 v l who want=false then(v,l, [],1)
 else if ja v l who want≠ []/\force=false then(v,l,ja v l who want,5)
 else if(eZ v l who want).fine=false\/6<(fW v l who want).length then(v,l, [],2)
 else(eZ v l who want,fW v l who want, [],0)
theorem Gv (l:List ah):(lR l).data.toList=joinL (l.map (·.data.toList)):=by unfold lR;simp
theorem K8 {a b:ah} (h:a.data.toList=b.data.toList):a=b:=by
 obtain⟨⟨l⟩⟩:=a;obtain⟨⟨m⟩⟩:=b;simp only at h;rw [h]
theorem Pz {l:List ah} (h:(joinL (l.map (·.data.toList))).length<=2000):cJ (lR l)=some l:=
 E8 (by rw [Gv];exact ZN _ h)
theorem JM (l:List ah) (h:∀a∈l,a.size<=60):(joinL (l.map (·.data.toList))).length<=l.length*121:=by
 induction l with
 |nil=>simp [joinL]
 |cons a r ih=>
  have h1:=ih (fun b hb=>h b (by simp [hb]));have h2:=Q0 a.data.toList;have h3:a.data.toList.length=a.size:=Array.length_toList;have h4:=h a (by simp);unfold joinL at h1⊢;simp only [List.map_cons,List.flatMap_cons,List.length_append,List.length_cons];omega
theorem JL (x:V):∀(d:Int) (ns:List ah),x.good d=true->∀q∈x.eN ns,∃r,q=ns++r/\ (∃y,bp r x=some y/\ (y.k=5->y.l= []))/\ (r.length:Int)+d<=12/\∀a∈r,fU a=true:=by
 induction x using V.ind with
 |h x ih=>
  intro d ns hg q hq;rw [AL] at hq;obtain⟨hfl,hd⟩:=KG (show x.flat d=true by rw [V.ud,Bool.and_eq_true] at hg;exact hg.1)
  split at hq
  ·rename_i hc
   simp only [List.mem_singleton] at hq;subst hq;refine⟨[],by simp,⟨x,rfl,fun h5=> ?_⟩,by simpa using hd,by simp⟩;rcases hc with h|h
   ·exact absurd h5 h
   ·exact h.1
  ·rename_i hc
   have h5:x.k=5:=Classical.byContradiction fun h=>hc (.inl h);have df:=iI (Fv hg) h5;have hgo:∀(l:List V) (ks:List ah),q∈V.eN.go l ks ns->∃i,∃h1:i<l.length,∃h2:i<ks.length,q∈ (l[i]).eN (ns++ [ks[i]]):=by
    intro l
    induction l with
    |nil=>intro ks h;rw [yL] at h;cases h
    |cons y l ihl=>
     intro ks h
     cases ks with
     |nil=>rw [Fx] at h;cases h
     |cons k ks=>
      rw [yM,List.mem_append] at h;rcases h with h|h
      ·exact⟨0,by simp,by simp,by simpa using h⟩
      ·obtain⟨i,h1,h2,h3⟩:=ihl ks h
       exact⟨i+1,by simpa using h1,by simpa using h2,by simpa using h3⟩
   obtain⟨i,h1,h2,h3⟩:=hgo _ _ hq;obtain⟨r,rfl,⟨y,hy,xw⟩,hlen,hp⟩:=ih _ (List.getElem_mem h1) (d+1) _ (Fw hg h1) q h3;refine⟨x.keys[i]::r,by simp,⟨y,?_,xw⟩,?_,?_⟩
   ·rw [bp,QG h5 df.len,AJ _ _ df.len df.nodup i h2]
    exact hy
   ·simp only [List.length_cons];omega
   ·intro a ha
    rcases List.mem_cons.1 ha with rfl|ha
    ·exact hfl.kp _ (List.getElem_mem h2)
    ·exact hp a ha
theorem Fy {x:V} (h:x.fine=true):x.good 1=true:=by unfold V.fine at h;rw [Bool.and_eq_true] at h;exact h.1
theorem qJ {x:V} {p:ah} (h:p∈x.leaves):x.fine=true/\x.k=5/\∃r,p=lR r/\cJ p=some r/\r≠ []/\r.length<=11/\ (∀a∈r,fU a=true)/\∃y,bp r x=some y/\bG x p=some y/\ (y.k=5->y.l= []):=by
 unfold V.leaves at h
 split at h
 ·rename_i hc
  obtain⟨hf,h5⟩:=hc;rw [(wS _).mem_iff,List.mem_map] at h;obtain⟨q,hq,rfl⟩:=h;obtain⟨r,CL,⟨y,hy,xw⟩,hlen,hp⟩:=JL x 1 [] (Fy hf) q hq;rw [List.nil_append] at CL;rw [CL] at hq⊢;have hl:r.length<=11:=by omega
  have hn:cJ (lR r)=some r:=Pz (by have:=JM r (fun a ha=>yN (hp a ha));omega);have hr:r≠ []:=by
   rintro rfl;simp only [bp,Option.some.injEq] at hy;subst hy;have hl0:=xw h5;rw [AL,if_neg (by simp [h5]),hl0,yL] at hq
   cases hq
  exact⟨hf,h5,r,rfl,hn,hr,hl,hp,y,hy,by unfold bG bJ;rw [hn];exact hy,xw⟩
 ·cases h
theorem go_sound:∀(r:List ah) {x y:V},x.sound->bp r x=some y->y.sound
 | [],x,y,hx,h=>by simp only [bp,Option.some.injEq] at h;rw [<-h];exact hx
 |a::r,x,y,hx,h=>by
  rw [bp] at h
  cases hm:x.member a with
  |none=>rw [hm] at h;cases h
  |some z=>rw [hm] at h;exact go_sound r (qF hx hm) h
theorem RJ {x y:V} {a:ah} (h:x.member a=some y):y.size<x.size:=V.yZ (yA h)
theorem go_size:∀(r:List ah) {x y:V},bp r x=some y->y.size<=x.size
 | [],x,y,h=>by simp only [bp,Option.some.injEq] at h;rw [h];exact Nat.le_refl _
 |a::r,x,y,h=>by
  rw [bp] at h
  cases hm:x.member a with
  |none=>rw [hm] at h;cases h
  |some z=>rw [hm] at h;have:=go_size r (x:=z) (y:=y) h;have:=RJ hm;omega
theorem aaP {x y:V} {a:ah} (h:x.member a=some y):y.count<x.count:=by
 obtain⟨i,hi,rfl⟩:=List.getElem_of_mem (yA h);exact V.E9 hi
theorem RL:∀(r:List ah) {x y:V},bp r x=some y->y.count<=x.count
 | [],x,y,h=>by simp only [bp,Option.some.injEq] at h;rw [h];exact Nat.le_refl _
 |a::r,x,y,h=>by
  rw [bp] at h
  cases hm:x.member a with
  |none=>rw [hm] at h;cases h
  |some z=>rw [hm] at h;have:=RL r (x:=z) (y:=y) h;have:=aaP hm;omega
theorem Gw {x y:V} (h:gw x) {a:ah} (hm:x.member a=some y):x.put a y=x:=by
 refine KI (h.put a y) h fun k=> ?_;rw [vw h]
 split
 ·rename_i e;subst e;exact hm.symm
 ·rfl
theorem aaQ {x:V} (h:gw x) (a:ah) (y z:V):(x.put a y).put a z=x.put a z:=by
 refine KI ((h.put a y).put a z) (h.put a z) fun k=> ?_;rw [vw (h.put a y),vw h,vw h]
 split<;>rfl
theorem aaR {x:V} (h:gw x) (a:ah) (y:V):(x.put a y).del a=x.del a:=by
 refine KI ((h.put a y).del a) (h.del a) fun k=> ?_;rw [F3 (h.put a y),vw h,F3 h]
 split<;>rfl
theorem yI {x:V} (h:gw x) (a:ah) (y:V):(x.put a y).member a=some y:=by rw [vw h,if_pos rfl]
theorem tO {x y:V} (h:x.sound) {a:ah} (hm:x.member a=some y):fU a=true/\x.k=5:=by
 have h5:x.k=5:=Classical.byContradiction fun h5=>by rw [QH h5] at hm;cases hm
 exact⟨h.flat.kp a (((iI h h5).wQ a).2 (by rw [hm];simp)),h5⟩
theorem Yh {o x:V} (h:jb o x=true):(o.k=5/\x.k=5)\/o=x:=by
 unfold jb at h;rw [Bool.or_eq_true,Bool.and_eq_true,Bool.and_eq_true] at h;rcases h with h|h
 ·exact .inr ((ve o x).1 h)
 ·exact .inl ⟨by simpa using h.1.1,by simpa using h.1.2⟩
theorem aaS (v:V):v.base.count<=v.count:=by
 unfold V.base
 split
 ·exact Nat.le_refl _
 ·have:=V.Aq v;have e:V.cd.count=1:=by decide+kernel
  omega
theorem aaT {x:V} (h:gw x) (a:ah) (y:V):(x.put a y).count<=x.count+y.count:=by have:=F4 h a y;omega
theorem RM:∀(l:List ah) {v x:V},l≠ []->v.sound->x.sound-> (∀a∈l,fU a=true)-> (gW l v x).sound/\ (gW l v x).k=5/\ (gW l v x).count<=v.count+l.length+x.count
 | [],_,_,h,_,_,_=>absurd rfl h
 |a::r,v,x,_,hv,hx,hp=>by
  have hb:=Aw hv;have hbs:=Av hv;have hbc:=aaS v;have RN:=hp a (by simp);rw [gW];by_cases hr:r= []
  ·subst hr
   rw [if_neg (by simp)]
   have h1:(v.base.put a x).sound/\ (v.base.put a x).k=5/\ (v.base.put a x).count<=v.count+ [a].length+x.count:=
    ⟨Dg hbs hx RN hb.k5,(hb.put a x).k5,by have:=aaT hb a x;simp only [List.length_cons];omega⟩
   have h2:v.base.sound/\v.base.k=5/\v.base.count<=v.count+ [a].length+x.count:=⟨hbs,hb.k5,by omega⟩
   split
   ·split
    ·exact h2
    ·exact h1
   ·exact h1
  ·rw [if_pos hr]
   obtain⟨h1,h2,h3⟩:=RM r hr (Ck hbs a) hx (fun b hb=>hp b (by simp [hb]));refine⟨Dg hbs h1 RN hb.k5,(hb.put a _).k5,?_⟩;have h4:=F4 hb a (gW r ((v.base.member a).getD V.zero) x)
   cases hm:v.base.member a with
   |none=>
    simp only [hm,Option.getD_none] at h3 h4⊢;have e:V.zero.count=1:=by decide+kernel
    simp only [List.length_cons];omega
   |some o=>
    simp only [hm,Option.getD_some] at h3 h4⊢;simp only [List.length_cons];omega
def sf:List ah->V->V
 | [],v=>v
 |a::r,v=>if r= [] then v.del a else v.put a (sf r ((v.member a).getD V.zero))
def lA (l:List ah):Nat->V->V×Bool
 |0,v=>(v,true)
 |n+1,v=>match bp (l.take (n+1)) v with
  |none=>(v,false)
  |some x=>if n+1<l.length/\ (x.k≠5\/x.keys≠ []) then(v,false) else lA l n (sf (l.take (n+1)) v)
def K9 (l:List ah) (v:V):V:=(lA l l.length v).1
theorem take_zero (l:List ah) (v:V):lA l 0 v=(v,true):=rfl
theorem DN {l:List ah} {n:Nat} {v:V} (h:bp (l.take (n+1)) v=none):lA l (n+1) v=(v,false):=by rw [lA,h]
theorem Gx {l:List ah} {n:Nat} {v x:V} (h:bp (l.take (n+1)) v=some x):lA l (n+1) v=if n+1<l.length/\ (x.k≠5\/x.keys≠ []) then(v,false) else lA l n (sf (l.take (n+1)) v):=by rw [lA,h]
theorem La {l:List ah} {n:Nat} (h:n<l.length):l.take (n+1)≠ []:=by
 intro e;have:=congrArg List.length e;simp only [List.length_take,List.length_nil] at this;omega
theorem take_cons {a:ah} {r:List ah}:∀ {n:Nat} {v old:V},n<=r.length->gw v->v.member a=some old->
 lA (a::r) (n+1) v=if(lA r n old).2=true then lA (a::r) 1 (v.put a (lA r n old).1) else(v.put a (lA r n old).1,false)
 |0,v,old,_,hv,hm=>by rw [take_zero,if_pos rfl,Gw hv hm]
 |n+1,v,old,hn,hv,hm=>by
  have e:bp ((a::r).take (n+1+1)) v=bp (r.take (n+1)) old:=by rw [List.take_succ_cons,bp,hm];rfl
  cases hx:bp (r.take (n+1)) old with
  |none=>
   rw [DN (e.trans hx),DN hx,if_neg (by simp),Gw hv hm]
  |some x=>
   rw [Gx (e.trans hx),Gx hx];by_cases hc:n+1<r.length/\ (x.k≠5\/x.keys≠ [])
   ·rw [if_pos hc,if_pos ⟨by simp only [List.length_cons];omega,hc.2⟩,if_neg (by simp),Gw hv hm]
   ·rw [if_neg hc,if_neg (fun h=>hc ⟨by have:=h.1;simp only [List.length_cons] at this;omega,h.2⟩)]
    have e2:sf ((a::r).take (n+1+1)) v=v.put a (sf (r.take (n+1)) old):=by rw [List.take_succ_cons,sf,if_neg (La (by omega)),hm];rfl
    rw [e2,take_cons (by omega) (hv.put a _) (yI hv a _),aaQ hv]
theorem go_cut:∀(l:List ah) (n:Nat) {v:V},n<l.length->v.sound->bp (l.take (n+1)) v≠none->bp (l.take n) (sf (l.take (n+1)) v)≠none
 | [],n,v,h,_,_=>by simp at h
 |a::r,0,v,_,_,_=>by simp [bp]
 |a::r,n+1,v,h,hv,hg=>by
  have hn:n<r.length:=by simpa using h
  rw [List.take_succ_cons,bp] at hg
  cases hm:v.member a with
  |none=>rw [hm] at hg;exact absurd rfl hg
  |some o=>
   rw [hm,Option.bind_some] at hg;have df:=iI hv (tO hv hm).2;rw [List.take_succ_cons,List.take_succ_cons,sf,if_neg (La hn),hm,Option.getD_some,bp,yI df];exact go_cut r n hn (qF hv hm) hg
theorem RO:∀(l:List ah) {v:V},v.sound->bp l v≠none-> (sf l v).sound
 | [],v,h,_=>h
 |a::r,v,h,hg=>by
  rw [sf]
  split
  ·exact KJ h a
  ·rw [bp] at hg
   cases hm:v.member a with
   |none=>rw [hm] at hg;exact absurd rfl hg
   |some o=>
    rw [hm,Option.bind_some] at hg;obtain⟨hp,h5⟩:=tO h hm;exact Dg h (RO r (qF h hm) hg) hp h5
theorem Lb {l:List ah} {v:V} (hl:l≠ []) (h:bp l v≠none):v.l≠ []:=by
 cases l with
 |nil=>exact absurd rfl hl
 |cons a r=>
  rw [bp] at h
  cases hm:v.member a with
  |none=>rw [hm] at h;exact absurd rfl h
  |some o=>intro e;have:=yA hm;rw [e] at this;cases this
theorem RP (l:List ah):∀(n:Nat) {v:V},n<=l.length->v.sound->bp (l.take n) v≠none-> (lA l n v).2=false-> (lA l n v).1.l≠ []
 |0,v,_,_,_,h=>by rw [take_zero] at h;cases h
 |n+1,v,hn,hv,hg,h=>by
  cases hx:bp (l.take (n+1)) v with
  |none=>exact absurd hx hg
  |some x=>
   rw [Gx hx] at h⊢;by_cases hc:n+1<l.length/\ (x.k≠5\/x.keys≠ [])
   ·rw [if_pos hc] at h⊢
    exact Lb (La (by omega)) hg
   ·rw [if_neg hc] at h⊢
    exact RP l n (by omega) (RO _ hv hg) (go_cut l n (by omega) hv hg) h
theorem aaU (l:List ah):∀(n:Nat) {v:V},0<n-> (lA l n v).2=true->bp (l.take n) v≠none
 |0,v,h,_=>by omega
 |n+1,v,_,h=>by
  intro e;rw [DN e] at h
  cases h
theorem Lc:∀(l:List ah) {v:V},v.sound-> (eK l v).sound/\ (eK l v).count<=v.count
 | [],v,h=>⟨h,Nat.le_refl _⟩
 |a::r,v,h=>by
  rw [eK]
  cases hm:v.member a with
  |none=>exact⟨h,Nat.le_refl _⟩
  |some o=>
   obtain⟨hp,h5⟩:=tO h hm;have df:=iI h h5;have hd:(v.del a).sound/\ (v.del a).count<=v.count:=⟨KJ h a,QK df a⟩;obtain⟨h1,h2⟩:=Lc r (qF h hm);have h3:=F4 df a (eK r o);rw [hm] at h3;simp only at h3⊢
   split
   ·exact hd
   ·split
    ·exact hd
    ·exact⟨Dg h h1 hp h5,by omega⟩
theorem take_drop:∀(l:List ah) {v:V},l≠ []->v.sound->K9 l v=eK l v
 | [],_,h,_=>absurd rfl h
 |a::r,v,_,hv=>by
  unfold K9;rw [eK]
  cases hm:v.member a with
  |none=>rw [List.length_cons,DN (by rw [List.take_succ_cons,bp,hm];rfl)]
  |some o=>
   obtain⟨hp,h5⟩:=tO hv hm;have df:=iI hv h5;have ho:=qF hv hm;simp only;rw [List.length_cons,take_cons (Nat.le_refl _) df hm];have one:∀z:V,lA (a::r) 1 (v.put a z)=if 1<(a::r).length/\ (z.k≠5\/z.keys≠ []) then(v.put a z,false) else(v.del a,true):=by
    intro z;have e:bp ((a::r).take (0+1)) (v.put a z)=some z:=by simp only [List.take_succ_cons,List.take_zero,bp,yI df,Option.bind_some]
    rw [Gx e,take_zero];simp only [List.take_succ_cons,List.take_zero,sf,if_true,aaR df]
   by_cases hr:r= []
   ·subst hr
    rw [if_pos rfl,List.length_nil,take_zero,if_pos rfl,one,if_neg (by simp)]
   ·have ih:=take_drop r hr ho
    unfold K9 at ih;have hlen:0<r.length:=by cases r with|nil=>exact absurd rfl hr|cons=>simp
    rw [if_neg hr,ih]
    cases hf:(lA r r.length o).2 with
    |true=>
     have hol:=Lb (v:=o) hr (by have:=aaU r _ hlen hf;rwa [List.take_length] at this);rw [if_pos rfl,one];have hds:=(Lc r ho).1;by_cases hz:(eK r o).k=5/\ (eK r o).l= []
     ·have hzk:(eK r o).keys= []:=by
       have:=(iI hds hz.1).len;rw [hz.2] at this;exact List.eq_nil_of_length_eq_zero (by simpa using this)
      rw [if_neg (by rintro⟨-,h|h⟩;exact h hz.1;exact h hzk),if_pos ⟨hz.1,hz.2,hol⟩]
     ·have hcc:1<(a::r).length/\ ((eK r o).k≠5\/ (eK r o).keys≠ []):=by
       refine⟨by simp only [List.length_cons];omega,?_⟩;by_cases Gy:(eK r o).k=5
       ·refine .inr fun e=>hz ⟨Gy,?_⟩
        have:=(iI hds Gy).len;rw [e] at this;exact List.eq_nil_of_length_eq_zero (by simpa using this.symm)
       ·exact .inl Gy
      rw [if_pos hcc,if_neg (fun h=>hz ⟨h.1,h.2.1⟩)]
    |false=>
     rw [if_neg (by simp),if_neg];rintro⟨-,h2,h3⟩;by_cases hg:bp r o=none
     ·have e:lA r r.length o=(o,false):=by
       obtain⟨m,hm2⟩:∃m,r.length=m+1:=⟨r.length-1,by omega⟩;rw [hm2,DN (by rw [<-hm2,List.take_length];exact hg)]
      rw [e] at ih;simp only at ih;rw [<-ih] at h2;exact h3 h2
     ·have:=RP r r.length (Nat.le_refl _) ho (by rwa [List.take_length]) hf
      rw [ih] at this;exact this h2
theorem Ld (x:V):∀ns,(x.eN ns).length<=x.count:=by
 induction x using V.ind with
 |h x ih=>
  intro ns;rw [AL];have hp:=V.Aq x
  split
  ·simp only [List.length_singleton];exact hp
  ·have hgo:∀(l:List V) (ks:List ah),(∀y∈l,∀ns,(y.eN ns).length<=y.count)-> (V.eN.go l ks ns).length<= (l.map V.count).sum:=by
    intro l
    induction l with
    |nil=>intro ks _;rw [yL];simp
    |cons y l ihl=>
     intro ks h
     cases ks with
     |nil=>rw [Fx];simp
     |cons k ks=>
      rw [yM,List.length_append,List.map_cons,List.sum_cons];have h1:=h y (by simp) (ns++ [k]);have h2:=ihl ks (fun z hz=>h z (by simp [hz]));omega
   have:=hgo x.l x.keys ih;rw [V.count_eq];omega
theorem AU (x:V):x.leaves.length<=120:=by
 unfold V.leaves
 split
 ·rename_i h
  rw [(wS _).length_eq,List.length_map];have:=Ld x [];have:=uM h.1;omega
 ·simp
theorem JO (paths:List ah) (out:List Ow) {v:V} (h:v.sound) (p:ah):(iK paths out v p).sound/\ (iK paths out v p).count<=v.count:=by
 unfold iK
 split
 ·exact Lc _ h
 ·exact⟨h,Nat.le_refl _⟩
theorem AQ (paths:List ah) (out:List Ow):∀(ps:List ah) {v:V},v.sound-> (ps.foldl (iK paths out) v).sound/\ (ps.foldl (iK paths out) v).count<=v.count
 | [],_,h=>⟨h,Nat.le_refl _⟩
 |p::r,v,h=>by obtain⟨h1,h2⟩:=JO paths out h p;obtain⟨h3,h4⟩:=AQ paths out r h1;exact⟨h3,by rw [List.foldl_cons];omega⟩
theorem aaV {want:V} {p:ah} (h:p∈want.leaves):(((bG want p).getD V.zero).k=5-> ((bG want p).getD V.zero).l= [])/\ ((bG want p).getD V.zero).sound/\ ((bG want p).getD V.zero).count<=120:=by
 obtain⟨hf,h5,r,rfl,hn,hr,hl,hp,y,hy,jo,xw⟩:=qJ h;rw [jo,Option.getD_some];exact⟨xw,go_sound r (gq hf) hy,by have:=RL r hy;have:=uM hf;omega⟩
theorem Qd {want:V} {p:ah} (h:p∈want.leaves):bJ p≠ []/\ (bJ p).length<=11/\∀a∈bJ p,fU a=true:=by
 obtain⟨hf,h5,r,rfl,hn,hr,hl,hp,-⟩:=qJ h;unfold bJ;rw [hn];exact⟨hr,hl,hp⟩
theorem Fu {want v:V} (h:v.sound) {p:ah} (hp:p∈want.leaves):(iJ want v p).sound/\ (iJ want v p).k=5/\ (iJ want v p).count<=v.count+131:=by
 obtain⟨h1,h2,h3⟩:=aaV hp;obtain⟨n1,n2,n3⟩:=Qd hp;obtain⟨k1,k2,k3⟩:=RM (bJ p) n1 h h2 n3;exact⟨k1,k2,by unfold iJ;omega⟩
theorem PQ (want:V):∀(ps:List ah) {v:V},(∀p∈ps,p∈want.leaves)->v.sound-> (ps.foldl (iJ want) v).sound/\ (ps.foldl (iJ want) v).count<=v.count+ps.length*131
 | [],_,_,h=>⟨h,by simp⟩
 |p::r,v,hp,h=>by obtain⟨h1,-,h2⟩:=Fu h (hp p (by simp));obtain⟨h3,h4⟩:=PQ want r (fun q hq=>hp q (by simp [hq])) h1;exact⟨h3,by rw [List.foldl_cons,List.length_cons];omega⟩
theorem PZ {x:V} (h:x.sound) (hc:x.count<=20000):x.size<=4194304:=by have:=Au h;omega
theorem A1 {l:List Ow} (h:gU l=true) {o:Ow} (ho:o∈l) {p:ah} (hp:p∈o.paths):∃r,cJ p=some r/\r≠ []:=by
 unfold gU at h;rw [Bool.and_eq_true,decide_eq_true_eq] at h;obtain⟨i,hi,rfl⟩:=List.getElem_of_mem ho;obtain⟨-,-,-,h4⟩:=h.1 i hi;unfold qI at h4;rw [decide_eq_true_eq] at h4;obtain⟨k,hk,rfl⟩:=List.getElem_of_mem hp;have h5:=(h4 k hk).1;unfold yJ at h5
 cases hn:cJ l[i].paths[k] with
 |none=>rw [hn] at h5;cases h5
 |some r=>rw [hn] at h5;exact⟨r,rfl,by simpa using h5⟩
theorem J7 {who:ah} {l:List Ow} {p:ah} (h:p∈lS who l):∃o∈l,p∈o.paths:=by
 have:∀(l:List Ow) (old:List ah),(p∈l.foldl (fun old o=>if o.name=who then o.paths else old) old)->p∈old\/∃o∈l,p∈o.paths:=by
  intro l
  induction l with
  |nil=>intro old h;exact .inl h
  |cons o r ih=>
   intro old h;rw [List.foldl_cons] at h;rcases ih _ h with h|⟨q,hq,hp⟩
   ·split at h
    ·exact .inr ⟨o,by simp,h⟩
    ·exact .inl h
   ·exact .inr ⟨q,by simp [hq],hp⟩
 rcases this l [] h with h|h
 ·cases h
 ·exact h
theorem RQ:∀(r t:List ah) (v:V),bp (r++t) v=(bp r v).bind (bp t)
 | [],t,v=>rfl
 |a::r,t,v=>by
  rw [List.cons_append,bp,bp]
  cases v.member a with
  |none=>rfl
  |some z=>exact RQ r t z
def nW (r s:List ah):Prop:=¬r<+:s/\¬s<+:r
theorem nW.symm {r s:List ah} (h:nW r s):nW s r:=⟨h.2,h.1⟩
theorem nW.tail {a:ah} {r s:List ah} (h:nW (a::r) (a::s)):nW r s:=
 ⟨fun e=>h.1 (List.cons_prefix_cons.2 ⟨rfl,e⟩),fun e=>h.2 (List.cons_prefix_cons.2 ⟨rfl,e⟩)⟩
theorem nW.ne {r s:List ah} (h:nW r s):r≠ []/\s≠ []:=⟨fun e=>h.1 (by rw [e];exact List.nil_prefix),fun e=>h.2 (by rw [e];exact List.nil_prefix)⟩
theorem CF {b:ah} {r:List ah} {v y:V} (h:bp (b::r) v=some y):∃z,v.member b=some z/\bp r z=some y:=by
 rw [bp] at h
 cases hm:v.member b with
 |none=>rw [hm] at h;cases h
 |some z=>rw [hm] at h;exact⟨z,rfl,h⟩
theorem RR:∀(l r:List ah) {v x y:V},v.sound->nW l r->bp r v=some y->bp r (gW l v x)=some y
 | [],r,v,x,y,hv,h,hg=>absurd rfl h.ne.1
 |a::l, [],v,x,y,hv,h,hg=>absurd rfl h.ne.2
 |a::l,b::r,v,x,y,hv,h,hg=>by
  obtain⟨z,hm,hz⟩:=CF hg;have h5:=(tO hv hm).2;have df:=iI hv h5;have hbs:v.base=v:=base_of h5;rw [gW,hbs];by_cases hab:a=b
  ·subst hab
   have ht:=h.tail;rw [if_pos ht.ne.1,bp,yI df,Option.bind_some,hm,Option.getD_some];exact RR l r (qF hv hm) ht hz
  ·have hput:∀q,bp (b::r) (v.put a q)=some y:=fun q=>by rw [bp,vw df,if_neg hab,hm];exact hz
   split
   ·exact hput _
   ·split
    ·split
     ·exact hg
     ·exact hput _
    ·exact hput _
theorem RS:∀(l r:List ah) {v y:V},v.sound->nW l r->bp r v=some y->bp r (eK l v)=some y
 | [],r,v,y,hv,h,hg=>absurd rfl h.ne.1
 |a::l, [],v,y,hv,h,hg=>absurd rfl h.ne.2
 |a::l,b::r,v,y,hv,h,hg=>by
  obtain⟨z,hm,hz⟩:=CF hg;have df:=iI hv (tO hv hm).2;rw [eK];by_cases hab:a=b
  ·subst hab
   have ht:=h.tail;rw [hm];simp only;rw [if_neg ht.ne.1];have ih:=RS l r (qF hv hm) ht hz;have hne:(eK l z).l≠ []:=Lb ht.ne.2 (by rw [ih];simp);rw [if_neg (fun e=>hne e.2.1),bp,yI df];exact ih
  ·have hput:∀q,bp (b::r) (v.put a q)=some y:=fun q=>by rw [bp,vw df,if_neg hab,hm];exact hz
   have hdel:bp (b::r) (v.del a)=some y:=by rw [bp,F3 df,if_neg hab,hm];exact hz
   split
   ·exact hg
   ·split
    ·exact hdel
    ·split
     ·exact hdel
     ·exact hput _
theorem RT {p:ah} {ks:List ah} (h:cJ p=some ks):jV p.data.toList=some (ks.map (·.data.toList)):=by
 unfold cJ at h
 cases hn:jV p.data.toList with
 |none=>rw [hn] at h;cases h
 |some m=>
  rw [hn] at h;simp only [Option.map_some,Option.some.injEq] at h;subst h;have:((fun x:ah=>x.data.toList)∘fun s:List UInt8=>(⟨s.toArray⟩:ah))=id:=by funext s;rfl
  simp [this]
theorem RU {l:List Ow} (h:gU l=true):cz (l.map Ow.name):=by
 unfold gU at h;rw [Bool.and_eq_true,decide_eq_true_eq] at h;refine List.pairwise_iff_getElem.2 fun i j hi hj hij=> ?_;simp only [List.getElem_map];simp only [List.length_map] at hi hj;obtain⟨d,rfl⟩:∃d,j=i+1+d:=⟨j-i-1,by omega⟩;clear hij
 induction d with
 |zero=>have:=(h.1 (i+1) hj).2.1 (by omega);simpa using this
 |succ d ih=>
  have h1:=ih (by omega) (by omega);have h2:=(h.1 (i+1+(d+1)) hj).2.1 (by omega);exact tS h1 h2
theorem aaW (r t:List (List UInt8)):joinL (r++t)=joinL r++joinL t:=List.flatMap_append
theorem RV {p q:ah} {r s:List ah} (hp:cJ p=some r) (hq:cJ q=some s) (h:r<+:s) (hne:p≠q):fV p q=true:=by
 obtain⟨t,rfl⟩:=h;have e1:joinL (r.map (·.data.toList))=p.data.toList:=KN (RT hp);have e2:joinL ((r++t).map (·.data.toList))=q.data.toList:=KN (RT hq);rw [List.map_append,aaW,e1] at e2
 cases t with
 |nil=>exact absurd (K8 (by rw [<-e2];simp [joinL])) hne
 |cons c t=>
  unfold fV;rw [<-e2];have:joinL ((c::t).map (·.data.toList))= [47]++(lu c.data.toList++joinL (t.map (·.data.toList))):=by simp [joinL]
  rw [this,<-List.append_assoc,List.isPrefixOf_iff_prefix];exact List.prefix_append _ _
theorem Le {p q:ah} {r s:List ah} (hp:cJ p=some r) (hq:cJ q=some s) (hne:p≠q) (h1:fV p q=false) (h2:fV q p=false):nW r s:=
 ⟨fun h=>(by rw [RV hp hq h hne] at h1;cases h1),fun h=>(by rw [RV hq hp h (Ne.symm hne)] at h2;cases h2)⟩
theorem Px {x:V} {p q:ah} {r s:List ah} (hp:p∈x.leaves) (hq:q∈x.leaves) (hr:cJ p=some r) (hs:cJ q=some s) (hne:p≠q):nW r s:=by
 have key:∀ {p q:ah} {r s:List ah},p∈x.leaves->q∈x.leaves->cJ p=some r->cJ q=some s->p≠q->¬r<+:s:=by
  intro p q r s hp hq hr hs hne h;obtain⟨hf,-,r',e1,hn,-,-,-,y,hy,-,xw⟩:=qJ hp;obtain⟨-,-,s',e2,kI,-,-,-,z,hz,-⟩:=qJ hq;rw [hr] at hn;rw [hs] at kI
  cases hn;cases kI
  obtain⟨t,rfl⟩:=h
  cases t with
  |nil=>rw [List.append_nil] at e2;exact hne (e1.trans e2.symm)
  |cons c t=>
   rw [RQ,hy,Option.bind_some] at hz;obtain⟨u,hu,-⟩:=CF hz;have hys:=go_sound _ (gq hf) hy;have h5:=(tO hys hu).2;have:=yA hu;rw [xw h5] at this
   cases this
 exact⟨key hp hq hr hs hne,key hq hp hs hr (Ne.symm hne)⟩
theorem Gz {v want:V} {q:ah}:∀(ls:List ah),lj v want q ls=false-> (∀p∈ls,p=q\/ (fV p q=false/\fV q p=false)\/q∈ls)/\ (q∈ls->∃now,bG v q=some now/\jb now ((bG want q).getD V.zero)=true)
 | [],_=>⟨fun _ h=>(List.not_mem_nil h).elim,fun h=>(List.not_mem_nil h).elim⟩
 |p::r,h=>by
  rw [show lj v want q (p::r)=if(fV p q||fV q p)=true then true else if p=q then(match bG v p with|none=>true|some now=> !jb now ((bG want p).getD V.zero)) else lj v want q r from rfl] at h
  split at h
  ·cases h
  ·rename_i ha
   have ha':fV p q=false/\fV q p=false:=by
    cases h1:fV p q<;>cases h2:fV q p<;>simp_all
   split at h
   ·rename_i kJ
    subst kJ;refine⟨fun p' hp'=> .inr (.inr (by simp)),fun _=> ?_⟩
    split at h
    ·cases h
    ·rename_i now hn
     exact⟨now,hn,by simpa using h⟩
   ·rename_i kJ
    obtain⟨h1,h2⟩:=Gz r h;refine⟨fun p' hp'=> ?_,fun hq=>h2 (by rcases List.mem_cons.1 hq with e|e;exact absurd e.symm kJ;exact e)⟩;rcases List.mem_cons.1 hp' with rfl|hp'
    ·exact .inr (.inl ha')
    ·rcases h1 p' hp' with h|h|h
     ·exact .inl h
     ·exact .inr (.inl h)
     ·exact .inr (.inr (by simp [h]))
theorem RX {v want:V} {p q:ah} {r s:List ah} (h:eA v want q=false) (hp:p∈want.leaves) (hr:cJ p=some r) (hs:cJ q=some s) (hne:p≠q):nW r s:=by
 obtain⟨h1,-⟩:=Gz want.leaves h;rcases h1 p hp with e|e|e
 ·exact absurd e hne
 ·exact Le hr hs hne e.1 e.2
 ·exact Px hp e hr hs hne
def p8 (m:List Ow) (who:ah):List ah:=match m.find? fun o=>decide (o.name=who) with|some o=>o.paths|none=> []
theorem aaX {os:List Ow} {who name:ah} (ps:List ah) (hne:name≠who):p8 (fK os who ps) name=p8 os name:=by
 unfold fK
 split
 ·rfl
 ·unfold p8
  rw [List.find?_append,List.find?_cons,decide_eq_false (show¬who=name from fun e=>hne e.symm)];simp only;rw [<-List.find?_append,List.take_append_drop]
theorem RY:∀ {m:List Ow},(m.map Ow.name).Nodup->∀o∈m,p8 m o.name=o.paths
 | [],_,o,h=>by cases h
 |a::r,hn,o,h=>by
  obtain⟨h1,h2⟩:=List.nodup_cons.1 hn;unfold p8;rw [List.find?_cons];by_cases he:a.name=o.name
  ·rw [decide_eq_true he]
   rcases List.mem_cons.1 h with rfl|h
   ·rfl
   ·exact absurd (by rw [he];exact List.mem_map_of_mem h) h1
  ·rw [decide_eq_false he]
   rcases List.mem_cons.1 h with rfl|h
   ·exact absurd rfl he
   ·exact RY h2 o h
theorem CN {v:V} {l:List Ow} {who:ah} {want w:V} {force:Bool} {m:List Ow} {c:List (ah×ah)} (h:ik v l who want force=(w,m,c,0)):
 p6 v l who want=true/\¬(ja v l who want≠ []/\force=false)/\w=eZ v l who want/\m=fW v l who want/\w.fine=true/\m.length<=6/\c= []:=by
 unfold ik at h
 split at h
 ·simp at h
 ·rename_i hb
  split at h
  ·simp at h
  ·rename_i hc
   split at h
   ·simp at h
   ·rename_i hf
    simp only [Prod.mk.injEq] at h;obtain⟨rfl,rfl,rfl,-⟩:=h;refine⟨by simpa using hb,hc,rfl,rfl,?_,?_,rfl⟩
    ·cases hw:(eZ v l who want).fine with
     |true=>rfl
     |false=>exact absurd (.inl hw) hf
    ·exact Nat.le_of_not_lt fun h=>hf (.inr h)
theorem AP {v:V} {l:List Ow} {who:ah} {want:V} (h:p6 v l who want=true):v.fine=true/\want.fine=true/\v.k=5/\want.k=5/\gU l=true/\gK who=true:=by
 unfold p6 at h;simp only [Bool.and_eq_true,decide_eq_true_eq] at h;obtain⟨⟨⟨⟨⟨h1,h2⟩,h3⟩,h4⟩,h5⟩,h6⟩:=h;exact⟨h1,h2,h3,h4,h5,h6⟩
theorem RZ {l:List Ow} (h:gU l=true) {o:Ow} (ho:o∈l):o.paths≠ []/\gK o.name=true:=by
 unfold gU at h;rw [Bool.and_eq_true,decide_eq_true_eq] at h;obtain⟨i,hi,rfl⟩:=List.getElem_of_mem ho;exact⟨(h.1 i hi).2.2.1,(h.1 i hi).1⟩
theorem Lf {r:List ah} {y:V} (paths:List ah) (out:List Ow):∀(ps:List ah) {v:V},v.sound-> (∀p∈ps,p9 out p=false->nW (bJ p) r)->bp r v=some y->bp r (ps.foldl (iK paths out) v)=some y
 | [],_,_,_,h=>h
 |p::ps,v,hv,ha,h=>by
  rw [List.foldl_cons];refine Lf paths out ps (JO paths out hv p).1 (fun q hq=>ha q (by simp [hq])) ?_;unfold iK
  split
  ·rename_i hc
   exact RS _ _ hv (ha p (by simp) hc.2) h
  ·exact h
theorem Fs {r:List ah} {y want:V}:∀(ps:List ah) {v:V},v.sound-> (∀p∈ps,p∈want.leaves)-> (∀p∈ps,nW (bJ p) r\/∀v:V,v.sound->bp r v=some y->bp r (iJ want v p)=some y)->bp r v=some y->bp r (ps.foldl (iJ want) v)=some y
 | [],_,_,_,_,h=>h
 |p::ps,v,hv,hl,ha,h=>by
  rw [List.foldl_cons];refine Fs ps (Fu hv (hl p (by simp))).1 (fun q hq=>hl q (by simp [hq])) (fun q hq=>ha q (by simp [hq])) ?_;rcases ha p (by simp) with h1|h1
  ·exact RR _ _ hv h1 h
  ·exact h1 v hv h
theorem CH:∀(l:List ah) {v x y:V},l≠ []->v.sound->bp l v=some y->jb y x=true->gW l v x=v
 | [],_,_,_,h,_,_,_=>absurd rfl h
 |a::l,v,x,y,_,hv,hg,hk=>by
  obtain⟨z,hm,hz⟩:=CF hg;have h5:=(tO hv hm).2;have df:=iI hv h5;rw [gW,base_of h5,hm];by_cases hl:l= []
  ·subst hl
   simp only [bp,Option.some.injEq] at hz;subst hz;simp [hk]
  ·rw [if_pos hl,Option.getD_some,CH l hl (qF hv hm) hz hk,Gw df hm]
theorem aaY {v:V} {l:List Ow} {who:ah} {want w:V} {m:List Ow} {c:List (ah×ah)} (h:ik v l who want false=(w,m,c,0)) {o:Ow} (ho:o∈l) (hn:o.name≠who):
 p8 m o.name=o.paths/\∀p∈o.paths,∀x,bG v p=some x->x.k≠5->bG w p=some x:=by
 obtain⟨hb,hc,rfl,rfl,hwf,-,-⟩:=CN h;obtain⟨tT,yP,-,-,hgl,-⟩:=AP hb;have FD:ja v l who want= []:=Classical.byContradiction fun e=>hc ⟨e,rfl⟩;have wU:∀o∈l,o.name≠who->∀q∈o.paths,eA v want q=false:=by
  intro o ho hn q hq;unfold ja at FD;have:=List.flatMap_eq_nil_iff.1 FD o ho;unfold vg at this;rw [if_neg hn,List.map_eq_nil_iff] at this
  cases hw:eA v want q with
  |false=>rfl
  |true=>exact absurd (List.mem_filter.2 ⟨hq,hw⟩) (by rw [this];simp)
 have hoth:ez v want who l=l.filter fun o=>decide (o.name≠who):=by
  unfold ez;have:∀(l2:List Ow),(∀o∈l2,o∈l/\o.name≠who)->l2.filterMap (jc fun q=> !eA v want q)=l2:=by
   intro l2
   induction l2 with
   |nil=>intro _;rfl
   |cons o r ih=>
    intro hl2;obtain⟨h1,h2⟩:=hl2 o (by simp);have vh:(o.paths.filter fun q=> !eA v want q)=o.paths:=List.filter_eq_self.2 fun q hq=>by rw [wU o h1 h2 q hq];rfl
    have hk:jc (fun q=> !eA v want q) o=some o:=by unfold jc;rw [vh,if_neg (RZ hgl h1).1]
    rw [List.filterMap_cons,hk,ih (fun o' ho'=>hl2 o' (by simp [ho']))]
  exact this _ (fun o ho=>by have:=List.mem_filter.1 ho;exact⟨this.1,by simpa using this.2⟩)
 have hmem:o∈ez v want who l:=by rw [hoth];exact List.mem_filter.2 ⟨ho,by simp [hn]⟩
 have hnd:((ez v want who l).map Ow.name).Nodup:=KH (by
  rw [hoth];have h1:((l.filter fun o=>decide (o.name≠who)).map Ow.name).Sublist (l.map Ow.name):=(List.filter_sublist).map _
  exact(RU hgl).sublist h1)
 refine⟨by unfold fW;rw [aaX _ hn];exact RY hnd o hmem,fun p hp x hx h5=> ?_⟩;obtain⟨r,hr,Lg⟩:=A1 hgl ho hp;have DR:∀z:V,bG z p=bp r z:=fun z=>by unfold bG bJ;rw [hr];rfl
 rw [DR] at hx⊢;have hw:=wU o ho hn p hp;unfold eZ;obtain⟨hds,-⟩:=AQ want.leaves (ez v want who l) (lS who l) (gq tT);refine Fs want.leaves hds (fun _ h=>h) (fun p' hp'=> ?_) (Lf _ _ _ (gq tT) (fun p' hp' gy=> ?_) hx)
 ·obtain⟨-,-,s,-,hs,-⟩:=qJ hp'
  have hnd':bJ p'=s:=by unfold bJ;rw [hs];rfl
  by_cases he:p'=p
  ·refine .inr fun z hz wR=> ?_
   subst he;rw [hr] at hs
   cases hs
   obtain⟨now,zo,Lh⟩:=(Gz want.leaves hw).2 hp';rw [DR] at zo;rw [hx] at zo
   cases zo
   unfold iJ;rw [hnd',CH r Lg hz wR Lh];exact wR
  ·exact .inl (by rw [hnd'];exact RX hw hp' hs hr he)
 ·obtain⟨o',ho',aaZ⟩:=J7 hp'
  obtain⟨s,hs,-⟩:=A1 hgl ho' aaZ;have hnd':bJ p'=s:=by unfold bJ;rw [hs];rfl
  rw [hnd'];have sj:qK p' p=false:=by unfold p9 at gy;have:=List.any_eq_false.1 gy o hmem;simp only [Bool.not_eq_true] at this;have:=List.any_eq_false.1 this p hp;simpa using this
  unfold qK at sj;simp only [Bool.or_eq_false_iff,decide_eq_false_iff_not] at sj;exact Le hs hr sj.1.1 sj.1.2 sj.2
end Go.Proofs.YtlcebdaghmdkeabGreatDoor
namespace Go.Proofs.YtlcebdaghmdkeabGreatDoor
open Go.Proofs.Tryz
open Go.RowKit
theorem Tryz.DT:(prog.info? 58).map (fun i=>(i.zero,i.size,i.bytes))=some (some (.agg #[.string ⟨#[]⟩, .slice none 0 0]),2,40):=by kernel_rfl
def Ow.size (o:Ow):Nat:=1+o.name.size+ft o.paths
def cw (l:List Ow):Nat:=(l.map Ow.size).sum
theorem Ow.size_pos (o:Ow):1<=o.size:=by unfold Ow.size;omega
theorem tQ (l:List Ow):l.length<=cw l:=Ct Ow.size Ow.size_pos l
theorem qG {l:List Ow} {o:Ow} (h:o∈l):o.size<=cw l:=uO Ow.size h
theorem Ow.qH (o:Ow):o.paths.length<o.size:=by
 have:=Ct (fun k:ah=>k.size+1) (fun _=>by omega) o.paths;unfold Ow.size ft;omega
theorem Ow.AE {o:Ow} {p:ah} (h:p∈o.paths):p.size<o.size:=by
 have:=uO (fun k:ah=>k.size+1) h;unfold Ow.size ft;omega
theorem Ow.XO (o:Ow):o.name.size<o.size:=by unfold Ow.size;omega
def Ow.Item (w:World) (S:az) (b o:Nat) (x:Ow):Prop:=
 ∃pa pc,w.cell? ⟨b,o,none⟩=some (.string x.name)/\w.cell? ⟨b,o+1,none⟩=some (.slice pa x.paths.length pc)/\aM pa x.paths.length pc/\bR w S pa x.paths
def cx (w:World) (S:az) (l:List Ow) (p:au):Prop:=
 l= []\/∃b o,p=some ⟨b,o,none⟩/\S b/\∀i (h:i<l.length),Ow.Item w S b (o+i*2) l[i]
theorem Ow.Item.keep {S T:az} {w w':World} {b o:Nat} {x:Ow} (h:Ow.Item w S b o x) (hS:S b) (hk:Kept S w w') (hT:∀b,S b->b<w.heap.size->T b):Ow.Item w' T b o x:=by
 obtain⟨pa,pc,h0,h1,h2,h3⟩:=h;exact⟨pa,pc,hk.cell (p:=⟨b,o,none⟩) hS h0,hk.cell (p:=⟨b,o+1,none⟩) hS h1,h2,h3.keep hk hT⟩
theorem cx.keep {S T:az} {w w':World} {l:List Ow} {p:au} (h:cx w S l p) (hk:Kept S w w') (hT:∀b,S b->b<w.heap.size->T b):cx w' T l p:=by
 by_cases hn:l= []
 ·exact .inl hn
 ·obtain⟨b,o,rfl,hS,hi⟩:=h.resolve_left hn
  have h0:0<l.length:=List.length_pos_iff.2 hn;have hlt:b<w.heap.size:=by obtain⟨pa,pc,h0,-⟩:=hi 0 h0;exact lh h0
  exact .inr ⟨b,o,rfl,hT b hS hlt,fun i h=>(hi i h).keep hS hk hT⟩
theorem cx.ext {S:az} {w w':World} {l:List Ow} {p:au} (h:cx w S l p) (e:Ext w w'):cx w' S l p:=h.keep (e.kept S) (fun _ h _=>h)
theorem cx.mono {S T:az} {w:World} {l:List Ow} {p:au} (h:cx w S l p) (hT:∀b,S b->b<w.heap.size->T b):cx w T l p:=h.keep (Ext.refl w|>.kept S) hT
theorem cx.item {S:az} {w:World} {l:List Ow} {p:au} (h:cx w S l p) {i:Nat} (hi:i<l.length):∃b o,p=some ⟨b,o,none⟩/\S b/\Ow.Item w S b (o+i*2) l[i]:=by
 obtain⟨b,o,rfl,hS,h⟩:=h.resolve_left (by intro e;rw [e] at hi;simp at hi);exact⟨b,o,rfl,hS,h i hi⟩
def dF (w:World) (T:az):List Ow->List Value->Prop
 | [],xs=>xs= []
 |x::r,xs=>∃pa pc t,xs= .string x.name:: .slice pa x.paths.length pc::t/\ (aM pa x.paths.length pc/\bR w T pa x.paths)/\dF w T r t
theorem dF.keep {S T:az} {w w':World} {l:List Ow} {xs:List Value} (h:dF w S l xs) (hk:Kept S w w') (hT:∀b,S b->b<w.heap.size->T b):dF w' T l xs:=by
 induction l generalizing xs with
 |nil=>exact h
 |cons x r ih=>
  obtain⟨pa,pc,t,rfl,h1,h2⟩:=h;exact⟨pa,pc,t,rfl,⟨h1.1,h1.2.keep hk hT⟩,ih h2⟩
theorem dF.app {w:World} {T:az} {l m:List Ow} {xs ys:List Value} (h:dF w T l xs) (k:dF w T m ys):dF w T (l++m) (xs++ys):=by
 induction l generalizing xs with
 |nil=>subst h;exact k
 |cons y r ih=>
  obtain⟨a,b,t,rfl,h1,h2⟩:=h;exact⟨a,b,_,rfl,h1,ih h2⟩
theorem dF.one {w:World} {T:az} {x:Ow} {pa:au} {pc:Nat} (h:aM pa x.paths.length pc) (hx:bR w T pa x.paths):dF w T [x] [.string x.name, .slice pa x.paths.length pc]:=⟨pa,pc, [],rfl,⟨h,hx⟩,rfl⟩
theorem dF.len {w:World} {T:az} {l:List Ow} {xs:List Value} (h:dF w T l xs):xs.length=l.length*2:=by
 induction l generalizing xs with
 |nil=>subst h;rfl
 |cons y r ih=>
  obtain⟨a,b,t,rfl,h1,h2⟩:=h;have:=ih h2;simp only [List.length_cons,this];omega
theorem dF.ones {w:World} {T:az} {l:List Ow} {xs:List Value} (h:dF w T l xs):∀u∈xs,u.oneCell'=true:=by
 induction l generalizing xs with
 |nil=>subst h;intro u hu;cases hu
 |cons y r ih=>
  obtain⟨a,b,t,rfl,h1,h2⟩:=h;intro u hu;rcases List.mem_cons.1 hu with rfl|hu
  ·rfl
  ·rcases List.mem_cons.1 hu with rfl|hu
   ·rfl
   ·exact ih h2 u hu
theorem dF.item {w:World} {T:az} {l:List Ow} {xs:List Value} (h:dF w T l xs):∀i (hi:i<l.length),∃pa pc,xs[i*2]? =some (.string l[i].name)/\xs[i*2+1]? =some (.slice pa l[i].paths.length pc)/\aM pa l[i].paths.length pc/\bR w T pa l[i].paths:=by
 induction l generalizing xs with
 |nil=>intro i hi;simp at hi
 |cons y r ih=>
  obtain⟨a,b,t,rfl,h1,h2⟩:=h;intro i hi
  match i with
  |0=>exact⟨a,b,by simp,by simp,by simpa using h1.1,by simpa using h1.2⟩
  |i+1=>
   obtain⟨pa,pc,c0,c1,c2,c3⟩:=ih h2 i (by simpa using hi);refine⟨pa,pc,?_,?_,by simpa using c2,by simpa using c3⟩
   ·simp only [List.getElem_cons_succ,show (i+1)*2=i*2+1+1 from by omega,List.getElem?_cons_succ];exact c0
   ·simp only [List.getElem_cons_succ,show (i+1)*2+1=(i*2+1)+1+1 from by omega,List.getElem?_cons_succ];exact c1
theorem aa0 {w:World} {S:az} {l:List Ow} {p:au} (h:cx w S l p):∃xs,xs.length=l.length*2/\ (l.length=0\/∃b,p=some b/\∀j u,xs[j]? =some u->w.cell? (b.add j)=some u)/\dF w S l xs:=by
 by_cases hn:l= []
 ·subst hn;exact⟨[],rfl, .inl rfl,rfl⟩
 ·obtain⟨b,o,rfl,hS,hi⟩:=h.resolve_left hn
  have:∀(l:List Ow) (o:Nat),(∀i (h:i<l.length),Ow.Item w S b (o+i*2) l[i])->∃xs,xs.length=l.length*2/\ (∀j u,xs[j]? =some u->w.cell? ⟨b,o+j,none⟩=some u)/\dF w S l xs:=by
   intro l
   induction l with
   |nil=>intro o _;exact⟨[],rfl,fun j u h=>by simp at h,rfl⟩
   |cons x r ih=>
    intro o h
    obtain⟨xs,h1,h2,h3⟩:=ih (o+2) (fun i hi=>by
     have:=h (i+1) (by simpa using hi);rw [show o+2+i*2=o+(i+1)*2 from by omega]
     simpa using this)
    obtain⟨pa,pc,c0,c1,c2,c3⟩:=h 0 (by simp);refine⟨.string x.name:: .slice pa x.paths.length pc::xs,by simp only [List.length_cons,h1];omega,?_,⟨pa,pc,xs,rfl,⟨by simpa using c2,by simpa using c3⟩,h3⟩⟩;intro j u hj
    match j with
    |0=>simp only [List.getElem?_cons_zero,Option.some.injEq] at hj;subst hj;simpa using c0
    |1=>simp only [List.getElem?_cons_succ,List.getElem?_cons_zero,Option.some.injEq] at hj;subst hj;simpa using c1
    |j+2=>
     simp only [List.getElem?_cons_succ] at hj;rw [show o+(j+2)=o+2+j from by omega];exact h2 j u hj
  obtain⟨xs,h1,h2,h3⟩:=this l o hi;exact⟨xs,h1, .inr ⟨_,rfl,fun j u hj=>by rw [Addr.add_lit];exact h2 j u hj⟩,h3⟩
def j6 (w:World) (base:Nat) (S:az) (v:Value) (n:Nat) (l:List Ow):Prop:=
 l.length=n/\∃xs,w.ownsRow base 58 2 v n xs/\dF w (fX base S v) l xs
theorem j6.nil (w:World) (base:Nat) (S:az):j6 w base S (.slice none 0 0) 0 []:=⟨rfl, [],World.ownsRow_nil _ _ _ _,rfl⟩
theorem j6.keep {w w':World} {base:Nat} {S:az} {v:Value} {n:Nat} {l:List Ow} (h:j6 w base S v n l) (e:∀b,b<w.heap.size-> ((b<base/\S b)\/base<=b)->w'.heap[b]? =w.heap[b]?):j6 w' base S v n l:=by
 obtain⟨h0,xs,h1,h2⟩:=h;exact⟨h0,xs,dX h1 (fun b hb hv=>e b hb (.inr (h1.lt b hv).1)),h2.keep (fun b hb hlt=>e b hlt (by rcases hb with hb|hb;exact .inl hb;exact .inr hb.1)) (fun _ h _=>h)⟩
theorem j6.ext {w w':World} {base:Nat} {S:az} {v:Value} {n:Nat} {l:List Ow} (h:j6 w base S v n l) (e:Ext w w'):j6 w' base S v n l:=h.keep (fun b hb _=>Below.block e b hb)
theorem j6.push {w w1:World} {base:Nat} {S:az} {v v':Value} {n:Nat} {l:List Ow} {xs:List Value} (h0:l.length=n) (hown0:w.ownsRow base 58 2 v n xs) (hc:dF w (fX base S v) l xs)
 {x:Ow} {pa:au} {pc:Nat} (hok:aM pa x.paths.length pc) (hx:bR w (fX base S v) pa x.paths)
 (hown:w1.ownsRow base 58 2 v' (n+1) (xs++ [.string x.name, .slice pa x.paths.length pc])) (hgrow:w.grownBy w1 v.ownBlock)
 (g:Nat) (hv':v'.ownBlock=some g) (hat:v.ownBlock=some g\/g=w.heap.size):j6 w1 base S v' (n+1) (l++ [x]):=by
 have hv:v.ownBlock=none\/∃g,v.ownBlock=some g/\base<=g:=by
  cases hv:v.ownBlock with
  |none=>exact .inl rfl
  |some g=>exact .inr ⟨g,rfl,(hown0.lt g hv).1⟩
 refine⟨by simp [h0],_,hown,?_⟩;have hk:Kept (fX base S v) w w1:=by
  intro b hb hlt;refine hgrow.block b hlt ?_;intro he;rcases hb with hb|hb
  ·rcases hv with hv|⟨g',hv,hg'⟩
   ·rw [hv] at he;cases he
   ·rw [hv] at he;simp only [Option.some.injEq] at he;omega
  ·exact hb.2 he.symm
 have hT:∀b,fX base S v b->b<w.heap.size->fX base S v' b:=by
  intro b hb hlt;rcases hb with hb|hb
  ·exact .inl hb
  ·refine .inr ⟨hb.1,?_⟩
   rw [hv'];rcases hat with hat|hat
   ·rw [hat] at hb;exact hb.2
   ·intro he;simp only [Option.some.injEq] at he;omega
 exact(hc.keep hk hT).app (.one hok (hx.keep hk hT))
theorem j6.rows {w:World} {base:Nat} {S:az} {v:Value} {n:Nat} {l:List Ow} (h:j6 w base S v n l):
 ∃a cap,v= .slice a n cap/\aM a n cap/\l.length=n/\cx w (fun b=>(b<base/\S b)\/base<=b) l a:=by
 obtain⟨h0,xs,⟨hl,h1⟩,h2⟩:=h;rcases h1 with⟨hv,hn⟩|⟨g,cap,cur,hv,hb,hg,hnc,hcm,hcs,ht⟩
 ·subst hn
  exact⟨none,0,hv,aM.nil,h0, .inl (List.length_eq_zero_iff.1 h0)⟩
 ·refine⟨some ⟨g,0,none⟩,cap,hv,⟨hnc,hcm,by simp⟩,h0, .inr ⟨g,0,rfl, .inr hb,?_⟩⟩
  intro i hi;obtain⟨pa,pc,c0,c1,c2,c3⟩:=h2.item i hi;have hx:∀j u,xs[j]? =some u->w.cell? ⟨g,j,none⟩=some u:=by
   intro j u hj;rw [cell_of_row w g j cur _ _ hg];rw [<-ht] at hj;rw [List.getElem?_take] at hj
   split at hj
   ·simpa using hj
   ·cases hj
  refine⟨pa,pc,?_,?_,c2,c3.keep (Ext.refl w|>.kept _) (fun b hb _=>by rcases hb with hb|hb;exact .inl hb;exact .inr hb.1)⟩
  ·rw [Nat.zero_add];exact hx _ _ c0
  ·rw [Nat.zero_add];exact hx _ _ c1
def aa1 (S:az) (r:List Ow) (w:World) (e:Ending) (w':World):Prop:=
 ∃a c,e= .returned (.slice a r.length c)/\aM a r.length c/\cx w' (aW S w) r a/\Ext w w'
def aa2 (r:List ah) (w:World) (e:Ending) (w':World):Prop:=
 ∃a c,e= .returned (.slice a r.length c)/\aM a r.length c/\bR w' (fun b=>w.heap.size<=b) a r/\Ext w w'
def xy (c:UInt8):Bool:=decide (97<= (c.toNat:Int)/\ (c.toNat:Int)<=122)
theorem R3 (s:ah):gK s=(s.data.toList.all xy&&decide (1<=s.size)&&decide (s.size<=12)):=rfl
theorem aa3 {s:ah} {k:Nat} (h:k<s.size) (h0:(s.data.toList.take k).all xy=true) (h1:97<= (s[k].toNat:Int)) (h2:(s[k].toNat:Int)<=122):(s.data.toList.take (k+1)).all xy=true:=
 Kw _ _ (by simpa using h) h0 (by rw [byte_at h];unfold xy;simp only [decide_eq_true_eq];exact⟨h1,h2⟩)
theorem R4 {s:ah} {k:Nat} (h:k<s.size) (h1:¬(97<= (s[k].toNat:Int)/\ (s[k].toNat:Int)<=122)):gK s=false:=by
 have:=Ky xy s.data.toList (k:=k) (by simpa using h) (by rw [byte_at h];unfold xy;simp only [decide_eq_false_iff_not];exact h1);rw [R3,this];rfl
theorem R5 {s:ah} {k:Nat} (hk:¬k<s.size) (h0:(s.data.toList.take k).all xy=true):gK s=(decide (1<=s.size)&&decide (s.size<=12)):=by
 rw [List.take_of_length_le (by simp;omega)] at h0;rw [R3,h0];rfl
theorem p5 (s:ah) (w:World) (hs:s.size<=1073741824):Calls prog 18 #[.string s] w fun e w'=>e= .returned (.bool (gK s))/\w=w':=by
 go_enter func18,ntmps18;go_wp2
 go_loop [6] (fun i=>∃k:Nat,k<=s.size/\i= .int .i64 k/\ (s.data.toList.take k).all xy=true) (fun i=>s.size-(intOf i).toNat)
 case atStart=>exact⟨0,Nat.zero_le _,rfl,rfl⟩
 case round=>
  obtain⟨k,hk,rfl,ht⟩:=hrel;have Ht:=ae ht;clear ht;by_cases hlt:k<s.size
  ·by_cases h1:(s[k].toNat:Int)<97
   ·go_wp2
    go_ret;exact⟨dv (R4 hlt (by omega)).symm,rfl⟩
   ·by_cases h2:(122:Int)<(s[k].toNat:Int)
    ·go_wp2
     go_ret;exact⟨dv (R4 hlt (by omega)).symm,rfl⟩
    ·go_wp2
     go_round
     case rel=>exact⟨k+1,by omega,by go_num,aa3 hlt Ht.out (by omega) (by omega)⟩
     case measure=>simp [intOf];omega
  ·by_cases h1:1<=s.size
   ·have h1i:(1:Int)<= (s.size:Int):=by omega
    go_wp2;go_ret;refine⟨dv ?_,rfl⟩;rw [R5 hlt Ht.out,decide_eq_true h1];simp;omega
   ·have h1i:¬(1:Int)<= (s.size:Int):=by omega
    go_wp2;go_ret;refine⟨dv ?_,rfl⟩;rw [R5 hlt Ht.out,decide_eq_false h1];rfl
end Go.Proofs.YtlcebdaghmdkeabGreatDoor
namespace Go.Proofs.YtlcebdaghmdkeabGreatDoor
open Go.Proofs.Tryz
open Go.RowKit
attribute [local go_sem↓] Go.wp_at_zero Go.wp_at_succ
def R6 (p:ah) (w:World) (e:Ending) (w':World):Prop:=
 ∃a c,e= .returned (.tuple #[.slice a (bJ p).length c, .int .i64 (if(cJ p).isSome=true then 0 else 1)])/\aM a (bJ p).length c/\bR w' (fun b=>w.heap.size<=b) a (bJ p)/\Ext w w'
theorem aa4 {p:ah} {w w':World} {e:Ending} (h:Gf (jV p.data.toList) w e w'):R6 p w e w':=by
 rcases h with⟨l,a,n,c,ks,hr,rfl,hn,hmap,hok,hst,hx⟩|⟨hr,rfl,hx⟩
 ·have hnb:cJ p=some ks:=E8 (by rw [hr,hmap])
  have hd:bJ p=ks:=by unfold bJ;rw [hnb];rfl
  subst hn;exact⟨a,c,by rw [hd,hnb];rfl,by rw [hd];exact hok,by rw [hd];exact hst,hx⟩
 ·have hnb:=Jk hr
  have hd:bJ p= []:=by unfold bJ;rw [hnb];rfl
  exact⟨none,0,by rw [hd,hnb];rfl,by rw [hd];exact aM.nil,by rw [hd];exact .inl rfl,hx⟩
theorem Cy (p:ah) (w:World) (hs:p.size<=1073741824) (hm:fZ w):Calls prog 43 #[.string p] w (R6 p w):=(O2 p hs w hm).mono fun _ _=>aa4
theorem Fl (p:ah):(bJ p).length<=2001/\∀k∈bJ p,k.size<=8000:=by
 unfold bJ
 cases h:cJ p with
 |none=>simp
 |some ks=>exact Cg h
theorem CB (a:au) (c:Nat) (ks:List ah) (S:az) (w:World) (hks:bR w S a ks) (hz:∀k∈ks,k.size<=2000000) (hn:ks.length<=2000000) (hm:fZ w):
 Calls prog 44 #[.slice a ks.length c] w fun e w'=>e= .returned (.string (lR ks))/\Ext w w':=by
 refine(aam a ks.length c ks S w hks rfl (fun i h=>hz _ (List.getElem_mem h)) hn hm).mono ?_;rintro e w' ⟨s,rfl,hs,hx⟩;exact⟨by rw [show s=lR ks from K8 (by rw [hs,Gv])],hx⟩
theorem Pq {p:ah} (h:(cJ p).isSome=true):lR (bJ p)=p:=by
 obtain⟨ks,hk⟩:=Option.isSome_iff_exists.1 h;unfold bJ;rw [hk];exact K8 (by rw [Gv];exact KN (O1 hk))
theorem Pp (p:ah):yJ p=((cJ p).isSome&& !decide ((bJ p).length=0)):=by
 unfold yJ bJ
 cases cJ p with
 |none=>rfl
 |some l=>cases l<;>rfl
def AH (ps:List ah) (k:Nat) (h:k<ps.length):Prop:=yJ ps[k]=true/\ (0<k->bC (ps[k-1]'(by omega)) ps[k]=true)
theorem Po {ps:List ah} {k:Nat} (h:k<ps.length) (hb:¬AH ps k h):qI ps=false:=decide_eq_false fun H=>hb (H k h)
theorem Pr {ps:List ah} (H:∀k (h:k<ps.length),AH ps k h):qI ps=true:=decide_eq_true fun k h=>H k h
def JC (l:List Ow) (i:Nat) (h:i<l.length):Prop:=gK l[i].name=true/\ (0<i->bC (l[i-1]'(by omega)).name l[i].name=true)/\l[i].paths≠ []/\qI l[i].paths=true
theorem AG {l:List Ow} {i:Nat} (h:i<l.length) (hb:¬JC l i h):gU l=false:=by
 unfold gU;rw [Bool.and_eq_false_iff,decide_eq_false_iff_not];exact .inl fun H=>hb (H i h)
theorem XW {l:List Ow} (H:∀i (h:i<l.length),JC l i h):gU l=decide (l.length<=6):=by
 have h1:(decide (∀i,(h:i<l.length)->gK l[i].name=true/\ (0<i->bC (l[i-1]'(by omega)).name l[i].name=true)/\l[i].paths≠ []/\qI l[i].paths=true))=true:=decide_eq_true H;unfold gU;rw [h1];rfl
theorem Fm {n:Nat} (h:n<=9223372036854775807):IntKind.i64.wrap (n:Int)=(n:Int):=by
 unfold IntKind.wrap;simp [IntKind.bits,IntKind.signed];omega
theorem yH {a b:ah} {r:Bool} (h:bC a b=r):Op.bytesLess a.toList b.toList=r:=h
end Go.Proofs.YtlcebdaghmdkeabGreatDoor
