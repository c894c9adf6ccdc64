import Derived.Test.YtlcebdaghmdkeabGreatDoorM4
import Derived.Test.YtlcebdaghmdkeabGreatDoorM5
import Derived.Test.YtlcebdaghmdkeabGreatDoorM6
set_option linter.all false
set_option maxRecDepth 100000
set_option maxHeartbeats 64000000
namespace Go.Proofs.YtlcebdaghmdkeabGreatDoor
open Go.RowKit
end Go.Proofs.YtlcebdaghmdkeabGreatDoor
namespace Go.Proofs.YtlcebdaghmdkeabGreatDoor
abbrev Da:ah:=⟨#[111,112]⟩
abbrev mL:ah:=⟨#[112,97,116,104]⟩
abbrev uI:ah:=⟨#[102,114,111,109]⟩
abbrev wJ:ah:=⟨#[118,97,108,117,101]⟩
def uY:List ah:= [⟨#[]⟩,⟨#[97,100,100]⟩,⟨#[114,101,109,111,118,101]⟩,⟨#[114,101,112,108,97,99,101]⟩,⟨#[109,111,118,101]⟩,⟨#[99,111,112,121]⟩,⟨#[116,101,115,116]⟩]
def pN (i:Nat):ah:=uY.getD i ⟨#[]⟩
def nO (s:ah) (ok:Bool):Nat->Int
 |0=>0
 |k+1=>if 1<=k/\ok=true/\pN k=s then(k:Int) else nO s ok k
theorem ab6 (s:ah) (ok:Bool):nO s ok 1=0:=by simp [nO]
theorem ab8 (s:ah) (ok:Bool) (k:Nat):0<=nO s ok k/\nO s ok k<max 1 k:=by
 induction k with
 |zero=>simp [nO]
 |succ k ih=>unfold nO;split<;>omega
def V.txt (x:V) (key:ah):ah×Bool:=((x.ik key).s,(x.member key).isSome&& (x.ik key).k==3)
def V.kd (x:V):Int:=nO (x.txt Da).1 (x.txt Da).2 7
def V.iF (x:V):Option bE:=
 if x.kd=0 then none else if(x.txt mL).2=false then none
 else if x.kd=1\/x.kd=3\/x.kd=6 then(if(x.member wJ).isSome=true then some ⟨x.kd,(x.txt mL).1,⟨#[]⟩,x.ik wJ⟩ else none)
 else if x.kd=4\/x.kd=5 then(if(x.txt uI).2=true then some ⟨x.kd,(x.txt mL).1,(x.txt uI).1,V.zero⟩ else none)
 else some ⟨x.kd,(x.txt mL).1,⟨#[]⟩,V.zero⟩
def mM:List V->Option (List bE)
 | []=>some []
 |x::r=>match x.iF with
  |none=>none
  |some o=>(mM r).map (o::·)
theorem R9:∀ {l:List V} {k:Nat} (h:k<l.length),l[k].iF=none->mM l=none
 |x::r,0,_,h=>by simp only [List.getElem_cons_zero] at h;simp [mM,h]
 |x::r,k+1,hk,h=>by
  have ih:=R9 (l:=r) (k:=k) (by simpa using hk) (by simpa using h);unfold mM
  cases x.iF with
  |none=>rfl
  |some o=>simp [ih]
theorem aca {l:List V} {k:Nat} (hk:k<l.length) {os:List bE} (h:mM (l.take k)=some os) {o:bE} (ho:l[k].iF=some o):mM (l.take (k+1))=some (os++ [o]):=by
 induction l generalizing k os with
 |nil=>simp at hk
 |cons x r ih=>
  cases k with
  |zero=>
   simp only [List.getElem_cons_zero] at ho;simp only [List.take_zero,mM,Option.some.injEq] at h;subst h;simp [mM,ho]
  |succ k=>
   simp only [List.take_succ_cons] at h⊢;unfold mM at h⊢
   cases hx:x.iF with
   |none=>rw [hx] at h;cases h
   |some q=>
    rw [hx] at h;simp only at h⊢
    cases hr:mM (r.take k) with
    |none=>rw [hr] at h;cases h
    |some t=>
     rw [hr] at h;simp only [Option.map_some,Option.some.injEq] at h;subst h;rw [ih (by simpa using hk) hr (by simpa using ho)];simp
def jE (v:V):List bE×Int:=
 if v.fine=false\/v.k≠4 then([],1) else if 20<v.l.length then([],2) else match mM v.l with
  |none=>([],1)
  |some l=>(l,0)
theorem Sb {v:V} (h:v.fine=false\/v.k≠4):jE v=([],1):=by unfold jE;rw [if_pos h]
theorem acb {v:V} (h:v.fine=true) (h4:v.k=4) (hl:20<v.l.length):jE v=([],2):=by unfold jE;rw [if_neg (by simp [h,h4]),if_pos hl]
theorem acd {v:V} (h:v.fine=true) (h4:v.k=4) (hl:¬20<v.l.length) {k:Nat} (hk:k<v.l.length) (hb:v.l[k].iF=none):jE v=([],1):=by unfold jE;rw [if_neg (by simp [h,h4]),if_neg hl,R9 hk hb]
theorem ace {v:V} (h:v.fine=true) (h4:v.k=4) (hl:¬20<v.l.length) {os:List bE} (ho:mM (v.l.take v.l.length)=some os):jE v=(os,0):=by
 unfold jE;rw [if_neg (by simp [h,h4]),if_neg hl];rw [List.take_length] at ho;rw [ho]
end Go.Proofs.YtlcebdaghmdkeabGreatDoor
namespace Go.Proofs.YtlcebdaghmdkeabGreatDoor
open Go.Proofs.Tryz
open Go.RowKit
attribute [local go_sem↓] Go.wp_at_zero Go.wp_at_succ
theorem VO (s:List UInt8):(l9 s).length<=s.length*4:=by
 have h1:=D3 s [126,49] [47] (by simp) (by decide);have h2:=D3 (Lib.replaceAll s [126,49] [47]) [126,48] [126] (by simp) (by decide);unfold l9;simp only [List.length_cons,List.length_nil] at h1 h2;omega
theorem VP {p:List UInt8} {l:List (List UInt8)} (h:jQ p=some l):l.length<=2001/\∀q∈l,q.length<=8000:=by
 unfold jQ at h
 cases p with
 |nil=>simp at h;subst h;simp
 |cons c r=>
  simp only at h
  split at h
  ·rename_i hc
   have hr:r.length<=2000:=by have:=hc.2;simp at this;omega
   split at h
   ·simp only [Option.some.injEq] at h
    subst h;refine⟨by have:=M7 r;simp;omega,fun q hq=> ?_⟩;obtain⟨s,hs,rfl⟩:=List.mem_map.1 hq;have:=M8 r s hs;have:=VO s;omega
   ·cases h
  ·cases h
theorem M9 {p:ah} {ks:List ah} (h:cI p=some ks):jQ p.data.toList=some (ks.map (·.data.toList)):=by
 unfold cI at h
 cases hn:jQ p.data.toList with
 |none=>rw [hn] at h;cases h
 |some m=>
  rw [hn] at h;simp only [Option.map_some,Option.some.injEq] at h;subst h;have:((fun x:ah=>x.data.toList)∘fun s:List UInt8=>(⟨s.toArray⟩:ah))=id:=by funext s;rfl
  simp [this]
theorem A4 {p:ah} {ks:List ah} (h:cI p=some ks):ks.length<=2001/\∀k∈ks,k.size<=8000:=by
 obtain⟨h1,h2⟩:=VP (M9 h);refine⟨by simpa using h1,fun k hk=> ?_⟩;have:=h2 k.data.toList (List.mem_map_of_mem hk);have e:k.data.toList.length=k.size:=Array.length_toList;omega
def VQ (x:V) (p:ah) (w:World) (e:Ending) (w':World):Prop:=
 (∃a n c ks,cI p=some ks/\x.fine=true/\e= .returned (.tuple #[.slice a n c, .int .i64 0])/\ks.length=n/\aM a n c/\bC w' (fun b=>w.heap.size<=b) a ks/\Ext w w')\/
 ((cI p=none\/x.fine=false)/\e= .returned (.tuple #[.slice none 0 0, .int .i64 1])/\Ext w w')
theorem zl (x:V) (ka:aq) (kc:Nat) (la:aq) (lc:Nat) (S:aw) (p:ah) (w:World) (hsz:x.size<=1073741824) (hin:x.In w S ka kc la lc) (hp:p.size<=1073741824) (hm:fL w):
 Calls prog 45 #[x.val ka kc la lc, .string p] w (VQ x p w):=by
 have ax:x.fine=false\/x.fine=true:=by cases x.fine<;>simp
 rcases ax with hf|hf
 all_goals
  have Hf:=ae hf;go_enter func45,ntmps45;go_upto_region 1 with fail
  refine aI (R:=fun wx=>aC wx w.heap.size x ka kc la lc/\Ext w wx) ⟨aj,Xt⟩ ?_;rintro wa ⟨ag,aD⟩;go_wp2_with fail;(refine(Na p hp _ (hm.ext Xt)).mono ?_);rintro e w1 (⟨l',a,n,c,ks,h1,rfl,h2,h3,h4,h5,h6⟩|⟨h1,rfl,h6⟩)
 ·have hnb:=D4 (ks:=ks) (p:=p) (by rw [h1,h3])
  have kL:=ae hnb;have ag:=af.ext h6 ag;have hx1:Ext w w1:=Xt;have afm:=aD.size;clear h6 aD h1 h3 hnb h2 h5;obtain⟨hc0,ax,hl0⟩:=ag.see;go_wp2_with fail;(with_reducible refine(cU x ka kc la lc S _ hsz (hin.ext Xt)).mono ?_);rintro e w2 ⟨rfl,h2'⟩;obtain⟨qG,qH,lJ⟩:=bZ h2';(try simp at lJ);rw [hf];go_wp2;go_ret2;exact .inr ⟨.inr Hf.out,rfl,Xt⟩
 ·have kL:=ae (G' h1)
  have hx1:Ext w w1:=Xt;clear h1 h6 aD ag;go_wp2_with fail;go_ret2;exact .inr ⟨.inl kL.out,rfl,Xt⟩
 ·have hnb:=D4 (ks:=ks) (p:=p) (by rw [h1,h3])
  have kL:=ae hnb;have H2:=ae h2;have ag:=af.ext h6 ag;have hx1:Ext w w1:=Xt;have h5:=h5.keep (T:=fun b=>w.heap.size<=b) (fun _ _ _=>rfl) (fun b h _=>Nat.le_trans aD.size h);clear h6 aD h1 h3 hnb h2;obtain⟨hc0,ax,hl0⟩:=ag.see;go_wp2_with fail;(with_reducible refine(cU x ka kc la lc S _ hsz (hin.ext Xt)).mono ?_);rintro e w2 ⟨rfl,h2'⟩;obtain⟨qG,qH,lJ⟩:=bZ h2';(try simp at lJ);rw [hf];go_wp2;go_ret2;exact .inl ⟨a,n,c,ks,kL.out,Hf.out,rfl,H2.out,h4,h5.ext Xt,Xt⟩
 ·have kL:=ae (G' h1)
  have hx1:Ext w w1:=Xt;clear h1 h6 aD ag;go_wp2_with fail;go_ret2;exact .inr ⟨.inl kL.out,rfl,Xt⟩
end Go.Proofs.YtlcebdaghmdkeabGreatDoor
namespace Go.Proofs.YtlcebdaghmdkeabGreatDoor
open Go.Proofs.Tryz
structure Ow where
 name:ah
 paths:List ah
def gH (s:ah):Bool:=(s.data.toList.all fun c=>decide (97<= (c.toNat:Int)/\ (c.toNat:Int)<=122))&&decide (1<=s.size)&&decide (s.size<=12)
def bL (p:ah):List ah:=(cI p).getD []
def lq (l:List ah):ah:=⟨(joinL (l.map (·.data.toList))).toArray⟩
def xG (p:ah):Bool:=match cI p with|some l=>decide (l≠ [])|none=>false
def pT (ps:List ah):Bool:=decide (∀k,(h:k<ps.length)->xG ps[k]=true/\ (0<k->bA (ps[k-1]'(by omega)) ps[k]=true))
def iZ (l:List Ow):Bool:=
 decide (∀i,(h:i<l.length)->gH l[i].name=true/\ (0<i->bA (l[i-1]'(by omega)).name l[i].name=true)/\l[i].paths≠ []/\pT l[i].paths=true)&&decide (l.length<=6)
def V.ez:V->List ah->List (List ah)
 | .mk k _ _ ks l,ns=>if k≠5\/ (l= []/\ns≠ []) then [ns] else go l ks ns
where go:List V->List ah->List ah->List (List ah)
 |x::l,k::ks,ns=>V.ez x (ns++ [k])++go l ks ns
 |_,_,_=> []
theorem zM (x:V) (ns:List ah):x.ez ns=if x.k≠5\/ (x.l= []/\ns≠ []) then [ns] else V.ez.go x.l x.keys ns:=by
 obtain⟨k,n,s,ks,l⟩:=x;rw [V.ez];rfl
theorem xI (x:V) (l:List V) (k:ah) (ks ns:List ah):V.ez.go (x::l) (k::ks) ns=x.ez (ns++ [k])++V.ez.go l ks ns:=by rw [V.ez.go]
theorem xH (ks ns:List ah):V.ez.go [] ks ns= []:=by cases ks<;>rfl
theorem Ep (l:List V) (ns:List ah):V.ez.go l [] ns= []:=by cases l<;>rfl
theorem P6 (ns:List ah):∀(l:List V) (ks:List ah) (x:V) (k:ah),ks.length=l.length->V.ez.go (l++ [x]) (ks++ [k]) ns=V.ez.go l ks ns++x.ez (ns++ [k])
 | [], [],x,k,_=>by simp [xI,xH]
 | [],_::_,_,_,h=>by simp at h
 |_::_, [],_,_,h=>by simp at h
 |y::l,a::ks,x,k,h=>by rw [List.cons_append,List.cons_append,xI,xI,P6 ns l ks x k (by simpa using h),List.append_assoc]
def yr (p:ah):List ah->List ah
 | []=> [p]
 |q::r=>if bA p q=true then p::q::r else q::yr p r
def sZ:List ah->List ah
 | []=> []
 |p::r=>yr p (sZ r)
abbrev Sorted (l:List ah):Prop:=l.Pairwise fun a b=>bA b a=false
theorem JZ (p:ah):∀l,(yr p l).Perm (p::l)
 | []=> .refl _
 |q::r=>by
  rw [yr]
  split
  ·exact .refl _
  ·exact((JZ p r).cons q).trans (.swap p q r)
theorem vC:∀l,(sZ l).Perm l
 | []=> .refl _
 |p::r=>(JZ p _).trans ((vC r).cons p)
theorem ZC {a b c:ah} (h1:bA b a=false) (h2:bA c b=false):bA c a=false:=by
 cases h:bA c a with
 |false=>rfl
 |true=>
  rcases Es a b with h3|rfl|h3
  ·rw [uf h h3] at h2;cases h2
  ·rw [h] at h2;cases h2
  ·rw [h3] at h1;cases h1
theorem P7 (p:ah):∀l,Sorted l->Sorted (yr p l)
 | [],_=>by simp [yr]
 |q::r,h=>by
  rw [yr];obtain⟨h1,h2⟩:=List.pairwise_cons.1 h
  split
  ·rename_i hlt
   refine List.pairwise_cons.2 ⟨fun b hb=> ?_,h⟩;rcases List.mem_cons.1 hb with rfl|hb
   ·exact Jr hlt
   ·exact ZC (Jr hlt) (h1 b hb)
  ·rename_i hlt
   refine List.pairwise_cons.2 ⟨fun b hb=> ?_,P7 p r h2⟩;rcases List.mem_cons.1 ((JZ p r).mem_iff.1 hb) with rfl|hb
   ·simpa using hlt
   ·exact h1 b hb
theorem Iz:∀l,Sorted (sZ l)
 | []=> .nil
 |p::r=>P7 p _ (Iz r)
theorem sorted_perm:∀ {l m:List ah},Sorted l->Sorted m->l.Perm m->l=m
 | [],m,_,_,h=>by simpa using h.symm
 |a::l, [],_,_,h=>by simp at h
 |a::l,b::m,hl,hm,h=>by
  obtain⟨ay,hl2⟩:=List.pairwise_cons.1 hl;obtain⟨Eh,hm2⟩:=List.pairwise_cons.1 hm;have e:a=b:=by
   rcases List.mem_cons.1 (h.mem_iff.1 (List.mem_cons_self ..)) with e|ha
   ·exact e
   rcases List.mem_cons.1 (h.mem_iff.2 (List.mem_cons_self ..)) with e|hb
   ·exact e.symm
   have h1:=ay b hb;have h2:=Eh a ha;rcases Es a b with h3|h3|h3
   ·rw [h3] at h2;cases h2
   ·exact h3
   ·rw [h3] at h1;cases h1
  subst e;rw [sorted_perm hl2 hm2 ((List.perm_cons a).1 h)]
def V.leaves (x:V):List ah:=if x.fine=true/\x.k=5 then sZ ((x.ez []).map lq) else []
def bh:List ah->V->Option V
 | [],x=>some x
 |a::r,x=>(x.member a).bind (bh r)
def bH (x:V) (p:ah):Option V:=bh (bL p) x
def fE (p q:ah):Bool:=(p.data.toList++ [47]).isPrefixOf q.data.toList
def iP (now want:V):Bool:=now.same want||(decide (now.k=5)&&decide (want.k=5)&&decide (want.l.length=0))
def kN (v want:V) (q:ah):List ah->Bool
 | []=>false
 |p::r=>if(fE p q||fE q p)=true then true else if p=q then(match bH v p with|none=>true|some now=> !iP now ((bH want p).getD V.zero)) else kN v want q r
def eX (v want:V) (q:ah):Bool:=kN v want q want.leaves
def vE (v want:V) (who:ah) (o:Ow):List (ah×ah):=if o.name=who then [] else(o.paths.filter (eX v want)).map fun q=>(o.name,q)
def jv (v:V) (l:List Ow) (who:ah) (want:V):List (ah×ah):=l.flatMap (vE v want who)
def gJ:List ah->V->V->V
 | [],_,x=>x
 |a::r,v,x=>if r≠ [] then v.base.put a (gJ r ((v.base.member a).getD V.zero) x) else
  match v.base.member a with|some old=>if iP old x=true then v.base else v.base.put a x|none=>v.base.put a x
def ey:List ah->V->V
 | [],v=>v
 |a::r,v=>match v.member a with
  |none=>v
  |some old=>if r= [] then v.del a else if(ey r old).k=5/\ (ey r old).l= []/\old.l≠ [] then v.del a else v.put a (ey r old)
def jV (f:ah->Bool) (o:Ow):Option Ow:=if o.paths.filter f= [] then none else some ⟨o.name,o.paths.filter f⟩
def mH (v:V) (l:List Ow):List Ow:=l.filterMap (jV fun p=>(bH v p).isSome)
def eW (v want:V) (who:ah) (l:List Ow):List Ow:=(l.filter fun o=>decide (o.name≠who)).filterMap (jV fun q=> !eX v want q)
def lK (who:ah) (l:List Ow):List ah:=l.foldl (fun old o=>if o.name=who then o.paths else old) []
def sI (p q:ah):Bool:=decide (p=q)||fE p q||fE q p
def pU (out:List Ow) (p:ah):Bool:=out.any fun o=>o.paths.any (sI p)
def xK (paths:List ah) (p:ah):Bool:=paths.any fun q=>decide (p=q)
def iy (paths:List ah) (out:List Ow) (next:V) (p:ah):V:=if xK paths p=false/\pU out p=false then ey (bL p) next else next
def iQ (want:V) (next:V) (p:ah):V:=gJ (bL p) next ((bH want p).getD V.zero)
def eT (v:V) (l:List Ow) (who:ah) (want:V):V:=want.leaves.foldl (iQ want) ((lK who l).foldl (iy want.leaves (eW v want who l)) v)
def mr (l:List Ow) (who:ah):Nat:=posOf (l.map Ow.name) who
def fM (l:List Ow) (who:ah) (ps:List ah):List Ow:=if ps= [] then l else l.take (mr l who)++⟨who,ps⟩::l.drop (mr l who)
def fN (v:V) (l:List Ow) (who:ah) (want:V):List Ow:=fM (eW v want who l) who want.leaves
def pk (v:V) (l:List Ow) (who:ah) (want:V):Bool:=v.fine&&want.fine&&decide (v.k=5)&&decide (want.k=5)&&iZ l&&gH who
def ju (v:V) (l:List Ow) (who:ah) (want:V) (force:Bool):V×List Ow×List (ah×ah)×Int:=
 if pk v l who want=false then(v,l, [],1)
 else if jv v l who want≠ []/\force=false then(v,l,jv v l who want,5)
 else if(eT v l who want).fine=false\/6<(fN v l who want).length then(v,l, [],2)
 else(eT v l who want,fN v l who want, [],0)
theorem Fp (l:List ah):(lq l).data.toList=joinL (l.map (·.data.toList)):=by unfold lq;simp
theorem J0 {a b:ah} (h:a.data.toList=b.data.toList):a=b:=by
 obtain⟨⟨l⟩⟩:=a;obtain⟨⟨m⟩⟩:=b;simp only at h;rw [h]
theorem NI {l:List ah} (h:(joinL (l.map (·.data.toList))).length<=2000):cI (lq l)=some l:=
 D4 (by rw [Fp];exact Yu _ h)
theorem Iy (l:List ah) (h:∀a∈l,a.size<=60):(joinL (l.map (·.data.toList))).length<=l.length*121:=by
 induction l with
 |nil=>simp [joinL]
 |cons a r ih=>
  have h1:=ih (fun b hb=>h b (by simp [hb]));have h2:=Pn a.data.toList;have h3:a.data.toList.length=a.size:=Array.length_toList;have h4:=h a (by simp);unfold joinL at h1⊢;simp only [List.map_cons,List.flatMap_cons,List.length_append,List.length_cons];omega
theorem Ix (x:V):∀(d:Int) (ns:List ah),x.good d=true->∀q∈x.ez ns,∃r,q=ns++r/\ (∃y,bh r x=some y/\ (y.k=5->y.l= []))/\ (r.length:Int)+d<=12/\∀a∈r,fD a=true:=by
 induction x using V.ind with
 |h x ih=>
  intro d ns hg q hq;rw [zM] at hq;obtain⟨hfl,hd⟩:=Jw (show x.flat d=true by rw [V.sP,Bool.and_eq_true] at hg;exact hg.1)
  split at hq
  ·rename_i hc
   simp only [List.mem_singleton] at hq;subst hq;refine⟨[],by simp,⟨x,rfl,fun h5=> ?_⟩,by simpa using hd,by simp⟩;rcases hc with h|h
   ·exact absurd h5 h
   ·exact h.1
  ·rename_i hc
   have h5:x.k=5:=Classical.byContradiction fun h=>hc (.inl h);have dI:=il (En hg) h5;have hgo:∀(l:List V) (ks:List ah),q∈V.ez.go l ks ns->∃i,∃h1:i<l.length,∃h2:i<ks.length,q∈ (l[i]).ez (ns++ [ks[i]]):=by
    intro l
    induction l with
    |nil=>intro ks h;rw [xH] at h;cases h
    |cons y l ihl=>
     intro ks h
     cases ks with
     |nil=>rw [Ep] at h;cases h
     |cons k ks=>
      rw [xI,List.mem_append] at h;rcases h with h|h
      ·exact⟨0,by simp,by simp,by simpa using h⟩
      ·obtain⟨i,h1,h2,h3⟩:=ihl ks h
       exact⟨i+1,by simpa using h1,by simpa using h2,by simpa using h3⟩
   obtain⟨i,h1,h2,h3⟩:=hgo _ _ hq;obtain⟨r,rfl,⟨y,hy,vZ⟩,hlen,hp⟩:=ih _ (List.getElem_mem h1) (d+1) _ (Eo hg h1) q h3;refine⟨x.keys[i]::r,by simp,⟨y,?_,vZ⟩,?_,?_⟩
   ·rw [bh,O0 h5 dI.len,zJ _ _ dI.len dI.nodup i h2]
    exact hy
   ·simp only [List.length_cons];omega
   ·intro a ha
    rcases List.mem_cons.1 ha with rfl|ha
    ·exact hfl.kp _ (List.getElem_mem h2)
    ·exact hp a ha
theorem Er {x:V} (h:x.fine=true):x.good 1=true:=by unfold V.fine at h;rw [Bool.and_eq_true] at h;exact h.1
theorem qU {x:V} {p:ah} (h:p∈x.leaves):x.fine=true/\x.k=5/\∃r,p=lq r/\cI p=some r/\r≠ []/\r.length<=11/\ (∀a∈r,fD a=true)/\∃y,bh r x=some y/\bH x p=some y/\ (y.k=5->y.l= []):=by
 unfold V.leaves at h
 split at h
 ·rename_i hc
  obtain⟨hf,h5⟩:=hc;rw [(vC _).mem_iff,List.mem_map] at h;obtain⟨q,hq,rfl⟩:=h;obtain⟨r,Bv,⟨y,hy,vZ⟩,hlen,hp⟩:=Ix x 1 [] (Er hf) q hq;rw [List.nil_append] at Bv;rw [Bv] at hq⊢;have hl:r.length<=11:=by omega
  have hn:cI (lq r)=some r:=NI (by have:=Iy r (fun a ha=>xJ (hp a ha));omega);have hr:r≠ []:=by
   rintro rfl;simp only [bh,Option.some.injEq] at hy;subst hy;have hl0:=vZ h5;rw [zM,if_neg (by simp [h5]),hl0,xH] at hq
   cases hq
  exact⟨hf,h5,r,rfl,hn,hr,hl,hp,y,hy,by unfold bH bL;rw [hn];exact hy,vZ⟩
 ·cases h
theorem go_sound:∀(r:List ah) {x y:V},x.sound->bh r x=some y->y.sound
 | [],x,y,hx,h=>by simp only [bh,Option.some.injEq] at h;rw [<-h];exact hx
 |a::r,x,y,hx,h=>by
  rw [bh] at h
  cases hm:x.member a with
  |none=>rw [hm] at h;cases h
  |some z=>rw [hm] at h;exact go_sound r (pS hx hm) h
theorem P8 {x y:V} {a:ah} (h:x.member a=some y):y.size<x.size:=V.xZ (xp h)
theorem go_size:∀(r:List ah) {x y:V},bh r x=some y->y.size<=x.size
 | [],x,y,h=>by simp only [bh,Option.some.injEq] at h;rw [h];exact Nat.le_refl _
 |a::r,x,y,h=>by
  rw [bh] at h
  cases hm:x.member a with
  |none=>rw [hm] at h;cases h
  |some z=>rw [hm] at h;have:=go_size r (x:=z) (y:=y) h;have:=P8 hm;omega
theorem ZE {x y:V} {a:ah} (h:x.member a=some y):y.count<x.count:=by
 obtain⟨i,hi,rfl⟩:=List.getElem_of_mem (xp h);exact V.D5 hi
theorem P9:∀(r:List ah) {x y:V},bh r x=some y->y.count<=x.count
 | [],x,y,h=>by simp only [bh,Option.some.injEq] at h;rw [h];exact Nat.le_refl _
 |a::r,x,y,h=>by
  rw [bh] at h
  cases hm:x.member a with
  |none=>rw [hm] at h;cases h
  |some z=>rw [hm] at h;have:=P9 r (x:=z) (y:=y) h;have:=ZE hm;omega
theorem Fq {x y:V} (h:fY x) {a:ah} (hm:x.member a=some y):x.put a y=x:=by
 refine Jx (h.put a y) h fun k=> ?_;rw [um h]
 split
 ·rename_i e;subst e;exact hm.symm
 ·rfl
theorem ZF {x:V} (h:fY x) (a:ah) (y z:V):(x.put a y).put a z=x.put a z:=by
 refine Jx ((h.put a y).put a z) (h.put a z) fun k=> ?_;rw [um (h.put a y),um h,um h]
 split<;>rfl
theorem ZG {x:V} (h:fY x) (a:ah) (y:V):(x.put a y).del a=x.del a:=by
 refine Jx ((h.put a y).del a) (h.del a) fun k=> ?_;rw [ES (h.put a y),um h,ES h]
 split<;>rfl
theorem xD {x:V} (h:fY x) (a:ah) (y:V):(x.put a y).member a=some y:=by rw [um h,if_pos rfl]
theorem sF {x y:V} (h:x.sound) {a:ah} (hm:x.member a=some y):fD a=true/\x.k=5:=by
 have h5:x.k=5:=Classical.byContradiction fun h5=>by rw [O1 h5] at hm;cases hm
 exact⟨h.flat.kp a (((il h h5).vB a).2 (by rw [hm];simp)),h5⟩
theorem WI {o x:V} (h:iP o x=true):(o.k=5/\x.k=5)\/o=x:=by
 unfold iP at h;rw [Bool.or_eq_true,Bool.and_eq_true,Bool.and_eq_true] at h;rcases h with h|h
 ·exact .inr ((Ek o x).1 h)
 ·exact .inl ⟨by simpa using h.1.1,by simpa using h.1.2⟩
theorem ZH (v:V):v.base.count<=v.count:=by
 unfold V.base
 split
 ·exact Nat.le_refl _
 ·have:=V.zy v;have e:V.bV.count=1:=by decide+kernel
  omega
theorem ZI {x:V} (h:fY x) (a:ah) (y:V):(x.put a y).count<=x.count+y.count:=by have:=ET h a y;omega
theorem Qa:∀(l:List ah) {v x:V},l≠ []->v.sound->x.sound-> (∀a∈l,fD a=true)-> (gJ l v x).sound/\ (gJ l v x).k=5/\ (gJ l v x).count<=v.count+l.length+x.count
 | [],_,_,h,_,_,_=>absurd rfl h
 |a::r,v,x,_,hv,hx,hp=>by
  have hb:=zB hv;have hbs:=zA hv;have hbc:=ZH v;have Qb:=hp a (by simp);rw [gJ];by_cases hr:r= []
  ·subst hr
   rw [if_neg (by simp)]
   have h1:(v.base.put a x).sound/\ (v.base.put a x).k=5/\ (v.base.put a x).count<=v.count+ [a].length+x.count:=
    ⟨B6 hbs hx Qb hb.k5,(hb.put a x).k5,by have:=ZI hb a x;simp only [List.length_cons];omega⟩
   have h2:v.base.sound/\v.base.k=5/\v.base.count<=v.count+ [a].length+x.count:=⟨hbs,hb.k5,by omega⟩
   split
   ·split
    ·exact h2
    ·exact h1
   ·exact h1
  ·rw [if_pos hr]
   obtain⟨h1,h2,h3⟩:=Qa r hr (A8 hbs a) hx (fun b hb=>hp b (by simp [hb]));refine⟨B6 hbs h1 Qb hb.k5,(hb.put a _).k5,?_⟩;have h4:=ET hb a (gJ r ((v.base.member a).getD V.zero) x)
   cases hm:v.base.member a with
   |none=>
    simp only [hm,Option.getD_none] at h3 h4⊢;have e:V.zero.count=1:=by decide+kernel
    simp only [List.length_cons];omega
   |some o=>
    simp only [hm,Option.getD_some] at h3 h4⊢;simp only [List.length_cons];omega
def rq:List ah->V->V
 | [],v=>v
 |a::r,v=>if r= [] then v.del a else v.put a (rq r ((v.member a).getD V.zero))
def kT (l:List ah):Nat->V->V×Bool
 |0,v=>(v,true)
 |n+1,v=>match bh (l.take (n+1)) v with
  |none=>(v,false)
  |some x=>if n+1<l.length/\ (x.k≠5\/x.keys≠ []) then(v,false) else kT l n (rq (l.take (n+1)) v)
def J1 (l:List ah) (v:V):V:=(kT l l.length v).1
theorem take_zero (l:List ah) (v:V):kT l 0 v=(v,true):=rfl
theorem CG {l:List ah} {n:Nat} {v:V} (h:bh (l.take (n+1)) v=none):kT l (n+1) v=(v,false):=by rw [kT,h]
theorem Fs {l:List ah} {n:Nat} {v x:V} (h:bh (l.take (n+1)) v=some x):kT l (n+1) v=if n+1<l.length/\ (x.k≠5\/x.keys≠ []) then(v,false) else kT l n (rq (l.take (n+1)) v):=by rw [kT,h]
theorem J2 {l:List ah} {n:Nat} (h:n<l.length):l.take (n+1)≠ []:=by
 intro e;have:=congrArg List.length e;simp only [List.length_take,List.length_nil] at this;omega
theorem take_cons {a:ah} {r:List ah}:∀ {n:Nat} {v old:V},n<=r.length->fY v->v.member a=some old->
 kT (a::r) (n+1) v=if(kT r n old).2=true then kT (a::r) 1 (v.put a (kT r n old).1) else(v.put a (kT r n old).1,false)
 |0,v,old,_,hv,hm=>by rw [take_zero,if_pos rfl,Fq hv hm]
 |n+1,v,old,hn,hv,hm=>by
  have e:bh ((a::r).take (n+1+1)) v=bh (r.take (n+1)) old:=by rw [List.take_succ_cons,bh,hm];rfl
  cases hx:bh (r.take (n+1)) old with
  |none=>
   rw [CG (e.trans hx),CG hx,if_neg (by simp),Fq hv hm]
  |some x=>
   rw [Fs (e.trans hx),Fs hx];by_cases hc:n+1<r.length/\ (x.k≠5\/x.keys≠ [])
   ·rw [if_pos hc,if_pos ⟨by simp only [List.length_cons];omega,hc.2⟩,if_neg (by simp),Fq hv hm]
   ·rw [if_neg hc,if_neg (fun h=>hc ⟨by have:=h.1;simp only [List.length_cons] at this;omega,h.2⟩)]
    have e2:rq ((a::r).take (n+1+1)) v=v.put a (rq (r.take (n+1)) old):=by rw [List.take_succ_cons,rq,if_neg (J2 (by omega)),hm];rfl
    rw [e2,take_cons (by omega) (hv.put a _) (xD hv a _),ZF hv]
theorem go_cut:∀(l:List ah) (n:Nat) {v:V},n<l.length->v.sound->bh (l.take (n+1)) v≠none->bh (l.take n) (rq (l.take (n+1)) v)≠none
 | [],n,v,h,_,_=>by simp at h
 |a::r,0,v,_,_,_=>by simp [bh]
 |a::r,n+1,v,h,hv,hg=>by
  have hn:n<r.length:=by simpa using h
  rw [List.take_succ_cons,bh] at hg
  cases hm:v.member a with
  |none=>rw [hm] at hg;exact absurd rfl hg
  |some o=>
   rw [hm,Option.bind_some] at hg;have dI:=il hv (sF hv hm).2;rw [List.take_succ_cons,List.take_succ_cons,rq,if_neg (J2 hn),hm,Option.getD_some,bh,xD dI];exact go_cut r n hn (pS hv hm) hg
theorem Qc:∀(l:List ah) {v:V},v.sound->bh l v≠none-> (rq l v).sound
 | [],v,h,_=>h
 |a::r,v,h,hg=>by
  rw [rq]
  split
  ·exact Jy h a
  ·rw [bh] at hg
   cases hm:v.member a with
   |none=>rw [hm] at hg;exact absurd rfl hg
   |some o=>
    rw [hm,Option.bind_some] at hg;obtain⟨hp,h5⟩:=sF h hm;exact B6 h (Qc r (pS h hm) hg) hp h5
theorem J3 {l:List ah} {v:V} (hl:l≠ []) (h:bh l v≠none):v.l≠ []:=by
 cases l with
 |nil=>exact absurd rfl hl
 |cons a r=>
  rw [bh] at h
  cases hm:v.member a with
  |none=>rw [hm] at h;exact absurd rfl h
  |some o=>intro e;have:=xp hm;rw [e] at this;cases this
theorem Qd (l:List ah):∀(n:Nat) {v:V},n<=l.length->v.sound->bh (l.take n) v≠none-> (kT l n v).2=false-> (kT l n v).1.l≠ []
 |0,v,_,_,_,h=>by rw [take_zero] at h;cases h
 |n+1,v,hn,hv,hg,h=>by
  cases hx:bh (l.take (n+1)) v with
  |none=>exact absurd hx hg
  |some x=>
   rw [Fs hx] at h⊢;by_cases hc:n+1<l.length/\ (x.k≠5\/x.keys≠ [])
   ·rw [if_pos hc] at h⊢
    exact J3 (J2 (by omega)) hg
   ·rw [if_neg hc] at h⊢
    exact Qd l n (by omega) (Qc _ hv hg) (go_cut l n (by omega) hv hg) h
theorem ZJ (l:List ah):∀(n:Nat) {v:V},0<n-> (kT l n v).2=true->bh (l.take n) v≠none
 |0,v,h,_=>by omega
 |n+1,v,_,h=>by
  intro e;rw [CG e] at h
  cases h
theorem J4:∀(l:List ah) {v:V},v.sound-> (ey l v).sound/\ (ey l v).count<=v.count
 | [],v,h=>⟨h,Nat.le_refl _⟩
 |a::r,v,h=>by
  rw [ey]
  cases hm:v.member a with
  |none=>exact⟨h,Nat.le_refl _⟩
  |some o=>
   obtain⟨hp,h5⟩:=sF h hm;have dI:=il h h5;have hd:(v.del a).sound/\ (v.del a).count<=v.count:=⟨Jy h a,O4 dI a⟩;obtain⟨h1,h2⟩:=J4 r (pS h hm);have h3:=ET dI a (ey r o);rw [hm] at h3;simp only at h3⊢
   split
   ·exact hd
   ·split
    ·exact hd
    ·exact⟨B6 h h1 hp h5,by omega⟩
theorem take_drop:∀(l:List ah) {v:V},l≠ []->v.sound->J1 l v=ey l v
 | [],_,h,_=>absurd rfl h
 |a::r,v,_,hv=>by
  unfold J1;rw [ey]
  cases hm:v.member a with
  |none=>rw [List.length_cons,CG (by rw [List.take_succ_cons,bh,hm];rfl)]
  |some o=>
   obtain⟨hp,h5⟩:=sF hv hm;have dI:=il hv h5;have ho:=pS hv hm;simp only;rw [List.length_cons,take_cons (Nat.le_refl _) dI hm];have one:∀z:V,kT (a::r) 1 (v.put a z)=if 1<(a::r).length/\ (z.k≠5\/z.keys≠ []) then(v.put a z,false) else(v.del a,true):=by
    intro z;have e:bh ((a::r).take (0+1)) (v.put a z)=some z:=by simp only [List.take_succ_cons,List.take_zero,bh,xD dI,Option.bind_some]
    rw [Fs e,take_zero];simp only [List.take_succ_cons,List.take_zero,rq,if_true,ZG dI]
   by_cases hr:r= []
   ·subst hr
    rw [if_pos rfl,List.length_nil,take_zero,if_pos rfl,one,if_neg (by simp)]
   ·have ih:=take_drop r hr ho
    unfold J1 at ih;have hlen:0<r.length:=by cases r with|nil=>exact absurd rfl hr|cons=>simp
    rw [if_neg hr,ih]
    cases hf:(kT r r.length o).2 with
    |true=>
     have hol:=J3 (v:=o) hr (by have:=ZJ r _ hlen hf;rwa [List.take_length] at this);rw [if_pos rfl,one];have hds:=(J4 r ho).1;by_cases hz:(ey r o).k=5/\ (ey r o).l= []
     ·have ZK:(ey r o).keys= []:=by
       have:=(il hds hz.1).len;rw [hz.2] at this;exact List.eq_nil_of_length_eq_zero (by simpa using this)
      rw [if_neg (by rintro⟨-,h|h⟩;exact h hz.1;exact h ZK),if_pos ⟨hz.1,hz.2,hol⟩]
     ·have hcc:1<(a::r).length/\ ((ey r o).k≠5\/ (ey r o).keys≠ []):=by
       refine⟨by simp only [List.length_cons];omega,?_⟩;by_cases Fu:(ey r o).k=5
       ·refine .inr fun e=>hz ⟨Fu,?_⟩
        have:=(il hds Fu).len;rw [e] at this;exact List.eq_nil_of_length_eq_zero (by simpa using this.symm)
       ·exact .inl Fu
      rw [if_pos hcc,if_neg (fun h=>hz ⟨h.1,h.2.1⟩)]
    |false=>
     rw [if_neg (by simp),if_neg];rintro⟨-,h2,h3⟩;by_cases hg:bh r o=none
     ·have e:kT r r.length o=(o,false):=by
       obtain⟨m,hm2⟩:∃m,r.length=m+1:=⟨r.length-1,by omega⟩;rw [hm2,CG (by rw [<-hm2,List.take_length];exact hg)]
      rw [e] at ih;simp only at ih;rw [<-ih] at h2;exact h3 h2
     ·have:=Qd r r.length (Nat.le_refl _) ho (by rwa [List.take_length]) hf
      rw [ih] at this;exact this h2
theorem J5 (x:V):∀ns,(x.ez ns).length<=x.count:=by
 induction x using V.ind with
 |h x ih=>
  intro ns;rw [zM];have hp:=V.zy x
  split
  ·simp only [List.length_singleton];exact hp
  ·have hgo:∀(l:List V) (ks:List ah),(∀y∈l,∀ns,(y.ez ns).length<=y.count)-> (V.ez.go l ks ns).length<= (l.map V.count).sum:=by
    intro l
    induction l with
    |nil=>intro ks _;rw [xH];simp
    |cons y l ihl=>
     intro ks h
     cases ks with
     |nil=>rw [Ep];simp
     |cons k ks=>
      rw [xI,List.length_append,List.map_cons,List.sum_cons];have h1:=h y (by simp) (ns++ [k]);have h2:=ihl ks (fun z hz=>h z (by simp [hz]));omega
   have:=hgo x.l x.keys ih;rw [V.count_eq];omega
theorem BF (x:V):x.leaves.length<=120:=by
 unfold V.leaves
 split
 ·rename_i h
  rw [(vC _).length_eq,List.length_map];have:=J5 x [];have:=tR h.1;omega
 ·simp
theorem IA (paths:List ah) (out:List Ow) {v:V} (h:v.sound) (p:ah):(iy paths out v p).sound/\ (iy paths out v p).count<=v.count:=by
 unfold iy
 split
 ·exact J4 _ h
 ·exact⟨h,Nat.le_refl _⟩
theorem BA (paths:List ah) (out:List Ow):∀(ps:List ah) {v:V},v.sound-> (ps.foldl (iy paths out) v).sound/\ (ps.foldl (iy paths out) v).count<=v.count
 | [],_,h=>⟨h,Nat.le_refl _⟩
 |p::r,v,h=>by obtain⟨h1,h2⟩:=IA paths out h p;obtain⟨h3,h4⟩:=BA paths out r h1;exact⟨h3,by rw [List.foldl_cons];omega⟩
theorem ZL {want:V} {p:ah} (h:p∈want.leaves):(((bH want p).getD V.zero).k=5-> ((bH want p).getD V.zero).l= [])/\ ((bH want p).getD V.zero).sound/\ ((bH want p).getD V.zero).count<=120:=by
 obtain⟨hf,h5,r,rfl,hn,hr,hl,hp,y,hy,iW,vZ⟩:=qU h;rw [iW,Option.getD_some];exact⟨vZ,go_sound r (gG hf) hy,by have:=P9 r hy;have:=tR hf;omega⟩
theorem Om {want:V} {p:ah} (h:p∈want.leaves):bL p≠ []/\ (bL p).length<=11/\∀a∈bL p,fD a=true:=by
 obtain⟨hf,h5,r,rfl,hn,hr,hl,hp,-⟩:=qU h;unfold bL;rw [hn];exact⟨hr,hl,hp⟩
theorem Em {want v:V} (h:v.sound) {p:ah} (hp:p∈want.leaves):(iQ want v p).sound/\ (iQ want v p).k=5/\ (iQ want v p).count<=v.count+131:=by
 obtain⟨h1,h2,h3⟩:=ZL hp;obtain⟨n1,n2,n3⟩:=Om hp;obtain⟨k1,k2,k3⟩:=Qa (bL p) n1 h h2 n3;exact⟨k1,k2,by unfold iQ;omega⟩
theorem NY (want:V):∀(ps:List ah) {v:V},(∀p∈ps,p∈want.leaves)->v.sound-> (ps.foldl (iQ want) v).sound/\ (ps.foldl (iQ want) v).count<=v.count+ps.length*131
 | [],_,_,h=>⟨h,by simp⟩
 |p::r,v,hp,h=>by obtain⟨h1,-,h2⟩:=Em h (hp p (by simp));obtain⟨h3,h4⟩:=NY want r (fun q hq=>hp q (by simp [hq])) h1;exact⟨h3,by rw [List.foldl_cons,List.length_cons];omega⟩
theorem Ob {x:V} (h:x.sound) (hc:x.count<=20000):x.size<=4194304:=by have:=zz h;omega
theorem I5 {l:List Ow} (h:iZ l=true) {o:Ow} (ho:o∈l) {p:ah} (hp:p∈o.paths):∃r,cI p=some r/\r≠ []:=by
 unfold iZ at h;rw [Bool.and_eq_true,decide_eq_true_eq] at h;obtain⟨i,hi,rfl⟩:=List.getElem_of_mem ho;obtain⟨-,-,-,h4⟩:=h.1 i hi;unfold pT at h4;rw [decide_eq_true_eq] at h4;obtain⟨k,hk,rfl⟩:=List.getElem_of_mem hp;have h5:=(h4 k hk).1;unfold xG at h5
 cases hn:cI l[i].paths[k] with
 |none=>rw [hn] at h5;cases h5
 |some r=>rw [hn] at h5;exact⟨r,rfl,by simpa using h5⟩
theorem N9 {who:ah} {l:List Ow} {p:ah} (h:p∈lK who l):∃o∈l,p∈o.paths:=by
 have:∀(l:List Ow) (old:List ah),(p∈l.foldl (fun old o=>if o.name=who then o.paths else old) old)->p∈old\/∃o∈l,p∈o.paths:=by
  intro l
  induction l with
  |nil=>intro old h;exact .inl h
  |cons o r ih=>
   intro old h;rw [List.foldl_cons] at h;rcases ih _ h with h|⟨q,hq,hp⟩
   ·split at h
    ·exact .inr ⟨o,by simp,h⟩
    ·exact .inl h
   ·exact .inr ⟨q,by simp [hq],hp⟩
 rcases this l [] h with h|h
 ·cases h
 ·exact h
theorem Qe:∀(r t:List ah) (v:V),bh (r++t) v=(bh r v).bind (bh t)
 | [],t,v=>rfl
 |a::r,t,v=>by
  rw [List.cons_append,bh,bh]
  cases v.member a with
  |none=>rfl
  |some z=>exact Qe r t z
def nE (r s:List ah):Prop:=¬r<+:s/\¬s<+:r
theorem nE.symm {r s:List ah} (h:nE r s):nE s r:=⟨h.2,h.1⟩
theorem nE.tail {a:ah} {r s:List ah} (h:nE (a::r) (a::s)):nE r s:=
 ⟨fun e=>h.1 (List.cons_prefix_cons.2 ⟨rfl,e⟩),fun e=>h.2 (List.cons_prefix_cons.2 ⟨rfl,e⟩)⟩
theorem nE.ne {r s:List ah} (h:nE r s):r≠ []/\s≠ []:=⟨fun e=>h.1 (by rw [e];exact List.nil_prefix),fun e=>h.2 (by rw [e];exact List.nil_prefix)⟩
theorem Bp {b:ah} {r:List ah} {v y:V} (h:bh (b::r) v=some y):∃z,v.member b=some z/\bh r z=some y:=by
 rw [bh] at h
 cases hm:v.member b with
 |none=>rw [hm] at h;cases h
 |some z=>rw [hm] at h;exact⟨z,rfl,h⟩
theorem Qf:∀(l r:List ah) {v x y:V},v.sound->nE l r->bh r v=some y->bh r (gJ l v x)=some y
 | [],r,v,x,y,hv,h,hg=>absurd rfl h.ne.1
 |a::l, [],v,x,y,hv,h,hg=>absurd rfl h.ne.2
 |a::l,b::r,v,x,y,hv,h,hg=>by
  obtain⟨z,hm,hz⟩:=Bp hg;have h5:=(sF hv hm).2;have dI:=il hv h5;have hbs:v.base=v:=base_of h5;rw [gJ,hbs];by_cases hab:a=b
  ·subst hab
   have ht:=h.tail;rw [if_pos ht.ne.1,bh,xD dI,Option.bind_some,hm,Option.getD_some];exact Qf l r (pS hv hm) ht hz
  ·have hput:∀q,bh (b::r) (v.put a q)=some y:=fun q=>by rw [bh,um dI,if_neg hab,hm];exact hz
   split
   ·exact hput _
   ·split
    ·split
     ·exact hg
     ·exact hput _
    ·exact hput _
theorem Qg:∀(l r:List ah) {v y:V},v.sound->nE l r->bh r v=some y->bh r (ey l v)=some y
 | [],r,v,y,hv,h,hg=>absurd rfl h.ne.1
 |a::l, [],v,y,hv,h,hg=>absurd rfl h.ne.2
 |a::l,b::r,v,y,hv,h,hg=>by
  obtain⟨z,hm,hz⟩:=Bp hg;have dI:=il hv (sF hv hm).2;rw [ey];by_cases hab:a=b
  ·subst hab
   have ht:=h.tail;rw [hm];simp only;rw [if_neg ht.ne.1];have ih:=Qg l r (pS hv hm) ht hz;have hne:(ey l z).l≠ []:=J3 ht.ne.2 (by rw [ih];simp);rw [if_neg (fun e=>hne e.2.1),bh,xD dI];exact ih
  ·have hput:∀q,bh (b::r) (v.put a q)=some y:=fun q=>by rw [bh,um dI,if_neg hab,hm];exact hz
   have hdel:bh (b::r) (v.del a)=some y:=by rw [bh,ES dI,if_neg hab,hm];exact hz
   split
   ·exact hg
   ·split
    ·exact hdel
    ·split
     ·exact hdel
     ·exact hput _
theorem Qh {p:ah} {ks:List ah} (h:cI p=some ks):jQ p.data.toList=some (ks.map (·.data.toList)):=by
 unfold cI at h
 cases hn:jQ p.data.toList with
 |none=>rw [hn] at h;cases h
 |some m=>
  rw [hn] at h;simp only [Option.map_some,Option.some.injEq] at h;subst h;have:((fun x:ah=>x.data.toList)∘fun s:List UInt8=>(⟨s.toArray⟩:ah))=id:=by funext s;rfl
  simp [this]
theorem ZM (r t:List (List UInt8)):joinL (r++t)=joinL r++joinL t:=List.flatMap_append
theorem Qi {p q:ah} {r s:List ah} (hp:cI p=some r) (hq:cI q=some s) (h:r<+:s) (hne:p≠q):fE p q=true:=by
 obtain⟨t,rfl⟩:=h;have e1:joinL (r.map (·.data.toList))=p.data.toList:=JB (Qh hp);have e2:joinL ((r++t).map (·.data.toList))=q.data.toList:=JB (Qh hq);rw [List.map_append,ZM,e1] at e2
 cases t with
 |nil=>exact absurd (J0 (by rw [<-e2];simp [joinL])) hne
 |cons c t=>
  unfold fE;rw [<-e2];have:joinL ((c::t).map (·.data.toList))= [47]++(kR c.data.toList++joinL (t.map (·.data.toList))):=by simp [joinL]
  rw [this,<-List.append_assoc,List.isPrefixOf_iff_prefix];exact List.prefix_append _ _
theorem Qj {p q:ah} {r s:List ah} (hp:cI p=some r) (hq:cI q=some s) (hne:p≠q) (h1:fE p q=false) (h2:fE q p=false):nE r s:=
 ⟨fun h=>(by rw [Qi hp hq h hne] at h1;cases h1),fun h=>(by rw [Qi hq hp h (Ne.symm hne)] at h2;cases h2)⟩
theorem NG {x:V} {p q:ah} {r s:List ah} (hp:p∈x.leaves) (hq:q∈x.leaves) (hr:cI p=some r) (hs:cI q=some s) (hne:p≠q):nE r s:=by
 have key:∀ {p q:ah} {r s:List ah},p∈x.leaves->q∈x.leaves->cI p=some r->cI q=some s->p≠q->¬r<+:s:=by
  intro p q r s hp hq hr hs hne h;obtain⟨hf,-,r',e1,hn,-,-,-,y,hy,-,vZ⟩:=qU hp;obtain⟨-,-,s',e2,kx,-,-,-,z,hz,-⟩:=qU hq;rw [hr] at hn;rw [hs] at kx
  cases hn;cases kx
  obtain⟨t,rfl⟩:=h
  cases t with
  |nil=>rw [List.append_nil] at e2;exact hne (e1.trans e2.symm)
  |cons c t=>
   rw [Qe,hy,Option.bind_some] at hz;obtain⟨u,hu,-⟩:=Bp hz;have hys:=go_sound _ (gG hf) hy;have h5:=(sF hys hu).2;have:=xp hu;rw [vZ h5] at this
   cases this
 exact⟨key hp hq hr hs hne,key hq hp hs hr (Ne.symm hne)⟩
theorem J6 {v want:V} {q:ah}:∀(ls:List ah),kN v want q ls=false-> (∀p∈ls,p=q\/ (fE p q=false/\fE q p=false)\/q∈ls)/\ (q∈ls->∃now,bH v q=some now/\iP now ((bH want q).getD V.zero)=true)
 | [],_=>⟨fun _ h=>(List.not_mem_nil h).elim,fun h=>(List.not_mem_nil h).elim⟩
 |p::r,h=>by
  rw [show kN v want q (p::r)=if(fE p q||fE q p)=true then true else if p=q then(match bH v p with|none=>true|some now=> !iP now ((bH want p).getD V.zero)) else kN v want q r from rfl] at h
  split at h
  ·cases h
  ·rename_i ha
   have ha':fE p q=false/\fE q p=false:=by
    cases h1:fE p q<;>cases h2:fE q p<;>simp_all
   split at h
   ·rename_i kz
    subst kz;refine⟨fun p' hp'=> .inr (.inr (by simp)),fun _=> ?_⟩
    split at h
    ·cases h
    ·rename_i now hn
     exact⟨now,hn,by simpa using h⟩
   ·rename_i kz
    obtain⟨h1,h2⟩:=J6 r h;refine⟨fun p' hp'=> ?_,fun hq=>h2 (by rcases List.mem_cons.1 hq with e|e;exact absurd e.symm kz;exact e)⟩;rcases List.mem_cons.1 hp' with rfl|hp'
    ·exact .inr (.inl ha')
    ·rcases h1 p' hp' with h|h|h
     ·exact .inl h
     ·exact .inr (.inl h)
     ·exact .inr (.inr (by simp [h]))
theorem ZN {v want:V} {p q:ah} {r s:List ah} (h:eX v want q=false) (hp:p∈want.leaves) (hr:cI p=some r) (hs:cI q=some s) (hne:p≠q):nE r s:=by
 obtain⟨h1,-⟩:=J6 want.leaves h;rcases h1 p hp with e|e|e
 ·exact absurd e hne
 ·exact Qj hr hs hne e.1 e.2
 ·exact NG hp e hr hs hne
def Bw (m:List Ow) (who:ah):List ah:=match m.find? fun o=>decide (o.name=who) with|some o=>o.paths|none=> []
theorem IB {v:V} {l:List Ow} {who:ah} {want w:V} {force:Bool} {m:List Ow} {c:List (ah×ah)} (h:ju v l who want force=(w,m,c,0)):
 pk v l who want=true/\¬(jv v l who want≠ []/\force=false)/\w=eT v l who want/\m=fN v l who want/\w.fine=true/\m.length<=6/\c= []:=by
 unfold ju at h
 split at h
 ·simp at h
 ·rename_i hb
  split at h
  ·simp at h
  ·rename_i hc
   split at h
   ·simp at h
   ·rename_i hf
    simp only [Prod.mk.injEq] at h;obtain⟨rfl,rfl,rfl,-⟩:=h;refine⟨by simpa using hb,hc,rfl,rfl,?_,?_,rfl⟩
    ·cases hw:(eT v l who want).fine with
     |true=>rfl
     |false=>exact absurd (.inl hw) hf
    ·exact Nat.le_of_not_lt fun h=>hf (.inr h)
theorem Ev {v:V} {l:List Ow} {who:ah} {want:V} (h:pk v l who want=true):v.fine=true/\want.fine=true/\v.k=5/\want.k=5/\iZ l=true/\gH who=true:=by
 unfold pk at h;simp only [Bool.and_eq_true,decide_eq_true_eq] at h;obtain⟨⟨⟨⟨⟨h1,h2⟩,h3⟩,h4⟩,h5⟩,h6⟩:=h;exact⟨h1,h2,h3,h4,h5,h6⟩
theorem Qk {r:List ah} {y:V} (paths:List ah) (out:List Ow):∀(ps:List ah) {v:V},v.sound-> (∀p∈ps,pU out p=false->nE (bL p) r)->bh r v=some y->bh r (ps.foldl (iy paths out) v)=some y
 | [],_,_,_,h=>h
 |p::ps,v,hv,ha,h=>by
  rw [List.foldl_cons];refine Qk paths out ps (IA paths out hv p).1 (fun q hq=>ha q (by simp [hq])) ?_;unfold iy
  split
  ·rename_i hc
   exact Qg _ _ hv (ha p (by simp) hc.2) h
  ·exact h
theorem Ir {r:List ah} {y want:V}:∀(ps:List ah) {v:V},v.sound-> (∀p∈ps,p∈want.leaves)-> (∀p∈ps,nE (bL p) r\/∀v:V,v.sound->bh r v=some y->bh r (iQ want v p)=some y)->bh r v=some y->bh r (ps.foldl (iQ want) v)=some y
 | [],_,_,_,_,h=>h
 |p::ps,v,hv,hl,ha,h=>by
  rw [List.foldl_cons];refine Ir ps (Em hv (hl p (by simp))).1 (fun q hq=>hl q (by simp [hq])) (fun q hq=>ha q (by simp [hq])) ?_;rcases ha p (by simp) with h1|h1
  ·exact Qf _ _ hv h1 h
  ·exact h1 v hv h
theorem El:∀(l:List ah) {v x y:V},l≠ []->v.sound->bh l v=some y->iP y x=true->gJ l v x=v
 | [],_,_,_,h,_,_,_=>absurd rfl h
 |a::l,v,x,y,_,hv,hg,hk=>by
  obtain⟨z,hm,hz⟩:=Bp hg;have h5:=(sF hv hm).2;have dI:=il hv h5;rw [gJ,base_of h5,hm];by_cases hl:l= []
  ·subst hl
   simp only [bh,Option.some.injEq] at hz;subst hz;simp [hk]
  ·rw [if_pos hl,Option.getD_some,El l hl (pS hv hm) hz hk,Fq dI hm]
end Go.Proofs.YtlcebdaghmdkeabGreatDoor
namespace Go.Proofs.YtlcebdaghmdkeabGreatDoor
open Go.Proofs.Tryz
open Go.RowKit
theorem Tryz.CH:(prog.info? 58).map (fun i=>(i.zero,i.size,i.bytes))=some (some (.agg #[.string ⟨#[]⟩, .slice none 0 0]),2,40):=by kernel_rfl
def Ow.size (o:Ow):Nat:=1+o.name.size+eY o.paths
def cF (l:List Ow):Nat:=(l.map Ow.size).sum
theorem Ow.size_pos (o:Ow):1<=o.size:=by unfold Ow.size;omega
theorem vw (l:List Ow):l.length<=cF l:=Be Ow.size Ow.size_pos l
theorem qN {l:List Ow} {o:Ow} (h:o∈l):o.size<=cF l:=uZ Ow.size h
theorem Ow.qO (o:Ow):o.paths.length<o.size:=by
 have:=Be (fun k:ah=>k.size+1) (fun _=>by omega) o.paths;unfold Ow.size eY;omega
theorem Ow.zF {o:Ow} {p:ah} (h:p∈o.paths):p.size<o.size:=by
 have:=uZ (fun k:ah=>k.size+1) h;unfold Ow.size eY;omega
theorem Ow.Wd (o:Ow):o.name.size<o.size:=by unfold Ow.size;omega
def Ow.Item (w:World) (S:aw) (b o:Nat) (x:Ow):Prop:=
 ∃pa pc,w.cell? ⟨b,o,none⟩=some (.string x.name)/\w.cell? ⟨b,o+1,none⟩=some (.slice pa x.paths.length pc)/\aM pa x.paths.length pc/\bC w S pa x.paths
def cj (w:World) (S:aw) (l:List Ow) (p:aq):Prop:=
 l= []\/∃b o,p=some ⟨b,o,none⟩/\S b/\∀i (h:i<l.length),Ow.Item w S b (o+i*2) l[i]
theorem Ow.Item.keep {S T:aw} {w w':World} {b o:Nat} {x:Ow} (h:Ow.Item w S b o x) (hS:S b) (hk:Kept S w w') (hT:∀b,S b->b<w.heap.size->T b):Ow.Item w' T b o x:=by
 obtain⟨pa,pc,h0,h1,h2,h3⟩:=h;exact⟨pa,pc,hk.cell (p:=⟨b,o,none⟩) hS h0,hk.cell (p:=⟨b,o+1,none⟩) hS h1,h2,h3.keep hk hT⟩
theorem cj.keep {S T:aw} {w w':World} {l:List Ow} {p:aq} (h:cj w S l p) (hk:Kept S w w') (hT:∀b,S b->b<w.heap.size->T b):cj w' T l p:=by
 by_cases hn:l= []
 ·exact .inl hn
 ·obtain⟨b,o,rfl,hS,hi⟩:=h.resolve_left hn
  have h0:0<l.length:=List.length_pos_iff.2 hn;have hlt:b<w.heap.size:=by obtain⟨pa,pc,h0,-⟩:=hi 0 h0;exact ku h0
  exact .inr ⟨b,o,rfl,hT b hS hlt,fun i h=>(hi i h).keep hS hk hT⟩
theorem cj.ext {S:aw} {w w':World} {l:List Ow} {p:aq} (h:cj w S l p) (e:Ext w w'):cj w' S l p:=h.keep (e.kept S) (fun _ h _=>h)
theorem cj.mono {S T:aw} {w:World} {l:List Ow} {p:aq} (h:cj w S l p) (hT:∀b,S b->b<w.heap.size->T b):cj w T l p:=h.keep (Ext.refl w|>.kept S) hT
theorem cj.item {S:aw} {w:World} {l:List Ow} {p:aq} (h:cj w S l p) {i:Nat} (hi:i<l.length):∃b o,p=some ⟨b,o,none⟩/\S b/\Ow.Item w S b (o+i*2) l[i]:=by
 obtain⟨b,o,rfl,hS,h⟩:=h.resolve_left (by intro e;rw [e] at hi;simp at hi);exact⟨b,o,rfl,hS,h i hi⟩
def cY (w:World) (T:aw):List Ow->List Value->Prop
 | [],xs=>xs= []
 |x::r,xs=>∃pa pc t,xs= .string x.name:: .slice pa x.paths.length pc::t/\ (aM pa x.paths.length pc/\bC w T pa x.paths)/\cY w T r t
theorem cY.keep {S T:aw} {w w':World} {l:List Ow} {xs:List Value} (h:cY w S l xs) (hk:Kept S w w') (hT:∀b,S b->b<w.heap.size->T b):cY w' T l xs:=by
 induction l generalizing xs with
 |nil=>exact h
 |cons x r ih=>
  obtain⟨pa,pc,t,rfl,h1,h2⟩:=h;exact⟨pa,pc,t,rfl,⟨h1.1,h1.2.keep hk hT⟩,ih h2⟩
theorem cY.app {w:World} {T:aw} {l m:List Ow} {xs ys:List Value} (h:cY w T l xs) (k:cY w T m ys):cY w T (l++m) (xs++ys):=by
 induction l generalizing xs with
 |nil=>subst h;exact k
 |cons y r ih=>
  obtain⟨a,b,t,rfl,h1,h2⟩:=h;exact⟨a,b,_,rfl,h1,ih h2⟩
theorem cY.one {w:World} {T:aw} {x:Ow} {pa:aq} {pc:Nat} (h:aM pa x.paths.length pc) (hx:bC w T pa x.paths):cY w T [x] [.string x.name, .slice pa x.paths.length pc]:=⟨pa,pc, [],rfl,⟨h,hx⟩,rfl⟩
theorem cY.len {w:World} {T:aw} {l:List Ow} {xs:List Value} (h:cY w T l xs):xs.length=l.length*2:=by
 induction l generalizing xs with
 |nil=>subst h;rfl
 |cons y r ih=>
  obtain⟨a,b,t,rfl,h1,h2⟩:=h;have:=ih h2;simp only [List.length_cons,this];omega
theorem cY.ones {w:World} {T:aw} {l:List Ow} {xs:List Value} (h:cY w T l xs):∀u∈xs,u.oneCell'=true:=by
 induction l generalizing xs with
 |nil=>subst h;intro u hu;cases hu
 |cons y r ih=>
  obtain⟨a,b,t,rfl,h1,h2⟩:=h;intro u hu;rcases List.mem_cons.1 hu with rfl|hu
  ·rfl
  ·rcases List.mem_cons.1 hu with rfl|hu
   ·rfl
   ·exact ih h2 u hu
theorem cY.item {w:World} {T:aw} {l:List Ow} {xs:List Value} (h:cY w T l xs):∀i (hi:i<l.length),∃pa pc,xs[i*2]? =some (.string l[i].name)/\xs[i*2+1]? =some (.slice pa l[i].paths.length pc)/\aM pa l[i].paths.length pc/\bC w T pa l[i].paths:=by
 induction l generalizing xs with
 |nil=>intro i hi;simp at hi
 |cons y r ih=>
  obtain⟨a,b,t,rfl,h1,h2⟩:=h;intro i hi
  match i with
  |0=>exact⟨a,b,by simp,by simp,by simpa using h1.1,by simpa using h1.2⟩
  |i+1=>
   obtain⟨pa,pc,c0,c1,c2,c3⟩:=ih h2 i (by simpa using hi);refine⟨pa,pc,?_,?_,by simpa using c2,by simpa using c3⟩
   ·simp only [List.getElem_cons_succ,show (i+1)*2=i*2+1+1 from by omega,List.getElem?_cons_succ];exact c0
   ·simp only [List.getElem_cons_succ,show (i+1)*2+1=(i*2+1)+1+1 from by omega,List.getElem?_cons_succ];exact c1
theorem ZO {w:World} {S:aw} {l:List Ow} {p:aq} (h:cj w S l p):∃xs,xs.length=l.length*2/\ (l.length=0\/∃b,p=some b/\∀j u,xs[j]? =some u->w.cell? (b.add j)=some u)/\cY w S l xs:=by
 by_cases hn:l= []
 ·subst hn;exact⟨[],rfl, .inl rfl,rfl⟩
 ·obtain⟨b,o,rfl,hS,hi⟩:=h.resolve_left hn
  have:∀(l:List Ow) (o:Nat),(∀i (h:i<l.length),Ow.Item w S b (o+i*2) l[i])->∃xs,xs.length=l.length*2/\ (∀j u,xs[j]? =some u->w.cell? ⟨b,o+j,none⟩=some u)/\cY w S l xs:=by
   intro l
   induction l with
   |nil=>intro o _;exact⟨[],rfl,fun j u h=>by simp at h,rfl⟩
   |cons x r ih=>
    intro o h
    obtain⟨xs,h1,h2,h3⟩:=ih (o+2) (fun i hi=>by
     have:=h (i+1) (by simpa using hi);rw [show o+2+i*2=o+(i+1)*2 from by omega]
     simpa using this)
    obtain⟨pa,pc,c0,c1,c2,c3⟩:=h 0 (by simp);refine⟨.string x.name:: .slice pa x.paths.length pc::xs,by simp only [List.length_cons,h1];omega,?_,⟨pa,pc,xs,rfl,⟨by simpa using c2,by simpa using c3⟩,h3⟩⟩;intro j u hj
    match j with
    |0=>simp only [List.getElem?_cons_zero,Option.some.injEq] at hj;subst hj;simpa using c0
    |1=>simp only [List.getElem?_cons_succ,List.getElem?_cons_zero,Option.some.injEq] at hj;subst hj;simpa using c1
    |j+2=>
     simp only [List.getElem?_cons_succ] at hj;rw [show o+(j+2)=o+2+j from by omega];exact h2 j u hj
  obtain⟨xs,h1,h2,h3⟩:=this l o hi;exact⟨xs,h1, .inr ⟨_,rfl,fun j u hj=>by rw [Addr.add_lit];exact h2 j u hj⟩,h3⟩
def jX (w:World) (base:Nat) (S:aw) (v:Value) (n:Nat) (l:List Ow):Prop:=
 l.length=n/\∃xs,w.ownsRow base 58 2 v n xs/\cY w (dR base S v) l xs
theorem jX.nil (w:World) (base:Nat) (S:aw):jX w base S (.slice none 0 0) 0 []:=⟨rfl, [],World.ownsRow_nil _ _ _ _,rfl⟩
theorem jX.keep {w w':World} {base:Nat} {S:aw} {v:Value} {n:Nat} {l:List Ow} (h:jX w base S v n l) (e:∀b,b<w.heap.size-> ((b<base/\S b)\/base<=b)->w'.heap[b]? =w.heap[b]?):jX w' base S v n l:=by
 obtain⟨h0,xs,h1,h2⟩:=h;exact⟨h0,xs,dL h1 (fun b hb hv=>e b hb (.inr (h1.lt b hv).1)),h2.keep (fun b hb hlt=>e b hlt (by rcases hb with hb|hb;exact .inl hb;exact .inr hb.1)) (fun _ h _=>h)⟩
theorem jX.ext {w w':World} {base:Nat} {S:aw} {v:Value} {n:Nat} {l:List Ow} (h:jX w base S v n l) (e:Ext w w'):jX w' base S v n l:=h.keep (fun b hb _=>Below.block e b hb)
theorem jX.push {w w1:World} {base:Nat} {S:aw} {v v':Value} {n:Nat} {l:List Ow} {xs:List Value} (h0:l.length=n) (hown0:w.ownsRow base 58 2 v n xs) (hc:cY w (dR base S v) l xs)
 {x:Ow} {pa:aq} {pc:Nat} (hok:aM pa x.paths.length pc) (hx:bC w (dR base S v) pa x.paths)
 (hown:w1.ownsRow base 58 2 v' (n+1) (xs++ [.string x.name, .slice pa x.paths.length pc])) (hgrow:w.grownBy w1 v.ownBlock)
 (g:Nat) (hv':v'.ownBlock=some g) (hat:v.ownBlock=some g\/g=w.heap.size):jX w1 base S v' (n+1) (l++ [x]):=by
 have hv:v.ownBlock=none\/∃g,v.ownBlock=some g/\base<=g:=by
  cases hv:v.ownBlock with
  |none=>exact .inl rfl
  |some g=>exact .inr ⟨g,rfl,(hown0.lt g hv).1⟩
 refine⟨by simp [h0],_,hown,?_⟩;have hk:Kept (dR base S v) w w1:=by
  intro b hb hlt;refine hgrow.block b hlt ?_;intro he;rcases hb with hb|hb
  ·rcases hv with hv|⟨g',hv,hg'⟩
   ·rw [hv] at he;cases he
   ·rw [hv] at he;simp only [Option.some.injEq] at he;omega
  ·exact hb.2 he.symm
 have hT:∀b,dR base S v b->b<w.heap.size->dR base S v' b:=by
  intro b hb hlt;rcases hb with hb|hb
  ·exact .inl hb
  ·refine .inr ⟨hb.1,?_⟩
   rw [hv'];rcases hat with hat|hat
   ·rw [hat] at hb;exact hb.2
   ·intro he;simp only [Option.some.injEq] at he;omega
 exact(hc.keep hk hT).app (.one hok (hx.keep hk hT))
theorem jX.rows {w:World} {base:Nat} {S:aw} {v:Value} {n:Nat} {l:List Ow} (h:jX w base S v n l):
 ∃a cap,v= .slice a n cap/\aM a n cap/\l.length=n/\cj w (fun b=>(b<base/\S b)\/base<=b) l a:=by
 obtain⟨h0,xs,⟨hl,h1⟩,h2⟩:=h;rcases h1 with⟨hv,hn⟩|⟨g,cap,cur,hv,hb,hg,hnc,hcm,hcs,ht⟩
 ·subst hn
  exact⟨none,0,hv,aM.nil,h0, .inl (List.length_eq_zero_iff.1 h0)⟩
 ·refine⟨some ⟨g,0,none⟩,cap,hv,⟨hnc,hcm,by simp⟩,h0, .inr ⟨g,0,rfl, .inr hb,?_⟩⟩
  intro i hi;obtain⟨pa,pc,c0,c1,c2,c3⟩:=h2.item i hi;have hx:∀j u,xs[j]? =some u->w.cell? ⟨g,j,none⟩=some u:=by
   intro j u hj;rw [cell_of_row w g j cur _ _ hg];rw [<-ht] at hj;rw [List.getElem?_take] at hj
   split at hj
   ·simpa using hj
   ·cases hj
  refine⟨pa,pc,?_,?_,c2,c3.keep (Ext.refl w|>.kept _) (fun b hb _=>by rcases hb with hb|hb;exact .inl hb;exact .inr hb.1)⟩
  ·rw [Nat.zero_add];exact hx _ _ c0
  ·rw [Nat.zero_add];exact hx _ _ c1
def ZP (S:aw) (r:List Ow) (w:World) (e:Ending) (w':World):Prop:=
 ∃a c,e= .returned (.slice a r.length c)/\aM a r.length c/\cj w' (aU S w) r a/\Ext w w'
def ZQ (r:List ah) (w:World) (e:Ending) (w':World):Prop:=
 ∃a c,e= .returned (.slice a r.length c)/\aM a r.length c/\bC w' (fun b=>w.heap.size<=b) a r/\Ext w w'
def wh (c:UInt8):Bool:=decide (97<= (c.toNat:Int)/\ (c.toNat:Int)<=122)
theorem Ql (s:ah):gH s=(s.data.toList.all wh&&decide (1<=s.size)&&decide (s.size<=12)):=rfl
theorem ZR {s:ah} {k:Nat} (h:k<s.size) (h0:(s.data.toList.take k).all wh=true) (h1:97<= (s[k].toNat:Int)) (h2:(s[k].toNat:Int)<=122):(s.data.toList.take (k+1)).all wh=true:=
 Jn _ _ (by simpa using h) h0 (by rw [byte_at h];unfold wh;simp only [decide_eq_true_eq];exact⟨h1,h2⟩)
theorem Qm {s:ah} {k:Nat} (h:k<s.size) (h1:¬(97<= (s[k].toNat:Int)/\ (s[k].toNat:Int)<=122)):gH s=false:=by
 have:=Jo wh s.data.toList (k:=k) (by simpa using h) (by rw [byte_at h];unfold wh;simp only [decide_eq_false_iff_not];exact h1);rw [Ql,this];rfl
theorem Qn {s:ah} {k:Nat} (hk:¬k<s.size) (h0:(s.data.toList.take k).all wh=true):gH s=(decide (1<=s.size)&&decide (s.size<=12)):=by
 rw [List.take_of_length_le (by simp;omega)] at h0;rw [Ql,h0];rfl
theorem qQ (s:ah) (w:World) (hs:s.size<=1073741824):Calls prog 18 #[.string s] w fun e w'=>e= .returned (.bool (gH s))/\w=w':=by
 go_enter func18,ntmps18;go_wp2
 go_loop [6] (fun i=>∃k:Nat,k<=s.size/\i= .int .i64 k/\ (s.data.toList.take k).all wh=true) (fun i=>s.size-(intOf i).toNat)
 case atStart=>exact⟨0,Nat.zero_le _,rfl,rfl⟩
 case round=>
  obtain⟨k,hk,rfl,ht⟩:=hrel;have Ht:=ae ht;clear ht;by_cases hlt:k<s.size
  ·by_cases h1:(s[k].toNat:Int)<97
   ·go_wp2
    go_ret;exact⟨cX (Qm hlt (by omega)).symm,rfl⟩
   ·by_cases h2:(122:Int)<(s[k].toNat:Int)
    ·go_wp2
     go_ret;exact⟨cX (Qm hlt (by omega)).symm,rfl⟩
    ·go_wp2
     go_round
     case rel=>exact⟨k+1,by omega,by go_num,ZR hlt Ht.out (by omega) (by omega)⟩
     case measure=>simp [intOf];omega
  ·by_cases h1:1<=s.size
   ·have ZT:(1:Int)<= (s.size:Int):=by omega
    go_wp2;go_ret;refine⟨cX ?_,rfl⟩;rw [Qn hlt Ht.out,decide_eq_true h1];simp;omega
   ·have ZT:¬(1:Int)<= (s.size:Int):=by omega
    go_wp2;go_ret;refine⟨cX ?_,rfl⟩;rw [Qn hlt Ht.out,decide_eq_false h1];rfl
end Go.Proofs.YtlcebdaghmdkeabGreatDoor
namespace Go.Proofs.YtlcebdaghmdkeabGreatDoor
open Go.Proofs.Tryz
open Go.RowKit
attribute [local go_sem↓] Go.wp_at_zero Go.wp_at_succ
def Qo (p:ah) (w:World) (e:Ending) (w':World):Prop:=
 ∃a c,e= .returned (.tuple #[.slice a (bL p).length c, .int .i64 (if(cI p).isSome=true then 0 else 1)])/\aM a (bL p).length c/\bC w' (fun b=>w.heap.size<=b) a (bL p)/\Ext w w'
theorem ZU {p:ah} {w w':World} {e:Ending} (h:E4 (jQ p.data.toList) w e w'):Qo p w e w':=by
 rcases h with⟨l,a,n,c,ks,hr,rfl,hn,hmap,hok,hst,hx⟩|⟨hr,rfl,hx⟩
 ·have hnb:cI p=some ks:=D4 (by rw [hr,hmap])
  have hd:bL p=ks:=by unfold bL;rw [hnb];rfl
  subst hn;exact⟨a,c,by rw [hd,hnb];rfl,by rw [hd];exact hok,by rw [hd];exact hst,hx⟩
 ·have hnb:=G' hr
  have hd:bL p= []:=by unfold bL;rw [hnb];rfl
  exact⟨none,0,by rw [hd,hnb];rfl,by rw [hd];exact aM.nil,by rw [hd];exact .inl rfl,hx⟩
theorem Bi (p:ah) (w:World) (hs:p.size<=1073741824) (hm:fL w):Calls prog 43 #[.string p] w (Qo p w):=(Na p hs w hm).mono fun _ _=>ZU
theorem Eg (p:ah):(bL p).length<=2001/\∀k∈bL p,k.size<=8000:=by
 unfold bL
 cases h:cI p with
 |none=>simp
 |some ks=>exact A4 h
theorem Bl (a:aq) (c:Nat) (ks:List ah) (S:aw) (w:World) (hks:bC w S a ks) (hz:∀k∈ks,k.size<=2000000) (hn:ks.length<=2000000) (hm:fL w):
 Calls prog 44 #[.slice a ks.length c] w fun e w'=>e= .returned (.string (lq ks))/\Ext w w':=by
 refine(Y3 a ks.length c ks S w hks rfl (fun i h=>hz _ (List.getElem_mem h)) hn hm).mono ?_;rintro e w' ⟨s,rfl,hs,hx⟩;exact⟨by rw [show s=lq ks from J0 (by rw [hs,Fp])],hx⟩
theorem NA {p:ah} (h:(cI p).isSome=true):lq (bL p)=p:=by
 obtain⟨ks,hk⟩:=Option.isSome_iff_exists.1 h;unfold bL;rw [hk];exact J0 (by rw [Fp];exact JB (M9 hk))
theorem Nz (p:ah):xG p=((cI p).isSome&& !decide ((bL p).length=0)):=by
 unfold xG bL
 cases cI p with
 |none=>rfl
 |some l=>cases l<;>rfl
def zH (ps:List ah) (k:Nat) (h:k<ps.length):Prop:=xG ps[k]=true/\ (0<k->bA (ps[k-1]'(by omega)) ps[k]=true)
theorem Ny {ps:List ah} {k:Nat} (h:k<ps.length) (hb:¬zH ps k h):pT ps=false:=decide_eq_false fun H=>hb (H k h)
theorem NB {ps:List ah} (H:∀k (h:k<ps.length),zH ps k h):pT ps=true:=decide_eq_true fun k h=>H k h
def Ij (l:List Ow) (i:Nat) (h:i<l.length):Prop:=gH l[i].name=true/\ (0<i->bA (l[i-1]'(by omega)).name l[i].name=true)/\l[i].paths≠ []/\pT l[i].paths=true
theorem zG {l:List Ow} {i:Nat} (h:i<l.length) (hb:¬Ij l i h):iZ l=false:=by
 unfold iZ;rw [Bool.and_eq_false_iff,decide_eq_false_iff_not];exact .inl fun H=>hb (H i h)
theorem Wm {l:List Ow} (H:∀i (h:i<l.length),Ij l i h):iZ l=decide (l.length<=6):=by
 have h1:(decide (∀i,(h:i<l.length)->gH l[i].name=true/\ (0<i->bA (l[i-1]'(by omega)).name l[i].name=true)/\l[i].paths≠ []/\pT l[i].paths=true))=true:=decide_eq_true H;unfold iZ;rw [h1];rfl
theorem Im {n:Nat} (h:n<=9223372036854775807):IntKind.i64.wrap (n:Int)=(n:Int):=by
 unfold IntKind.wrap;simp [IntKind.bits,IntKind.signed];omega
theorem zI {a b:ah} {r:Bool} (h:bA a b=r):Op.bytesLess a.toList b.toList=r:=h
end Go.Proofs.YtlcebdaghmdkeabGreatDoor
