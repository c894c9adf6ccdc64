import Derived.Test.YtlcebdaghmdkeaaGreatDoorZ7
import Derived.Test.YtlcebdaghmdkeaaGreatDoorZ13
set_option linter.all false
set_option maxRecDepth 100000
set_option maxHeartbeats 64000000
namespace Go.Proofs.YtlcebdaghmdkeaaGreatDoor
open Go.Proofs.Tryz
structure Ow where
 name:ah
 paths:List ah
def fe (s:ah):Bool:=(s.data.toList.all fun c=>decide (97<= (c.toNat:Int)/\ (c.toNat:Int)<=122))&&decide (1<=s.size)&&decide (s.size<=12)
def bQ (p:ah):List ah:=(cM p).getD []
def lQ (l:List ah):ah:=⟨(joinL (l.map (·.data.toList))).toArray⟩
def yt (p:ah):Bool:=match cM p with|some l=>decide (l≠ [])|none=>false
def qz (ps:List ah):Bool:=decide (∀k,(h:k<ps.length)->yt ps[k]=true/\ (0<k->bB (ps[k-1]'(by omega)) ps[k]=true))
def iK (l:List Ow):Bool:=
 decide (∀i,(h:i<l.length)->fe l[i].name=true/\ (0<i->bB (l[i-1]'(by omega)).name l[i].name=true)/\l[i].paths≠ []/\qz l[i].paths=true)&&decide (l.length<=6)
def V.eK:V->List ah->List (List ah)
 | .mk k _ _ ks l,ns=>if k≠5\/ (l= []/\ns≠ []) then [ns] else go l ks ns
where go:List V->List ah->List ah->List (List ah)
 |x::l,k::ks,ns=>V.eK x (ns++ [k])++go l ks ns
 |_,_,_=> []
theorem Aw (x:V) (ns:List ah):x.eK ns=if x.k≠5\/ (x.l= []/\ns≠ []) then [ns] else V.eK.go x.l x.keys ns:=by
 obtain⟨k,n,s,ks,l⟩:=x;rw [V.eK];rfl
theorem yw (x:V) (l:List V) (k:ah) (ks ns:List ah):V.eK.go (x::l) (k::ks) ns=x.eK (ns++ [k])++V.eK.go l ks ns:=by rw [V.eK.go]
theorem yu (ks ns:List ah):V.eK.go [] ks ns= []:=by cases ks<;>rfl
theorem FA (l:List V) (ns:List ah):V.eK.go l [] ns= []:=by cases l<;>rfl
theorem RM (ns:List ah):∀(l:List V) (ks:List ah) (x:V) (k:ah),ks.length=l.length->V.eK.go (l++ [x]) (ks++ [k]) ns=V.eK.go l ks ns++x.eK (ns++ [k])
 | [], [],x,k,_=>by simp [yw,yu]
 | [],_::_,_,_,h=>by simp at h
 |_::_, [],_,_,h=>by simp at h
 |y::l,a::ks,x,k,h=>by rw [List.cons_append,List.cons_append,yw,yw,RM ns l ks x k (by simpa using h),List.append_assoc]
def yY (p:ah):List ah->List ah
 | []=> [p]
 |q::r=>if bB p q=true then p::q::r else q::yY p r
def ud:List ah->List ah
 | []=> []
 |p::r=>yY p (ud r)
abbrev Sorted (l:List ah):Prop:=l.Pairwise fun a b=>bB b a=false
theorem Ld (p:ah):∀l,(yY p l).Perm (p::l)
 | []=> .refl _
 |q::r=>by
  rw [yY]
  split
  ·exact .refl _
  ·exact((Ld p r).cons q).trans (.swap p q r)
theorem wF:∀l,(ud l).Perm l
 | []=> .refl _
 |p::r=>(Ld p _).trans ((wF r).cons p)
theorem aaO {a b c:ah} (h1:bB b a=false) (h2:bB c b=false):bB c a=false:=by
 cases h:bB c a with
 |false=>rfl
 |true=>
  rcases FC a b with h3|rfl|h3
  ·rw [uU h h3] at h2;cases h2
  ·rw [h] at h2;cases h2
  ·rw [h3] at h1;cases h1
theorem RN (p:ah):∀l,Sorted l->Sorted (yY p l)
 | [],_=>by simp [yY]
 |q::r,h=>by
  rw [yY];obtain⟨h1,h2⟩:=List.pairwise_cons.1 h
  split
  ·rename_i hlt
   refine List.pairwise_cons.2 ⟨fun b hb=> ?_,h⟩;rcases List.mem_cons.1 hb with rfl|hb
   ·exact KF hlt
   ·exact aaO (KF hlt) (h1 b hb)
  ·rename_i hlt
   refine List.pairwise_cons.2 ⟨fun b hb=> ?_,RN p r h2⟩;rcases List.mem_cons.1 ((Ld p r).mem_iff.1 hb) with rfl|hb
   ·simpa using hlt
   ·exact h1 b hb
theorem JV:∀l,Sorted (ud l)
 | []=> .nil
 |p::r=>RN p _ (JV r)
theorem sorted_perm:∀ {l m:List ah},Sorted l->Sorted m->l.Perm m->l=m
 | [],m,_,_,h=>by simpa using h.symm
 |a::l, [],_,_,h=>by simp at h
 |a::l,b::m,hl,hm,h=>by
  obtain⟨az,hl2⟩:=List.pairwise_cons.1 hl;obtain⟨yo,hm2⟩:=List.pairwise_cons.1 hm;have e:a=b:=by
   rcases List.mem_cons.1 (h.mem_iff.1 (List.mem_cons_self ..)) with e|ha
   ·exact e
   rcases List.mem_cons.1 (h.mem_iff.2 (List.mem_cons_self ..)) with e|hb
   ·exact e.symm
   have h1:=az b hb;have h2:=yo a ha;rcases FC a b with h3|h3|h3
   ·rw [h3] at h2;cases h2
   ·exact h3
   ·rw [h3] at h1;cases h1
  subst e;rw [sorted_perm hl2 hm2 ((List.perm_cons a).1 h)]
def V.leaves (x:V):List ah:=if x.fine=true/\x.k=5 then ud ((x.eK []).map lQ) else []
def bn:List ah->V->Option V
 | [],x=>some x
 |a::r,x=>(x.member a).bind (bn r)
def bI (x:V) (p:ah):Option V:=bn (bQ p) x
def fO (p q:ah):Bool:=(p.data.toList++ [47]).isPrefixOf q.data.toList
def jg (now want:V):Bool:=now.same want||(decide (now.k=5)&&decide (want.k=5)&&decide (want.l.length=0))
def lv (v want:V) (q:ah):List ah->Bool
 | []=>false
 |p::r=>if(fO p q||fO q p)=true then true else if p=q then(match bI v p with|none=>true|some now=> !jg now ((bI want p).getD V.zero)) else lv v want q r
def fu (v want:V) (q:ah):Bool:=lv v want q want.leaves
def wI (v want:V) (who:ah) (o:Ow):List (ah×ah):=if o.name=who then [] else(o.paths.filter (fu v want)).map fun q=>(o.name,q)
def jN (v:V) (l:List Ow) (who:ah) (want:V):List (ah×ah):=l.flatMap (wI v want who)
def gX:List ah->V->V->V
 | [],_,x=>x
 |a::r,v,x=>if r≠ [] then v.base.put a (gX r ((v.base.member a).getD V.zero) x) else
  match v.base.member a with|some old=>if jg old x=true then v.base else v.base.put a x|none=>v.base.put a x
def eJ:List ah->V->V
 | [],v=>v
 |a::r,v=>match v.member a with
  |none=>v
  |some old=>if r= [] then v.del a else if(eJ r old).k=5/\ (eJ r old).l= []/\old.l≠ [] then v.del a else v.put a (eJ r old)
def jt (f:ah->Bool) (o:Ow):Option Ow:=if o.paths.filter f= [] then none else some ⟨o.name,o.paths.filter f⟩
def kU (v:V) (l:List Ow):List Ow:=l.filterMap (jt fun p=>(bI v p).isSome)
def ft (v want:V) (who:ah) (l:List Ow):List Ow:=(l.filter fun o=>decide (o.name≠who)).filterMap (jt fun q=> !fu v want q)
def mq (who:ah) (l:List Ow):List ah:=l.foldl (fun old o=>if o.name=who then o.paths else old) []
def tO (p q:ah):Bool:=decide (p=q)||fO p q||fO q p
def qB (out:List Ow) (p:ah):Bool:=out.any fun o=>o.paths.any (tO p)
def yz (paths:List ah) (p:ah):Bool:=paths.any fun q=>decide (p=q)
def iL (paths:List ah) (out:List Ow) (next:V) (p:ah):V:=if yz paths p=false/\qB out p=false then eJ (bQ p) next else next
def jh (want:V) (next:V) (p:ah):V:=gX (bQ p) next ((bI want p).getD V.zero)
def fg (v:V) (l:List Ow) (who:ah) (want:V):V:=want.leaves.foldl (jh want) ((mq who l).foldl (iL want.leaves (ft v want who l)) v)
def nj (l:List Ow) (who:ah):Nat:=posOf (l.map Ow.name) who
def fY (l:List Ow) (who:ah) (ps:List ah):List Ow:=if ps= [] then l else l.take (nj l who)++⟨who,ps⟩::l.drop (nj l who)
def fZ (v:V) (l:List Ow) (who:ah) (want:V):List Ow:=fY (ft v want who l) who want.leaves
def pV (v:V) (l:List Ow) (who:ah) (want:V):Bool:=v.fine&&want.fine&&decide (v.k=5)&&decide (want.k=5)&&iK l&&fe who
def jM (v:V) (l:List Ow) (who:ah) (want:V) (force:Bool):V×List Ow×List (ah×ah)×Int:=
 if pV v l who want=false then(v,l, [],1)
 else if jN v l who want≠ []/\force=false then(v,l,jN v l who want,5)
 else if(fg v l who want).fine=false\/6<(fZ v l who want).length then(v,l, [],2)
 else(fg v l who want,fZ v l who want, [],0)
theorem GJ (l:List ah):(lQ l).data.toList=joinL (l.map (·.data.toList)):=by unfold lQ;simp
theorem Le {a b:ah} (h:a.data.toList=b.data.toList):a=b:=by
 obtain⟨⟨l⟩⟩:=a;obtain⟨⟨m⟩⟩:=b;simp only at h;rw [h]
theorem Pm {l:List ah} (h:(joinL (l.map (·.data.toList))).length<=2000):cM (lQ l)=some l:=
 Fa (by rw [GJ];exact ZC _ h)
theorem JU (l:List ah) (h:∀a∈l,a.size<=60):(joinL (l.map (·.data.toList))).length<=l.length*121:=by
 induction l with
 |nil=>simp [joinL]
 |cons a r ih=>
  have h1:=ih (fun b hb=>h b (by simp [hb]));have h2:=QR a.data.toList;have h3:a.data.toList.length=a.size:=Array.length_toList;have h4:=h a (by simp);unfold joinL at h1⊢;simp only [List.map_cons,List.flatMap_cons,List.length_append,List.length_cons];omega
theorem JT (x:V):∀(d:Int) (ns:List ah),x.good d=true->∀q∈x.eK ns,∃r,q=ns++r/\ (∃y,bn r x=some y/\ (y.k=5->y.l= []))/\ (r.length:Int)+d<=12/\∀a∈r,fc a=true:=by
 induction x using V.ind with
 |h x ih=>
  intro d ns hg q hq;rw [Aw] at hq;obtain⟨hfl,hd⟩:=F9 (show x.flat d=true by rw [V.rR,Bool.and_eq_true] at hg;exact hg.1)
  split at hq
  ·rename_i hc
   simp only [List.mem_singleton] at hq;subst hq;refine⟨[],by simp,⟨x,rfl,fun h5=> ?_⟩,by simpa using hd,by simp⟩;rcases hc with h|h
   ·exact absurd h5 h
   ·exact h.1
  ·rename_i hc
   have h5:x.k=5:=Classical.byContradiction fun h=>hc (.inl h);have dP:=iH (Fy hg) h5;have hgo:∀(l:List V) (ks:List ah),q∈V.eK.go l ks ns->∃i,∃h1:i<l.length,∃h2:i<ks.length,q∈ (l[i]).eK (ns++ [ks[i]]):=by
    intro l
    induction l with
    |nil=>intro ks h;rw [yu] at h;cases h
    |cons y l ihl=>
     intro ks h
     cases ks with
     |nil=>rw [FA] at h;cases h
     |cons k ks=>
      rw [yw,List.mem_append] at h;rcases h with h|h
      ·exact⟨0,by simp,by simp,by simpa using h⟩
      ·obtain⟨i,h1,h2,h3⟩:=ihl ks h
       exact⟨i+1,by simpa using h1,by simpa using h2,by simpa using h3⟩
   obtain⟨i,h1,h2,h3⟩:=hgo _ _ hq;obtain⟨r,rfl,⟨y,hy,xc⟩,hlen,hp⟩:=ih _ (List.getElem_mem h1) (d+1) _ (Fz hg h1) q h3;refine⟨x.keys[i]::r,by simp,⟨y,?_,xc⟩,?_,?_⟩
   ·rw [bn,Qx h5 dP.len,Ar _ _ dP.len dP.nodup i h2]
    exact hy
   ·simp only [List.length_cons];omega
   ·intro a ha
    rcases List.mem_cons.1 ha with rfl|ha
    ·exact hfl.kp _ (List.getElem_mem h2)
    ·exact hp a ha
theorem FB {x:V} (h:x.fine=true):x.good 1=true:=by unfold V.fine at h;rw [Bool.and_eq_true] at h;exact h.1
theorem rJ {x:V} {p:ah} (h:p∈x.leaves):x.fine=true/\x.k=5/\∃r,p=lQ r/\cM p=some r/\r≠ []/\r.length<=11/\ (∀a∈r,fc a=true)/\∃y,bn r x=some y/\bI x p=some y/\ (y.k=5->y.l= []):=by
 unfold V.leaves at h
 split at h
 ·rename_i hc
  obtain⟨hf,h5⟩:=hc;rw [(wF _).mem_iff,List.mem_map] at h;obtain⟨q,hq,rfl⟩:=h;obtain⟨r,CG,⟨y,hy,xc⟩,hlen,hp⟩:=JT x 1 [] (FB hf) q hq;rw [List.nil_append] at CG;rw [CG] at hq⊢;have hl:r.length<=11:=by omega
  have hn:cM (lQ r)=some r:=Pm (by have:=JU r (fun a ha=>yx (hp a ha));omega);have hr:r≠ []:=by
   rintro rfl;simp only [bn,Option.some.injEq] at hy;subst hy;have hl0:=xc h5;rw [Aw,if_neg (by simp [h5]),hl0,yu] at hq
   cases hq
  exact⟨hf,h5,r,rfl,hn,hr,hl,hp,y,hy,by unfold bI bQ;rw [hn];exact hy,xc⟩
 ·cases h
theorem go_sound:∀(r:List ah) {x y:V},x.sound->bn r x=some y->y.sound
 | [],x,y,hx,h=>by simp only [bn,Option.some.injEq] at h;rw [<-h];exact hx
 |a::r,x,y,hx,h=>by
  rw [bn] at h
  cases hm:x.member a with
  |none=>rw [hm] at h;cases h
  |some z=>rw [hm] at h;exact go_sound r (qx hx hm) h
theorem RO {x y:V} {a:ah} (h:x.member a=some y):y.size<x.size:=V.yL (yc h)
theorem go_size:∀(r:List ah) {x y:V},bn r x=some y->y.size<=x.size
 | [],x,y,h=>by simp only [bn,Option.some.injEq] at h;rw [h];exact Nat.le_refl _
 |a::r,x,y,h=>by
  rw [bn] at h
  cases hm:x.member a with
  |none=>rw [hm] at h;cases h
  |some z=>rw [hm] at h;have:=go_size r (x:=z) (y:=y) h;have:=RO hm;omega
theorem aaP {x y:V} {a:ah} (h:x.member a=some y):y.count<x.count:=by
 obtain⟨i,hi,rfl⟩:=List.getElem_of_mem (yc h);exact V.Fb hi
theorem RP:∀(r:List ah) {x y:V},bn r x=some y->y.count<=x.count
 | [],x,y,h=>by simp only [bn,Option.some.injEq] at h;rw [h];exact Nat.le_refl _
 |a::r,x,y,h=>by
  rw [bn] at h
  cases hm:x.member a with
  |none=>rw [hm] at h;cases h
  |some z=>rw [hm] at h;have:=RP r (x:=z) (y:=y) h;have:=aaP hm;omega
theorem GK {x y:V} (h:gq x) {a:ah} (hm:x.member a=some y):x.put a y=x:=by
 refine KI (h.put a y) h fun k=> ?_;rw [vd h]
 split
 ·rename_i e;subst e;exact hm.symm
 ·rfl
theorem aaQ {x:V} (h:gq x) (a:ah) (y z:V):(x.put a y).put a z=x.put a z:=by
 refine KI ((h.put a y).put a z) (h.put a z) fun k=> ?_;rw [vd (h.put a y),vd h,vd h]
 split<;>rfl
theorem aaR {x:V} (h:gq x) (a:ah) (y:V):(x.put a y).del a=x.del a:=by
 refine KI ((h.put a y).del a) (h.del a) fun k=> ?_;rw [Gb (h.put a y),vd h,Gb h]
 split<;>rfl
theorem yr {x:V} (h:gq x) (a:ah) (y:V):(x.put a y).member a=some y:=by rw [vd h,if_pos rfl]
theorem tJ {x y:V} (h:x.sound) {a:ah} (hm:x.member a=some y):fc a=true/\x.k=5:=by
 have h5:x.k=5:=Classical.byContradiction fun h5=>by rw [Qy h5] at hm;cases hm
 exact⟨h.flat.kp a (((iH h h5).wE a).2 (by rw [hm];simp)),h5⟩
theorem X0 {o x:V} (h:jg o x=true):(o.k=5/\x.k=5)\/o=x:=by
 unfold jg at h;rw [Bool.or_eq_true,Bool.and_eq_true,Bool.and_eq_true] at h;rcases h with h|h
 ·exact .inr ((Cz o x).1 h)
 ·exact .inl ⟨by simpa using h.1.1,by simpa using h.1.2⟩
theorem aaS (v:V):v.base.count<=v.count:=by
 unfold V.base
 split
 ·exact Nat.le_refl _
 ·have:=V.Ad v;have e:V.cj.count=1:=by decide+kernel
  omega
theorem aaT {x:V} (h:gq x) (a:ah) (y:V):(x.put a y).count<=x.count+y.count:=by have:=Gc h a y;omega
theorem RQ:∀(l:List ah) {v x:V},l≠ []->v.sound->x.sound-> (∀a∈l,fc a=true)-> (gX l v x).sound/\ (gX l v x).k=5/\ (gX l v x).count<=v.count+l.length+x.count
 | [],_,_,h,_,_,_=>absurd rfl h
 |a::r,v,x,_,hv,hx,hp=>by
  have hb:=Ah hv;have hbs:=Ag hv;have hbc:=aaS v;have DC:=hp a (by simp);rw [gX];by_cases hr:r= []
  ·subst hr
   rw [if_neg (by simp)]
   have h1:(v.base.put a x).sound/\ (v.base.put a x).k=5/\ (v.base.put a x).count<=v.count+ [a].length+x.count:=
    ⟨Da hbs hx DC hb.k5,(hb.put a x).k5,by have:=aaT hb a x;simp only [List.length_cons];omega⟩
   have h2:v.base.sound/\v.base.k=5/\v.base.count<=v.count+ [a].length+x.count:=⟨hbs,hb.k5,by omega⟩
   split
   ·split
    ·exact h2
    ·exact h1
   ·exact h1
  ·rw [if_pos hr]
   obtain⟨h1,h2,h3⟩:=RQ r hr (Cc hbs a) hx (fun b hb=>hp b (by simp [hb]));refine⟨Da hbs h1 DC hb.k5,(hb.put a _).k5,?_⟩;have h4:=Gc hb a (gX r ((v.base.member a).getD V.zero) x)
   cases hm:v.base.member a with
   |none=>
    simp only [hm,Option.getD_none] at h3 h4⊢;have e:V.zero.count=1:=by decide+kernel
    simp only [List.length_cons];omega
   |some o=>
    simp only [hm,Option.getD_some] at h3 h4⊢;simp only [List.length_cons];omega
def rY:List ah->V->V
 | [],v=>v
 |a::r,v=>if r= [] then v.del a else v.put a (rY r ((v.member a).getD V.zero))
def lD (l:List ah):Nat->V->V×Bool
 |0,v=>(v,true)
 |n+1,v=>match bn (l.take (n+1)) v with
  |none=>(v,false)
  |some x=>if n+1<l.length/\ (x.k≠5\/x.keys≠ []) then(v,false) else lD l n (rY (l.take (n+1)) v)
def Lf (l:List ah) (v:V):V:=(lD l l.length v).1
theorem take_zero (l:List ah) (v:V):lD l 0 v=(v,true):=rfl
theorem DF {l:List ah} {n:Nat} {v:V} (h:bn (l.take (n+1)) v=none):lD l (n+1) v=(v,false):=by rw [lD,h]
theorem GL {l:List ah} {n:Nat} {v x:V} (h:bn (l.take (n+1)) v=some x):lD l (n+1) v=if n+1<l.length/\ (x.k≠5\/x.keys≠ []) then(v,false) else lD l n (rY (l.take (n+1)) v):=by rw [lD,h]
theorem Lg {l:List ah} {n:Nat} (h:n<l.length):l.take (n+1)≠ []:=by
 intro e;have:=congrArg List.length e;simp only [List.length_take,List.length_nil] at this;omega
theorem take_cons {a:ah} {r:List ah}:∀ {n:Nat} {v old:V},n<=r.length->gq v->v.member a=some old->
 lD (a::r) (n+1) v=if(lD r n old).2=true then lD (a::r) 1 (v.put a (lD r n old).1) else(v.put a (lD r n old).1,false)
 |0,v,old,_,hv,hm=>by rw [take_zero,if_pos rfl,GK hv hm]
 |n+1,v,old,hn,hv,hm=>by
  have e:bn ((a::r).take (n+1+1)) v=bn (r.take (n+1)) old:=by rw [List.take_succ_cons,bn,hm];rfl
  cases hx:bn (r.take (n+1)) old with
  |none=>
   rw [DF (e.trans hx),DF hx,if_neg (by simp),GK hv hm]
  |some x=>
   rw [GL (e.trans hx),GL hx];by_cases hc:n+1<r.length/\ (x.k≠5\/x.keys≠ [])
   ·rw [if_pos hc,if_pos ⟨by simp only [List.length_cons];omega,hc.2⟩,if_neg (by simp),GK hv hm]
   ·rw [if_neg hc,if_neg (fun h=>hc ⟨by have:=h.1;simp only [List.length_cons] at this;omega,h.2⟩)]
    have e2:rY ((a::r).take (n+1+1)) v=v.put a (rY (r.take (n+1)) old):=by rw [List.take_succ_cons,rY,if_neg (Lg (by omega)),hm];rfl
    rw [e2,take_cons (by omega) (hv.put a _) (yr hv a _),aaQ hv]
theorem go_cut:∀(l:List ah) (n:Nat) {v:V},n<l.length->v.sound->bn (l.take (n+1)) v≠none->bn (l.take n) (rY (l.take (n+1)) v)≠none
 | [],n,v,h,_,_=>by simp at h
 |a::r,0,v,_,_,_=>by simp [bn]
 |a::r,n+1,v,h,hv,hg=>by
  have hn:n<r.length:=by simpa using h
  rw [List.take_succ_cons,bn] at hg
  cases hm:v.member a with
  |none=>rw [hm] at hg;exact absurd rfl hg
  |some o=>
   rw [hm,Option.bind_some] at hg;have dP:=iH hv (tJ hv hm).2;rw [List.take_succ_cons,List.take_succ_cons,rY,if_neg (Lg hn),hm,Option.getD_some,bn,yr dP];exact go_cut r n hn (qx hv hm) hg
theorem RR:∀(l:List ah) {v:V},v.sound->bn l v≠none-> (rY l v).sound
 | [],v,h,_=>h
 |a::r,v,h,hg=>by
  rw [rY]
  split
  ·exact KJ h a
  ·rw [bn] at hg
   cases hm:v.member a with
   |none=>rw [hm] at hg;exact absurd rfl hg
   |some o=>
    rw [hm,Option.bind_some] at hg;obtain⟨hp,h5⟩:=tJ h hm;exact Da h (RR r (qx h hm) hg) hp h5
theorem Lh {l:List ah} {v:V} (hl:l≠ []) (h:bn l v≠none):v.l≠ []:=by
 cases l with
 |nil=>exact absurd rfl hl
 |cons a r=>
  rw [bn] at h
  cases hm:v.member a with
  |none=>rw [hm] at h;exact absurd rfl h
  |some o=>intro e;have:=yc hm;rw [e] at this;cases this
theorem RS (l:List ah):∀(n:Nat) {v:V},n<=l.length->v.sound->bn (l.take n) v≠none-> (lD l n v).2=false-> (lD l n v).1.l≠ []
 |0,v,_,_,_,h=>by rw [take_zero] at h;cases h
 |n+1,v,hn,hv,hg,h=>by
  cases hx:bn (l.take (n+1)) v with
  |none=>exact absurd hx hg
  |some x=>
   rw [GL hx] at h⊢;by_cases hc:n+1<l.length/\ (x.k≠5\/x.keys≠ [])
   ·rw [if_pos hc] at h⊢
    exact Lh (Lg (by omega)) hg
   ·rw [if_neg hc] at h⊢
    exact RS l n (by omega) (RR _ hv hg) (go_cut l n (by omega) hv hg) h
theorem aaU (l:List ah):∀(n:Nat) {v:V},0<n-> (lD l n v).2=true->bn (l.take n) v≠none
 |0,v,h,_=>by omega
 |n+1,v,_,h=>by
  intro e;rw [DF e] at h
  cases h
theorem Li:∀(l:List ah) {v:V},v.sound-> (eJ l v).sound/\ (eJ l v).count<=v.count
 | [],v,h=>⟨h,Nat.le_refl _⟩
 |a::r,v,h=>by
  rw [eJ]
  cases hm:v.member a with
  |none=>exact⟨h,Nat.le_refl _⟩
  |some o=>
   obtain⟨hp,h5⟩:=tJ h hm;have dP:=iH h h5;have hd:(v.del a).sound/\ (v.del a).count<=v.count:=⟨KJ h a,QB dP a⟩;obtain⟨h1,h2⟩:=Li r (qx h hm);have h3:=Gc dP a (eJ r o);rw [hm] at h3;simp only at h3⊢
   split
   ·exact hd
   ·split
    ·exact hd
    ·exact⟨Da h h1 hp h5,by omega⟩
theorem take_drop:∀(l:List ah) {v:V},l≠ []->v.sound->Lf l v=eJ l v
 | [],_,h,_=>absurd rfl h
 |a::r,v,_,hv=>by
  unfold Lf;rw [eJ]
  cases hm:v.member a with
  |none=>rw [List.length_cons,DF (by rw [List.take_succ_cons,bn,hm];rfl)]
  |some o=>
   obtain⟨hp,h5⟩:=tJ hv hm;have dP:=iH hv h5;have ho:=qx hv hm;simp only;rw [List.length_cons,take_cons (Nat.le_refl _) dP hm];have one:∀z:V,lD (a::r) 1 (v.put a z)=if 1<(a::r).length/\ (z.k≠5\/z.keys≠ []) then(v.put a z,false) else(v.del a,true):=by
    intro z;have e:bn ((a::r).take (0+1)) (v.put a z)=some z:=by simp only [List.take_succ_cons,List.take_zero,bn,yr dP,Option.bind_some]
    rw [GL e,take_zero];simp only [List.take_succ_cons,List.take_zero,rY,if_true,aaR dP]
   by_cases hr:r= []
   ·subst hr
    rw [if_pos rfl,List.length_nil,take_zero,if_pos rfl,one,if_neg (by simp)]
   ·have ih:=take_drop r hr ho
    unfold Lf at ih;have hlen:0<r.length:=by cases r with|nil=>exact absurd rfl hr|cons=>simp
    rw [if_neg hr,ih]
    cases hf:(lD r r.length o).2 with
    |true=>
     have hol:=Lh (v:=o) hr (by have:=aaU r _ hlen hf;rwa [List.take_length] at this);rw [if_pos rfl,one];have hds:=(Li r ho).1;by_cases hz:(eJ r o).k=5/\ (eJ r o).l= []
     ·have hzk:(eJ r o).keys= []:=by
       have:=(iH hds hz.1).len;rw [hz.2] at this;exact List.eq_nil_of_length_eq_zero (by simpa using this)
      rw [if_neg (by rintro⟨-,h|h⟩;exact h hz.1;exact h hzk),if_pos ⟨hz.1,hz.2,hol⟩]
     ·have hcc:1<(a::r).length/\ ((eJ r o).k≠5\/ (eJ r o).keys≠ []):=by
       refine⟨by simp only [List.length_cons];omega,?_⟩;by_cases GM:(eJ r o).k=5
       ·refine .inr fun e=>hz ⟨GM,?_⟩
        have:=(iH hds GM).len;rw [e] at this;exact List.eq_nil_of_length_eq_zero (by simpa using this.symm)
       ·exact .inl GM
      rw [if_pos hcc,if_neg (fun h=>hz ⟨h.1,h.2.1⟩)]
    |false=>
     rw [if_neg (by simp),if_neg];rintro⟨-,h2,h3⟩;by_cases hg:bn r o=none
     ·have e:lD r r.length o=(o,false):=by
       obtain⟨m,hm2⟩:∃m,r.length=m+1:=⟨r.length-1,by omega⟩;rw [hm2,DF (by rw [<-hm2,List.take_length];exact hg)]
      rw [e] at ih;simp only at ih;rw [<-ih] at h2;exact h3 h2
     ·have:=RS r r.length (Nat.le_refl _) ho (by rwa [List.take_length]) hf
      rw [ih] at this;exact this h2
theorem Lj (x:V):∀ns,(x.eK ns).length<=x.count:=by
 induction x using V.ind with
 |h x ih=>
  intro ns;rw [Aw];have hp:=V.Ad x
  split
  ·simp only [List.length_singleton];exact hp
  ·have hgo:∀(l:List V) (ks:List ah),(∀y∈l,∀ns,(y.eK ns).length<=y.count)-> (V.eK.go l ks ns).length<= (l.map V.count).sum:=by
    intro l
    induction l with
    |nil=>intro ks _;rw [yu];simp
    |cons y l ihl=>
     intro ks h
     cases ks with
     |nil=>rw [FA];simp
     |cons k ks=>
      rw [yw,List.length_append,List.map_cons,List.sum_cons];have h1:=h y (by simp) (ns++ [k]);have h2:=ihl ks (fun z hz=>h z (by simp [hz]));omega
   have:=hgo x.l x.keys ih;rw [V.count_eq];omega
theorem CL (x:V):x.leaves.length<=120:=by
 unfold V.leaves
 split
 ·rename_i h
  rw [(wF _).length_eq,List.length_map];have:=Lj x [];have:=uI h.1;omega
 ·simp
theorem JW (paths:List ah) (out:List Ow) {v:V} (h:v.sound) (p:ah):(iL paths out v p).sound/\ (iL paths out v p).count<=v.count:=by
 unfold iL
 split
 ·exact Li _ h
 ·exact⟨h,Nat.le_refl _⟩
theorem CJ (paths:List ah) (out:List Ow):∀(ps:List ah) {v:V},v.sound-> (ps.foldl (iL paths out) v).sound/\ (ps.foldl (iL paths out) v).count<=v.count
 | [],_,h=>⟨h,Nat.le_refl _⟩
 |p::r,v,h=>by obtain⟨h1,h2⟩:=JW paths out h p;obtain⟨h3,h4⟩:=CJ paths out r h1;exact⟨h3,by rw [List.foldl_cons];omega⟩
theorem aaV {want:V} {p:ah} (h:p∈want.leaves):(((bI want p).getD V.zero).k=5-> ((bI want p).getD V.zero).l= [])/\ ((bI want p).getD V.zero).sound/\ ((bI want p).getD V.zero).count<=120:=by
 obtain⟨hf,h5,r,rfl,hn,hr,hl,hp,y,hy,jo,xc⟩:=rJ h;rw [jo,Option.getD_some];exact⟨xc,go_sound r (gV hf) hy,by have:=RP r hy;have:=uI hf;omega⟩
theorem PY {want:V} {p:ah} (h:p∈want.leaves):bQ p≠ []/\ (bQ p).length<=11/\∀a∈bQ p,fc a=true:=by
 obtain⟨hf,h5,r,rfl,hn,hr,hl,hp,-⟩:=rJ h;unfold bQ;rw [hn];exact⟨hr,hl,hp⟩
theorem Fx {want v:V} (h:v.sound) {p:ah} (hp:p∈want.leaves):(jh want v p).sound/\ (jh want v p).k=5/\ (jh want v p).count<=v.count+131:=by
 obtain⟨h1,h2,h3⟩:=aaV hp;obtain⟨n1,n2,n3⟩:=PY hp;obtain⟨k1,k2,k3⟩:=RQ (bQ p) n1 h h2 n3;exact⟨k1,k2,by unfold jh;omega⟩
theorem PB (want:V):∀(ps:List ah) {v:V},(∀p∈ps,p∈want.leaves)->v.sound-> (ps.foldl (jh want) v).sound/\ (ps.foldl (jh want) v).count<=v.count+ps.length*131
 | [],_,_,h=>⟨h,by simp⟩
 |p::r,v,hp,h=>by obtain⟨h1,-,h2⟩:=Fx h (hp p (by simp));obtain⟨h3,h4⟩:=PB want r (fun q hq=>hp q (by simp [hq])) h1;exact⟨h3,by rw [List.foldl_cons,List.length_cons];omega⟩
theorem PO {x:V} (h:x.sound) (hc:x.count<=20000):x.size<=4194304:=by have:=Af h;omega
theorem Ki {l:List Ow} (h:iK l=true) {o:Ow} (ho:o∈l) {p:ah} (hp:p∈o.paths):∃r,cM p=some r/\r≠ []:=by
 unfold iK at h;rw [Bool.and_eq_true,decide_eq_true_eq] at h;obtain⟨i,hi,rfl⟩:=List.getElem_of_mem ho;obtain⟨-,-,-,h4⟩:=h.1 i hi;unfold qz at h4;rw [decide_eq_true_eq] at h4;obtain⟨k,hk,rfl⟩:=List.getElem_of_mem hp;have h5:=(h4 k hk).1;unfold yt at h5
 cases hn:cM l[i].paths[k] with
 |none=>rw [hn] at h5;cases h5
 |some r=>rw [hn] at h5;exact⟨r,rfl,by simpa using h5⟩
theorem PL {who:ah} {l:List Ow} {p:ah} (h:p∈mq who l):∃o∈l,p∈o.paths:=by
 have:∀(l:List Ow) (old:List ah),(p∈l.foldl (fun old o=>if o.name=who then o.paths else old) old)->p∈old\/∃o∈l,p∈o.paths:=by
  intro l
  induction l with
  |nil=>intro old h;exact .inl h
  |cons o r ih=>
   intro old h;rw [List.foldl_cons] at h;rcases ih _ h with h|⟨q,hq,hp⟩
   ·split at h
    ·exact .inr ⟨o,by simp,h⟩
    ·exact .inl h
   ·exact .inr ⟨q,by simp [hq],hp⟩
 rcases this l [] h with h|h
 ·cases h
 ·exact h
theorem RT:∀(r t:List ah) (v:V),bn (r++t) v=(bn r v).bind (bn t)
 | [],t,v=>rfl
 |a::r,t,v=>by
  rw [List.cons_append,bn,bn]
  cases v.member a with
  |none=>rfl
  |some z=>exact RT r t z
def oG (r s:List ah):Prop:=¬r<+:s/\¬s<+:r
theorem oG.symm {r s:List ah} (h:oG r s):oG s r:=⟨h.2,h.1⟩
theorem oG.tail {a:ah} {r s:List ah} (h:oG (a::r) (a::s)):oG r s:=
 ⟨fun e=>h.1 (List.cons_prefix_cons.2 ⟨rfl,e⟩),fun e=>h.2 (List.cons_prefix_cons.2 ⟨rfl,e⟩)⟩
theorem oG.ne {r s:List ah} (h:oG r s):r≠ []/\s≠ []:=⟨fun e=>h.1 (by rw [e];exact List.nil_prefix),fun e=>h.2 (by rw [e];exact List.nil_prefix)⟩
theorem Cy {b:ah} {r:List ah} {v y:V} (h:bn (b::r) v=some y):∃z,v.member b=some z/\bn r z=some y:=by
 rw [bn] at h
 cases hm:v.member b with
 |none=>rw [hm] at h;cases h
 |some z=>rw [hm] at h;exact⟨z,rfl,h⟩
theorem RU:∀(l r:List ah) {v x y:V},v.sound->oG l r->bn r v=some y->bn r (gX l v x)=some y
 | [],r,v,x,y,hv,h,hg=>absurd rfl h.ne.1
 |a::l, [],v,x,y,hv,h,hg=>absurd rfl h.ne.2
 |a::l,b::r,v,x,y,hv,h,hg=>by
  obtain⟨z,hm,hz⟩:=Cy hg;have h5:=(tJ hv hm).2;have dP:=iH hv h5;have hbs:v.base=v:=base_of h5;rw [gX,hbs];by_cases hab:a=b
  ·subst hab
   have ht:=h.tail;rw [if_pos ht.ne.1,bn,yr dP,Option.bind_some,hm,Option.getD_some];exact RU l r (qx hv hm) ht hz
  ·have hput:∀q,bn (b::r) (v.put a q)=some y:=fun q=>by rw [bn,vd dP,if_neg hab,hm];exact hz
   split
   ·exact hput _
   ·split
    ·split
     ·exact hg
     ·exact hput _
    ·exact hput _
theorem RV:∀(l r:List ah) {v y:V},v.sound->oG l r->bn r v=some y->bn r (eJ l v)=some y
 | [],r,v,y,hv,h,hg=>absurd rfl h.ne.1
 |a::l, [],v,y,hv,h,hg=>absurd rfl h.ne.2
 |a::l,b::r,v,y,hv,h,hg=>by
  obtain⟨z,hm,hz⟩:=Cy hg;have dP:=iH hv (tJ hv hm).2;rw [eJ];by_cases hab:a=b
  ·subst hab
   have ht:=h.tail;rw [hm];simp only;rw [if_neg ht.ne.1];have ih:=RV l r (qx hv hm) ht hz;have hne:(eJ l z).l≠ []:=Lh ht.ne.2 (by rw [ih];simp);rw [if_neg (fun e=>hne e.2.1),bn,yr dP];exact ih
  ·have hput:∀q,bn (b::r) (v.put a q)=some y:=fun q=>by rw [bn,vd dP,if_neg hab,hm];exact hz
   have hdel:bn (b::r) (v.del a)=some y:=by rw [bn,Gb dP,if_neg hab,hm];exact hz
   split
   ·exact hg
   ·split
    ·exact hdel
    ·split
     ·exact hdel
     ·exact hput _
theorem RX {p:ah} {ks:List ah} (h:cM p=some ks):kj p.data.toList=some (ks.map (·.data.toList)):=by
 unfold cM at h
 cases hn:kj p.data.toList with
 |none=>rw [hn] at h;cases h
 |some m=>
  rw [hn] at h;simp only [Option.map_some,Option.some.injEq] at h;subst h;have:((fun x:ah=>x.data.toList)∘fun s:List UInt8=>(⟨s.toArray⟩:ah))=id:=by funext s;rfl
  simp [this]
theorem aaW (r t:List (List UInt8)):joinL (r++t)=joinL r++joinL t:=List.flatMap_append
theorem RY {p q:ah} {r s:List ah} (hp:cM p=some r) (hq:cM q=some s) (h:r<+:s) (hne:p≠q):fO p q=true:=by
 obtain⟨t,rfl⟩:=h;have e1:joinL (r.map (·.data.toList))=p.data.toList:=KO (RX hp);have e2:joinL ((r++t).map (·.data.toList))=q.data.toList:=KO (RX hq);rw [List.map_append,aaW,e1] at e2
 cases t with
 |nil=>exact absurd (Le (by rw [<-e2];simp [joinL])) hne
 |cons c t=>
  unfold fO;rw [<-e2];have:joinL ((c::t).map (·.data.toList))= [47]++(lC c.data.toList++joinL (t.map (·.data.toList))):=by simp [joinL]
  rw [this,<-List.append_assoc,List.isPrefixOf_iff_prefix];exact List.prefix_append _ _
theorem RZ {p q:ah} {r s:List ah} (hp:cM p=some r) (hq:cM q=some s) (hne:p≠q) (h1:fO p q=false) (h2:fO q p=false):oG r s:=
 ⟨fun h=>(by rw [RY hp hq h hne] at h1;cases h1),fun h=>(by rw [RY hq hp h (Ne.symm hne)] at h2;cases h2)⟩
theorem Pj {x:V} {p q:ah} {r s:List ah} (hp:p∈x.leaves) (hq:q∈x.leaves) (hr:cM p=some r) (hs:cM q=some s) (hne:p≠q):oG r s:=by
 have key:∀ {p q:ah} {r s:List ah},p∈x.leaves->q∈x.leaves->cM p=some r->cM q=some s->p≠q->¬r<+:s:=by
  intro p q r s hp hq hr hs hne h;obtain⟨hf,-,r',e1,hn,-,-,-,y,hy,-,xc⟩:=rJ hp;obtain⟨-,-,s',e2,kO,-,-,-,z,hz,-⟩:=rJ hq;rw [hr] at hn;rw [hs] at kO
  cases hn;cases kO
  obtain⟨t,rfl⟩:=h
  cases t with
  |nil=>rw [List.append_nil] at e2;exact hne (e1.trans e2.symm)
  |cons c t=>
   rw [RT,hy,Option.bind_some] at hz;obtain⟨u,hu,-⟩:=Cy hz;have hys:=go_sound _ (gV hf) hy;have h5:=(tJ hys hu).2;have:=yc hu;rw [xc h5] at this
   cases this
 exact⟨key hp hq hr hs hne,key hq hp hs hr (Ne.symm hne)⟩
theorem Ll {v want:V} {q:ah}:∀(ls:List ah),lv v want q ls=false-> (∀p∈ls,p=q\/ (fO p q=false/\fO q p=false)\/q∈ls)/\ (q∈ls->∃now,bI v q=some now/\jg now ((bI want q).getD V.zero)=true)
 | [],_=>⟨fun _ h=>(List.not_mem_nil h).elim,fun h=>(List.not_mem_nil h).elim⟩
 |p::r,h=>by
  rw [show lv v want q (p::r)=if(fO p q||fO q p)=true then true else if p=q then(match bI v p with|none=>true|some now=> !jg now ((bI want p).getD V.zero)) else lv v want q r from rfl] at h
  split at h
  ·cases h
  ·rename_i ha
   have ha':fO p q=false/\fO q p=false:=by
    cases h1:fO p q<;>cases h2:fO q p<;>simp_all
   split at h
   ·rename_i kQ
    subst kQ;refine⟨fun p' hp'=> .inr (.inr (by simp)),fun _=> ?_⟩
    split at h
    ·cases h
    ·rename_i now hn
     exact⟨now,hn,by simpa using h⟩
   ·rename_i kQ
    obtain⟨h1,h2⟩:=Ll r h;refine⟨fun p' hp'=> ?_,fun hq=>h2 (by rcases List.mem_cons.1 hq with e|e;exact absurd e.symm kQ;exact e)⟩;rcases List.mem_cons.1 hp' with rfl|hp'
    ·exact .inr (.inl ha')
    ·rcases h1 p' hp' with h|h|h
     ·exact .inl h
     ·exact .inr (.inl h)
     ·exact .inr (.inr (by simp [h]))
theorem aaX {v want:V} {p q:ah} {r s:List ah} (h:fu v want q=false) (hp:p∈want.leaves) (hr:cM p=some r) (hs:cM q=some s) (hne:p≠q):oG r s:=by
 obtain⟨h1,-⟩:=Ll want.leaves h;rcases h1 p hp with e|e|e
 ·exact absurd e hne
 ·exact RZ hr hs hne e.1 e.2
 ·exact Pj hp e hr hs hne
def CH (m:List Ow) (who:ah):List ah:=match m.find? fun o=>decide (o.name=who) with|some o=>o.paths|none=> []
theorem JX {v:V} {l:List Ow} {who:ah} {want w:V} {force:Bool} {m:List Ow} {c:List (ah×ah)} (h:jM v l who want force=(w,m,c,0)):
 pV v l who want=true/\¬(jN v l who want≠ []/\force=false)/\w=fg v l who want/\m=fZ v l who want/\w.fine=true/\m.length<=6/\c= []:=by
 unfold jM at h
 split at h
 ·simp at h
 ·rename_i hb
  split at h
  ·simp at h
  ·rename_i hc
   split at h
   ·simp at h
   ·rename_i hf
    simp only [Prod.mk.injEq] at h;obtain⟨rfl,rfl,rfl,-⟩:=h;refine⟨by simpa using hb,hc,rfl,rfl,?_,?_,rfl⟩
    ·cases hw:(fg v l who want).fine with
     |true=>rfl
     |false=>exact absurd (.inl hw) hf
    ·exact Nat.le_of_not_lt fun h=>hf (.inr h)
theorem FH {v:V} {l:List Ow} {who:ah} {want:V} (h:pV v l who want=true):v.fine=true/\want.fine=true/\v.k=5/\want.k=5/\iK l=true/\fe who=true:=by
 unfold pV at h;simp only [Bool.and_eq_true,decide_eq_true_eq] at h;obtain⟨⟨⟨⟨⟨h1,h2⟩,h3⟩,h4⟩,h5⟩,h6⟩:=h;exact⟨h1,h2,h3,h4,h5,h6⟩
theorem aaY {l:List Ow} (h:iK l=true) {o:Ow} (ho:o∈l):o.paths≠ []/\fe o.name=true:=by
 unfold iK at h;rw [Bool.and_eq_true,decide_eq_true_eq] at h;obtain⟨i,hi,rfl⟩:=List.getElem_of_mem ho;exact⟨(h.1 i hi).2.2.1,(h.1 i hi).1⟩
theorem R3 {r:List ah} {y:V} (paths:List ah) (out:List Ow):∀(ps:List ah) {v:V},v.sound-> (∀p∈ps,qB out p=false->oG (bQ p) r)->bn r v=some y->bn r (ps.foldl (iL paths out) v)=some y
 | [],_,_,_,h=>h
 |p::ps,v,hv,ha,h=>by
  rw [List.foldl_cons];refine R3 paths out ps (JW paths out hv p).1 (fun q hq=>ha q (by simp [hq])) ?_;unfold iL
  split
  ·rename_i hc
   exact RV _ _ hv (ha p (by simp) hc.2) h
  ·exact h
theorem JO {r:List ah} {y want:V}:∀(ps:List ah) {v:V},v.sound-> (∀p∈ps,p∈want.leaves)-> (∀p∈ps,oG (bQ p) r\/∀v:V,v.sound->bn r v=some y->bn r (jh want v p)=some y)->bn r v=some y->bn r (ps.foldl (jh want) v)=some y
 | [],_,_,_,_,h=>h
 |p::ps,v,hv,hl,ha,h=>by
  rw [List.foldl_cons];refine JO ps (Fx hv (hl p (by simp))).1 (fun q hq=>hl q (by simp [hq])) (fun q hq=>ha q (by simp [hq])) ?_;rcases ha p (by simp) with h1|h1
  ·exact RU _ _ hv h1 h
  ·exact h1 v hv h
theorem Fw:∀(l:List ah) {v x y:V},l≠ []->v.sound->bn l v=some y->jg y x=true->gX l v x=v
 | [],_,_,_,h,_,_,_=>absurd rfl h
 |a::l,v,x,y,_,hv,hg,hk=>by
  obtain⟨z,hm,hz⟩:=Cy hg;have h5:=(tJ hv hm).2;have dP:=iH hv h5;rw [gX,base_of h5,hm];by_cases hl:l= []
  ·subst hl
   simp only [bn,Option.some.injEq] at hz;subst hz;simp [hk]
  ·rw [if_pos hl,Option.getD_some,Fw l hl (qx hv hm) hz hk,GK dP hm]
end Go.Proofs.YtlcebdaghmdkeaaGreatDoor
namespace Go.Proofs.YtlcebdaghmdkeaaGreatDoor
open Go.Proofs.Tryz
open Go.RowKit
theorem Tryz.DG:(prog.info? 69).map (fun i=>(i.zero,i.size,i.bytes))=some (some (.agg #[.string ⟨#[]⟩, .slice none 0 0]),2,40):=by kernel_rfl
def Ow.size (o:Ow):Nat:=1+o.name.size+fw o.paths
def cN (l:List Ow):Nat:=(l.map Ow.size).sum
theorem Ow.size_pos (o:Ow):1<=o.size:=by unfold Ow.size;omega
theorem ym (l:List Ow):l.length<=cN l:=Ck Ow.size Ow.size_pos l
theorem tK {l:List Ow} {o:Ow} (h:o∈l):o.size<=cN l:=vX Ow.size h
theorem Ow.tL (o:Ow):o.paths.length<o.size:=by
 have:=Ck (fun k:ah=>k.size+1) (fun _=>by omega) o.paths;unfold Ow.size fw;omega
theorem Ow.Am {o:Ow} {p:ah} (h:p∈o.paths):p.size<o.size:=by
 have:=vX (fun k:ah=>k.size+1) h;unfold Ow.size fw;omega
theorem Ow.Xx (o:Ow):o.name.size<o.size:=by unfold Ow.size;omega
def Ow.Item (w:World) (S:aA) (b o:Nat) (x:Ow):Prop:=
 ∃pa pc,w.cell? ⟨b,o,none⟩=some (.string x.name)/\w.cell? ⟨b,o+1,none⟩=some (.slice pa x.paths.length pc)/\aO pa x.paths.length pc/\bT w S pa x.paths
def cz (w:World) (S:aA) (l:List Ow) (p:aq):Prop:=
 l= []\/∃b o,p=some ⟨b,o,none⟩/\S b/\∀i (h:i<l.length),Ow.Item w S b (o+i*2) l[i]
theorem Ow.Item.keep {S T:aA} {w w':World} {b o:Nat} {x:Ow} (h:Ow.Item w S b o x) (hS:S b) (hk:Kept S w w') (hT:∀b,S b->b<w.heap.size->T b):Ow.Item w' T b o x:=by
 obtain⟨pa,pc,h0,h1,h2,h3⟩:=h;exact⟨pa,pc,hk.cell (p:=⟨b,o,none⟩) hS h0,hk.cell (p:=⟨b,o+1,none⟩) hS h1,h2,h3.keep hk hT⟩
theorem cz.keep {S T:aA} {w w':World} {l:List Ow} {p:aq} (h:cz w S l p) (hk:Kept S w w') (hT:∀b,S b->b<w.heap.size->T b):cz w' T l p:=by
 by_cases hn:l= []
 ·exact .inl hn
 ·obtain⟨b,o,rfl,hS,hi⟩:=h.resolve_left hn
  have h0:0<l.length:=List.length_pos_iff.2 hn;have hlt:b<w.heap.size:=by obtain⟨pa,pc,h0,-⟩:=hi 0 h0;exact lu h0
  exact .inr ⟨b,o,rfl,hT b hS hlt,fun i h=>(hi i h).keep hS hk hT⟩
theorem cz.ext {S:aA} {w w':World} {l:List Ow} {p:aq} (h:cz w S l p) (e:Ext w w'):cz w' S l p:=h.keep (e.kept S) (fun _ h _=>h)
theorem cz.mono {S T:aA} {w:World} {l:List Ow} {p:aq} (h:cz w S l p) (hT:∀b,S b->b<w.heap.size->T b):cz w T l p:=h.keep (Ext.refl w|>.kept S) hT
theorem cz.item {S:aA} {w:World} {l:List Ow} {p:aq} (h:cz w S l p) {i:Nat} (hi:i<l.length):∃b o,p=some ⟨b,o,none⟩/\S b/\Ow.Item w S b (o+i*2) l[i]:=by
 obtain⟨b,o,rfl,hS,h⟩:=h.resolve_left (by intro e;rw [e] at hi;simp at hi);exact⟨b,o,rfl,hS,h i hi⟩
def dI (w:World) (T:aA):List Ow->List Value->Prop
 | [],xs=>xs= []
 |x::r,xs=>∃pa pc t,xs= .string x.name:: .slice pa x.paths.length pc::t/\ (aO pa x.paths.length pc/\bT w T pa x.paths)/\dI w T r t
theorem dI.keep {S T:aA} {w w':World} {l:List Ow} {xs:List Value} (h:dI w S l xs) (hk:Kept S w w') (hT:∀b,S b->b<w.heap.size->T b):dI w' T l xs:=by
 induction l generalizing xs with
 |nil=>exact h
 |cons x r ih=>
  obtain⟨pa,pc,t,rfl,h1,h2⟩:=h;exact⟨pa,pc,t,rfl,⟨h1.1,h1.2.keep hk hT⟩,ih h2⟩
theorem dI.app {w:World} {T:aA} {l m:List Ow} {xs ys:List Value} (h:dI w T l xs) (k:dI w T m ys):dI w T (l++m) (xs++ys):=by
 induction l generalizing xs with
 |nil=>subst h;exact k
 |cons y r ih=>
  obtain⟨a,b,t,rfl,h1,h2⟩:=h;exact⟨a,b,_,rfl,h1,ih h2⟩
theorem dI.one {w:World} {T:aA} {x:Ow} {pa:aq} {pc:Nat} (h:aO pa x.paths.length pc) (hx:bT w T pa x.paths):dI w T [x] [.string x.name, .slice pa x.paths.length pc]:=⟨pa,pc, [],rfl,⟨h,hx⟩,rfl⟩
theorem dI.len {w:World} {T:aA} {l:List Ow} {xs:List Value} (h:dI w T l xs):xs.length=l.length*2:=by
 induction l generalizing xs with
 |nil=>subst h;rfl
 |cons y r ih=>
  obtain⟨a,b,t,rfl,h1,h2⟩:=h;have:=ih h2;simp only [List.length_cons,this];omega
theorem dI.ones {w:World} {T:aA} {l:List Ow} {xs:List Value} (h:dI w T l xs):∀u∈xs,u.oneCell'=true:=by
 induction l generalizing xs with
 |nil=>subst h;intro u hu;cases hu
 |cons y r ih=>
  obtain⟨a,b,t,rfl,h1,h2⟩:=h;intro u hu;rcases List.mem_cons.1 hu with rfl|hu
  ·rfl
  ·rcases List.mem_cons.1 hu with rfl|hu
   ·rfl
   ·exact ih h2 u hu
theorem dI.item {w:World} {T:aA} {l:List Ow} {xs:List Value} (h:dI w T l xs):∀i (hi:i<l.length),∃pa pc,xs[i*2]? =some (.string l[i].name)/\xs[i*2+1]? =some (.slice pa l[i].paths.length pc)/\aO pa l[i].paths.length pc/\bT w T pa l[i].paths:=by
 induction l generalizing xs with
 |nil=>intro i hi;simp at hi
 |cons y r ih=>
  obtain⟨a,b,t,rfl,h1,h2⟩:=h;intro i hi
  match i with
  |0=>exact⟨a,b,by simp,by simp,by simpa using h1.1,by simpa using h1.2⟩
  |i+1=>
   obtain⟨pa,pc,c0,c1,c2,c3⟩:=ih h2 i (by simpa using hi);refine⟨pa,pc,?_,?_,by simpa using c2,by simpa using c3⟩
   ·simp only [List.getElem_cons_succ,show (i+1)*2=i*2+1+1 from by omega,List.getElem?_cons_succ];exact c0
   ·simp only [List.getElem_cons_succ,show (i+1)*2+1=(i*2+1)+1+1 from by omega,List.getElem?_cons_succ];exact c1
theorem aaZ {w:World} {S:aA} {l:List Ow} {p:aq} (h:cz w S l p):∃xs,xs.length=l.length*2/\ (l.length=0\/∃b,p=some b/\∀j u,xs[j]? =some u->w.cell? (b.add j)=some u)/\dI w S l xs:=by
 by_cases hn:l= []
 ·subst hn;exact⟨[],rfl, .inl rfl,rfl⟩
 ·obtain⟨b,o,rfl,hS,hi⟩:=h.resolve_left hn
  have:∀(l:List Ow) (o:Nat),(∀i (h:i<l.length),Ow.Item w S b (o+i*2) l[i])->∃xs,xs.length=l.length*2/\ (∀j u,xs[j]? =some u->w.cell? ⟨b,o+j,none⟩=some u)/\dI w S l xs:=by
   intro l
   induction l with
   |nil=>intro o _;exact⟨[],rfl,fun j u h=>by simp at h,rfl⟩
   |cons x r ih=>
    intro o h
    obtain⟨xs,h1,h2,h3⟩:=ih (o+2) (fun i hi=>by
     have:=h (i+1) (by simpa using hi);rw [show o+2+i*2=o+(i+1)*2 from by omega]
     simpa using this)
    obtain⟨pa,pc,c0,c1,c2,c3⟩:=h 0 (by simp);refine⟨.string x.name:: .slice pa x.paths.length pc::xs,by simp only [List.length_cons,h1];omega,?_,⟨pa,pc,xs,rfl,⟨by simpa using c2,by simpa using c3⟩,h3⟩⟩;intro j u hj
    match j with
    |0=>simp only [List.getElem?_cons_zero,Option.some.injEq] at hj;subst hj;simpa using c0
    |1=>simp only [List.getElem?_cons_succ,List.getElem?_cons_zero,Option.some.injEq] at hj;subst hj;simpa using c1
    |j+2=>
     simp only [List.getElem?_cons_succ] at hj;rw [show o+(j+2)=o+2+j from by omega];exact h2 j u hj
  obtain⟨xs,h1,h2,h3⟩:=this l o hi;exact⟨xs,h1, .inr ⟨_,rfl,fun j u hj=>by rw [Addr.add_lit];exact h2 j u hj⟩,h3⟩
def kz (w:World) (base:Nat) (S:aA) (v:Value) (n:Nat) (l:List Ow):Prop:=
 l.length=n/\∃xs,w.ownsRow base 69 2 v n xs/\dI w (fR base S v) l xs
theorem kz.nil (w:World) (base:Nat) (S:aA):kz w base S (.slice none 0 0) 0 []:=⟨rfl, [],World.ownsRow_nil _ _ _ _,rfl⟩
theorem kz.keep {w w':World} {base:Nat} {S:aA} {v:Value} {n:Nat} {l:List Ow} (h:kz w base S v n l) (e:∀b,b<w.heap.size-> ((b<base/\S b)\/base<=b)->w'.heap[b]? =w.heap[b]?):kz w' base S v n l:=by
 obtain⟨h0,xs,h1,h2⟩:=h;exact⟨h0,xs,eo h1 (fun b hb hv=>e b hb (.inr (h1.lt b hv).1)),h2.keep (fun b hb hlt=>e b hlt (by rcases hb with hb|hb;exact .inl hb;exact .inr hb.1)) (fun _ h _=>h)⟩
theorem kz.ext {w w':World} {base:Nat} {S:aA} {v:Value} {n:Nat} {l:List Ow} (h:kz w base S v n l) (e:Ext w w'):kz w' base S v n l:=h.keep (fun b hb _=>Below.block e b hb)
theorem kz.push {w w1:World} {base:Nat} {S:aA} {v v':Value} {n:Nat} {l:List Ow} {xs:List Value} (h0:l.length=n) (hown0:w.ownsRow base 69 2 v n xs) (hc:dI w (fR base S v) l xs)
 {x:Ow} {pa:aq} {pc:Nat} (hok:aO pa x.paths.length pc) (hx:bT w (fR base S v) pa x.paths)
 (hown:w1.ownsRow base 69 2 v' (n+1) (xs++ [.string x.name, .slice pa x.paths.length pc])) (hgrow:w.grownBy w1 v.ownBlock)
 (g:Nat) (hv':v'.ownBlock=some g) (hat:v.ownBlock=some g\/g=w.heap.size):kz w1 base S v' (n+1) (l++ [x]):=by
 have hv:v.ownBlock=none\/∃g,v.ownBlock=some g/\base<=g:=by
  cases hv:v.ownBlock with
  |none=>exact .inl rfl
  |some g=>exact .inr ⟨g,rfl,(hown0.lt g hv).1⟩
 refine⟨by simp [h0],_,hown,?_⟩;have hk:Kept (fR base S v) w w1:=by
  intro b hb hlt;refine hgrow.block b hlt ?_;intro he;rcases hb with hb|hb
  ·rcases hv with hv|⟨g',hv,hg'⟩
   ·rw [hv] at he;cases he
   ·rw [hv] at he;simp only [Option.some.injEq] at he;omega
  ·exact hb.2 he.symm
 have hT:∀b,fR base S v b->b<w.heap.size->fR base S v' b:=by
  intro b hb hlt;rcases hb with hb|hb
  ·exact .inl hb
  ·refine .inr ⟨hb.1,?_⟩
   rw [hv'];rcases hat with hat|hat
   ·rw [hat] at hb;exact hb.2
   ·intro he;simp only [Option.some.injEq] at he;omega
 exact(hc.keep hk hT).app (.one hok (hx.keep hk hT))
theorem kz.rows {w:World} {base:Nat} {S:aA} {v:Value} {n:Nat} {l:List Ow} (h:kz w base S v n l):
 ∃a cap,v= .slice a n cap/\aO a n cap/\l.length=n/\cz w (fun b=>(b<base/\S b)\/base<=b) l a:=by
 obtain⟨h0,xs,⟨hl,h1⟩,h2⟩:=h;rcases h1 with⟨hv,hn⟩|⟨g,cap,cur,hv,hb,hg,hnc,hcm,hcs,ht⟩
 ·subst hn
  exact⟨none,0,hv,aO.nil,h0, .inl (List.length_eq_zero_iff.1 h0)⟩
 ·refine⟨some ⟨g,0,none⟩,cap,hv,⟨hnc,hcm,by simp⟩,h0, .inr ⟨g,0,rfl, .inr hb,?_⟩⟩
  intro i hi;obtain⟨pa,pc,c0,c1,c2,c3⟩:=h2.item i hi;have hx:∀j u,xs[j]? =some u->w.cell? ⟨g,j,none⟩=some u:=by
   intro j u hj;rw [cell_of_row w g j cur _ _ hg];rw [<-ht] at hj;rw [List.getElem?_take] at hj
   split at hj
   ·simpa using hj
   ·cases hj
  refine⟨pa,pc,?_,?_,c2,c3.keep (Ext.refl w|>.kept _) (fun b hb _=>by rcases hb with hb|hb;exact .inl hb;exact .inr hb.1)⟩
  ·rw [Nat.zero_add];exact hx _ _ c0
  ·rw [Nat.zero_add];exact hx _ _ c1
def aa0 (S:aA) (r:List Ow) (w:World) (e:Ending) (w':World):Prop:=
 ∃a c,e= .returned (.slice a r.length c)/\aO a r.length c/\cz w' (aW S w) r a/\Ext w w'
def aa1 (r:List ah) (w:World) (e:Ending) (w':World):Prop:=
 ∃a c,e= .returned (.slice a r.length c)/\aO a r.length c/\bT w' (fun b=>w.heap.size<=b) a r/\Ext w w'
def xd (c:UInt8):Bool:=decide (97<= (c.toNat:Int)/\ (c.toNat:Int)<=122)
theorem R4 (s:ah):fe s=(s.data.toList.all xd&&decide (1<=s.size)&&decide (s.size<=12)):=rfl
theorem aa2 {s:ah} {k:Nat} (h:k<s.size) (h0:(s.data.toList.take k).all xd=true) (h1:97<= (s[k].toNat:Int)) (h2:(s[k].toNat:Int)<=122):(s.data.toList.take (k+1)).all xd=true:=
 KB _ _ (by simpa using h) h0 (by rw [byte_at h];unfold xd;simp only [decide_eq_true_eq];exact⟨h1,h2⟩)
theorem R5 {s:ah} {k:Nat} (h:k<s.size) (h1:¬(97<= (s[k].toNat:Int)/\ (s[k].toNat:Int)<=122)):fe s=false:=by
 have:=KC xd s.data.toList (k:=k) (by simpa using h) (by rw [byte_at h];unfold xd;simp only [decide_eq_false_iff_not];exact h1);rw [R4,this];rfl
theorem R6 {s:ah} {k:Nat} (hk:¬k<s.size) (h0:(s.data.toList.take k).all xd=true):fe s=(decide (1<=s.size)&&decide (s.size<=12)):=by
 rw [List.take_of_length_le (by simp;omega)] at h0;rw [R4,h0];rfl
theorem qy (s:ah) (w:World) (hs:s.size<=1073741824):Calls prog 20 #[.string s] w fun e w'=>e= .returned (.bool (fe s))/\w=w':=by
 go_enter func20,ntmps20;go_wp2
 go_loop [6] (fun i=>∃k:Nat,k<=s.size/\i= .int .i64 k/\ (s.data.toList.take k).all xd=true) (fun i=>s.size-(intOf i).toNat)
 case atStart=>exact⟨0,Nat.zero_le _,rfl,rfl⟩
 case round=>
  obtain⟨k,hk,rfl,ht⟩:=hrel;have Ht:=ae ht;clear ht;by_cases hlt:k<s.size
  ·by_cases h1:(s[k].toNat:Int)<97
   ·go_wp2
    go_ret;exact⟨dn (R5 hlt (by omega)).symm,rfl⟩
   ·by_cases h2:(122:Int)<(s[k].toNat:Int)
    ·go_wp2
     go_ret;exact⟨dn (R5 hlt (by omega)).symm,rfl⟩
    ·go_wp2
     go_round
     case rel=>exact⟨k+1,by omega,by go_num,aa2 hlt Ht.out (by omega) (by omega)⟩
     case measure=>simp [intOf];omega
  ·by_cases h1:1<=s.size
   ·have h1i:(1:Int)<= (s.size:Int):=by omega
    go_wp2;go_ret;refine⟨dn ?_,rfl⟩;rw [R6 hlt Ht.out,decide_eq_true h1];simp;omega
   ·have h1i:¬(1:Int)<= (s.size:Int):=by omega
    go_wp2;go_ret;refine⟨dn ?_,rfl⟩;rw [R6 hlt Ht.out,decide_eq_false h1];rfl
end Go.Proofs.YtlcebdaghmdkeaaGreatDoor
namespace Go.Proofs.YtlcebdaghmdkeaaGreatDoor
open Go.Proofs.Tryz
open Go.RowKit
attribute [local go_sem↓] Go.wp_at_zero Go.wp_at_succ
def R7 (p:ah) (w:World) (e:Ending) (w':World):Prop:=
 ∃a c,e= .returned (.tuple #[.slice a (bQ p).length c, .int .i64 (if(cM p).isSome=true then 0 else 1)])/\aO a (bQ p).length c/\bT w' (fun b=>w.heap.size<=b) a (bQ p)/\Ext w w'
theorem aa3 {p:ah} {w w':World} {e:Ending} (h:Gr (kj p.data.toList) w e w'):R7 p w e w':=by
 rcases h with⟨l,a,n,c,ks,hr,rfl,hn,hmap,hok,hst,hx⟩|⟨hr,rfl,hx⟩
 ·have hnb:cM p=some ks:=Fa (by rw [hr,hmap])
  have hd:bQ p=ks:=by unfold bQ;rw [hnb];rfl
  subst hn;exact⟨a,c,by rw [hd,hnb];rfl,by rw [hd];exact hok,by rw [hd];exact hst,hx⟩
 ·have hnb:=Jp hr
  have hd:bQ p= []:=by unfold bQ;rw [hnb];rfl
  exact⟨none,0,by rw [hd,hnb];rfl,by rw [hd];exact aO.nil,by rw [hd];exact .inl rfl,hx⟩
theorem Ct (p:ah) (w:World) (hs:p.size<=1073741824) (hm:fW w):Calls prog 84 #[.string p] w (R7 p w):=(OP p hs w hm).mono fun _ _=>aa3
theorem Fs (p:ah):(bQ p).length<=2001/\∀k∈bQ p,k.size<=8000:=by
 unfold bQ
 cases h:cM p with
 |none=>simp
 |some ks=>exact B0 h
theorem Cw (a:aq) (c:Nat) (ks:List ah) (S:aA) (w:World) (hks:bT w S a ks) (hz:∀k∈ks,k.size<=2000000) (hn:ks.length<=2000000) (hm:fW w):
 Calls prog 112 #[.slice a ks.length c] w fun e w'=>e= .returned (.string (lQ ks))/\Ext w w':=by
 refine(aam a ks.length c ks S w hks rfl (fun i h=>hz _ (List.getElem_mem h)) hn hm).mono ?_;rintro e w' ⟨s,rfl,hs,hx⟩;exact⟨by rw [show s=lQ ks from Le (by rw [hs,GJ])],hx⟩
theorem Pd {p:ah} (h:(cM p).isSome=true):lQ (bQ p)=p:=by
 obtain⟨ks,hk⟩:=Option.isSome_iff_exists.1 h;unfold bQ;rw [hk];exact Le (by rw [GJ];exact KO (OO hk))
theorem Pc (p:ah):yt p=((cM p).isSome&& !decide ((bQ p).length=0)):=by
 unfold yt bQ
 cases cM p with
 |none=>rfl
 |some l=>cases l<;>rfl
def Ap (ps:List ah) (k:Nat) (h:k<ps.length):Prop:=yt ps[k]=true/\ (0<k->bB (ps[k-1]'(by omega)) ps[k]=true)
theorem Pb {ps:List ah} {k:Nat} (h:k<ps.length) (hb:¬Ap ps k h):qz ps=false:=decide_eq_false fun H=>hb (H k h)
theorem Pe {ps:List ah} (H:∀k (h:k<ps.length),Ap ps k h):qz ps=true:=decide_eq_true fun k h=>H k h
def JH (l:List Ow) (i:Nat) (h:i<l.length):Prop:=fe l[i].name=true/\ (0<i->bB (l[i-1]'(by omega)).name l[i].name=true)/\l[i].paths≠ []/\qz l[i].paths=true
theorem Ao {l:List Ow} {i:Nat} (h:i<l.length) (hb:¬JH l i h):iK l=false:=by
 unfold iK;rw [Bool.and_eq_false_iff,decide_eq_false_iff_not];exact .inl fun H=>hb (H i h)
theorem XF {l:List Ow} (H:∀i (h:i<l.length),JH l i h):iK l=decide (l.length<=6):=by
 have h1:(decide (∀i,(h:i<l.length)->fe l[i].name=true/\ (0<i->bB (l[i-1]'(by omega)).name l[i].name=true)/\l[i].paths≠ []/\qz l[i].paths=true))=true:=decide_eq_true H;unfold iK;rw [h1];rfl
theorem JK {n:Nat} (h:n<=9223372036854775807):IntKind.i64.wrap (n:Int)=(n:Int):=by
 unfold IntKind.wrap;simp [IntKind.bits,IntKind.signed];omega
theorem Aq {a b:ah} {r:Bool} (h:bB a b=r):Op.bytesLess a.toList b.toList=r:=h
end Go.Proofs.YtlcebdaghmdkeaaGreatDoor
