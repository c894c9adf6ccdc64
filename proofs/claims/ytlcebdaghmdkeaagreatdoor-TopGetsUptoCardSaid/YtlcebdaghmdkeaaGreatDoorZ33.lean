import Derived.Test.YtlcebdaghmdkeaaGreatDoorZ27
set_option linter.all false
set_option maxRecDepth 100000
set_option maxHeartbeats 64000000
namespace Go.Proofs.YtlcebdaghmdkeaaGreatDoor
theorem go_get:∀(r:List ah) {x y:V},x.sound->bn r x=some y->fB r x=some y
 | [],_,_,_,h=>h
 |a::r,x,y,hx,h=>by
  obtain⟨z,hm,hz⟩:=Cy h;have h5:=(tJ hx hm).2;have dP:=iH hx h5;have hmem:a∈x.keys:=(dP.wE a).2 (by rw [hm];simp);have hb:=Fv dP.dO hmem;have hlt:=tM hb;have dH:posOf x.keys a<x.l.length:=by rw [<-dP.len];exact hlt
  have hm2:=hm;rw [dP.member] at hm2;have hat:=Ar x.keys x.l dP.len dP.nodup _ hlt;rw [Au hb,hm2] at hat;have hl:x.l[posOf x.keys a]? =some z:=by rw [List.getElem?_eq_getElem dH];exact hat.symm
  rw [fB,show x.child a=some (posOf x.keys a) from by simp [V.child,h5,hb],Option.bind_some,hl,Option.bind_some];exact go_get r (qx hx hm) hz
theorem XO (x:V):jg x x=true:=by
 unfold jg;rw [(Cz x x).2 rfl];rfl
theorem Pg:∀(l:List ah) {v x:V},l≠ []->v.sound->∃y,bn l (gX l v x)=some y/\jg y x=true
 | [],_,_,h,_=>absurd rfl h
 |a::r,v,x,_,hv=>by
  have hb:=Ah hv;rw [gX];by_cases hr:r= []
  ·subst hr
   rw [if_neg (by simp)];have hput:∃y,bn [a] (v.base.put a x)=some y/\jg y x=true:=⟨x,by rw [bn,yr hb];rfl,XO x⟩
   cases hm:v.base.member a with
   |none=>exact hput
   |some old=>
    simp only
    split
    ·rename_i hk
     exact⟨old,by rw [bn,hm];rfl,hk⟩
    ·exact hput
  ·rw [if_pos hr]
   have hbs:=Ag hv;have hs:((v.base.member a).getD V.zero).sound:=by
    cases hm:v.base.member a with
    |none=>exact Ph
    |some z=>exact qx hbs hm
   obtain⟨y,h1,h2⟩:=Pg r (x:=x) hr hs;exact⟨y,by rw [bn,yr hb];exact h1,h2⟩
theorem XP {want:V} {r:List ah} {p:ah} (hp:p∈want.leaves) (hr:cM p=some r) {y:V} (hy:jg y ((bI want p).getD V.zero)=true):
 ∀(ps:List ah) {v:V},v.sound-> (∀q∈ps,q∈want.leaves)->bn r v=some y->bn r (ps.foldl (jh want) v)=some y:=by
 intro ps v hv hl h;refine JO ps hv hl (fun q hq=> ?_) h;obtain⟨-,-,s,-,hs,CA,-⟩:=rJ (hl q hq);have hnd':bQ q=s:=by unfold bQ;rw [hs];rfl
 by_cases he:q=p
 ·subst he
  rw [hr] at hs
  cases hs
  refine .inr fun z hz CB=> ?_;unfold jh;rw [hnd',Fw _ CA hz CB hy];exact CB
 ·exact .inl (by rw [hnd'];exact Pj (hl q hq) hp hs hr he)
theorem JQ {want:V} {p:ah}:∀(ps:List ah) {v:V},p∈ps-> (∀q∈ps,q∈want.leaves)->v.sound->∃y,bI (ps.foldl (jh want) v) p=some y/\jg y ((bI want p).getD V.zero)=true
 | [],_,h,_,_=>(List.not_mem_nil h).elim
 |q::ps,v,h,hl,hv=>by
  rw [List.foldl_cons];have hs:=(Fx hv (hl q (by simp))).1;by_cases he:q=p
  ·subst he
   obtain⟨-,-,s,-,hn,CA,-⟩:=rJ (hl q (by simp));have hnd':bQ q=s:=by unfold bQ;rw [hn];rfl
   obtain⟨y,h1,h2⟩:=Pg (bQ q) (v:=v) (x:=(bI want q).getD V.zero) (by rw [hnd'];exact CA) hv;refine⟨y,?_,h2⟩;unfold bI;rw [hnd'] at h1⊢;exact XP (hl q (by simp)) hn h2 ps hs (fun q' hq'=>hl q' (by simp [hq'])) (by unfold jh;rw [hnd'];exact h1)
  ·exact JQ ps (by rcases List.mem_cons.1 h with e|e;exact absurd e.symm he;exact e) (fun q' hq'=>hl q' (by simp [hq'])) hs
theorem Pk {want:V}:∀(ps:List ah) {v:V},v.sound-> (∀q∈ps,q∈want.leaves/\∃y,bI v q=some y/\jg y ((bI want q).getD V.zero)=true)->ps.foldl (jh want) v=v
 | [],_,_,_=>rfl
 |q::ps,v,hv,h=>by
  rw [List.foldl_cons];obtain⟨h1,y,h2,h3⟩:=h q (by simp);obtain⟨-,-,s,-,hn,CA,-⟩:=rJ h1;have hnd':bQ q=s:=by unfold bQ;rw [hn];rfl
  have:jh want v q=v:=by unfold jh;unfold bI at h2;rw [hnd'] at h2⊢;exact Fw s CA hv h2 h3
  rw [this];exact Pk ps hv (fun q' hq'=>h q' (by simp [hq']))
theorem CC (ps:List ah):qz ps=true↔(∀p∈ps,yt p=true)/\cn ps:=by
 unfold qz;rw [decide_eq_true_eq];constructor
 ·intro h
  refine⟨fun p hp=> ?_,List.pairwise_iff_getElem.2 fun i j hi hj hij=> ?_⟩
  ·obtain⟨k,hk,rfl⟩:=List.getElem_of_mem hp
   exact(h k hk).1
  ·obtain⟨d,rfl⟩:∃d,j=i+1+d:=⟨j-i-1,by omega⟩
   clear hij
   induction d with
   |zero=>have:=(h (i+1) hj).2 (by omega);simpa using this
   |succ d ih=>
    have h1:=ih (by omega);have h2:=(h (i+1+(d+1)) hj).2 (by omega);exact uU h1 h2
 ·rintro⟨h1,h2⟩ k hk
  exact⟨h1 _ (List.getElem_mem hk),fun h0=>Av h2 (by omega) hk (by omega)⟩
theorem CD (l:List Ow):iK l=true↔(∀o∈l,fe o.name=true/\o.paths≠ []/\qz o.paths=true)/\cn (l.map Ow.name)/\l.length<=6:=by
 constructor
 ·intro h
  refine⟨fun o ho=> ?_,JR h,?_⟩
  ·unfold iK at h
   rw [Bool.and_eq_true,decide_eq_true_eq] at h;obtain⟨i,hi,rfl⟩:=List.getElem_of_mem ho;exact⟨(h.1 i hi).1,(h.1 i hi).2.2⟩
  ·unfold iK at h
   rw [Bool.and_eq_true,decide_eq_true_eq,decide_eq_true_eq] at h;exact h.2
 ·rintro⟨h1,h2,h3⟩
  unfold iK;rw [Bool.and_eq_true,decide_eq_true_eq,decide_eq_true_eq];refine⟨fun i hi=> ?_,h3⟩;obtain⟨g1,g2,g3⟩:=h1 _ (List.getElem_mem hi);refine⟨g1,fun h0=> ?_,g2,g3⟩;have:=Av h2 (i:=i-1) (j:=i) (by simp;omega) (by simpa using hi) (by omega);simpa using this
theorem XQ (x:V):∀(d:Int) (ns:List ah),x.good d=true-> (x.eK ns).Nodup:=by
 induction x using V.ind with
 |h x ih=>
  intro d ns hg;rw [Aw]
  split
  ·simp
  ·rename_i hc
   have h5:x.k=5:=Classical.byContradiction fun h=>hc (.inl h);have dP:=iH (Fy hg) h5;have CF:∀y∈x.l,y.good (d+1)=true:=fun y hy=>by obtain⟨i,hi,rfl⟩:=List.getElem_of_mem hy;exact Fz hg hi
   have key:∀(l:List V) (ks:List ah),ks.Nodup-> (∀y∈l,y∈x.l)-> (V.eK.go l ks ns).Nodup/\∀q∈V.eK.go l ks ns,∃k∈ks,∃r,q=ns++k::r:=by
    intro l
    induction l with
    |nil=>intro ks _ _;rw [yu];exact⟨.nil,fun q h=>(List.not_mem_nil h).elim⟩
    |cons y l ihl=>
     intro ks hn hm
     cases ks with
     |nil=>rw [FA];exact⟨.nil,fun q h=>(List.not_mem_nil h).elim⟩
     |cons k ks=>
      obtain⟨hk,hn⟩:=List.nodup_cons.1 hn;obtain⟨h1,h2⟩:=ihl ks hn (fun z hz=>hm z (by simp [hz]));have hy:=hm y (by simp);have h3:∀q∈y.eK (ns++ [k]),∃r,q=ns++k::r:=fun q hq=>by obtain⟨r,hr,-⟩:=JT y (d+1) _ (CF y hy) q hq;exact⟨r,by rw [hr];simp⟩
      rw [yw];refine⟨List.nodup_append.2 ⟨ih y hy (d+1) _ (CF y hy),h1,?_⟩,fun q hq=> ?_⟩
      ·intro a ha b hb e
       subst e;obtain⟨r,hr⟩:=h3 _ ha;obtain⟨k2,hk2,r2,hr2⟩:=h2 _ hb;rw [hr] at hr2;have:=List.append_cancel_left hr2;simp only [List.cons.injEq] at this;exact hk (this.1▸hk2)
      ·rcases List.mem_append.1 hq with h|h
       ·obtain⟨r,hr⟩:=h3 _ h
        exact⟨k,by simp,r,hr⟩
       ·obtain⟨k2,hk2,r2,hr2⟩:=h2 _ h
        exact⟨k2,by simp [hk2],r2,hr2⟩
   exact(key _ _ dP.nodup (fun _ h=>h)).1
theorem XR (x:V):qz x.leaves=true:=by
 rw [CC];refine⟨fun p hp=> ?_,?_⟩
 ·obtain⟨-,-,r,-,hn,hne,-⟩:=rJ hp
  unfold yt;rw [hn];simpa using hne
 ·have hnd:x.leaves.Nodup:=by
   unfold V.leaves
   split
   ·rename_i hc
    refine(wF _).nodup_iff.2 ?_;unfold List.Nodup;rw [List.pairwise_map];have h0:=XQ x 1 [] (FB hc.1);refine List.Pairwise.imp_of_mem (fun {a b} ha hb hne e=>hne ?_) h0;have Ax:∀q∈x.eK [],cM (lQ q)=some q:=fun q hq=>by obtain⟨r,CG,-,hlen,hp⟩:=JT x 1 [] (FB hc.1) q hq;rw [List.nil_append] at CG;subst CG;exact Pm (by have:=JU q (fun a ha=>yx (hp a ha));omega)
    have h1:=Ax a ha;rw [e,Ax b hb] at h1;exact(Option.some.inj h1).symm
   ·exact .nil
  have hs:Sorted x.leaves:=by
   unfold V.leaves
   split
   ·exact JV _
   ·exact .nil
  refine(hs.and hnd).imp fun {a b} h=> ?_;rcases FC a b with e|e|e
  ·exact e
  ·exact absurd e h.2
  ·rw [h.1] at e;cases e
theorem XS {os:List Ow} {who:ah} {ps:List ah} (h:∀o∈os,o.name≠who):CH (fY os who ps) who=ps:=by
 have hno:∀l:List Ow,(∀o∈l,o.name≠who)->l.find? (fun o=>decide (o.name=who))=none:=fun l hl=>List.find?_eq_none.2 fun o ho=>by simpa using hl o ho
 unfold fY
 split
 ·rename_i he
  unfold CH;rw [hno os h,he]
 ·unfold CH
  rw [List.find?_append,hno _ (fun o ho=>h o (List.mem_of_mem_take ho)),List.find?_cons,decide_eq_true (show (⟨who,ps⟩:Ow).name=who from rfl)];rfl
theorem FD {os:List Ow} {who:ah} {ps:List ah} {o:Ow} (h:o∈fY os who ps):o∈os\/ (o=⟨who,ps⟩/\ps≠ []):=by
 unfold fY at h
 split at h
 ·exact .inl h
 ·rename_i hne
  rcases List.mem_append.1 h with h|h
  ·exact .inl (List.mem_of_mem_take h)
  ·rcases List.mem_cons.1 h with h|h
   ·exact .inr ⟨h,hne⟩
   ·exact .inl (List.mem_of_mem_drop h)
theorem XT {v want:V} {who:ah} {l:List Ow}:∀o∈ft v want who l,o.name≠who:=fun o h=>by
 obtain⟨-,-,-,h,-⟩:=wG h;exact h
theorem XU {ks:List ah} {key:ah} (h:key∉ks):hasB ks key=false:=by
 cases hb:hasB ks key with
 |false=>rfl
 |true=>exact absurd (by have:=Au hb;rw [<-this];exact List.getElem_mem _) h
theorem XV {os:List Ow} {who:ah} {ps:List ah} (h:∀o∈os,o.name≠who) (hr:cn (os.map Ow.name)):cn ((fY os who ps).map Ow.name):=by
 unfold fY
 split
 ·exact hr
 ·have:=CI hr (key:=who) (XU (fun hm=>by
   obtain⟨o,ho,e⟩:=List.mem_map.1 hm
   exact h o ho e))
  unfold nj;rw [List.map_append,List.map_take,List.map_cons,List.map_drop];exact this
theorem XW {os:List Ow} {who:ah} {ps:List ah} (h:∀o∈os,o.name≠who):(fY os who ps).filter (fun o=>decide (o.name≠who))=os:=by
 have hall:∀l:List Ow,(∀o∈l,o.name≠who)->l.filter (fun o=>decide (o.name≠who))=l:=fun l hl=>List.filter_eq_self.2 fun o ho=>by simpa using hl o ho
 unfold fY
 split
 ·exact hall os h
 ·rw [List.filter_append,List.filter_cons,if_neg (by simp),hall _ (fun o ho=>h o (List.mem_of_mem_take ho)),hall _ (fun o ho=>h o (List.mem_of_mem_drop ho)),List.take_append_drop]
theorem FE {who:ah}:∀(l:List Ow) (a:List ah),(∀o∈l,o.name≠who)->l.foldl (fun old o=>if o.name=who then o.paths else old) a=a
 | [],_,_=>rfl
 |o::r,a,h=>by rw [List.foldl_cons,if_neg (h o (by simp)),FE r a (fun o ho=>h o (by simp [ho]))]
theorem XX {os:List Ow} {who:ah} {ps:List ah} (h:∀o∈os,o.name≠who):mq who (fY os who ps)=ps:=by
 unfold mq fY
 split
 ·rename_i he
  rw [FE _ _ h,he]
 ·rw [List.foldl_append,FE _ _ (fun o ho=>h o (List.mem_of_mem_take ho)),List.foldl_cons,if_pos (show (⟨who,ps⟩:Ow).name=who from rfl),FE _ _ (fun o ho=>h o (List.mem_of_mem_drop ho))]
theorem Pn {paths:List ah} {out:List Ow}:∀(ps:List ah) (v:V),(∀p∈ps,p∈paths)->ps.foldl (iL paths out) v=v
 | [],_,_=>rfl
 |p::ps,v,h=>by
  rw [List.foldl_cons];have:iL paths out v p=v:=by
   unfold iL;rw [if_neg];intro hc;have:yz paths p=true:=by unfold yz;exact List.any_eq_true.2 ⟨p,h p (by simp),by simp⟩
   rw [this] at hc
   cases hc.1
  rw [this];exact Pn ps v (fun q hq=>h q (by simp [hq]))
theorem XY:∀(l:List ah) {v:V},v.sound->v.k=5-> (eJ l v).k=5
 | [],_,_,h=>h
 |a::r,v,hv,h=>by
  have dP:=iH hv h;rw [eJ]
  split
  ·exact h
  ·split
   ·exact(dP.del a).k5
   ·split
    ·exact(dP.del a).k5
    ·exact(dP.put a _).k5
theorem Po {paths:List ah} {out:List Ow}:∀(ps:List ah) {v:V},v.sound->v.k=5-> (ps.foldl (iL paths out) v).k=5
 | [],_,_,h=>h
 |p::ps,v,hv,h=>by
  rw [List.foldl_cons];refine Po ps (JW paths out hv p).1 ?_;unfold iL
  split
  ·exact XY _ hv h
  ·exact h
theorem Pp {want:V}:∀(ps:List ah) {v:V},(∀q∈ps,q∈want.leaves)->v.sound->v.k=5-> (ps.foldl (jh want) v).k=5
 | [],_,_,_,h=>h
 |p::ps,v,hl,hv,_=>by rw [List.foldl_cons];obtain⟨h1,h2,-⟩:=Fx hv (hl p (by simp));exact Pp ps (fun q hq=>hl q (by simp [hq])) h1 h2
theorem Pq {v w want:V} {q:ah}:∀(ls:List ah),lv v want q ls=false-> (∀p∈ls,∃y,bI w p=some y/\jg y ((bI want p).getD V.zero)=true)->lv w want q ls=false
 | [],_,_=>rfl
 |p::r,h,hw=>by
  rw [show lv v want q (p::r)=if(fO p q||fO q p)=true then true else if p=q then(match bI v p with|none=>true|some now=> !jg now ((bI want p).getD V.zero)) else lv v want q r from rfl] at h;rw [show lv w want q (p::r)=if(fO p q||fO q p)=true then true else if p=q then(match bI w p with|none=>true|some now=> !jg now ((bI want p).getD V.zero)) else lv w want q r from rfl]
  split at h
  ·cases h
  ·rename_i ha
   rw [if_neg ha];by_cases kQ:p=q
   ·rw [if_pos kQ]
    obtain⟨y,h1,h2⟩:=hw p (by simp);rw [h1];simp [h2]
   ·rw [if_neg kQ] at h⊢
    exact Pq r h (fun p hp=>hw p (by simp [hp]))
theorem Pr {x y:V} {p:ah} (hf:x.fine=true) {r:List ah} (hr:cM p=some r) (h:bn r x=some y):cH x p=(y,0):=by
 unfold cH;rw [hr];simp only;rw [if_neg (by rw [hf];simp),go_get r (gV hf) h]
theorem Ps {y:V} (h:y.sound) (h5:y.k=5):∃ks l,y= .mk 5 0 ⟨#[]⟩ ks l/\ks.length=l.length:=by
 have dP:=iH h h5;obtain⟨k,n,s,ks,l⟩:=y;exact⟨ks,l,by have a:=dP.k5;have b:=dP.n0;have c:=dP.s0;simp only [V.uE,V.uF,V.kH] at a b c;rw [a,b,c],dP.len⟩
def Pt (x y:V):Prop:=y=x\/ (x= .mk 5 0 ⟨#[]⟩ [] []/\∃ks l,y= .mk 5 0 ⟨#[]⟩ ks l/\0<ks.length)
theorem XZ {x y:V} (hx:x.sound) (hy:y.sound) (hxl:x.k=5->x.l= []) (h:jg y x=true):Pt x y:=by
 rcases X0 h with⟨h1,h2⟩|h1
 ·obtain⟨ks,l,rfl,hl⟩:=Ps hx h2
  obtain⟨js,m,rfl,hm⟩:=Ps hy h1;have e:l= []:=hxl h2;subst e;obtain rfl:ks= []:=List.length_eq_zero_iff.1 hl;by_cases hj:0<js.length
  ·exact .inr ⟨rfl,js,m,rfl,hj⟩
  ·obtain rfl:js= []:=List.length_eq_zero_iff.1 (by omega)
   obtain rfl:m= []:=List.length_eq_zero_iff.1 (by rw [<-hm];rfl);exact .inl rfl
 ·exact .inl h1
theorem X3 {v:V} {l:List Ow} {who:ah} {want w:V} {force:Bool} {m:List Ow} {c:List (ah×ah)} (h:jM v l who want force=(w,m,c,0)):
 CH m who=want.leaves/\iK m=true/\w.fine=true/\ (∀p∈want.leaves,∃x y,cH want p=(x,0)/\cH w p=(y,0)/\Pt x y/\x.size<=14640/\y.size<=14640)/\jM w m who want false=(w,m, [],0):=by
 obtain⟨hb,hc,rfl,rfl,hwf,X4,-⟩:=JX h;obtain⟨yA,Ay,qo,tN,hgl,hwho⟩:=FH hb;have wH:=XT (v:=v) (want:=want) (who:=who) (l:=l);have FI:=Pv (v:=v) (want:=want) (who:=who) (JR hgl);obtain⟨hds,hdc⟩:=CJ want.leaves (ft v want who l) (mq who l) (gV yA);have X5:=Po (paths:=want.leaves) (out:=ft v want who l) (mq who l) (gV yA) qo;have FJ:∀p∈want.leaves,∃y,bI (fg v l who want) p=some y/\jg y ((bI want p).getD V.zero)=true:=fun p hp=>JQ want.leaves hp (fun _ h=>h) hds;have hwk:(fg v l who want).k=5:=Pp want.leaves (fun _ h=>h) hds X5;have X6:CH (fZ v l who want) who=want.leaves:=XS wH;have CF:iK (fZ v l who want)=true:=by
  rw [CD];refine⟨fun o ho=> ?_,XV wH FI,X4⟩;rcases FD ho with ho|⟨rfl,hne⟩
  ·obtain⟨o',h1,h2,h3,-,h5,h6⟩:=wG ho
   obtain⟨g1,g2,g3⟩:=((CD l).1 hgl).1 o' h1;obtain⟨g4,g5⟩:=(CC _).1 g3;refine⟨by rw [<-h2];exact g1,h5,(CC _).2 ⟨fun p hp=> ?_,?_⟩⟩
   ·rw [h6] at hp
    exact g4 p (List.mem_filter.1 hp).1
   ·rw [h6]
    exact g5.sublist List.filter_sublist
  ·exact⟨hwho,hne,XR want⟩
 refine⟨X6,CF,hwf,fun p hp=> ?_,?_⟩
 ·obtain⟨-,-,r,-,hn,-,-,-,x,hx,pO,hxl⟩:=rJ hp
  obtain⟨y,hy,hk⟩:=FJ p hp;rw [pO,Option.getD_some] at hk;have hy2:bn r (fg v l who want)=some y:=by unfold bI bQ at hy;rw [hn] at hy;exact hy
  have z1:=qh Ay;have z2:=qh hwf;have z3:=go_size r hx;have z4:=go_size r hy2;exact⟨x,y,Pr Ay hn hx,Pr hwf hn hy2,XZ (go_sound r (gV Ay) hx) (go_sound r (gV hwf) hy2) hxl hk,by omega,by omega⟩
 ·have hform:pV (fg v l who want) (fZ v l who want) who want=true:=by
   unfold pV;rw [hwf,Ay,CF,hwho,decide_eq_true hwk,decide_eq_true tN];rfl
  have CK:∀o∈ft v want who l,∀q∈o.paths,fu (fg v l who want) want q=false:=fun o ho q hq=>by obtain⟨_,-,-,-,h3,-⟩:=wG ho;exact Pq want.leaves (h3 q hq).2 FJ
  have X7:jN (fg v l who want) (fZ v l who want) who want= []:=by
   unfold jN;refine List.flatMap_eq_nil_iff.2 fun o ho=> ?_;unfold wI
   split
   ·rfl
   ·rename_i hne
    rw [List.map_eq_nil_iff,List.filter_eq_nil_iff];intro q hq;rcases FD ho with ho|⟨rfl,-⟩
    ·rw [CK o ho q hq];simp
    ·exact absurd rfl hne
  have hoth:ft (fg v l who want) want who (fZ v l who want)=ft v want who l:=by
   have:∀(l2:List Ow),(∀o∈l2,o∈ft v want who l)->l2.filterMap (jt fun q=> !fu (fg v l who want) want q)=l2:=by
    intro l2
    induction l2 with
    |nil=>intro _;rfl
    |cons o r ih=>
     intro hl2;have ho:=hl2 o (by simp);obtain⟨-,-,-,-,-,hne,-⟩:=wG ho;have yB:(o.paths.filter fun q=> !fu (fg v l who want) want q)=o.paths:=List.filter_eq_self.2 fun q hq=>by rw [CK o ho q hq];rfl
     have hk:jt (fun q=> !fu (fg v l who want) want q) o=some o:=by unfold jt;rw [yB,if_neg hne]
     rw [List.filterMap_cons,hk,ih (fun o' ho'=>hl2 o' (by simp [ho']))]
   rw [show ft (fg v l who want) want who (fZ v l who want)=((fZ v l who want).filter fun o=>decide (o.name≠who)).filterMap (jt fun q=> !fu (fg v l who want) want q) from rfl,show fZ v l who want=fY (ft v want who l) who want.leaves from rfl,XW wH];exact this _ (fun _ h=>h)
  have hout:fZ (fg v l who want) (fZ v l who want) who want=fZ v l who want:=by rw [show fZ (fg v l who want) (fZ v l who want) who want=fY (ft (fg v l who want) want who (fZ v l who want)) who want.leaves from rfl,hoth];rfl
  have X8:fg (fg v l who want) (fZ v l who want) who want=fg v l who want:=by
   rw [show fg (fg v l who want) (fZ v l who want) who want=want.leaves.foldl (jh want) ((mq who (fZ v l who want)).foldl (iL want.leaves (ft (fg v l who want) want who (fZ v l who want))) (fg v l who want)) from rfl,
    show mq who (fZ v l who want)=want.leaves from XX wH,Pn _ _ (fun _ h=>h)]
   exact Pk want.leaves (gV hwf) (fun q hq=>⟨hq,FJ q hq⟩)
  unfold jM;rw [if_neg (by rw [hform];simp),if_neg (by rw [X7];simp),X8,hout,if_neg (by rw [hwf];simp;omega)]
theorem X9 (f:Ow->Bool) (l:List Ow):cN (l.filter f)<=cN l:=by
 induction l with
 |nil=>simp
 |cons o r ih=>
  unfold cN at ih⊢;rw [List.filter_cons]
  split
  ·simp only [List.map_cons,List.sum_cons];omega
  ·simp only [List.map_cons,List.sum_cons];omega
theorem Pw (f:ah->Bool) (l:List Ow):cN (l.filterMap (jt f))<=cN l:=by
 induction l with
 |nil=>simp
 |cons o r ih=>
  unfold cN at ih⊢;rw [List.filterMap_cons];have hs:=FK f o.paths;unfold jt at ih⊢;by_cases hk:o.paths.filter f= []
  ·simp only [hk,if_true,List.map_cons,List.sum_cons];omega
  ·simp only [hk,if_false,List.map_cons,List.sum_cons]
   unfold Ow.size at ih⊢;simp only;omega
theorem JY {B:Nat}:∀(l:List ah),(∀p∈l,p.size<=B)->fw l<=l.length*(B+1)
 | [],_=>by simp [fw]
 |p::r,h=>by have h1:=JY r (fun q hq=>h q (by simp [hq]));have h2:=h p (by simp);unfold fw at h1⊢;rw [List.map_cons,List.sum_cons,List.length_cons,Nat.add_mul];omega
theorem Ya (os:List Ow) (who:ah) (ps:List ah):cN (fY os who ps)<=cN os+(1+who.size+fw ps):=by
 unfold fY
 split
 ·omega
 ·have h:cN os=cN (os.take (nj os who))+cN (os.drop (nj os who)):=by
   conv=>lhs;rw [<-List.take_append_drop (nj os who) os]
   unfold cN;rw [List.map_append,List.sum_append]
  rw [h];unfold cN;rw [List.map_append,List.sum_append,List.map_cons,List.sum_cons];unfold Ow.size;simp only;omega
theorem Yb {v:V} {l:List Ow} {who:ah} {want:V} (hw:fe who=true):cN (fZ v l who want)<=cN l+250000:=by
 have h1:=Ya (ft v want who l) who want.leaves;have h2:cN (ft v want who l)<=cN l:=Nat.le_trans (Pw _ _) (X9 _ _);have h3:=JY (B:=2000) want.leaves (fun p hp=>FL hp);have h4:=CL want;have h5:want.leaves.length*2001<=120*2001:=Nat.mul_le_mul_right _ h4;have h6:who.size<=12:=by unfold fe at hw;rw [Bool.and_eq_true,decide_eq_true_eq] at hw;exact hw.2
 unfold fZ;omega
open Go.RowKit
attribute [local go_sem↓] Go.wp_at_zero Go.wp_at_succ
end Go.Proofs.YtlcebdaghmdkeaaGreatDoor
