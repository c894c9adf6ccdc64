import Derived.Test.YtlcebdaghmdkeabGreatDoorZ30
import Derived.Test.YtlcebdaghmdkeabGreatDoorZ31
set_option linter.all false
set_option maxRecDepth 100000
set_option maxHeartbeats 64000000
namespace Go.Proofs.YtlcebdaghmdkeabGreatDoor
open Go.Proofs.Tryz
open Go.RowKit
attribute [local go_sem↓] Go.wp_at_zero Go.wp_at_succ
def Mp (r:Nat) (o:Option (V×Bytes)) (w:World) (e:Ending) (w':World):Prop:=
 Rd r w w'/\∃(v:V) (ka:au) (kc:Nat) (la:au) (lc:Nat) (s':ah) (gB:Bool),e= .returned (v.val ka kc la lc)/\v.In w' (fun b=>w.heap.size<=b) ka kc la lc/\Sr w' r s' gB/\
  ((gB=false/\o=some (v,s'.data.toList))\/ (gB=true/\s'.data.toList= []/\o=none))
def Mq (f:Nat):Prop:=∀(r:Nat) (d:Int) (s:ah) (bad:Bool) (w:World),d=13-(f:Int)-> (bad=true->s.data.toList= [])->s.size<=1048576->Sr w r s bad->uu r w->
 Calls prog 47 #[.pointer (some ⟨r,0,none⟩), .int .i64 d] w (Mp r (cu f s.data.toList) w)
theorem Rd.acy {r:Nat} {a b:World} (h:Rd r a b) {p:Addr} (hp:a.heap.size<=p.block) (v:Value) (hr:r<a.heap.size):Rd r a (b.setCell p v):=
 ⟨h.below.setCell (by omega) v,⟨by have:=h.size;simpa using this,fun k hk hl=>by rw [Below.heap_setCell _ _ _ _ (by omega)];exact h.held.block k hk hl⟩⟩
theorem Rd.alloc {r:Nat} {a b:World} (h:Rd r a b) (hr:r<a.heap.size) (o:Obj):Rd r a (b.alloc o):=h.ext hr ((Ext.refl b).alloc o)
theorem Rd.drew {r:Nat} {a b:World} (h:Rd r a b):Rd r a b.drew:=⟨h.below.drew,h.held.drew⟩
theorem eB {r:Nat} {a b:World} (h:Rd r a b:=by with_reducible repeat (first|assumption|(refine Rd.acy ?_ ?_ _ (by assumption);rotate_left;(focus(first|(simp;done)|(simp;omega)|omega)))|apply Rd.drew|(refine Rd.alloc ?_ (by assumption) _)|(refine Rd.trans ?_ (by assumption)))):Rd r a b:=h
theorem iw {w:World} {r:Nat} {s:ah} {bad:Bool} (h:Sr w r s bad:=by unfold Sr;(with_reducible apply af.to);(focus(with_reducible repeat (first|assumption|(apply af.new;(focus(first|rfl|(first|(simp;done)|(simp;omega)|omega))))|apply af.set|(apply af.other;rotate_left;(focus(first|(simp;done)|(simp;omega)|omega)))|apply af.alloc|apply af.drew|(apply af.ext;(focus assumption)))));(first|rfl|(simp;done)|(go_light;simp [*];done))):Sr w r s bad:=h
abbrev uv:az:=fun _=>False
theorem Tk {r base n:Nat} {wm w3 W w1:World} {v v':Value} {l:List V} {xs:List Value} (hl0:l.length=n) (hown:wm.ownsRow base 36 5 v n xs) (hcells:cQ wm (fX base uv v) l xs) (q7:Rd r wm w3) (kO:r<base) (e:Ext w3 W)
 {x:V} {ka:au} {kc:Nat} {la:au} {lc:Nat} (hx:x.In w3 (fun b=>wm.heap.size<=b) ka kc la lc) (hbase:base<=wm.heap.size)
 (hown1:w1.ownsRow base 36 5 v' (n+1) (xs++ [.int .i64 x.k, .int .i64 x.n, .string x.s, .slice ka x.keys.length kc, .slice la x.l.length lc])) (hgrow:W.grownBy w1 v.ownBlock)
 (g:Nat) (hv':v'.ownBlock=some g) (hat:v.ownBlock=some g\/g=W.heap.size):gQ w1 base uv v' (n+1) (l++ [x]):=by
 have hvb:v.ownBlock=none\/∃g,v.ownBlock=some g/\base<=g:=by
  cases hv:v.ownBlock with
  |none=>exact .inl rfl
  |some g=>exact .inr ⟨g,rfl,(hown.lt g hv).1⟩
 have hc3:cQ w3 (fX base uv v) l xs:=hcells.keep (fun b hb hl=>q7.held.block b (by rcases hb with hb|hb;exact hb.2.elim;omega) hl) (fun _ h _=>h);refine gQ.push hl0 (hc3.keep (e.kept _) (fun _ h _=>h)) hvb (hx.keep (e.kept _) ?_) hown1 hgrow g hv' hat;intro b hb _;refine .inr ⟨Nat.le_trans hbase hb,fun he=> ?_⟩;have:=(hown.lt b he).2;omega
theorem gQ.rd {r base n:Nat} {w w':World} {v:Value} {l:List V} (h:gQ w base uv v n l) (e:Rd r w w') (hr:r<base):gQ w' base uv v n l:=
 h.keep (fun b hb hk=>e.held.block b (by rcases hk with hk|hk;exact hk.2.elim;omega) hb)
def vK {α:Type} (e:UInt8) (first:Bool) (F K:Bytes->Option α) (s:Bytes):Option α:=
 match dO s with
 | []=>none
 |c::t=>if c=e then F t else(if first=true then some (c::t) else if c=44 then some t else none).bind K
theorem Mr {α:Type} {r:Nat} {s:ah} {bad first:Bool} {c:UInt8} {w w':World} {e:Ending} {R:Option α} {F K:Bytes->Option α} (hm:Bn r (dO s.data.toList) bad first c w e w') (hR:bad=false->R=vK c first F K s.data.toList)
 (hb:bad=true->s.data.toList= []/\R=none) (hK:K []=none) (hc:c≠0):
 Rd r w w'/\ ((e= .returned (.bool false)/\∃s' gB,Sr w' r s' gB/\ ((gB=false/\R=F s'.data.toList)\/ (gB=true/\s'.data.toList= []/\R=none)))\/
  (e= .returned (.bool true)/\bad=false/\∃s',Sr w' r s' false/\s'.size<=s.size/\R=K s'.data.toList)):=by
 obtain⟨q7,s',gB,hs',hbs,h⟩:=hm;have hl:s.data.toList.length=s.size:=Array.length_toList;have hl':s'.data.toList.length=s'.size:=Array.length_toList;have hsp:=ng s.data.toList;refine⟨q7,?_⟩
 cases bad with
 |true=>
  obtain⟨h0,hn⟩:=hb rfl;have h1:dO s.data.toList= []:=by rw [h0];rfl
  rw [h1] at h;rcases h with⟨u,hu,-⟩|⟨-,he,h⟩
  ·cases hu
  ·have lN:gB=true:=by
    rcases h with⟨-,h,-⟩|⟨-,⟨u,hu,-⟩|⟨-,h⟩⟩
    ·exact h
    ·cases hu
    ·exact h
   subst lN;exact .inl ⟨he,s',true,hs', .inr ⟨rfl,hbs rfl,hn⟩⟩
 |false=>
  have hR:=hR rfl;unfold vK at hR;rcases h with⟨u,hu,he,rfl,mQ⟩|⟨hne,he,h⟩
  ·refine .inl ⟨he,s',false,hs', .inl ⟨rfl,?_⟩⟩
   rw [hR,hu,mQ];simp
  ·rcases h with⟨rfl,rfl,h⟩|⟨rfl,⟨u,hu,rfl,h⟩|⟨G7,rfl⟩⟩
   ·refine .inr ⟨he,rfl,s',hs',?_,?_⟩
    ·rw [<-hl,<-hl',h];exact hsp
    ·rw [hR,h]
     cases hq:dO s.data.toList with
     |nil=>exact hK.symm
     |cons d t=>
      rw [hq] at hne;have hne:d≠c:=hne;simp only [if_neg hne];rfl
   ·refine .inr ⟨he,rfl,s',hs',?_,?_⟩
    ·rw [hu,List.length_cons] at hsp
     rw [<-hl,<-hl',h];omega
    ·rw [hR,hu,h]
     rw [hu] at hne;have hne:(44:UInt8)≠c:=hne;simp only [if_neg hne];rfl
   ·refine .inl ⟨he,s',true,hs', .inr ⟨rfl,hbs rfl,?_⟩⟩
    rw [hR]
    cases hq:dO s.data.toList with
    |nil=>rfl
    |cons d t=>
     rw [hq] at hne G7;have hne:d≠c:=hne;have G7:d≠44:=G7;simp only [if_neg hne,if_neg G7];rfl
def G8 (val:Bytes->Option (V×Bytes)) (R:Option (List V×Bytes)) (s:ah) (bad:Bool) (l:List V):Prop:=
 (bad=true->s.data.toList= [])/\ ((bad=false/\jd val (s.size+1) s.data.toList l=R)\/ (bad=true/\R=none))
theorem Tm {val:Bytes->Option (V×Bytes)} {R:Option (List V×Bytes)} {s:ah} {l:List V} (h:G8 val R s false l):
 R=vK 93 (decide (l= [])) (fun t=>some (l,t)) (fun s1=>(val s1).bind fun p=>jd val s.size p.2 (l++ [p.1])) s.data.toList:=by
 rcases h.2 with⟨-,h⟩|⟨h,-⟩
 ·rw [<-h,jd]
  unfold vK
  cases dO s.data.toList with
  |nil=>rfl
  |cons c t=>simp only [decide_eq_true_eq]
 ·cases h
theorem Tn (f:Nat):cu f []=none:=by cases f<;>rfl
theorem Tp {f:Nat} {R:Option (List V×Bytes)} {n:Nat} {s3 s5:ah} {bad:Bool} {l:List V} {x:V} (hR:R=(cu f s3.data.toList).bind fun p=>jd (cu f) n p.2 (l++ [p.1])) (h3:s3.size<=n)
 (h:(bad=false/\cu f s3.data.toList=some (x,s5.data.toList))\/ (bad=true/\s5.data.toList= []/\cu f s3.data.toList=none)):s5.size+(if bad=true then 0 else 1)<n+1/\G8 (cu f) R s5 bad (l++ [x]):=by
 have e3:s3.data.toList.length=s3.size:=Array.length_toList;have e5:s5.data.toList.length=s5.size:=Array.length_toList;rcases h with⟨rfl,h⟩|⟨rfl,h0,h⟩
 ·have hl:=A9 _ _ _ h
  simp only at hl;refine⟨by simp;omega,(fun h=>by cases h), .inl ⟨rfl,?_⟩⟩;rw [hR,h];exact Rb (fun s p h=>A9 f s p h) _ _ _ _ (by omega) (by omega)
 ·rw [h0] at e5
  refine⟨by simp at e5⊢;omega,fun _=>h0, .inr ⟨rfl,by rw [hR,h];rfl⟩⟩
theorem acz (f:Nat) (hv:Mq f) (r:Nat) (d:Int) (hd:d=12-(f:Int)) (hf:f<=12) (s:ah) (t:Bytes) (hs:s.data.toList=91::t) (hsz:s.size<=1048576) (w:World) (hr:Sr w r s false) (hl:uu r w):
 Calls prog 75 #[.pointer (some ⟨r,0,none⟩), .int .i64 d] w (Mp r ((jd (cu f) (t.length+1) t []).map fun p=>(.mk 4 0 ⟨#[]⟩ [] p.1,p.2)) w):=by
 have hlt:=hr.lt;obtain⟨R,hR⟩:∃R,jd (cu f) (t.length+1) t []=R:=⟨_,rfl⟩;rw [hR];have Hs:=ae hs;have HR:=ae hR;have Hv:=ae hv;have Hl:=ae hl;have Hd:=ae hd;have hd1:0<=d:=by omega
 have hd2:d<=12:=by omega
 have hwr:IntKind.i64.wrap (d+1)=d+1:=by rw [IntKind.wrap_i64];omega
 clear hs hR hv hl hd;go_enter func75,ntmps75;go_upto_region 2 with fail
 refine aI (R:=fun wx=>aN wx w.heap.size/\af wx (w.heap.size+1) #[.int .i64 4, .int .i64 0, .string ⟨#[]⟩, .slice none 0 0, .slice none 0 0] 36/\Ext w wx) ⟨aj,aj,Xt⟩ ?_;rintro wa ⟨ag,ai,aH⟩;have qW:=hr.ext aH;clear hr;go_wp2_with fail;(refine(xC r s false ⟨#[91]⟩ _ qW).mono ?_);rintro e w1 ⟨rfl,h1,(⟨hp,s1,hs1,hr1⟩|⟨hp,hr1⟩)⟩
 rotate_left
 ·rw [Hs.out] at hp;simp [List.isPrefixOf] at hp
 have hst:s1.data.toList=t:=by rw [hs1,Hs.out];rfl
 have ay:t.length=s1.size:=by rw [<-hst];exact Array.length_toList
 have hl0:s.size=t.length+1:=by have:s.data.toList.length=s.size:=Array.length_toList;rw [Hs.out] at this;exact this.symm
 have gV:G8 (cu f) R s1 false []:=⟨(fun h=>by cases h), .inl ⟨rfl,by rw [hst,<-ay,HR.out]⟩⟩;have sJ:=ae gV;have qY:s1.size<=1048576:=by omega
 have ag:=af.rd h1 ag (by omega);have ai:=af.rd h1 ai (by omega);have hx1:Rd r w w1:=(Rd.of hlt aH).trans h1;have hz1:=ai.lt;clear hp hs1 hst gV hl0 ay qW aH h1;go_wp2_with fail
 go_loopg [] (s1.size+1) (fun g wr=>∃(s2:ah) (bad:Bool) (l:List V) (a0:au) (c0:Nat),Sr wr r s2 bad/\gQ wr (w.heap.size+2) uv (.slice a0 l.length c0) l.length l/\aN wr w.heap.size/\
  af wr (w.heap.size+1) #[.int .i64 4, .int .i64 0, .string ⟨#[]⟩, .slice none 0 0, .slice a0 l.length c0] 36/\g=s2.size+(if bad=true then 0 else 1)/\l.length+(s2.size+(if bad=true then 0 else 1))<=1048577/\Rd r w wr/\G8 (cu f) R s2 bad l)
 case atStart=>exact⟨s1,false, [],none,0,hr1,gQ.nil _ _ _,ag,ai,rfl,by simp;omega,hx1,sJ.out⟩
 case round=>
  clear hr1 hx1 sJ qY ag ai hz1;obtain⟨s2,bad,l,a0,c0,hr2,hO,ag,ai,rfl,cX,hx,gV⟩:=hrel;have HO:=ae hO;have Hb:=ae gV.1;have zF:=ae (show bad=true->s2.data.toList= []/\R=none from fun h=>⟨gV.1 h,by rcases gV.2 with⟨h',-⟩|⟨-,h'⟩;rw [h] at h';cases h';exact h'⟩);have j4:=ae (show ((cu f []).bind fun p=>jd (cu f) s2.size p.2 (l++ [p.1]))=none by rw [Tn];rfl);have sJ:=ae gV;have acA:l.length+s2.size<=1048577:=by omega
  have q8:=ae cX;clear cX;have hlr:=hr2.lt;have bL:=hx.size;have acB:=ai.lt;clear hO gV;obtain⟨hc1,aA,ay⟩:=ai.see;by_cases hl0:l= []
  ·have iq:((l.length:Int)==0)=true:=by rw [hl0];rfl
   have xH:=ae (show bad=false->R=vK 93 true (fun t=>some (l,t)) (fun s1=>(cu f s1).bind fun p=>jd (cu f) s2.size p.2 (l++ [p.1])) s2.data.toList from fun h=>by subst h;have:=Tm sJ.out;rwa [show decide (l= [])=true by simpa using hl0] at this);clear hl0;go_wp2_with fail;(refine(Ma r s2 bad true 93 (by decide) Hb.out _ hr2).mono ?_);rintro e w3 hm;obtain⟨h3,hend⟩:=Mr hm (fun hb=>by subst hb;exact xH.out rfl) zF.out j4.out (by decide);have cy:=ae hend;have om:=af.rd h3 ag (by omega);have pg:=af.rd h3 ai (by omega);have hx3:=hx.trans h3;have lD:=ae (gQ.rd HO.out h3 (by omega));have hz3:=h3.size;clear hm hend ag ai hr2 hx hc1 aA ay xH zF j4 HO;rcases cy.out with⟨rfl,s3,ou,hr3,hfin⟩|⟨rfl,rfl,s3,hr3,Ec,bT⟩
   ·have pE:=ae hfin
    clear hfin;obtain⟨a9,c9,xI,rT,-,Ed⟩:=lD.out.rows;simp only [Value.slice.injEq,true_and] at xI;obtain⟨rfl,rfl⟩:=xI;have zG:=ae Ed;have dN:=ae rT;clear Ed rT;obtain⟨hc0,aw,hl0⟩:=om.see;obtain⟨hc1,aA,ay⟩:=pg.see;go_wp2_with fail;refine aF (h:= ?_);refine⟨eB, .mk 4 0 ⟨#[]⟩ [] l,none,0,a0,c0,s3,ou,rfl,(V.dz ..).2 ⟨aM.nil,dN.out, .inl rfl,zG.out.keep (Held.kept (a:=w3) (T:=fun b=>(b<w.heap.size+2/\uv b)\/w.heap.size+2<=b) aC) (fun b hb _=>by rcases hb with hb|hb;exact hb.2.elim;omega)⟩,iw,?_⟩;rcases pE.out with⟨rfl,hq⟩|⟨rfl,h0,hq⟩
    ·exact .inl ⟨rfl,by rw [hq];rfl⟩
    ·exact .inr ⟨rfl,h0,by rw [hq];rfl⟩
   ·have vL:=ae bT
    clear bT;obtain⟨hl0,xs,hown,hcells⟩:=lD.out;have Ms:=ae hl0;have Mt:=ae hcells;have cg:=ae hown;obtain⟨j0,hj,hy0,hy1,hy2⟩:=info_parts Tryz.zh;have kW:=ae (show∀b,b<w.heap.size+2->some b≠(Value.slice a0 l.length c0).ownBlock from fun b hb he=>by have:=(hown.lt b he.symm).1;omega);clear hl0 hcells hown;have ua:=hr3.lt;have Mu:l.length+1<=maxLen:=by unfold maxLen;omega
    have Mv:(l.length+1)*80<=140737488355328:=by omega
    obtain⟨Mw,Mx,My⟩:=pg.see;go_wp2_with fail
    go_region_law
     (first
      |((refine step_append_lies _ (by rfl) _ _ _ (by rfl) (w.heap.size+2) 36 j0 _ 5 80 underlying34 hj hy0 hy1 hy2 rfl (by decide) (.slice a0 l.length c0) l.length xs (by rfl) (iP.out.alloc _) ⟨w5.heap.size,0,none⟩ 1 1 [.int .i64 x.k, .int .i64 x.n, .string x.s, .slice jW x.keys.length jX, .slice jY x.l.length jZ] (by rfl) (by rfl) (World.news_of_block (cs:= #[.int .i64 x.k, .int .i64 x.n, .string x.s, .slice jW x.keys.length jX, .slice jY x.l.length jZ]) (t:=36) (fr:=(0,0)) (heap_alloc_new w5 _)) (by simp [Value.oneCell']) (by omega) Mu Mv (by simp;omega) _ rfl ?_;intro g4 pA w6 lF nr sk Tq;have yr:=af.grown (af.alloc nY _) nr (kW.out _ (by omega));have yt:=af.grown (af.alloc nN _) nr (kW.out _ (by omega));have nt:Sr w6 r s5 mA:=af.grown (af.alloc qZ _) nr (kW.out _ (by omega));obtain⟨hcB,Ee,hlB⟩:=yt.see;have Ef:=ae nr;have gY:=ae lF;have Mz:=ae sk;clear nr lF sk))
      |((go_simp;go_at_call 47;refine(Hv.out r (d+1) s3 false _ (by have:=Hd.out;omega) (fun h=>by cases h) (by have:=q8.out;simp at this;omega) (hr3.ext Xt) (Hl.out.on (Rd.below (Rd.ext hx3 hlt Xt)))).mono ?_;rintro e w5 hval;obtain⟨G9,x,jW,jX,jY,jZ,s5,mA,rfl,ej,qZ,cV⟩:=hval;have h5:Rd r w3 w5:=(Rd.of ua Xt).trans G9;have nY:=af.rd h5 om (by omega);have nN:=af.rd h5 pg (by omega);have q15:w5.cell? ⟨w.heap.size+1,4,none⟩=some (.slice a0 l.length c0):=(by rw [nN.cells];rfl);have acC:w.heap.size+1<w5.heap.size:=nN.lt;have acD:w.heap.size<w5.heap.size:=nY.lt;have fA:=h5.size;have iP:=ae (dX cg.out (fun b hb he=>h5.held.block b (by have:=(cg.out.lt b he).1;omega) hb));have gu:=ae ej;have gL:=ae cV;clear ej cV;dsimp only)))
    all_goals
     have bK:Rd r w w6:=Rd.grown (b:=w5.alloc _) (Rd.alloc (hx3.trans h5) hlt _) Ef.out (fun g hg=>by have:=(cg.out.lt g hg).1;omega) hlt;have hp:=Tk (n:=l.length) (W:=w5.alloc _) rfl cg.out Mt.out h5 (by omega) Xt (gu.out.mono (fun b h _=>h)) (by omega) gY.out Ef.out g4 rfl Mz.out
     have MA:=ae (show∀v,gQ (w6.setCell ⟨w.heap.size+1,4,none⟩ v) (w.heap.size+2) uv (.slice (some ⟨g4,0,none⟩) (l++ [x]).length pA) (l++ [x]).length (l++ [x]) from fun v=>by
      have h7:=gQ.keep hp (w':=w6.setCell ⟨w.heap.size+1,4,none⟩ v) (fun b hb hk=>by rcases hk with hk|hk;exact hk.2.elim;exact Below.heap_setCell _ _ _ _ (by simp;omega))
      rw [List.length_append,List.length_singleton];exact h7)
     obtain⟨fN,Eg⟩:=Tp vL.out Ec gL.out;have MB:=ae Eg;have oz:=ae fN
     have jG:=ae (show (l++ [x]).length+(s5.size+(if mA=true then 0 else 1))<=1048577 by
      have h1:=q8.out;rw [List.length_append,List.length_singleton];simp only [Bool.false_eq_true,if_false] at h1
      omega)
     clear hp Eg fN;go_wp2_with fail;go_roundg (s5.size+(if mA=true then 0 else 1))
     case measure=>have:=oz.out;simpa using this
     case rel=>exact⟨s5,mA,l++ [x],some ⟨g4,0,none⟩,pA,aj,MA.out _,aj,(by rw [List.length_append,List.length_singleton];exact aj),rfl,jG.out,eB,MB.out⟩
  ·have hlp:0<l.length:=List.length_pos_iff.2 hl0
   have iq:((l.length:Int)==0)=false:=by simp;omega
   have xH:=ae (show bad=false->R=vK 93 false (fun t=>some (l,t)) (fun s1=>(cu f s1).bind fun p=>jd (cu f) s2.size p.2 (l++ [p.1])) s2.data.toList from fun h=>by subst h;have:=Tm sJ.out;rwa [show decide (l= [])=false by simpa using hl0] at this);clear hl0;go_wp2_with fail;(refine(Ma r s2 bad false 93 (by decide) Hb.out _ hr2).mono ?_);rintro e w3 hm;obtain⟨h3,hend⟩:=Mr hm (fun hb=>by subst hb;exact xH.out rfl) zF.out j4.out (by decide);have cy:=ae hend;have om:=af.rd h3 ag (by omega);have pg:=af.rd h3 ai (by omega);have hx3:=hx.trans h3;have lD:=ae (gQ.rd HO.out h3 (by omega));have hz3:=h3.size;clear hm hend ag ai hr2 hx hc1 aA ay xH zF j4 HO;rcases cy.out with⟨rfl,s3,ou,hr3,hfin⟩|⟨rfl,rfl,s3,hr3,Ec,bT⟩
   ·have pE:=ae hfin
    clear hfin;obtain⟨a9,c9,xI,rT,-,Ed⟩:=lD.out.rows;simp only [Value.slice.injEq,true_and] at xI;obtain⟨rfl,rfl⟩:=xI;have zG:=ae Ed;have dN:=ae rT;clear Ed rT;obtain⟨hc0,aw,hl0⟩:=om.see;obtain⟨hc1,aA,ay⟩:=pg.see;go_wp2_with fail;refine aF (h:= ?_);refine⟨eB, .mk 4 0 ⟨#[]⟩ [] l,none,0,a0,c0,s3,ou,rfl,(V.dz ..).2 ⟨aM.nil,dN.out, .inl rfl,zG.out.keep (Held.kept (a:=w3) (T:=fun b=>(b<w.heap.size+2/\uv b)\/w.heap.size+2<=b) aC) (fun b hb _=>by rcases hb with hb|hb;exact hb.2.elim;omega)⟩,iw,?_⟩;rcases pE.out with⟨rfl,hq⟩|⟨rfl,h0,hq⟩
    ·exact .inl ⟨rfl,by rw [hq];rfl⟩
    ·exact .inr ⟨rfl,h0,by rw [hq];rfl⟩
   ·have vL:=ae bT
    clear bT;obtain⟨hl0,xs,hown,hcells⟩:=lD.out;have Ms:=ae hl0;have Mt:=ae hcells;have cg:=ae hown;obtain⟨j0,hj,hy0,hy1,hy2⟩:=info_parts Tryz.zh;have kW:=ae (show∀b,b<w.heap.size+2->some b≠(Value.slice a0 l.length c0).ownBlock from fun b hb he=>by have:=(hown.lt b he.symm).1;omega);clear hl0 hcells hown;have ua:=hr3.lt;have Mu:l.length+1<=maxLen:=by unfold maxLen;omega
    have Mv:(l.length+1)*80<=140737488355328:=by omega
    obtain⟨Mw,Mx,My⟩:=pg.see;go_wp2_with fail
    go_region_law
     (first
      |((refine step_append_lies _ (by rfl) _ _ _ (by rfl) (w.heap.size+2) 36 j0 _ 5 80 underlying34 hj hy0 hy1 hy2 rfl (by decide) (.slice a0 l.length c0) l.length xs (by rfl) (iP.out.alloc _) ⟨w5.heap.size,0,none⟩ 1 1 [.int .i64 x.k, .int .i64 x.n, .string x.s, .slice jW x.keys.length jX, .slice jY x.l.length jZ] (by rfl) (by rfl) (World.news_of_block (cs:= #[.int .i64 x.k, .int .i64 x.n, .string x.s, .slice jW x.keys.length jX, .slice jY x.l.length jZ]) (t:=36) (fr:=(0,0)) (heap_alloc_new w5 _)) (by simp [Value.oneCell']) (by omega) Mu Mv (by simp;omega) _ rfl ?_;intro g4 pA w6 lF nr sk Tq;have yr:=af.grown (af.alloc nY _) nr (kW.out _ (by omega));have yt:=af.grown (af.alloc nN _) nr (kW.out _ (by omega));have nt:Sr w6 r s5 mA:=af.grown (af.alloc qZ _) nr (kW.out _ (by omega));obtain⟨hcB,Ee,hlB⟩:=yt.see;have Ef:=ae nr;have gY:=ae lF;have Mz:=ae sk;clear nr lF sk))
      |((go_simp;go_at_call 47;refine(Hv.out r (d+1) s3 false _ (by have:=Hd.out;omega) (fun h=>by cases h) (by have:=q8.out;simp at this;omega) (hr3.ext Xt) (Hl.out.on (Rd.below (Rd.ext hx3 hlt Xt)))).mono ?_;rintro e w5 hval;obtain⟨G9,x,jW,jX,jY,jZ,s5,mA,rfl,ej,qZ,cV⟩:=hval;have h5:Rd r w3 w5:=(Rd.of ua Xt).trans G9;have nY:=af.rd h5 om (by omega);have nN:=af.rd h5 pg (by omega);have q15:w5.cell? ⟨w.heap.size+1,4,none⟩=some (.slice a0 l.length c0):=(by rw [nN.cells];rfl);have acC:w.heap.size+1<w5.heap.size:=nN.lt;have acD:w.heap.size<w5.heap.size:=nY.lt;have fA:=h5.size;have iP:=ae (dX cg.out (fun b hb he=>h5.held.block b (by have:=(cg.out.lt b he).1;omega) hb));have gu:=ae ej;have gL:=ae cV;clear ej cV;dsimp only)))
    all_goals
     have bK:Rd r w w6:=Rd.grown (b:=w5.alloc _) (Rd.alloc (hx3.trans h5) hlt _) Ef.out (fun g hg=>by have:=(cg.out.lt g hg).1;omega) hlt;have hp:=Tk (n:=l.length) (W:=w5.alloc _) rfl cg.out Mt.out h5 (by omega) Xt (gu.out.mono (fun b h _=>h)) (by omega) gY.out Ef.out g4 rfl Mz.out
     have MA:=ae (show∀v,gQ (w6.setCell ⟨w.heap.size+1,4,none⟩ v) (w.heap.size+2) uv (.slice (some ⟨g4,0,none⟩) (l++ [x]).length pA) (l++ [x]).length (l++ [x]) from fun v=>by
      have h7:=gQ.keep hp (w':=w6.setCell ⟨w.heap.size+1,4,none⟩ v) (fun b hb hk=>by rcases hk with hk|hk;exact hk.2.elim;exact Below.heap_setCell _ _ _ _ (by simp;omega))
      rw [List.length_append,List.length_singleton];exact h7)
     obtain⟨fN,Eg⟩:=Tp vL.out Ec gL.out;have MB:=ae Eg;have oz:=ae fN
     have jG:=ae (show (l++ [x]).length+(s5.size+(if mA=true then 0 else 1))<=1048577 by
      have h1:=q8.out;rw [List.length_append,List.length_singleton];simp only [Bool.false_eq_true,if_false] at h1
      omega)
     clear hp Eg fN;go_wp2_with fail;go_roundg (s5.size+(if mA=true then 0 else 1))
     case measure=>have:=oz.out;simpa using this
     case rel=>exact⟨s5,mA,l++ [x],some ⟨g4,0,none⟩,pA,aj,MA.out _,aj,(by rw [List.length_append,List.length_singleton];exact aj),rfl,jG.out,eB,MB.out⟩
end Go.Proofs.YtlcebdaghmdkeabGreatDoor
namespace Go.Proofs.YtlcebdaghmdkeabGreatDoor
open Go.RowKit
attribute [local go_sem↓] Go.wp_at_zero Go.wp_at_succ
abbrev Beside (base:Nat) (vk vl:Value) (b:Nat):Prop:=base<=b/\vk.ownBlock≠some b/\vl.ownBlock≠some b
structure eu (w:World) (base:Nat) (vk vl:Value) (n:Nat) (ks:List ah) (l:List V):Prop where
 nk:ks.length=n
 nl:l.length=n
 keys:w.ownsRow base 9 1 vk n (ks.map Value.string)
 items:∃xs,w.ownsRow base 36 5 vl n xs/\cQ w (Beside base vk vl) l xs
theorem eu.nil (w:World) (base:Nat):eu w base (.slice none 0 0) (.slice none 0 0) 0 [] []:=⟨rfl,rfl,World.ownsRow_nil _ _ _ _, [],World.ownsRow_nil _ _ _ _,rfl⟩
theorem eu.keep {w w':World} {base:Nat} {vk vl:Value} {n:Nat} {ks:List ah} {l:List V} (h:eu w base vk vl n ks l) (e:∀b,b<w.heap.size->base<=b->w'.heap[b]? =w.heap[b]?):eu w' base vk vl n ks l:=by
 obtain⟨h1,h2,h3,xs,h4,h5⟩:=h;exact⟨h1,h2,dX h3 (fun b hb hg=>e b hb (h3.lt b hg).1),xs,dX h4 (fun b hb hg=>e b hb (h4.lt b hg).1),h5.keep (fun b hb hl=>e b hl hb.1) (fun _ h _=>h)⟩
theorem eu.rd {r base n:Nat} {w w':World} {vk vl:Value} {ks:List ah} {l:List V} (h:eu w base vk vl n ks l) (e:Rd r w w') (hr:r<base):eu w' base vk vl n ks l:=
 h.keep (fun b hb hk=>e.held.block b (by omega) hb)
theorem eu.ext {base n:Nat} {w w':World} {vk vl:Value} {ks:List ah} {l:List V} (h:eu w base vk vl n ks l) (e:Ext w w'):eu w' base vk vl n ks l:=
 h.keep (fun b hb _=>Below.block e b hb)
theorem eu.obj {w:World} {base n:Nat} {ka:au} {kc:Nat} {la:au} {lc:Nat} {ks:List ah} {l:List V} (h:eu w base (.slice ka n kc) (.slice la n lc) n ks l):(V.mk 5 0 ⟨#[]⟩ ks l).In w (fun b=>base<=b) ka kc la lc:=by
 obtain⟨h1,h2,h3,xs,h4,h5⟩:=h;obtain⟨a,c,he,hok,-,hst⟩:=ek.strs (w:=w) (base:=base) (v:= .slice ka n kc) ⟨h1,h3⟩;simp only [Value.slice.injEq,true_and] at he;obtain⟨rfl,rfl⟩:=he;obtain⟨a2,c2,yx,gj⟩:=fT h4;simp only [Value.slice.injEq,true_and] at yx;obtain⟨rfl,rfl⟩:=yx;refine(V.dz ..).2 ⟨by rw [V.gi,h1];exact hok,by rw [V.dZ,h2];exact gj,hst,?_⟩
 cases n with
 |zero=>exact .inl (List.length_eq_zero_iff.1 h2)
 |succ m=>
  obtain⟨g,cur,rfl,hgb,hBg,hcz,hits⟩:=qx (Nat.succ_pos m) h2 h4 h5;refine .inr ⟨g,0,rfl,hgb,fun i hi=> ?_⟩;rw [Nat.zero_add];exact(hits i hi).mono (fun b h=>h.1)
def Eh (val:Bytes->Option (V×Bytes)) (R:Option ((List ah×List V)×Bytes)) (s:ah) (bad:Bool) (ks:List ah) (l:List V):Prop:=
 (bad=true->s.data.toList= [])/\ (bad=false->cz ks)/\ ((bad=false/\km val (s.size+1) s.data.toList ks l=R)\/ (bad=true/\R=none))
def vM (val:Bytes->Option (V×Bytes)) (n:Nat) (ks:List ah) (l:List V) (s1:Bytes):Option ((List ah×List V)×Bytes):=
 (kj val s1).bind fun p=>if hasB ks p.1.1=true then none else km val n p.2 (ks.take (posOf ks p.1.1)++p.1.1::ks.drop (posOf ks p.1.1)) (l.take (posOf ks p.1.1)++p.1.2::l.drop (posOf ks p.1.1))
theorem acE {val:Bytes->Option (V×Bytes)} {R:Option ((List ah×List V)×Bytes)} {s:ah} {ks:List ah} {l:List V} (h:Eh val R s false ks l):
 R=vK 125 (decide (l= [])) (fun t=>some ((ks,l),t)) (vM val s.size ks l) s.data.toList:=by
 rcases h.2.2 with⟨-,h⟩|⟨h,-⟩
 ·rw [<-h,km]
  unfold vK
  cases dO s.data.toList with
  |nil=>rfl
  |cons c t=>simp only [decide_eq_true_eq];rfl
 ·cases h
theorem acF (val:Bytes->Option (V×Bytes)) (n:Nat) (ks:List ah) (l:List V):vM val n ks l []=none:=rfl
def MC (val:Bytes->Option (V×Bytes)) (s3:Bytes) (key:ah) (x:V) (s8:ah) (bad:Bool):Prop:=
 (bad=false/\kj val s3=some ((key,x),s8.data.toList))\/ (bad=true/\s8.data.toList= []/\kj val s3=none)
theorem acG {val:Bytes->Option (V×Bytes)} {s:Bytes} (h:gA (dO s)≠34):kj val s=none:=by
 unfold kj
 cases hq:dO s with
 |nil=>rfl
 |cons c t=>rw [hq] at h;have h:c≠34:=h;simp only [if_neg h]
theorem acH {val:Bytes->Option (V×Bytes)} {s t:Bytes} (h:dO s=34::t):kj val s=(gN (t.length+1) t []).bind fun p=>match dO p.2 with
 | []=>none
 |c::t=>if c=58 then(val t).map fun q=>((⟨p.1.toArray⟩,q.1),q.2) else none:=by
 unfold kj;rw [h];rfl
def MD (val:Bytes->Option (V×Bytes)) (s3:Bytes) (key:ah) (s7:ah) (bad:Bool):Prop:=
 (bad=false/\kj val s3=(val s7.data.toList).map fun q=>((key,q.1),q.2))\/ (bad=true/\s7.data.toList= []/\kj val s3=none)
theorem Tt {val:Bytes->Option (V×Bytes)} {s3 t:Bytes} (hs:dO s3=34::t) {key s5 s7:ah} {mA sK:Bool}
 (h5:(mA=false/\gN (t.length+1) t []=some (key.data.toList,s5.data.toList))\/ (mA=true/\s5.data.toList= []/\gN (t.length+1) t []=none))
 (h7:(([58]:Bytes).isPrefixOf (dO s5.data.toList)=true/\s7.data.toList=(dO s5.data.toList).drop 1/\sK=mA)\/ (([58]:Bytes).isPrefixOf (dO s5.data.toList)=false/\s7.data.toList= []/\sK=true)):MD val s3 key s7 sK:=by
 have hm:=acH (val:=val) hs;rcases h5 with⟨rfl,h5⟩|⟨rfl,h0,h5⟩
 ·rw [h5] at hm
  simp only [Option.bind_some] at hm;have hkey:(⟨key.data.toList.toArray⟩:ah)=key:=by simp
  rcases h7 with⟨hp,h7,rfl⟩|⟨hp,h7,rfl⟩
  ·refine .inl ⟨rfl,?_⟩
   rw [hm,h7]
   cases hq:dO s5.data.toList with
   |nil=>rw [hq] at hp;simp [List.isPrefixOf] at hp
   |cons c u=>
    rw [hq] at hp;simp only [List.isPrefixOf,Bool.and_true,beq_iff_eq] at hp;subst hp;simp only [if_true,hkey];rfl
  ·refine .inr ⟨rfl,h7,?_⟩
   rw [hm]
   cases hq:dO s5.data.toList with
   |nil=>rfl
   |cons c u=>
    rw [hq] at hp;have hc:c≠58:=fun h=>by subst h;simp [List.isPrefixOf] at hp
    simp only [if_neg hc]
 ·rw [h5] at hm
  have hsp:dO s5.data.toList= []:=by rw [h0];rfl
  rw [hsp] at h7;rcases h7 with⟨hp,-⟩|⟨-,h7,rfl⟩
  ·simp [List.isPrefixOf] at hp
  ·exact .inr ⟨rfl,h7,hm⟩
theorem acI {val:Bytes->Option (V×Bytes)} (hv:val []=none) {s3:Bytes} {key s7 s8:ah} {x:V} {sK kP:Bool} (h:MD val s3 key s7 sK)
 (h8:(kP=false/\val s7.data.toList=some (x,s8.data.toList))\/ (kP=true/\s8.data.toList= []/\val s7.data.toList=none)):MC val s3 key x s8 kP:=by
 rcases h with⟨rfl,h⟩|⟨rfl,h0,h⟩
 ·rcases h8 with⟨rfl,h8⟩|⟨rfl,h1,h8⟩
  ·exact .inl ⟨rfl,by rw [h,h8];rfl⟩
  ·exact .inr ⟨rfl,h1,by rw [h,h8];rfl⟩
 ·rw [h0,hv] at h8
  rcases h8 with⟨-,h8⟩|⟨rfl,h1,-⟩
  ·cases h8
  ·exact .inr ⟨rfl,h1,h⟩
theorem acJ {f:Nat} {R:Option ((List ah×List V)×Bytes)} {n:Nat} {s3 s8:ah} {bad:Bool} {ks:List ah} {l:List V} {key:ah} {x:V} (hr:cz ks) (hR:R=vM (cu f) n ks l s3.data.toList) (h3:s3.size<=n)
 (h:MC (cu f) s3.data.toList key x s8 bad) (hb:hasB ks key=false):s8.size+(if bad=true then 0 else 1)<n+1/\Eh (cu f) R s8 bad (ks.take (posOf ks key)++key::ks.drop (posOf ks key)) (l.take (posOf ks key)++x::l.drop (posOf ks key)):=by
 have e3:s3.data.toList.length=s3.size:=Array.length_toList;have e8:s8.data.toList.length=s8.size:=Array.length_toList;rcases h with⟨rfl,h⟩|⟨rfl,h0,h⟩
 ·have hl:=KQ (fun s p h=>A9 f s p h) h
  simp only at hl;refine⟨by simp;omega,(fun h=>by cases h),fun _=>CM hr hb, .inl ⟨rfl,?_⟩⟩;rw [hR];unfold vM;rw [h];simp only [Option.bind_some];rw [if_neg (by rw [hb];decide)];exact Rc (fun s p h=>A9 f s p h) _ _ _ _ _ (by omega) (by omega)
 ·rw [h0] at e8
  refine⟨by simp at e8⊢;omega,fun _=>h0,(fun h=>by cases h), .inr ⟨rfl,by rw [hR];unfold vM;rw [h];rfl⟩⟩
theorem acK {f:Nat} {R:Option ((List ah×List V)×Bytes)} {n:Nat} {s3 s8 s9:ah} {bad:Bool} {ks ks':List ah} {l l':List V} {key:ah} {x:V} (hR:R=vM (cu f) n ks l s3.data.toList)
 (h:MC (cu f) s3.data.toList key x s8 bad) (hb:hasB ks key=true) (h9:s9.data.toList= []):s9.size+(if true=true then 0 else 1)<n+1/\Eh (cu f) R s9 true ks' l':=by
 have e9:s9.data.toList.length=s9.size:=Array.length_toList;rw [h9] at e9;refine⟨by simp at e9⊢;omega,fun _=>h9,(fun h=>by cases h), .inr ⟨rfl,?_⟩⟩;rw [hR];unfold vM;rcases h with⟨rfl,h⟩|⟨rfl,h0,h⟩
 ·rw [h];simp only [Option.bind_some];rw [if_pos hb]
 ·rw [h];rfl
end Go.Proofs.YtlcebdaghmdkeabGreatDoor
namespace Go.Proofs.YtlcebdaghmdkeabGreatDoor
open Go.Proofs.Tryz
open Go.RowKit
attribute [local go_sem↓] Go.wp_at_zero Go.wp_at_succ
theorem acL (f:Nat) (hv:Mq f) (r:Nat) (d:Int) (hd:d=12-(f:Int)) (hf:f<=12) (s:ah) (t:Bytes) (hs:s.data.toList=123::t) (hsz:s.size<=1048576) (w:World) (hr:Sr w r s false) (hl:uu r w):
 Calls prog 76 #[.pointer (some ⟨r,0,none⟩), .int .i64 d] w (Mp r ((km (cu f) (t.length+1) t [] []).map fun p=>(.mk 5 0 ⟨#[]⟩ p.1.1 p.1.2,p.2)) w):=by
 have hlt:=hr.lt;obtain⟨R,hR⟩:∃R,km (cu f) (t.length+1) t [] []=R:=⟨_,rfl⟩;rw [hR];have Hs:=ae hs;have HR:=ae hR;have Hv:=ae hv;have Hl:=ae hl;have Hd:=ae hd;have hd1:0<=d:=by omega
 have hd2:d<=12:=by omega
 have hwr:IntKind.i64.wrap (d+1)=d+1:=by rw [IntKind.wrap_i64];omega
 clear hs hR hv hl hd;go_enter func76,ntmps76;go_upto_region 2 with fail
 refine aI (R:=fun wx=>aN wx w.heap.size/\af wx (w.heap.size+1) #[.int .i64 5, .int .i64 0, .string ⟨#[]⟩, .slice none 0 0, .slice none 0 0] 36/\Ext w wx) ⟨aj,aj,Xt⟩ ?_;rintro wa ⟨ag,ai,aH⟩;have qW:=hr.ext aH;clear hr;go_wp2_with fail;(refine(xC r s false ⟨#[123]⟩ _ qW).mono ?_);rintro e w1 ⟨rfl,h1,(⟨hp,s1,hs1,hr1⟩|⟨hp,hr1⟩)⟩
 rotate_left
 ·rw [Hs.out] at hp;simp [List.isPrefixOf] at hp
 have hst:s1.data.toList=t:=by rw [hs1,Hs.out];rfl
 have ay:t.length=s1.size:=by rw [<-hst];exact Array.length_toList
 have hl0:s.size=t.length+1:=by have:s.data.toList.length=s.size:=Array.length_toList;rw [Hs.out] at this;exact this.symm
 have gV:Eh (cu f) R s1 false [] []:=⟨(fun h=>by cases h),fun _=>List.Pairwise.nil, .inl ⟨rfl,by rw [hst,<-ay,HR.out]⟩⟩;have sJ:=ae gV;have qY:s1.size<=1048576:=by omega
 have ag:=af.rd h1 ag (by omega);have ai:=af.rd h1 ai (by omega);have hx1:Rd r w w1:=(Rd.of hlt aH).trans h1;have hz1:=ai.lt;clear hp hs1 hst gV hl0 ay qW aH h1;go_wp2_with fail
 go_loopg [6,7,8,9] (s1.size+1) (fun g _ _ _ _ wr=>∃(s2:ah) (bad:Bool) (n:Nat) (ks:List ah) (l:List V) (a2:au) (c2:Nat) (a3:au) (c3:Nat),Sr wr r s2 bad/\eu wr (w.heap.size+2) (.slice a2 n c2) (.slice a3 n c3) n ks l/\aN wr w.heap.size/\
  af wr (w.heap.size+1) #[.int .i64 5, .int .i64 0, .string ⟨#[]⟩, .slice a2 n c2, .slice a3 n c3] 36/\g=s2.size+(if bad=true then 0 else 1)/\n+(s2.size+(if bad=true then 0 else 1))<=1048577/\Rd r w wr/\Eh (cu f) R s2 bad ks l)
 case atStart=>exact⟨s1,false,0, [], [],none,0,none,0,hr1,eu.nil _ _,ag,ai,rfl,by simp;omega,hx1,sJ.out⟩
 case round=>
  clear hr1 hx1 sJ qY ag ai hz1;obtain⟨s2,bad,n,ks,l,a2,c2,a3,c3,hr2,hO,ag,ai,rfl,cX,hx,gV⟩:=hrel;have HO:=ae hO;have Hb:=ae gV.1;have zF:=ae (show bad=true->s2.data.toList= []/\R=none from fun h=>⟨gV.1 h,by rcases gV.2.2 with⟨h',-⟩|⟨-,h'⟩;rw [h] at h';cases h';exact h'⟩);have sJ:=ae gV;have acA:n+s2.size<=1048577:=by omega
  have q8:=ae cX;have hnl:=hO.nl;have G':=ae hnl;clear cX;have hlr:=hr2.lt;have bL:=hx.size;have acB:=ai.lt;clear hO gV hnl;obtain⟨hc1,aA,ay⟩:=ai.see;obtain⟨f0,aw⟩:∃f0,decide (l= [])=f0:=⟨_,rfl⟩;have iq:((n:Int)==0)=f0:=by rw [<-aw,<-G'.out,Bool.eq_iff_iff];simp
  have xH:=ae (show bad=false->R=vK 125 f0 (fun t=>some ((ks,l),t)) (vM (cu f) s2.size ks l) s2.data.toList from fun h=>by subst h;have:=acE sJ.out;rwa [aw] at this);clear aw;go_wp2_with fail;(refine(Ma r s2 bad f0 125 (by decide) Hb.out _ hr2).mono ?_);rintro e w3 hm;obtain⟨h3,hend⟩:=Mr hm (fun hb=>by subst hb;exact xH.out rfl) zF.out (acF _ _ _ _) (by decide);have cy:=ae hend;have om:=af.rd h3 ag (by omega);have pg:=af.rd h3 ai (by omega);have hx3:=hx.trans h3;have lD:=ae (eu.rd HO.out h3 (by omega));have hz3:=h3.size;clear hm hend ag ai hr2 hx hc1 aA ay xH zF HO;rcases cy.out with⟨rfl,s3,ou,hr3,hfin⟩|⟨rfl,rfl,s3,hr3,Ec,bT⟩
  ·have pE:=ae hfin
   clear hfin;obtain⟨hc0,aw,hl0⟩:=om.see;obtain⟨Mw,Mx,My⟩:=pg.see;go_wp2_with fail;refine aF (h:= ?_);have uQ:=eu.obj lD.out;have e1:=lD.out.nk;have e2:=lD.out.nl;refine⟨eB, .mk 5 0 ⟨#[]⟩ ks l,a2,c2,a3,c3,s3,ou,by simp [V.val,e1,e2],uQ.keep (Held.kept (a:=w3) (T:=fun b=>w.heap.size+2<=b) aC) (fun b hb _=>by omega),iw,?_⟩;rcases pE.out with⟨hq0,hq⟩|⟨hq0,h0,hq⟩
   ·exact .inl ⟨hq0,by rw [hq];rfl⟩
   ·exact .inr ⟨hq0,h0,by rw [hq];rfl⟩
  ·have vL:=ae bT
   have Tv:=ae (sJ.out.2.1 rfl);clear bT cy;have ua:=hr3.lt;have ahj:s3.size<=1048576:=by have:=q8.out;simp at this;omega
   go_wp2_with fail;(refine(Bl r s3 false _ hr3).mono ?_);rintro e w4 ⟨rfl,⟨s4,hs4,hr4⟩,h4⟩;have sy:=af.rd h4 om (by omega);have ME:=af.rd h4 pg (by omega);have bH:=hx3.trans h4;have xJ:=ae (eu.rd lD.out h4 (by omega));have gJ:=h4.size;have acM:s4.size<=1048576:=by have e3:s3.data.toList.length=s3.size:=Array.length_toList;have e4:s4.data.toList.length=s4.size:=Array.length_toList;have:=ng s3.data.toList;rw [hs4] at e4;omega
   have zH:=ae hs4;obtain⟨c4,se⟩:∃c4,gA s4.data.toList=c4:=⟨_,rfl⟩;have HA:=ae se;clear hs4 se om pg hx3 lD hr3 h4;have Tq:=hr4.lt;by_cases hq:(c4.toNat:Int)=34
   ·have MF:c4=34:=by apply UInt8.toNat_inj.1;simpa using (by omega:c4.toNat=34)
    have yC:((c4.toNat:Int) !=34)=false:=by simpa using hq
    obtain⟨t4,MG⟩:∃t4,s4.data.toList=34::t4:=by
     have:=HA.out
     cases hk:s4.data.toList with
     |nil=>rw [hk,MF] at this;cases this
     |cons c u=>rw [hk,MF] at this;have this:c=34:=this;exact⟨u,by rw [this]⟩
    have Tw:dO s3.data.toList=34::t4:=by rw [<-zH.out,MG]
    have Tx:=ae Tw;have Ty:=ae MG;have Hq:=ae hq;clear Tw MG MF hq;go_wp2_with fail;(refine(lX r s4 false _ hr4).mono ?_);rintro e wn ⟨rfl,rfl⟩;rw [HA.out];go_wp2_with fail;(refine(Tc r s4 t4 Ty.out acM _ hr4).mono ?_);rintro e w5 hT;obtain⟨h5,key,s5,mA,rfl,GF,qZ,Tz⟩:=hT;have MH:=ae Tz;clear Tz;go_wp2_with fail;(refine(Bl r s5 mA _ qZ).mono ?_);rintro e w6 ⟨rfl,⟨s6,Ei,nt⟩,h6⟩;have BA:=ae Ei;clear Ei;go_wp2_with fail;(refine(xC r s6 mA ⟨#[58]⟩ _ nt).mono ?_);rintro e w7 ⟨rfl,h7,TA⟩;obtain⟨s7,sK,jx,hK,acN⟩:∃s7 sK,Sr w7 r s7 sK/\MD (cu f) s3.data.toList key s7 sK/\s7.size<=1048576:=by
     have e4:s4.data.toList.length=s4.size:=Array.length_toList;have e5:s5.data.toList.length=s5.size:=Array.length_toList;have Gy:s5.data.toList.length<=1048576:=by
      rw [Ty.out,List.length_cons] at e4;rcases MH.out with⟨-,h⟩|⟨-,h,-⟩
      ·have:=Dp _ _ _ _ h
       simp only at this;omega
      ·rw [h];simp
     rcases TA with⟨hp,s7,fO,jx⟩|⟨hp,jx⟩
     ·refine⟨s7,mA,jx,Tt Tx.out MH.out (.inl ⟨by rw [<-BA.out];exact hp,by rw [fO,BA.out];rfl,rfl⟩),?_⟩
      have e7:s7.data.toList.length=s7.size:=Array.length_toList;have:=ng s5.data.toList;rw [fO,List.length_drop,BA.out] at e7;omega
     ·exact⟨⟨#[]⟩,true,jx,Tt Tx.out MH.out (.inr ⟨by rw [<-BA.out];exact hp,rfl,rfl⟩),by decide⟩
    have h47:Rd r wn w7:=(h5.trans h6).trans h7;have TC:sK=true->s7.data.toList= []:=fun h=>by rcases hK with⟨h',-⟩|⟨-,h',-⟩;rw [h] at h';cases h';exact h'
    have Hb7:=ae TC;have HK:=ae hK;have TD:=af.rd h47 sy (by omega);have q9:=af.rd h47 ME (by omega);have cW:=bH.trans h47;have nu:=ae (eu.rd xJ.out h47 (by omega));have PU:=h47.size;have ahk:=jx.lt;clear TA TC hK nt qZ h5 h6 h7 h47 hr4 sy ME bH;go_wp2_with fail;(refine(Hv.out r (d+1) s7 sK _ (by have:=Hd.out;omega) Hb7.out acN jx (Hl.out.on (Rd.below cW))).mono ?_);rintro e w8 hval;obtain⟨h8,x,kb,kd,lb,ld,s8,kP,rfl,wZ,MI,TE⟩:=hval;have HM:=ae (acI (Tn f) HK.out TE);have acO:=af.rd h8 TD (by omega);have acP:=af.rd h8 q9 (by omega);have Mg:=cW.trans h8;have TF:=ae (eu.rd nu.out h8 (by omega));have hz8:=h8.size;have mZ:=ae (show x.In w8 (fun b=>w7.heap.size<=b/\b<w8.heap.size) kb kd lb ld from wZ.mono fun b h hl=>⟨h,hl⟩);have HB:=ae (show∀g,(Value.slice a2 n c2).ownBlock=some g->g<w7.heap.size from fun g hg=>(nu.out.keys.lt g hg).2);have HJ:=ae (show∀g,(Value.slice a3 n c3).ownBlock=some g->g<w7.heap.size from fun g hg=>by obtain⟨xs,h,-⟩:=nu.out.items;exact(h.lt g hg).2);have ahl:=MI.lt;clear wZ TE jx TD q9 cW h8;go_upto_region 11 with fail
    refine aI (R:=fun wx=>aN wx w.heap.size/\af wx (w.heap.size+1) #[.int .i64 5, .int .i64 0, .string ⟨#[]⟩, .slice a2 n c2, .slice a3 n c3] 36/\aD wx w8.heap.size x kb kd lb ld/\Ext w8 wx) ⟨aj,aj,aj,Xt⟩ ?_;clear acO acP;rintro w9 ⟨ag,ai,dI,j5⟩;have TG:=MI.ext j5;have Ej:=ae (eu.ext TF.out j5);have TH:=ae (mZ.out.ext j5);have TI:=Mg.ext hlt j5;have Sl:=j5.size;clear MI TF mZ Mg nu xJ HK;obtain⟨hc1,aA,ay⟩:=ai.see;obtain⟨a9,c9,xI,-,-,TJ⟩:=ek.strs (w:=w9) (base:=w.heap.size+2) (v:= .slice a2 n c2) ⟨Ej.out.nk,Ej.out.keys⟩;simp only [Value.slice.injEq,true_and] at xI;obtain⟨rfl,rfl⟩:=xI;have TK:=ae TJ;have Ek:=ae Ej.out.nk;have dw:n<=1073741824:=by omega
    clear TJ;go_wp2_with fail;(refine(Ao a2 n c2 ks _ key _ Ek.out TK.out Tv.out dw).mono ?_);rintro e rU ⟨rfl,h10⟩;obtain⟨p,hp0⟩:∃p,posOf ks key=p:=⟨_,rfl⟩;rw [hp0];have MJ:=ae hp0;have ra:p<=n:=by have:=tW ks key;rw [hp0,Ek.out] at this;exact this
    have ag:=af.ext h10 ag;have ai:=af.ext h10 ai;have dI:=af.ext h10 dI;have HV:=TG.ext h10;have HX:=ae (eu.ext Ej.out h10);have HY:=ae (TH.out.ext h10);have vq:=TI.ext hlt h10;have ahm:=h10.size;clear hp0 TG Ej TH TI h10 hc1 aA ay TK
    cases uk:hasB ks key with
    |true=>
     have TL:=ae uk;clear uk;go_wp2_with fail;(refine(dE r s8 kP _ HV).mono ?_);rintro e nQ ⟨rfl,TM,h11⟩;have ag:=af.rd h11 ag (by omega);have ai:=af.rd h11 ai (by omega);have dI:=af.rd h11 dI (by omega);have FX:=ae (eu.rd HX.out h11 (by omega));have TN:=ae (In.rd h11 HY.out (fun b h=>by omega));have pj:=vq.trans h11;have YZ:=h11.size;have cK:=ae (acK (ks':=ks.take p++key::ks.drop p) (l':=l.take p++x::l.drop p) (s9:=⟨#[]⟩) vL.out HM.out TL.out rfl);clear HV HX HY vq h11 HM vL;go_upto_region 14 with fail
     refine aI (R:=fun wx=>aN wx w.heap.size/\af wx (w.heap.size+1) #[.int .i64 5, .int .i64 0, .string ⟨#[]⟩, .slice a2 n c2, .slice a3 n c3] 36/\aD wx w8.heap.size x kb kd lb ld/\Ext nQ wx) ⟨ag,ai,dI,Xt⟩ ?_;clear ag ai dI;rintro wb ⟨ag,ai,dI,iL⟩;have kO:=TM.ext iL;have xB:=ae (eu.ext FX.out iL);have lC:=ae (TN.out.ext iL);have aO:=pj.ext hlt iL;have hzb:=iL.size;clear TM FX TN pj iL;obtain⟨hks,hll,qO,news,vN,hcells⟩:=xB.out;have hks:=ae hks;have hll:=ae hll;have kT:=ae qO;have rf:=ae vN;have kS:=ae hcells.one;have kC:=ae hcells;have dV:Hid (∀g,(Value.slice a2 n c2).ownBlock=some g->w.heap.size+2<=g/\g<wb.heap.size):=qO.lt;have fP:Hid (∀g,(Value.slice a3 n c3).ownBlock=some g->w.heap.size+2<=g/\g<wb.heap.size):=vN.lt;have dW:Hid (∀g,(Value.slice a2 n c2).ownBlock=some g-> (Value.slice a3 n c3).ownBlock≠some g):=fun g h h'=>by obtain⟨q1,z1,e1⟩:=Aj qO g h;obtain⟨q2,z2,e2⟩:=Aj vN g h';rw [e1] at e2;simp at e2
     have aU:=ae (show x.In wb (Beside (w.heap.size+2) (.slice a2 n c2) (.slice a3 n c3)) kb kd lb ld from lC.out.mono fun b h _=>⟨by omega,fun h'=>by have:=HB.out b h';omega,fun h'=>by have:=HJ.out b h';omega⟩);clear qO vN hcells lC xB;obtain⟨T,hT⟩:∃T:az,T=fun b=>(Value.slice a2 n c2).ownBlock≠some b/\ (Value.slice a3 n c3).ownBlock≠some b:=⟨_,rfl⟩
     have sL:Hid (∀k,(Value.slice a2 n c2).ownBlock=some k->¬T k):=by rw [hT];exact fun k h h'=>h'.1 h
     have sM:Hid (∀k,(Value.slice a3 n c3).ownBlock=some k->¬T k):=by rw [hT];exact fun k h h'=>h'.2 h
     have hT0:Hid (∀b,b<w.heap.size+2->T b):=by rw [hT];exact fun b hb=>⟨fun h=>by have:=(dV.out b h).1;omega,fun h=>by have:=(fP.out b h).1;omega⟩
     have mB:Hid (T w8.heap.size):=by rw [hT];exact⟨fun h=>by have:=HB.out _ h;omega,fun h=>by have:=HJ.out _ h;omega⟩
     have qm:Hid (∀b,Beside (w.heap.size+2) (.slice a2 n c2) (.slice a3 n c3) b->T b):=by rw [hT];exact fun b h=>h.2
     clear hT
     have aq:∀w',Held T wb w'-> (w'.cell? ⟨w.heap.size+1,3,none⟩=some (.slice a2 n c2)/\w'.cell? ⟨w.heap.size+1,4,none⟩=some (.slice a3 n c3)/\w'.cell? ⟨w8.heap.size,0,none⟩=some (.int .i64 x.k)/\w'.cell? ⟨w8.heap.size,1,none⟩=some (.int .i64 x.n)/\w'.cell? ⟨w8.heap.size,2,none⟩=some (.string x.s)/\w'.cell? ⟨w8.heap.size,3,none⟩=some (.slice kb x.keys.length kd)/\w'.cell? ⟨w8.heap.size,4,none⟩=some (.slice lb x.l.length ld)):=
      fun w' e=>⟨e.kept.cell (hT0.out _ (by simp)) (ai.cells 3),e.kept.cell (hT0.out _ (by simp)) (ai.cells 4),e.kept.cell mB.out (dI.cells 0),e.kept.cell mB.out (dI.cells 1),e.kept.cell mB.out (dI.cells 2),e.kept.cell mB.out (dI.cells 3),e.kept.cell mB.out (dI.cells 4)⟩
     have hbl:=dI.lt;refine fF aq (c:=13) (by kernel_rfl) ?_;refine aG 0 [13] (hS:=aq _ aC) (h:= ?_);refine aG 1 [13] (hS:=aq _ aC) (h:= ?_);refine aG 2 [13] (hS:=aq _ aC) (h:= ?_);refine aG 3 [13] (hS:=aq _ aC) (h:= ?_);refine aG 6 [13] (hS:=aq _ aC) (h:= ?_);refine aG 7 [13] (hS:=aq _ aC) (h:= ?_);refine aG 8 [11,13] (hS:=aq _ aC) (h:= ?_);refine aG 9 [10,11,13] (hS:=aq _ aC) (h:= ?_);(try simp only [rl]);refine lK (rs:= [4,10]) (by kernel_rfl) (by simp) ?_;refine cj.cons (Array.getElem?_eq_getElem (by decide)) (fun K hK=> ?_) (cj.cons (Array.getElem?_eq_getElem (by decide)) (fun K hK=> ?_) cj.nil)
     · (try simp only [rl])
       go_simp;refine hK.out _ _ (fun _=>aq _ aC) ?_;clear hK K;(try simp only [rl]);refine lK (rs:= [5,10]) (by kernel_rfl) (by simp) ?_;refine cj.cons (Array.getElem?_eq_getElem (by decide)) (fun K hK=> ?_) (cj.cons (Array.getElem?_eq_getElem (by decide)) (fun K hK=> ?_) cj.nil)
       · (try simp only [rl])
         (try go_simp);(refine(vO (w.heap.size+2) n p _ _ (.slice a2 n c2) (ks.map Value.string) [.string key] _ 9 ?_ ?_ dw ra ?_ ?_ rfl (px ks) (by simp [Value.oneCell'])).mono ?_);(focus(simp;omega));(focus(exact eD kT.out Xt));(focus(exact aj));(focus(intro h;have h':=(dV.out _ h).2;(first|omega|(simp at h';omega)|(simp at h';done))));rintro e w5 ⟨g5,cY,rfl,dR,cE,fQ⟩;have eT:Held T wb w5:=Held.grown aC cE sL.out;have aZ:Rd r w w5:=Rd.grown eB cE (fun g hg=>by have:=(dV.out g hg).1;omega) hlt;have mC:=ae (dX rf.out (fun b hb hg=>Held.block (T:=fun c=>(Value.slice a2 n c2).ownBlock≠some c) (Held.grown aC cE (fun k hk h=>h hk)) b (fun h=>dW.out b h hg) hb));have fN:(Value.slice a3 n c3).ownBlock≠some g5:=fun h=>by
          rcases fQ with h'|h'
          ·exact dW.out _ h' h
          ·have h2:=(fP.out _ h).2;simp at h';omega
         have sN:Hid (∀b,Beside (w.heap.size+2) (.slice a2 n c2) (.slice a3 n c3) b->b<wb.heap.size->b≠g5):=fun b hb hl he=>by
          rcases fQ with h'|h'
          ·exact hb.2.1 (he▸h')
          ·simp at h';omega
         have fA:wb.heap.size<=w5.heap.size:=eT.size;have iP:=ae dR;have oz:=ae fN;clear dR fQ fN;(try go_simp);refine hK.out _ _ (fun _=>aq _ aC) ?_;clear hK K;refine aG 12 [13] (hS:=aq _ aC) (h:= ?_);(try simp only [rl]);refine aK 10 (h:=fun K hK=> ?_);(try simp only [rl]);go_simp;refine hK.out _ _ (fun _=>aq _ aC) ?_;clear hK K;(try simp only [rl]);refine aK 11 (h:=fun K hK=> ?_);(try simp only [rl]);(try go_simp);(refine(rG (w.heap.size+2) n p _ _ (.slice a3 n c3) news (x.five kb kd lb ld) _ 36 ?_ ?_ dw ra ?_ ?_ rfl kS.out (x.mH kb kd lb ld)).mono ?_);(focus(first|(simp;omega)|omega));(focus(exact eD mC.out Xt));(focus(exact aj));(focus(intro h;have h':=(fP.out _ h).2;(first|omega|(simp at h';omega)|(simp at h';done))));rintro e w6 ⟨g6,bA,rfl,bF,aY,ck⟩;have bD:Held T wb w6:=Held.grown aC aY sM.out;(try go_simp);refine hK.out _ _ (fun _=>aq _ bD) ?_;clear hK K;(try simp only [rl]);have bK:Rd r w w6:=Rd.grown eB aY (fun g hg=>by have:=(fP.out g hg).1;omega) hlt;have sO:=ae (dX iP.out (fun b hb hg=>Held.block (T:=fun c=>(Value.slice a3 n c3).ownBlock≠some c) (Held.grown aC aY (fun k hk h=>h hk)) b (by simp only [Value.ownBlock,Option.map_some,Option.some.injEq] at hg;rw [<-hg];exact oz.out) hb));have gM:∀b,Beside (w.heap.size+2) (.slice a2 n c2) (.slice a3 n c3) b->b<wb.heap.size->b≠g6:=fun b hb hl he=>by
          rcases ck with h'|h'
          ·exact hb.2.2 (he▸h')
          · (first|omega|(simp at h';omega))
         have hnew:∀b,Beside (w.heap.size+2) (.slice a2 n c2) (.slice a3 n c3) b->b<wb.heap.size->Beside (w.heap.size+2) (.slice (some ⟨g5,0,none⟩) (n+1) cY) (.slice (some ⟨g6,0,none⟩) (n+1) bA) b:=fun b hb hl=>⟨hb.1,fun h=>sN.out b hb hl (by simpa [Value.ownBlock] using h.symm),fun h=>gM b hb hl (by simpa [Value.ownBlock] using h.symm)⟩;have hcc:=(kC.out.keep (Held.kept (Held.mono bD qm.out)) hnew).ins p (aU.out.keep (Held.kept (Held.mono bD qm.out)) hnew)
         have mg:Hid (eu w6 (w.heap.size+2) (.slice (some ⟨g5,0,none⟩) (n+1) cY) (.slice (some ⟨g6,0,none⟩) (n+1) bA) (n+1) (ks.take p++key::ks.drop p) (l.take p++x::l.drop p)):=
          ⟨by simp [hks.out];omega,by simp [hll.out];omega,by simpa [List.map_take,List.map_drop] using sO.out,_,bF,hcc⟩
         have nt:Sr w6 r (⟨#[]⟩:ah) true:=af.held bD kO (hT0.out _ (by omega));have ag:=af.held bD ag (hT0.out _ (by omega));have ai:=af.held bD ai (hT0.out _ (by omega));have uZ:=bD.size;clear bF aY ck hcc hnew gM aq cE eT aZ dI kO aO;obtain⟨hc1,aA,ay⟩:=ai.see;refine aK 13 (h:=fun K hK=> ?_);(try simp only [rl]);go_simp;refine bz hK (h:= ?_);clear hK K;(try simp only [rl]);refine aK 14 (h:=fun K hK=> ?_);(try simp only [rl]);go_simp;refine bz hK (h:= ?_);clear hK K;(try simp only [rl]);refine aK 15 (h:=fun K hK=> ?_);(try simp only [rl]);go_simp;refine bz hK (h:= ?_);clear hK K;(try simp only [rl]);refine cZ (by kernel_rfl) ?_ _;obtain⟨wy,bS⟩:∃wy,(w6.setCell ⟨w.heap.size+1,3,none⟩ (Value.slice (some ⟨g5,0,none⟩) (n+1) cY)).setCell ⟨w.heap.size+1,4,none⟩ (Value.slice (some ⟨g6,0,none⟩) (n+1) bA)=wy:=⟨_,rfl⟩;have jx:Sr wy r (⟨#[]⟩:ah) true:=by rw [<-bS];exact iw
         have ag:aN wy w.heap.size:=by rw [<-bS];exact aj
         have ai:af wy (w.heap.size+1) #[.int .i64 5, .int .i64 0, .string ⟨#[]⟩, .slice (some ⟨g5,0,none⟩) (n+1) cY, .slice (some ⟨g6,0,none⟩) (n+1) bA] 36:=by rw [<-bS];exact aj
         have sP:Held (fun b=>w.heap.size+2<=b) w6 wy:=by rw [<-bS];exact aC
         have cW:Rd r w wy:=by rw [<-bS];exact eB
         rw [bS];clear nt hc1 aA ay bK bS;have nu:=ae (eu.keep mg.out (fun b hb hk=>sP.block b hk hb));have sQ:=ae cK.out.2;have sS:=ae cK.out.1
         have sU:=ae (show n+1+(((⟨#[]⟩:ah)).size+(if true=true then 0 else 1))<=1048577 by
          have h1:=q8.out;have h2:=cK.out.1;have h3:(⟨#[]⟩:ah).size=0:=rfl;simp only [Bool.false_eq_true,if_false] at h1
          (first|omega|(simp [h3];omega)|(simp [h3];done)))
         go_wp2_with fail;go_roundg (((⟨#[]⟩:ah)).size+(if true=true then 0 else 1))
         case measure=>have:=sS.out;simpa using this
         case rel=>exact⟨(⟨#[]⟩:ah),true,n+1,ks.take p++key::ks.drop p,l.take p++x::l.drop p,some ⟨g5,0,none⟩,cY,some ⟨g6,0,none⟩,bA,jx,nu.out,ag,ai,rfl,sU.out,cW,sQ.out⟩
       · (try simp only [rl])
         go_simp;refine hK.out _ _ (fun _=>aq _ aC) ?_;clear hK K;(try simp only [rl]);refine aK 5 (h:=fun K hK=> ?_);(try simp only [rl]);(try go_simp);(refine(vO (w.heap.size+2) n p _ _ (.slice a2 n c2) (ks.map Value.string) [.string key] _ 9 ?_ ?_ dw ra ?_ ?_ rfl (px ks) (by simp [Value.oneCell'])).mono ?_);(focus(simp;omega));(focus(exact eD kT.out Xt));(focus(exact aj));(focus(intro h;have h':=(dV.out _ h).2;(first|omega|(simp at h';omega)|(simp at h';done))));rintro e w5 ⟨g5,cY,rfl,dR,cE,fQ⟩;have eT:Held T wb w5:=Held.grown aC cE sL.out;have aZ:Rd r w w5:=Rd.grown eB cE (fun g hg=>by have:=(dV.out g hg).1;omega) hlt;have mC:=ae (dX rf.out (fun b hb hg=>Held.block (T:=fun c=>(Value.slice a2 n c2).ownBlock≠some c) (Held.grown aC cE (fun k hk h=>h hk)) b (fun h=>dW.out b h hg) hb));have fN:(Value.slice a3 n c3).ownBlock≠some g5:=fun h=>by
          rcases fQ with h'|h'
          ·exact dW.out _ h' h
          ·have h2:=(fP.out _ h).2;simp at h';omega
         have sN:Hid (∀b,Beside (w.heap.size+2) (.slice a2 n c2) (.slice a3 n c3) b->b<wb.heap.size->b≠g5):=fun b hb hl he=>by
          rcases fQ with h'|h'
          ·exact hb.2.1 (he▸h')
          ·simp at h';omega
         have fA:wb.heap.size<=w5.heap.size:=eT.size;have iP:=ae dR;have oz:=ae fN;have El:af w5 (wb.heap.size+1) (x.five kb kd lb ld).toArray 36:=af.grown (w':=w5) aj cE (fun e=>by have h':=(dV.out _ e.symm).2;omega);clear dR fQ fN;(try go_simp);refine hK.out _ _ (fun _=>aq _ aC) ?_;clear hK K;refine aG 12 [13] (hS:=aq _ aC) (h:= ?_);(try simp only [rl]);refine aK 11 (h:=fun K hK=> ?_);(try simp only [rl]);(try go_simp);(refine(rG (w.heap.size+2) n p _ _ (.slice a3 n c3) news (x.five kb kd lb ld) _ 36 ?_ ?_ dw ra ?_ ?_ rfl kS.out (x.mH kb kd lb ld)).mono ?_);(focus(first|(simp;omega)|omega));(focus(exact eD mC.out Xt));(focus(exact aj));(focus(intro h;have h':=(fP.out _ h).2;(first|omega|(simp at h';omega)|(simp at h';done))));rintro e w6 ⟨g6,bA,rfl,bF,aY,ck⟩;have bD:Held T wb w6:=Held.grown aC aY sM.out;(try go_simp);refine hK.out _ _ (fun _=>aq _ bD) ?_;clear hK K;(try simp only [rl]);have bK:Rd r w w6:=Rd.grown eB aY (fun g hg=>by have:=(fP.out g hg).1;omega) hlt;have sO:=ae (dX iP.out (fun b hb hg=>Held.block (T:=fun c=>(Value.slice a3 n c3).ownBlock≠some c) (Held.grown aC aY (fun k hk h=>h hk)) b (by simp only [Value.ownBlock,Option.map_some,Option.some.injEq] at hg;rw [<-hg];exact oz.out) hb));have gM:∀b,Beside (w.heap.size+2) (.slice a2 n c2) (.slice a3 n c3) b->b<wb.heap.size->b≠g6:=fun b hb hl he=>by
          rcases ck with h'|h'
          ·exact hb.2.2 (he▸h')
          · (first|omega|(simp at h';omega))
         have hnew:∀b,Beside (w.heap.size+2) (.slice a2 n c2) (.slice a3 n c3) b->b<wb.heap.size->Beside (w.heap.size+2) (.slice (some ⟨g5,0,none⟩) (n+1) cY) (.slice (some ⟨g6,0,none⟩) (n+1) bA) b:=fun b hb hl=>⟨hb.1,fun h=>sN.out b hb hl (by simpa [Value.ownBlock] using h.symm),fun h=>gM b hb hl (by simpa [Value.ownBlock] using h.symm)⟩;have hcc:=(kC.out.keep (Held.kept (Held.mono bD qm.out)) hnew).ins p (aU.out.keep (Held.kept (Held.mono bD qm.out)) hnew)
         have mg:Hid (eu w6 (w.heap.size+2) (.slice (some ⟨g5,0,none⟩) (n+1) cY) (.slice (some ⟨g6,0,none⟩) (n+1) bA) (n+1) (ks.take p++key::ks.drop p) (l.take p++x::l.drop p)):=
          ⟨by simp [hks.out];omega,by simp [hll.out];omega,by simpa [List.map_take,List.map_drop] using sO.out,_,bF,hcc⟩
         have nt:Sr w6 r (⟨#[]⟩:ah) true:=af.held bD kO (hT0.out _ (by omega));have ag:=af.held bD ag (hT0.out _ (by omega));have ai:=af.held bD ai (hT0.out _ (by omega));have uZ:=bD.size;clear bF aY ck hcc hnew gM aq cE eT aZ dI kO aO;obtain⟨hc1,aA,ay⟩:=ai.see;refine aK 13 (h:=fun K hK=> ?_);(try simp only [rl]);go_simp;refine bz hK (h:= ?_);clear hK K;(try simp only [rl]);refine aK 14 (h:=fun K hK=> ?_);(try simp only [rl]);go_simp;refine bz hK (h:= ?_);clear hK K;(try simp only [rl]);refine aK 15 (h:=fun K hK=> ?_);(try simp only [rl]);go_simp;refine bz hK (h:= ?_);clear hK K;(try simp only [rl]);refine cZ (by kernel_rfl) ?_ _;obtain⟨wy,bS⟩:∃wy,(w6.setCell ⟨w.heap.size+1,3,none⟩ (Value.slice (some ⟨g5,0,none⟩) (n+1) cY)).setCell ⟨w.heap.size+1,4,none⟩ (Value.slice (some ⟨g6,0,none⟩) (n+1) bA)=wy:=⟨_,rfl⟩;have jx:Sr wy r (⟨#[]⟩:ah) true:=by rw [<-bS];exact iw
         have ag:aN wy w.heap.size:=by rw [<-bS];exact aj
         have ai:af wy (w.heap.size+1) #[.int .i64 5, .int .i64 0, .string ⟨#[]⟩, .slice (some ⟨g5,0,none⟩) (n+1) cY, .slice (some ⟨g6,0,none⟩) (n+1) bA] 36:=by rw [<-bS];exact aj
         have sP:Held (fun b=>w.heap.size+2<=b) w6 wy:=by rw [<-bS];exact aC
         have cW:Rd r w wy:=by rw [<-bS];exact eB
         rw [bS];clear nt hc1 aA ay bK bS;have nu:=ae (eu.keep mg.out (fun b hb hk=>sP.block b hk hb));have sQ:=ae cK.out.2;have sS:=ae cK.out.1
         have sU:=ae (show n+1+(((⟨#[]⟩:ah)).size+(if true=true then 0 else 1))<=1048577 by
          have h1:=q8.out;have h2:=cK.out.1;have h3:(⟨#[]⟩:ah).size=0:=rfl;simp only [Bool.false_eq_true,if_false] at h1
          (first|omega|(simp [h3];omega)|(simp [h3];done)))
         go_wp2_with fail;go_roundg (((⟨#[]⟩:ah)).size+(if true=true then 0 else 1))
         case measure=>have:=sS.out;simpa using this
         case rel=>exact⟨(⟨#[]⟩:ah),true,n+1,ks.take p++key::ks.drop p,l.take p++x::l.drop p,some ⟨g5,0,none⟩,cY,some ⟨g6,0,none⟩,bA,jx,nu.out,ag,ai,rfl,sU.out,cW,sQ.out⟩
     · (try simp only [rl])
       go_simp;refine hK.out _ _ (fun _=>aq _ aC) ?_;clear hK K;(try simp only [rl]);refine aK 4 (h:=fun K hK=> ?_);(try simp only [rl]);go_simp;refine hK.out _ _ (fun _=>aq _ aC) ?_;clear hK K;(try simp only [rl]);refine aK 5 (h:=fun K hK=> ?_);(try simp only [rl]);(try go_simp);(refine(vO (w.heap.size+2) n p _ _ (.slice a2 n c2) (ks.map Value.string) [.string key] _ 9 ?_ ?_ dw ra ?_ ?_ rfl (px ks) (by simp [Value.oneCell'])).mono ?_);(focus(simp;omega));(focus(exact eD kT.out Xt));(focus(exact aj));(focus(intro h;have h':=(dV.out _ h).2;(first|omega|(simp at h';omega)|(simp at h';done))));rintro e w5 ⟨g5,cY,rfl,dR,cE,fQ⟩;have eT:Held T wb w5:=Held.grown aC cE sL.out;have aZ:Rd r w w5:=Rd.grown eB cE (fun g hg=>by have:=(dV.out g hg).1;omega) hlt;have mC:=ae (dX rf.out (fun b hb hg=>Held.block (T:=fun c=>(Value.slice a2 n c2).ownBlock≠some c) (Held.grown aC cE (fun k hk h=>h hk)) b (fun h=>dW.out b h hg) hb));have fN:(Value.slice a3 n c3).ownBlock≠some g5:=fun h=>by
        rcases fQ with h'|h'
        ·exact dW.out _ h' h
        ·have h2:=(fP.out _ h).2;simp at h';omega
       have sN:Hid (∀b,Beside (w.heap.size+2) (.slice a2 n c2) (.slice a3 n c3) b->b<wb.heap.size->b≠g5):=fun b hb hl he=>by
        rcases fQ with h'|h'
        ·exact hb.2.1 (he▸h')
        ·simp at h';omega
       have fA:wb.heap.size<=w5.heap.size:=eT.size;have iP:=ae dR;have oz:=ae fN;have El:af w5 (wb.heap.size) (x.five kb kd lb ld).toArray 36:=af.grown (w':=w5) aj cE (fun e=>by have h':=(dV.out _ e.symm).2;omega);clear dR fQ fN;(try go_simp);refine hK.out _ _ (fun _=>aq _ aC) ?_;clear hK K;refine aG 12 [13] (hS:=aq _ aC) (h:= ?_);(try simp only [rl]);refine aK 11 (h:=fun K hK=> ?_);(try simp only [rl]);(try go_simp);(refine(rG (w.heap.size+2) n p _ _ (.slice a3 n c3) news (x.five kb kd lb ld) _ 36 ?_ ?_ dw ra ?_ ?_ rfl kS.out (x.mH kb kd lb ld)).mono ?_);(focus(first|(simp;omega)|omega));(focus(exact eD mC.out Xt));(focus(exact aj));(focus(intro h;have h':=(fP.out _ h).2;(first|omega|(simp at h';omega)|(simp at h';done))));rintro e w6 ⟨g6,bA,rfl,bF,aY,ck⟩;have bD:Held T wb w6:=Held.grown aC aY sM.out;(try go_simp);refine hK.out _ _ (fun _=>aq _ bD) ?_;clear hK K;(try simp only [rl]);have bK:Rd r w w6:=Rd.grown eB aY (fun g hg=>by have:=(fP.out g hg).1;omega) hlt;have sO:=ae (dX iP.out (fun b hb hg=>Held.block (T:=fun c=>(Value.slice a3 n c3).ownBlock≠some c) (Held.grown aC aY (fun k hk h=>h hk)) b (by simp only [Value.ownBlock,Option.map_some,Option.some.injEq] at hg;rw [<-hg];exact oz.out) hb));have gM:∀b,Beside (w.heap.size+2) (.slice a2 n c2) (.slice a3 n c3) b->b<wb.heap.size->b≠g6:=fun b hb hl he=>by
        rcases ck with h'|h'
        ·exact hb.2.2 (he▸h')
        · (first|omega|(simp at h';omega))
       have hnew:∀b,Beside (w.heap.size+2) (.slice a2 n c2) (.slice a3 n c3) b->b<wb.heap.size->Beside (w.heap.size+2) (.slice (some ⟨g5,0,none⟩) (n+1) cY) (.slice (some ⟨g6,0,none⟩) (n+1) bA) b:=fun b hb hl=>⟨hb.1,fun h=>sN.out b hb hl (by simpa [Value.ownBlock] using h.symm),fun h=>gM b hb hl (by simpa [Value.ownBlock] using h.symm)⟩;have hcc:=(kC.out.keep (Held.kept (Held.mono bD qm.out)) hnew).ins p (aU.out.keep (Held.kept (Held.mono bD qm.out)) hnew)
       have mg:Hid (eu w6 (w.heap.size+2) (.slice (some ⟨g5,0,none⟩) (n+1) cY) (.slice (some ⟨g6,0,none⟩) (n+1) bA) (n+1) (ks.take p++key::ks.drop p) (l.take p++x::l.drop p)):=
        ⟨by simp [hks.out];omega,by simp [hll.out];omega,by simpa [List.map_take,List.map_drop] using sO.out,_,bF,hcc⟩
       have nt:Sr w6 r (⟨#[]⟩:ah) true:=af.held bD kO (hT0.out _ (by omega));have ag:=af.held bD ag (hT0.out _ (by omega));have ai:=af.held bD ai (hT0.out _ (by omega));have uZ:=bD.size;clear bF aY ck hcc hnew gM aq cE eT aZ dI kO aO;obtain⟨hc1,aA,ay⟩:=ai.see;refine aK 13 (h:=fun K hK=> ?_);(try simp only [rl]);go_simp;refine bz hK (h:= ?_);clear hK K;(try simp only [rl]);refine aK 14 (h:=fun K hK=> ?_);(try simp only [rl]);go_simp;refine bz hK (h:= ?_);clear hK K;(try simp only [rl]);refine aK 15 (h:=fun K hK=> ?_);(try simp only [rl]);go_simp;refine bz hK (h:= ?_);clear hK K;(try simp only [rl]);refine cZ (by kernel_rfl) ?_ _;obtain⟨wy,bS⟩:∃wy,(w6.setCell ⟨w.heap.size+1,3,none⟩ (Value.slice (some ⟨g5,0,none⟩) (n+1) cY)).setCell ⟨w.heap.size+1,4,none⟩ (Value.slice (some ⟨g6,0,none⟩) (n+1) bA)=wy:=⟨_,rfl⟩;have jx:Sr wy r (⟨#[]⟩:ah) true:=by rw [<-bS];exact iw
       have ag:aN wy w.heap.size:=by rw [<-bS];exact aj
       have ai:af wy (w.heap.size+1) #[.int .i64 5, .int .i64 0, .string ⟨#[]⟩, .slice (some ⟨g5,0,none⟩) (n+1) cY, .slice (some ⟨g6,0,none⟩) (n+1) bA] 36:=by rw [<-bS];exact aj
       have sP:Held (fun b=>w.heap.size+2<=b) w6 wy:=by rw [<-bS];exact aC
       have cW:Rd r w wy:=by rw [<-bS];exact eB
       rw [bS];clear nt hc1 aA ay bK bS;have nu:=ae (eu.keep mg.out (fun b hb hk=>sP.block b hk hb));have sQ:=ae cK.out.2;have sS:=ae cK.out.1
       have sU:=ae (show n+1+(((⟨#[]⟩:ah)).size+(if true=true then 0 else 1))<=1048577 by
        have h1:=q8.out;have h2:=cK.out.1;have h3:(⟨#[]⟩:ah).size=0:=rfl;simp only [Bool.false_eq_true,if_false] at h1
        (first|omega|(simp [h3];omega)|(simp [h3];done)))
       go_wp2_with fail;go_roundg (((⟨#[]⟩:ah)).size+(if true=true then 0 else 1))
       case measure=>have:=sS.out;simpa using this
       case rel=>exact⟨(⟨#[]⟩:ah),true,n+1,ks.take p++key::ks.drop p,l.take p++x::l.drop p,some ⟨g5,0,none⟩,cY,some ⟨g6,0,none⟩,bA,jx,nu.out,ag,ai,rfl,sU.out,cW,sQ.out⟩
    |false=>
     have TL:=ae uk;have cK:=ae (by have h:=acJ Tv.out vL.out Ec HM.out uk;rw [MJ.out] at h;exact h);clear uk HM vL;go_upto_region 14 with fail
     refine aI (R:=fun wx=>aN wx w.heap.size/\af wx (w.heap.size+1) #[.int .i64 5, .int .i64 0, .string ⟨#[]⟩, .slice a2 n c2, .slice a3 n c3] 36/\aD wx w8.heap.size x kb kd lb ld/\Ext rU wx) ⟨ag,ai,dI,Xt⟩ ?_;clear ag ai dI;rintro wb ⟨ag,ai,dI,iL⟩;have kO:=HV.ext iL;have xB:=ae (eu.ext HX.out iL);have lC:=ae (HY.out.ext iL);have aO:=vq.ext hlt iL;have hzb:=iL.size;clear HV HX HY vq iL;obtain⟨hks,hll,qO,news,vN,hcells⟩:=xB.out;have hks:=ae hks;have hll:=ae hll;have kT:=ae qO;have rf:=ae vN;have kS:=ae hcells.one;have kC:=ae hcells;have dV:Hid (∀g,(Value.slice a2 n c2).ownBlock=some g->w.heap.size+2<=g/\g<wb.heap.size):=qO.lt;have fP:Hid (∀g,(Value.slice a3 n c3).ownBlock=some g->w.heap.size+2<=g/\g<wb.heap.size):=vN.lt;have dW:Hid (∀g,(Value.slice a2 n c2).ownBlock=some g-> (Value.slice a3 n c3).ownBlock≠some g):=fun g h h'=>by obtain⟨q1,z1,e1⟩:=Aj qO g h;obtain⟨q2,z2,e2⟩:=Aj vN g h';rw [e1] at e2;simp at e2
     have aU:=ae (show x.In wb (Beside (w.heap.size+2) (.slice a2 n c2) (.slice a3 n c3)) kb kd lb ld from lC.out.mono fun b h _=>⟨by omega,fun h'=>by have:=HB.out b h';omega,fun h'=>by have:=HJ.out b h';omega⟩);clear qO vN hcells lC xB;obtain⟨T,hT⟩:∃T:az,T=fun b=>(Value.slice a2 n c2).ownBlock≠some b/\ (Value.slice a3 n c3).ownBlock≠some b:=⟨_,rfl⟩
     have sL:Hid (∀k,(Value.slice a2 n c2).ownBlock=some k->¬T k):=by rw [hT];exact fun k h h'=>h'.1 h
     have sM:Hid (∀k,(Value.slice a3 n c3).ownBlock=some k->¬T k):=by rw [hT];exact fun k h h'=>h'.2 h
     have hT0:Hid (∀b,b<w.heap.size+2->T b):=by rw [hT];exact fun b hb=>⟨fun h=>by have:=(dV.out b h).1;omega,fun h=>by have:=(fP.out b h).1;omega⟩
     have mB:Hid (T w8.heap.size):=by rw [hT];exact⟨fun h=>by have:=HB.out _ h;omega,fun h=>by have:=HJ.out _ h;omega⟩
     have qm:Hid (∀b,Beside (w.heap.size+2) (.slice a2 n c2) (.slice a3 n c3) b->T b):=by rw [hT];exact fun b h=>h.2
     clear hT
     have aq:∀w',Held T wb w'-> (w'.cell? ⟨w.heap.size+1,3,none⟩=some (.slice a2 n c2)/\w'.cell? ⟨w.heap.size+1,4,none⟩=some (.slice a3 n c3)/\w'.cell? ⟨w8.heap.size,0,none⟩=some (.int .i64 x.k)/\w'.cell? ⟨w8.heap.size,1,none⟩=some (.int .i64 x.n)/\w'.cell? ⟨w8.heap.size,2,none⟩=some (.string x.s)/\w'.cell? ⟨w8.heap.size,3,none⟩=some (.slice kb x.keys.length kd)/\w'.cell? ⟨w8.heap.size,4,none⟩=some (.slice lb x.l.length ld)):=
      fun w' e=>⟨e.kept.cell (hT0.out _ (by simp)) (ai.cells 3),e.kept.cell (hT0.out _ (by simp)) (ai.cells 4),e.kept.cell mB.out (dI.cells 0),e.kept.cell mB.out (dI.cells 1),e.kept.cell mB.out (dI.cells 2),e.kept.cell mB.out (dI.cells 3),e.kept.cell mB.out (dI.cells 4)⟩
     have hbl:=dI.lt;refine fF aq (c:=13) (by kernel_rfl) ?_;refine aG 0 [13] (hS:=aq _ aC) (h:= ?_);refine aG 1 [13] (hS:=aq _ aC) (h:= ?_);refine aG 2 [13] (hS:=aq _ aC) (h:= ?_);refine aG 3 [13] (hS:=aq _ aC) (h:= ?_);refine aG 6 [13] (hS:=aq _ aC) (h:= ?_);refine aG 7 [13] (hS:=aq _ aC) (h:= ?_);refine aG 8 [11,13] (hS:=aq _ aC) (h:= ?_);refine aG 9 [10,11,13] (hS:=aq _ aC) (h:= ?_);(try simp only [rl]);refine lK (rs:= [4,10]) (by kernel_rfl) (by simp) ?_;refine cj.cons (Array.getElem?_eq_getElem (by decide)) (fun K hK=> ?_) (cj.cons (Array.getElem?_eq_getElem (by decide)) (fun K hK=> ?_) cj.nil)
     · (try simp only [rl])
       go_simp;refine hK.out _ _ (fun _=>aq _ aC) ?_;clear hK K;(try simp only [rl]);refine lK (rs:= [5,10]) (by kernel_rfl) (by simp) ?_;refine cj.cons (Array.getElem?_eq_getElem (by decide)) (fun K hK=> ?_) (cj.cons (Array.getElem?_eq_getElem (by decide)) (fun K hK=> ?_) cj.nil)
       · (try simp only [rl])
         (try go_simp);(refine(vO (w.heap.size+2) n p _ _ (.slice a2 n c2) (ks.map Value.string) [.string key] _ 9 ?_ ?_ dw ra ?_ ?_ rfl (px ks) (by simp [Value.oneCell'])).mono ?_);(focus(simp;omega));(focus(exact eD kT.out Xt));(focus(exact aj));(focus(intro h;have h':=(dV.out _ h).2;(first|omega|(simp at h';omega)|(simp at h';done))));rintro e w5 ⟨g5,cY,rfl,dR,cE,fQ⟩;have eT:Held T wb w5:=Held.grown aC cE sL.out;have aZ:Rd r w w5:=Rd.grown eB cE (fun g hg=>by have:=(dV.out g hg).1;omega) hlt;have mC:=ae (dX rf.out (fun b hb hg=>Held.block (T:=fun c=>(Value.slice a2 n c2).ownBlock≠some c) (Held.grown aC cE (fun k hk h=>h hk)) b (fun h=>dW.out b h hg) hb));have fN:(Value.slice a3 n c3).ownBlock≠some g5:=fun h=>by
          rcases fQ with h'|h'
          ·exact dW.out _ h' h
          ·have h2:=(fP.out _ h).2;simp at h';omega
         have sN:Hid (∀b,Beside (w.heap.size+2) (.slice a2 n c2) (.slice a3 n c3) b->b<wb.heap.size->b≠g5):=fun b hb hl he=>by
          rcases fQ with h'|h'
          ·exact hb.2.1 (he▸h')
          ·simp at h';omega
         have fA:wb.heap.size<=w5.heap.size:=eT.size;have iP:=ae dR;have oz:=ae fN;clear dR fQ fN;(try go_simp);refine hK.out _ _ (fun _=>aq _ aC) ?_;clear hK K;refine aG 12 [13] (hS:=aq _ aC) (h:= ?_);(try simp only [rl]);refine aK 10 (h:=fun K hK=> ?_);(try simp only [rl]);go_simp;refine hK.out _ _ (fun _=>aq _ aC) ?_;clear hK K;(try simp only [rl]);refine aK 11 (h:=fun K hK=> ?_);(try simp only [rl]);(try go_simp);(refine(rG (w.heap.size+2) n p _ _ (.slice a3 n c3) news (x.five kb kd lb ld) _ 36 ?_ ?_ dw ra ?_ ?_ rfl kS.out (x.mH kb kd lb ld)).mono ?_);(focus(first|(simp;omega)|omega));(focus(exact eD mC.out Xt));(focus(exact aj));(focus(intro h;have h':=(fP.out _ h).2;(first|omega|(simp at h';omega)|(simp at h';done))));rintro e w6 ⟨g6,bA,rfl,bF,aY,ck⟩;have bD:Held T wb w6:=Held.grown aC aY sM.out;(try go_simp);refine hK.out _ _ (fun _=>aq _ bD) ?_;clear hK K;(try simp only [rl]);have bK:Rd r w w6:=Rd.grown eB aY (fun g hg=>by have:=(fP.out g hg).1;omega) hlt;have sO:=ae (dX iP.out (fun b hb hg=>Held.block (T:=fun c=>(Value.slice a3 n c3).ownBlock≠some c) (Held.grown aC aY (fun k hk h=>h hk)) b (by simp only [Value.ownBlock,Option.map_some,Option.some.injEq] at hg;rw [<-hg];exact oz.out) hb));have gM:∀b,Beside (w.heap.size+2) (.slice a2 n c2) (.slice a3 n c3) b->b<wb.heap.size->b≠g6:=fun b hb hl he=>by
          rcases ck with h'|h'
          ·exact hb.2.2 (he▸h')
          · (first|omega|(simp at h';omega))
         have hnew:∀b,Beside (w.heap.size+2) (.slice a2 n c2) (.slice a3 n c3) b->b<wb.heap.size->Beside (w.heap.size+2) (.slice (some ⟨g5,0,none⟩) (n+1) cY) (.slice (some ⟨g6,0,none⟩) (n+1) bA) b:=fun b hb hl=>⟨hb.1,fun h=>sN.out b hb hl (by simpa [Value.ownBlock] using h.symm),fun h=>gM b hb hl (by simpa [Value.ownBlock] using h.symm)⟩;have hcc:=(kC.out.keep (Held.kept (Held.mono bD qm.out)) hnew).ins p (aU.out.keep (Held.kept (Held.mono bD qm.out)) hnew)
         have mg:Hid (eu w6 (w.heap.size+2) (.slice (some ⟨g5,0,none⟩) (n+1) cY) (.slice (some ⟨g6,0,none⟩) (n+1) bA) (n+1) (ks.take p++key::ks.drop p) (l.take p++x::l.drop p)):=
          ⟨by simp [hks.out];omega,by simp [hll.out];omega,by simpa [List.map_take,List.map_drop] using sO.out,_,bF,hcc⟩
         have nt:Sr w6 r s8 kP:=af.held bD kO (hT0.out _ (by omega));have ag:=af.held bD ag (hT0.out _ (by omega));have ai:=af.held bD ai (hT0.out _ (by omega));have uZ:=bD.size;clear bF aY ck hcc hnew gM aq cE eT aZ dI kO aO;obtain⟨hc1,aA,ay⟩:=ai.see;refine aK 13 (h:=fun K hK=> ?_);(try simp only [rl]);go_simp;refine bz hK (h:= ?_);clear hK K;(try simp only [rl]);refine aK 14 (h:=fun K hK=> ?_);(try simp only [rl]);go_simp;refine bz hK (h:= ?_);clear hK K;(try simp only [rl]);refine aK 15 (h:=fun K hK=> ?_);(try simp only [rl]);go_simp;refine bz hK (h:= ?_);clear hK K;(try simp only [rl]);refine cZ (by kernel_rfl) ?_ _;obtain⟨wy,bS⟩:∃wy,(w6.setCell ⟨w.heap.size+1,3,none⟩ (Value.slice (some ⟨g5,0,none⟩) (n+1) cY)).setCell ⟨w.heap.size+1,4,none⟩ (Value.slice (some ⟨g6,0,none⟩) (n+1) bA)=wy:=⟨_,rfl⟩;have jx:Sr wy r s8 kP:=by rw [<-bS];exact iw
         have ag:aN wy w.heap.size:=by rw [<-bS];exact aj
         have ai:af wy (w.heap.size+1) #[.int .i64 5, .int .i64 0, .string ⟨#[]⟩, .slice (some ⟨g5,0,none⟩) (n+1) cY, .slice (some ⟨g6,0,none⟩) (n+1) bA] 36:=by rw [<-bS];exact aj
         have sP:Held (fun b=>w.heap.size+2<=b) w6 wy:=by rw [<-bS];exact aC
         have cW:Rd r w wy:=by rw [<-bS];exact eB
         rw [bS];clear nt hc1 aA ay bK bS;have nu:=ae (eu.keep mg.out (fun b hb hk=>sP.block b hk hb));have sQ:=ae cK.out.2;have sS:=ae cK.out.1
         have sU:=ae (show n+1+((s8).size+(if kP=true then 0 else 1))<=1048577 by
          have h1:=q8.out;have h2:=cK.out.1;have h3:(⟨#[]⟩:ah).size=0:=rfl;simp only [Bool.false_eq_true,if_false] at h1
          (first|omega|(simp [h3];omega)|(simp [h3];done)))
         go_wp2_with fail;go_roundg ((s8).size+(if kP=true then 0 else 1))
         case measure=>have:=sS.out;simpa using this
         case rel=>exact⟨s8,kP,n+1,ks.take p++key::ks.drop p,l.take p++x::l.drop p,some ⟨g5,0,none⟩,cY,some ⟨g6,0,none⟩,bA,jx,nu.out,ag,ai,rfl,sU.out,cW,sQ.out⟩
       · (try simp only [rl])
         go_simp;refine hK.out _ _ (fun _=>aq _ aC) ?_;clear hK K;(try simp only [rl]);refine aK 5 (h:=fun K hK=> ?_);(try simp only [rl]);(try go_simp);(refine(vO (w.heap.size+2) n p _ _ (.slice a2 n c2) (ks.map Value.string) [.string key] _ 9 ?_ ?_ dw ra ?_ ?_ rfl (px ks) (by simp [Value.oneCell'])).mono ?_);(focus(simp;omega));(focus(exact eD kT.out Xt));(focus(exact aj));(focus(intro h;have h':=(dV.out _ h).2;(first|omega|(simp at h';omega)|(simp at h';done))));rintro e w5 ⟨g5,cY,rfl,dR,cE,fQ⟩;have eT:Held T wb w5:=Held.grown aC cE sL.out;have aZ:Rd r w w5:=Rd.grown eB cE (fun g hg=>by have:=(dV.out g hg).1;omega) hlt;have mC:=ae (dX rf.out (fun b hb hg=>Held.block (T:=fun c=>(Value.slice a2 n c2).ownBlock≠some c) (Held.grown aC cE (fun k hk h=>h hk)) b (fun h=>dW.out b h hg) hb));have fN:(Value.slice a3 n c3).ownBlock≠some g5:=fun h=>by
          rcases fQ with h'|h'
          ·exact dW.out _ h' h
          ·have h2:=(fP.out _ h).2;simp at h';omega
         have sN:Hid (∀b,Beside (w.heap.size+2) (.slice a2 n c2) (.slice a3 n c3) b->b<wb.heap.size->b≠g5):=fun b hb hl he=>by
          rcases fQ with h'|h'
          ·exact hb.2.1 (he▸h')
          ·simp at h';omega
         have fA:wb.heap.size<=w5.heap.size:=eT.size;have iP:=ae dR;have oz:=ae fN;have El:af w5 (wb.heap.size+1) (x.five kb kd lb ld).toArray 36:=af.grown (w':=w5) aj cE (fun e=>by have h':=(dV.out _ e.symm).2;omega);clear dR fQ fN;(try go_simp);refine hK.out _ _ (fun _=>aq _ aC) ?_;clear hK K;refine aG 12 [13] (hS:=aq _ aC) (h:= ?_);(try simp only [rl]);refine aK 11 (h:=fun K hK=> ?_);(try simp only [rl]);(try go_simp);(refine(rG (w.heap.size+2) n p _ _ (.slice a3 n c3) news (x.five kb kd lb ld) _ 36 ?_ ?_ dw ra ?_ ?_ rfl kS.out (x.mH kb kd lb ld)).mono ?_);(focus(first|(simp;omega)|omega));(focus(exact eD mC.out Xt));(focus(exact aj));(focus(intro h;have h':=(fP.out _ h).2;(first|omega|(simp at h';omega)|(simp at h';done))));rintro e w6 ⟨g6,bA,rfl,bF,aY,ck⟩;have bD:Held T wb w6:=Held.grown aC aY sM.out;(try go_simp);refine hK.out _ _ (fun _=>aq _ bD) ?_;clear hK K;(try simp only [rl]);have bK:Rd r w w6:=Rd.grown eB aY (fun g hg=>by have:=(fP.out g hg).1;omega) hlt;have sO:=ae (dX iP.out (fun b hb hg=>Held.block (T:=fun c=>(Value.slice a3 n c3).ownBlock≠some c) (Held.grown aC aY (fun k hk h=>h hk)) b (by simp only [Value.ownBlock,Option.map_some,Option.some.injEq] at hg;rw [<-hg];exact oz.out) hb));have gM:∀b,Beside (w.heap.size+2) (.slice a2 n c2) (.slice a3 n c3) b->b<wb.heap.size->b≠g6:=fun b hb hl he=>by
          rcases ck with h'|h'
          ·exact hb.2.2 (he▸h')
          · (first|omega|(simp at h';omega))
         have hnew:∀b,Beside (w.heap.size+2) (.slice a2 n c2) (.slice a3 n c3) b->b<wb.heap.size->Beside (w.heap.size+2) (.slice (some ⟨g5,0,none⟩) (n+1) cY) (.slice (some ⟨g6,0,none⟩) (n+1) bA) b:=fun b hb hl=>⟨hb.1,fun h=>sN.out b hb hl (by simpa [Value.ownBlock] using h.symm),fun h=>gM b hb hl (by simpa [Value.ownBlock] using h.symm)⟩;have hcc:=(kC.out.keep (Held.kept (Held.mono bD qm.out)) hnew).ins p (aU.out.keep (Held.kept (Held.mono bD qm.out)) hnew)
         have mg:Hid (eu w6 (w.heap.size+2) (.slice (some ⟨g5,0,none⟩) (n+1) cY) (.slice (some ⟨g6,0,none⟩) (n+1) bA) (n+1) (ks.take p++key::ks.drop p) (l.take p++x::l.drop p)):=
          ⟨by simp [hks.out];omega,by simp [hll.out];omega,by simpa [List.map_take,List.map_drop] using sO.out,_,bF,hcc⟩
         have nt:Sr w6 r s8 kP:=af.held bD kO (hT0.out _ (by omega));have ag:=af.held bD ag (hT0.out _ (by omega));have ai:=af.held bD ai (hT0.out _ (by omega));have uZ:=bD.size;clear bF aY ck hcc hnew gM aq cE eT aZ dI kO aO;obtain⟨hc1,aA,ay⟩:=ai.see;refine aK 13 (h:=fun K hK=> ?_);(try simp only [rl]);go_simp;refine bz hK (h:= ?_);clear hK K;(try simp only [rl]);refine aK 14 (h:=fun K hK=> ?_);(try simp only [rl]);go_simp;refine bz hK (h:= ?_);clear hK K;(try simp only [rl]);refine aK 15 (h:=fun K hK=> ?_);(try simp only [rl]);go_simp;refine bz hK (h:= ?_);clear hK K;(try simp only [rl]);refine cZ (by kernel_rfl) ?_ _;obtain⟨wy,bS⟩:∃wy,(w6.setCell ⟨w.heap.size+1,3,none⟩ (Value.slice (some ⟨g5,0,none⟩) (n+1) cY)).setCell ⟨w.heap.size+1,4,none⟩ (Value.slice (some ⟨g6,0,none⟩) (n+1) bA)=wy:=⟨_,rfl⟩;have jx:Sr wy r s8 kP:=by rw [<-bS];exact iw
         have ag:aN wy w.heap.size:=by rw [<-bS];exact aj
         have ai:af wy (w.heap.size+1) #[.int .i64 5, .int .i64 0, .string ⟨#[]⟩, .slice (some ⟨g5,0,none⟩) (n+1) cY, .slice (some ⟨g6,0,none⟩) (n+1) bA] 36:=by rw [<-bS];exact aj
         have sP:Held (fun b=>w.heap.size+2<=b) w6 wy:=by rw [<-bS];exact aC
         have cW:Rd r w wy:=by rw [<-bS];exact eB
         rw [bS];clear nt hc1 aA ay bK bS;have nu:=ae (eu.keep mg.out (fun b hb hk=>sP.block b hk hb));have sQ:=ae cK.out.2;have sS:=ae cK.out.1
         have sU:=ae (show n+1+((s8).size+(if kP=true then 0 else 1))<=1048577 by
          have h1:=q8.out;have h2:=cK.out.1;have h3:(⟨#[]⟩:ah).size=0:=rfl;simp only [Bool.false_eq_true,if_false] at h1
          (first|omega|(simp [h3];omega)|(simp [h3];done)))
         go_wp2_with fail;go_roundg ((s8).size+(if kP=true then 0 else 1))
         case measure=>have:=sS.out;simpa using this
         case rel=>exact⟨s8,kP,n+1,ks.take p++key::ks.drop p,l.take p++x::l.drop p,some ⟨g5,0,none⟩,cY,some ⟨g6,0,none⟩,bA,jx,nu.out,ag,ai,rfl,sU.out,cW,sQ.out⟩
     · (try simp only [rl])
       go_simp;refine hK.out _ _ (fun _=>aq _ aC) ?_;clear hK K;(try simp only [rl]);refine aK 4 (h:=fun K hK=> ?_);(try simp only [rl]);go_simp;refine hK.out _ _ (fun _=>aq _ aC) ?_;clear hK K;(try simp only [rl]);refine aK 5 (h:=fun K hK=> ?_);(try simp only [rl]);(try go_simp);(refine(vO (w.heap.size+2) n p _ _ (.slice a2 n c2) (ks.map Value.string) [.string key] _ 9 ?_ ?_ dw ra ?_ ?_ rfl (px ks) (by simp [Value.oneCell'])).mono ?_);(focus(simp;omega));(focus(exact eD kT.out Xt));(focus(exact aj));(focus(intro h;have h':=(dV.out _ h).2;(first|omega|(simp at h';omega)|(simp at h';done))));rintro e w5 ⟨g5,cY,rfl,dR,cE,fQ⟩;have eT:Held T wb w5:=Held.grown aC cE sL.out;have aZ:Rd r w w5:=Rd.grown eB cE (fun g hg=>by have:=(dV.out g hg).1;omega) hlt;have mC:=ae (dX rf.out (fun b hb hg=>Held.block (T:=fun c=>(Value.slice a2 n c2).ownBlock≠some c) (Held.grown aC cE (fun k hk h=>h hk)) b (fun h=>dW.out b h hg) hb));have fN:(Value.slice a3 n c3).ownBlock≠some g5:=fun h=>by
        rcases fQ with h'|h'
        ·exact dW.out _ h' h
        ·have h2:=(fP.out _ h).2;simp at h';omega
       have sN:Hid (∀b,Beside (w.heap.size+2) (.slice a2 n c2) (.slice a3 n c3) b->b<wb.heap.size->b≠g5):=fun b hb hl he=>by
        rcases fQ with h'|h'
        ·exact hb.2.1 (he▸h')
        ·simp at h';omega
       have fA:wb.heap.size<=w5.heap.size:=eT.size;have iP:=ae dR;have oz:=ae fN;have El:af w5 (wb.heap.size) (x.five kb kd lb ld).toArray 36:=af.grown (w':=w5) aj cE (fun e=>by have h':=(dV.out _ e.symm).2;omega);clear dR fQ fN;(try go_simp);refine hK.out _ _ (fun _=>aq _ aC) ?_;clear hK K;refine aG 12 [13] (hS:=aq _ aC) (h:= ?_);(try simp only [rl]);refine aK 11 (h:=fun K hK=> ?_);(try simp only [rl]);(try go_simp);(refine(rG (w.heap.size+2) n p _ _ (.slice a3 n c3) news (x.five kb kd lb ld) _ 36 ?_ ?_ dw ra ?_ ?_ rfl kS.out (x.mH kb kd lb ld)).mono ?_);(focus(first|(simp;omega)|omega));(focus(exact eD mC.out Xt));(focus(exact aj));(focus(intro h;have h':=(fP.out _ h).2;(first|omega|(simp at h';omega)|(simp at h';done))));rintro e w6 ⟨g6,bA,rfl,bF,aY,ck⟩;have bD:Held T wb w6:=Held.grown aC aY sM.out;(try go_simp);refine hK.out _ _ (fun _=>aq _ bD) ?_;clear hK K;(try simp only [rl]);have bK:Rd r w w6:=Rd.grown eB aY (fun g hg=>by have:=(fP.out g hg).1;omega) hlt;have sO:=ae (dX iP.out (fun b hb hg=>Held.block (T:=fun c=>(Value.slice a3 n c3).ownBlock≠some c) (Held.grown aC aY (fun k hk h=>h hk)) b (by simp only [Value.ownBlock,Option.map_some,Option.some.injEq] at hg;rw [<-hg];exact oz.out) hb));have gM:∀b,Beside (w.heap.size+2) (.slice a2 n c2) (.slice a3 n c3) b->b<wb.heap.size->b≠g6:=fun b hb hl he=>by
        rcases ck with h'|h'
        ·exact hb.2.2 (he▸h')
        · (first|omega|(simp at h';omega))
       have hnew:∀b,Beside (w.heap.size+2) (.slice a2 n c2) (.slice a3 n c3) b->b<wb.heap.size->Beside (w.heap.size+2) (.slice (some ⟨g5,0,none⟩) (n+1) cY) (.slice (some ⟨g6,0,none⟩) (n+1) bA) b:=fun b hb hl=>⟨hb.1,fun h=>sN.out b hb hl (by simpa [Value.ownBlock] using h.symm),fun h=>gM b hb hl (by simpa [Value.ownBlock] using h.symm)⟩;have hcc:=(kC.out.keep (Held.kept (Held.mono bD qm.out)) hnew).ins p (aU.out.keep (Held.kept (Held.mono bD qm.out)) hnew)
       have mg:Hid (eu w6 (w.heap.size+2) (.slice (some ⟨g5,0,none⟩) (n+1) cY) (.slice (some ⟨g6,0,none⟩) (n+1) bA) (n+1) (ks.take p++key::ks.drop p) (l.take p++x::l.drop p)):=
        ⟨by simp [hks.out];omega,by simp [hll.out];omega,by simpa [List.map_take,List.map_drop] using sO.out,_,bF,hcc⟩
       have nt:Sr w6 r s8 kP:=af.held bD kO (hT0.out _ (by omega));have ag:=af.held bD ag (hT0.out _ (by omega));have ai:=af.held bD ai (hT0.out _ (by omega));have uZ:=bD.size;clear bF aY ck hcc hnew gM aq cE eT aZ dI kO aO;obtain⟨hc1,aA,ay⟩:=ai.see;refine aK 13 (h:=fun K hK=> ?_);(try simp only [rl]);go_simp;refine bz hK (h:= ?_);clear hK K;(try simp only [rl]);refine aK 14 (h:=fun K hK=> ?_);(try simp only [rl]);go_simp;refine bz hK (h:= ?_);clear hK K;(try simp only [rl]);refine aK 15 (h:=fun K hK=> ?_);(try simp only [rl]);go_simp;refine bz hK (h:= ?_);clear hK K;(try simp only [rl]);refine cZ (by kernel_rfl) ?_ _;obtain⟨wy,bS⟩:∃wy,(w6.setCell ⟨w.heap.size+1,3,none⟩ (Value.slice (some ⟨g5,0,none⟩) (n+1) cY)).setCell ⟨w.heap.size+1,4,none⟩ (Value.slice (some ⟨g6,0,none⟩) (n+1) bA)=wy:=⟨_,rfl⟩;have jx:Sr wy r s8 kP:=by rw [<-bS];exact iw
       have ag:aN wy w.heap.size:=by rw [<-bS];exact aj
       have ai:af wy (w.heap.size+1) #[.int .i64 5, .int .i64 0, .string ⟨#[]⟩, .slice (some ⟨g5,0,none⟩) (n+1) cY, .slice (some ⟨g6,0,none⟩) (n+1) bA] 36:=by rw [<-bS];exact aj
       have sP:Held (fun b=>w.heap.size+2<=b) w6 wy:=by rw [<-bS];exact aC
       have cW:Rd r w wy:=by rw [<-bS];exact eB
       rw [bS];clear nt hc1 aA ay bK bS;have nu:=ae (eu.keep mg.out (fun b hb hk=>sP.block b hk hb));have sQ:=ae cK.out.2;have sS:=ae cK.out.1
       have sU:=ae (show n+1+((s8).size+(if kP=true then 0 else 1))<=1048577 by
        have h1:=q8.out;have h2:=cK.out.1;have h3:(⟨#[]⟩:ah).size=0:=rfl;simp only [Bool.false_eq_true,if_false] at h1
        (first|omega|(simp [h3];omega)|(simp [h3];done)))
       go_wp2_with fail;go_roundg ((s8).size+(if kP=true then 0 else 1))
       case measure=>have:=sS.out;simpa using this
       case rel=>exact⟨s8,kP,n+1,ks.take p++key::ks.drop p,l.take p++x::l.drop p,some ⟨g5,0,none⟩,cY,some ⟨g6,0,none⟩,bA,jx,nu.out,ag,ai,rfl,sU.out,cW,sQ.out⟩
   ·have yC:((c4.toNat:Int) !=34)=true:=by simpa using hq
    have bw:=ae (show R=none by
     rw [vL.out];unfold vM
     rw [acG (fun h=>hq (by rw [<-HA.out,zH.out,h];rfl))];rfl)
    go_wp2_with fail;(refine(lX r s4 false _ hr4).mono ?_);rintro e wn ⟨rfl,rfl⟩;rw [HA.out];go_wp2_with fail;(refine(dE r s4 false _ hr4).mono ?_);rintro e w5 ⟨rfl,qZ,h5⟩;have nY:=af.rd h5 sy (by omega);have nN:=af.rd h5 ME (by omega);have aZ:=bH.trans h5;have zI:=ae (eu.rd xJ.out h5 (by omega));have pE:=ae (show (true=false/\R=some ((ks,l),([]:Bytes)))\/ (true=true/\ (⟨#[]⟩:ah).data.toList= []/\R=none) from .inr ⟨rfl,rfl,bw.out⟩);have Hfn:=ae bw.out;have fA:=h5.size;obtain⟨hc0,aw,hl0⟩:=nY.see;obtain⟨Mw,Mx,My⟩:=nN.see;go_wp2_with fail;refine aF (h:= ?_);have uQ:=eu.obj zI.out;have e1:=zI.out.nk;have e2:=zI.out.nl;refine⟨eB, .mk 5 0 ⟨#[]⟩ ks l,a2,c2,a3,c3,⟨#[]⟩,true,by simp [V.val,e1,e2],uQ.keep (Held.kept (a:=w5) (T:=fun b=>w.heap.size+2<=b) aC) (fun b hb _=>by omega),iw, .inr ⟨rfl,rfl,by rw [bw.out];rfl⟩⟩
theorem xK {f:Nat} {s t:Bytes} {c:UInt8} (h:dO s=c::t):cu (f+1) s=(
 if c=110 then(if [117,108,108].isPrefixOf t=true then some (V.zero,t.drop 3) else none)
 else if c=116 then(if [114,117,101].isPrefixOf t=true then some (ze,t.drop 3) else none)
 else if c=102 then(if [97,108,115,101].isPrefixOf t=true then some (zf,t.drop 4) else none)
 else if c=34 then(gN (t.length+1) t []).map fun p=>(.mk 3 0 ⟨p.1.toArray⟩ [] [],p.2)
 else if c=45\/gP c=true then(eG (c::t)).map fun p=>(.mk 2 p.1 ⟨#[]⟩ [] [],p.2)
 else if c=91 then(jd (cu f) (t.length+1) t []).map fun p=>(.mk 4 0 ⟨#[]⟩ [] p.1,p.2)
 else if c=123 then(km (cu f) (t.length+1) t [] []).map fun p=>(.mk 5 0 ⟨#[]⟩ p.1.1 p.1.2,p.2)
 else none):=by
 rw [cu,h]
theorem acQ {f:Nat} {s t:Bytes} (h:dO s=110::t):cu (f+1) s=if(⟨#[110,117,108,108]⟩:ah).data.toList.isPrefixOf (110::t)=true then some (V.zero,(110::t).drop 4) else none:=by
 rw [xK h];simp [List.isPrefixOf]
theorem acR {f:Nat} {s t:Bytes} (h:dO s=116::t):cu (f+1) s=if(⟨#[116,114,117,101]⟩:ah).data.toList.isPrefixOf (116::t)=true then some (ze,(116::t).drop 4) else none:=by
 rw [xK h];simp [List.isPrefixOf]
theorem acS {f:Nat} {s t:Bytes} (h:dO s=102::t):cu (f+1) s=if(⟨#[102,97,108,115,101]⟩:ah).data.toList.isPrefixOf (102::t)=true then some (zf,(102::t).drop 5) else none:=by
 rw [xK h];simp [List.isPrefixOf]
theorem acT {f:Nat} {s t:Bytes} (h:dO s=34::t):cu (f+1) s=(gN (t.length+1) t []).map fun p=>(.mk 3 0 ⟨p.1.toArray⟩ [] [],p.2):=by
 rw [xK h];rfl
theorem TP {f:Nat} {s t:Bytes} {c:UInt8} (h:dO s=c::t) (hd:c=45\/gP c=true):cu (f+1) s=(eG (c::t)).map fun p=>(.mk 2 p.1 ⟨#[]⟩ [] [],p.2):=by
 have:=Z0 hd;rw [xK h,if_neg this.2.2.2.2.1,if_neg this.2.2.2.2.2.1,if_neg this.2.2.2.2.2.2.1,if_neg this.2.2.2.2.2.2.2,if_pos hd]
theorem acU {f:Nat} {s t:Bytes} (h:dO s=91::t):cu (f+1) s=(jd (cu f) (t.length+1) t []).map fun p=>(.mk 4 0 ⟨#[]⟩ [] p.1,p.2):=by
 rw [xK h];rfl
theorem acV {f:Nat} {s t:Bytes} (h:dO s=123::t):cu (f+1) s=(km (cu f) (t.length+1) t [] []).map fun p=>(.mk 5 0 ⟨#[]⟩ p.1.1 p.1.2,p.2):=by
 rw [xK h];rfl
theorem TQ {f:Nat} {s s1:Bytes} {c:UInt8} (h:s1=dO s) (hc:gA s1=c) (hn:c≠110/\c≠116/\c≠102/\c≠34/\¬(c=45\/gP c=true)/\c≠91/\c≠123):cu (f+1) s=none:=by
 cases hq:s1 with
 |nil=>rw [cu,<-h,hq]
 |cons d t=>
  rw [hq] at hc;have hc:d=c:=hc;subst hc;obtain⟨h1,h2,h3,h4,h5,h6,h7⟩:=hn;rw [xK (h.symm.trans hq),if_neg h1,if_neg h2,if_neg h3,if_neg h4,if_neg h5,if_neg h6,if_neg h7]
theorem head_cons {l:Bytes} {c:UInt8} (h:gA l=c) (h0:(c.toNat:Int)≠0):∃t,l=c::t:=by
 cases l with
 |nil=>rw [<-h] at h0;exact absurd rfl h0
 |cons d t=>have h:d=c:=h;exact⟨t,by rw [h]⟩
theorem xL {bad:Bool} {s s1:Bytes} {c:UInt8} (hb:bad=true->s= []) (h:s1=dO s) (hc:gA s1=c) (h0:(c.toNat:Int)≠0):bad=false:=by
 cases bad with
 |false=>rfl
 |true=>
  rw [hb rfl] at h;subst h;rw [<-hc] at h0;exact absurd rfl h0
theorem pF {c d:UInt8} (h:(c.toNat:Int)≠d.toNat):c≠d:=fun e=>h (by rw [e])
theorem acW:∀f:Nat,f<=13->Mq f:=by
 intro f
 induction f with
 |zero=>
  intro _ r d s bad w hd hb hsz hr hl;obtain rfl:d=13:=by omega
  have hlt:=hr.lt;clear hd hb hl;go_enter func47,ntmps47;go_upto_region 1 with fail
  refine aI (R:=fun wx=>aN wx w.heap.size/\Ext w wx) ⟨aj,Xt⟩ ?_;rintro wa ⟨hB,aH⟩;have qW:=hr.ext aH;go_wp2_with fail;(refine(Bl r s bad _ qW).mono ?_);rintro e w1 ⟨rfl,⟨s1,hs1,hr1⟩,h1⟩;have ai:=af.rd h1 hB (by omega);have hx1:Rd r w w1:=(Rd.of hlt aH).trans h1;have hz1:=ai.lt;clear hs1 h1 hB qW aH hr;go_wp2_with fail;(refine(dE r s1 bad _ hr1).mono ?_);rintro e w2 ⟨rfl,hr2,h2⟩;have ak:=af.rd h2 ai (by omega);have hx2:=hx1.trans h2;clear hr1 ai hx1 h2;go_wp2_with fail;(refine(lX r ⟨#[]⟩ true _ hr2).mono ?_);rintro e w3 ⟨rfl,rfl⟩;have e0:(gA (⟨#[]⟩:ah).data.toList).toNat=0:=rfl;rw [e0];clear e0;go_wp2_with fail;(refine(dE r ⟨#[]⟩ true _ hr2).mono ?_);rintro e w4 ⟨rfl,hr4,h4⟩;have hB4:=af.rd h4 ak (by omega);have bH:=hx2.trans h4;clear hr2 ak hx2 h4;obtain⟨se,xu,hl4⟩:=hB4.see;go_wp2_with fail;refine aF (h:= ?_);exact⟨eB,V.zero,none,0,none,0,⟨#[]⟩,true,rfl,V.mJ _ _,iw, .inr ⟨rfl,rfl,rfl⟩⟩
 |succ f ih=>
  intro hf r d s bad w hd hb hsz hr hl;have ih:=ih (by omega);have hlt:=hr.lt;have hd1:¬(12:Int)<d:=by omega
  have hd2:0<=d:=by omega
  have TR:d=12-(f:Int):=by omega
  have Hb:=ae hb;have Hl:=ae hl;have TS:=ae TR;clear hd hb hl TR;go_enter func47,ntmps47;go_upto_region 1 with fail
  refine aI (R:=fun wx=>aN wx w.heap.size/\Ext w wx) ⟨aj,Xt⟩ ?_;rintro wa ⟨hB,aH⟩;have qW:=hr.ext aH;go_wp2_with fail;(refine(Bl r s bad _ qW).mono ?_);rintro e w1 ⟨rfl,⟨s1,hs1,hr1⟩,h1⟩;have hB:=af.rd h1 hB (by omega);have hx1:Rd r w w1:=(Rd.of hlt aH).trans h1;have hz1:=hB.lt;have qY:s1.size<=1048576:=by have e1:s.data.toList.length=s.size:=Array.length_toList;have e2:s1.data.toList.length=s1.size:=Array.length_toList;have:=ng s.data.toList;rw [hs1] at e2;omega
  have dY:=ae hs1;clear hs1 h1 qW aH hr;obtain⟨c,hc⟩:∃c,gA s1.data.toList=c:=⟨_,rfl⟩;have Hc:=ae hc;clear hc;have hcl:(c.toNat:Int)<256:=by have:=c.toNat_lt;omega
  obtain⟨hc1,aA,ay⟩:=hB.see;go_wp2_with fail;(refine(lX r s1 bad _ hr1).mono ?_);rintro e wn ⟨rfl,rfl⟩;rw [Hc.out];by_cases HZ:(c.toNat:Int)=110
  ·have acX:((c.toNat:Int)==110)=true:=by simpa using HZ
   obtain⟨t1,ht1⟩:=head_cons Hc.out (by omega);obtain rfl:bad=false:=xL Hb.out dY.out Hc.out (by omega);have hcn:c=110:=by apply UInt8.toNat_inj.1;simpa using (by omega:c.toNat=110)
   have jL:=ae (show cu (f+1) s.data.toList=if(⟨#[110,117,108,108]⟩:ah).data.toList.isPrefixOf s1.data.toList=true then some (V.zero,s1.data.toList.drop 4) else none from by rw [ht1,hcn];exact acQ (by rw [<-dY.out,ht1,hcn]));clear ht1 hcn;go_wp2_with fail;(refine(xC r s1 false ⟨#[110,117,108,108]⟩ _ hr1).mono ?_);rintro e w3 ⟨rfl,h3,cV⟩;have aV:=af.rd h3 hB (by omega);have hx3:=hx1.trans h3;have hz3:=h3.size;have gL:=ae cV;clear cV h3 hB hx1 hr1 hc1 aA ay;obtain⟨hc3,hf3,aR⟩:=aV.see;go_wp2_with fail;refine aF (h:= ?_);rcases gL.out with⟨hp,s3,hs3,hr3⟩|⟨hp,hr3⟩
   ·exact⟨eB,V.zero,none,0,none,0,s3,false,rfl,(V.dz ..).2 ⟨aM.nil,aM.nil, .inl rfl, .inl rfl⟩,iw, .inl ⟨rfl,by rw [jL.out,if_pos hp,hs3];rfl⟩⟩
   ·exact⟨eB,V.zero,none,0,none,0,⟨#[]⟩,true,rfl,(V.dz ..).2 ⟨aM.nil,aM.nil, .inl rfl, .inl rfl⟩,iw, .inr ⟨rfl,rfl,by rw [jL.out,if_neg (by rw [hp];decide)]⟩⟩
  have acX:((c.toNat:Int)==110)=false:=by simpa using HZ
  by_cases c116:(c.toNat:Int)=116
  ·have acY:((c.toNat:Int)==116)=true:=by simpa using c116
   obtain⟨t1,ht1⟩:=head_cons Hc.out (by omega);obtain rfl:bad=false:=xL Hb.out dY.out Hc.out (by omega);have hcn:c=116:=by apply UInt8.toNat_inj.1;simpa using (by omega:c.toNat=116)
   have jL:=ae (show cu (f+1) s.data.toList=if(⟨#[116,114,117,101]⟩:ah).data.toList.isPrefixOf s1.data.toList=true then some (ze,s1.data.toList.drop 4) else none from by rw [ht1,hcn];exact acR (by rw [<-dY.out,ht1,hcn]));clear ht1 hcn;go_wp2_with fail;(refine(xC r s1 false ⟨#[116,114,117,101]⟩ _ hr1).mono ?_);rintro e w3 ⟨rfl,h3,cV⟩;have aV:=af.rd h3 hB (by omega);have hx3:=hx1.trans h3;have hz3:=h3.size;have gL:=ae cV;clear cV h3 hB hx1 hr1 hc1 aA ay;obtain⟨hc3,hf3,aR⟩:=aV.see;go_wp2_with fail;refine aF (h:= ?_);rcases gL.out with⟨hp,s3,hs3,hr3⟩|⟨hp,hr3⟩
   ·exact⟨eB,ze,none,0,none,0,s3,false,rfl,(V.dz ..).2 ⟨aM.nil,aM.nil, .inl rfl, .inl rfl⟩,iw, .inl ⟨rfl,by rw [jL.out,if_pos hp,hs3];rfl⟩⟩
   ·exact⟨eB,ze,none,0,none,0,⟨#[]⟩,true,rfl,(V.dz ..).2 ⟨aM.nil,aM.nil, .inl rfl, .inl rfl⟩,iw, .inr ⟨rfl,rfl,by rw [jL.out,if_neg (by rw [hp];decide)]⟩⟩
  have acY:((c.toNat:Int)==116)=false:=by simpa using c116
  by_cases H3:(c.toNat:Int)=102
  ·have acZ:((c.toNat:Int)==102)=true:=by simpa using H3
   obtain⟨t1,ht1⟩:=head_cons Hc.out (by omega);obtain rfl:bad=false:=xL Hb.out dY.out Hc.out (by omega);have hcn:c=102:=by apply UInt8.toNat_inj.1;simpa using (by omega:c.toNat=102)
   have jL:=ae (show cu (f+1) s.data.toList=if(⟨#[102,97,108,115,101]⟩:ah).data.toList.isPrefixOf s1.data.toList=true then some (zf,s1.data.toList.drop 5) else none from by rw [ht1,hcn];exact acS (by rw [<-dY.out,ht1,hcn]));clear ht1 hcn;go_wp2_with fail;(refine(xC r s1 false ⟨#[102,97,108,115,101]⟩ _ hr1).mono ?_);rintro e w3 ⟨rfl,h3,cV⟩;have aV:=af.rd h3 hB (by omega);have hx3:=hx1.trans h3;have hz3:=h3.size;have gL:=ae cV;clear cV h3 hB hx1 hr1 hc1 aA ay;obtain⟨hc3,hf3,aR⟩:=aV.see;go_wp2_with fail;refine aF (h:= ?_);rcases gL.out with⟨hp,s3,hs3,hr3⟩|⟨hp,hr3⟩
   ·exact⟨eB,zf,none,0,none,0,s3,false,rfl,(V.dz ..).2 ⟨aM.nil,aM.nil, .inl rfl, .inl rfl⟩,iw, .inl ⟨rfl,by rw [jL.out,if_pos hp,hs3];rfl⟩⟩
   ·exact⟨eB,zf,none,0,none,0,⟨#[]⟩,true,rfl,(V.dz ..).2 ⟨aM.nil,aM.nil, .inl rfl, .inl rfl⟩,iw, .inr ⟨rfl,rfl,by rw [jL.out,if_neg (by rw [hp];decide)]⟩⟩
  have acZ:((c.toNat:Int)==102)=false:=by simpa using H3
  by_cases lW:(c.toNat:Int)=34
  ·have LX:((c.toNat:Int)==34)=true:=by simpa using lW
   obtain⟨t1,ht1⟩:=head_cons Hc.out (by omega);obtain rfl:bad=false:=xL Hb.out dY.out Hc.out (by omega);have hcn:c=34:=by apply UInt8.toNat_inj.1;simpa using (by omega:c.toNat=34)
   have pG:=ae (show s1.data.toList=34::t1 by rw [ht1,hcn]);have jL:=ae (acT (f:=f) (dY.out.symm.trans pG.out));clear ht1 hcn;go_wp2_with fail;(refine(Tc r s1 t1 pG.out qY _ hr1).mono ?_);rintro e w3 hT;obtain⟨h3,b,s3,ou,rfl,-,hr3,cV⟩:=hT;have aV:=af.rd h3 hB (by omega);have hx3:=hx1.trans h3;have hz3:=h3.size;have gL:=ae cV;clear cV h3 hB hx1 hr1 hc1 aA ay;obtain⟨hc3,hf3,aR⟩:=aV.see;go_wp2_with fail;refine aF (h:= ?_);refine⟨eB, .mk 3 0 b [] [],none,0,none,0,s3,ou,rfl,(V.dz ..).2 ⟨aM.nil,aM.nil, .inl rfl, .inl rfl⟩,iw,?_⟩;rw [jL.out];rcases gL.out with⟨rfl,h⟩|⟨rfl,h0,h⟩
   ·exact .inl ⟨rfl,by rw [h];rfl⟩
   ·exact .inr ⟨rfl,h0,by rw [h];rfl⟩
  have LX:((c.toNat:Int)==34)=false:=by simpa using lW
  by_cases c91:(c.toNat:Int)=91
  ·have b91:((c.toNat:Int)==91)=true:=by simpa using c91
   have MK:((c.toNat:Int)==45)=false:=by simpa using (by omega:(c.toNat:Int)≠45)
   have d48:decide ((48:Int)<= (c.toNat:Int))=true:=by simpa using (by omega:(48:Int)<= (c.toNat:Int))
   have d57:decide ((c.toNat:Int)<=57)=false:=by simpa using (by omega:(57:Int)<(c.toNat:Int))
   obtain⟨t1,ht1⟩:=head_cons Hc.out (by omega);obtain rfl:bad=false:=xL Hb.out dY.out Hc.out (by omega);have hcn:c=91:=by apply UInt8.toNat_inj.1;simpa using (by omega:c.toNat=91)
   have pG:=ae (show s1.data.toList=91::t1 by rw [ht1,hcn]);have jL:=ae (acU (f:=f) (dY.out.symm.trans pG.out));clear ht1 hcn;go_wp2_with fail;(refine(acz f ih r d TS.out (by omega) s1 t1 pG.out qY _ hr1 (Hl.out.on (Rd.below (Rd.ext hx1 hlt Xt)))).mono ?_);rintro e w3 ⟨h3,v,ka,kc,la,lc,s3,ou,rfl,bf,hr3,cV⟩;have bg:=ae bf;clear bf;have aV:=af.rd h3 hB (by omega);have hx3:=hx1.trans h3;have hz3:=h3.size;have gL:=ae cV;clear cV h3 hB hx1 hr1 hc1 aA ay;obtain⟨hc3,hf3,aR⟩:=aV.see;go_wp2_with fail;refine aF (h:= ?_);refine⟨eB,v,ka,kc,la,lc,s3,ou,rfl,bg.out.keep (Held.kept (a:=w3) (T:=fun b=>wn.heap.size<=b) aC) (fun b hb _=>by omega),iw,?_⟩;rw [jL.out];exact gL.out
  have b91:((c.toNat:Int)==91)=false:=by simpa using c91
  by_cases H6:(c.toNat:Int)=123
  ·have ac0:((c.toNat:Int)==123)=true:=by simpa using H6
   have MK:((c.toNat:Int)==45)=false:=by simpa using (by omega:(c.toNat:Int)≠45)
   have d48:decide ((48:Int)<= (c.toNat:Int))=true:=by simpa using (by omega:(48:Int)<= (c.toNat:Int))
   have d57:decide ((c.toNat:Int)<=57)=false:=by simpa using (by omega:(57:Int)<(c.toNat:Int))
   obtain⟨t1,ht1⟩:=head_cons Hc.out (by omega);obtain rfl:bad=false:=xL Hb.out dY.out Hc.out (by omega);have hcn:c=123:=by apply UInt8.toNat_inj.1;simpa using (by omega:c.toNat=123)
   have pG:=ae (show s1.data.toList=123::t1 by rw [ht1,hcn]);have jL:=ae (acV (f:=f) (dY.out.symm.trans pG.out));clear ht1 hcn;go_wp2_with fail;(refine(acL f ih r d TS.out (by omega) s1 t1 pG.out qY _ hr1 (Hl.out.on (Rd.below (Rd.ext hx1 hlt Xt)))).mono ?_);rintro e w3 ⟨h3,v,ka,kc,la,lc,s3,ou,rfl,bf,hr3,cV⟩;have bg:=ae bf;clear bf;have aV:=af.rd h3 hB (by omega);have hx3:=hx1.trans h3;have hz3:=h3.size;have gL:=ae cV;clear cV h3 hB hx1 hr1 hc1 aA ay;obtain⟨hc3,hf3,aR⟩:=aV.see;go_wp2_with fail;refine aF (h:= ?_);refine⟨eB,v,ka,kc,la,lc,s3,ou,rfl,bg.out.keep (Held.kept (a:=w3) (T:=fun b=>wn.heap.size<=b) aC) (fun b hb _=>by omega),iw,?_⟩;rw [jL.out];exact gL.out
  have ac0:((c.toNat:Int)==123)=false:=by simpa using H6
  by_cases H8:(c.toNat:Int)=45
  ·have MK:((c.toNat:Int)==45)=true:=by simpa using H8
   obtain⟨t1,ht1⟩:=head_cons Hc.out (by omega);obtain rfl:bad=false:=xL Hb.out dY.out Hc.out (by omega);have Em:c=45\/gP c=true:= .inl (by apply UInt8.toNat_inj.1;simpa using (by omega:c.toNat=45));have pG:=ae ht1;have jL:=ae (TP (f:=f) (dY.out.symm.trans ht1) Em);clear ht1 Em;go_wp2_with fail;(refine(SQ r s1 c t1 pG.out qY _ hr1 (Hl.out.on (Rd.below (Rd.ext hx1 hlt Xt)))).mono ?_);rintro e w3 ⟨h3,k,s3,ou,rfl,hr3,cV⟩;have aV:=af.rd h3 hB (by omega);have hx3:=hx1.trans h3;have hz3:=h3.size;have gL:=ae cV;clear cV h3 hB hx1 hr1 hc1 aA ay;obtain⟨hc3,hf3,aR⟩:=aV.see;go_wp2_with fail;refine aF (h:= ?_);refine⟨eB, .mk 2 k ⟨#[]⟩ [] [],none,0,none,0,s3,ou,rfl,(V.dz ..).2 ⟨aM.nil,aM.nil, .inl rfl, .inl rfl⟩,iw,?_⟩;rw [jL.out,<-pG.out];rcases gL.out with⟨rfl,h⟩|⟨rfl,h0,h⟩
   ·exact .inl ⟨rfl,by rw [h];rfl⟩
   ·exact .inr ⟨rfl,h0,by rw [h];rfl⟩
  have MK:((c.toNat:Int)==45)=false:=by simpa using H8
  by_cases TT:(48:Int)<= (c.toNat:Int)
  ·have d48:decide ((48:Int)<= (c.toNat:Int))=true:=by simpa using TT
   by_cases TU:(c.toNat:Int)<=57
   ·have d57:decide ((c.toNat:Int)<=57)=true:=by simpa using TU
    obtain⟨t1,ht1⟩:=head_cons Hc.out (by omega);obtain rfl:bad=false:=xL Hb.out dY.out Hc.out (by omega);have Em:c=45\/gP c=true:= .inr (by rw [vH,d48,d57];rfl);have pG:=ae ht1;have jL:=ae (TP (f:=f) (dY.out.symm.trans ht1) Em);clear ht1 Em;go_wp2_with fail;(refine(SQ r s1 c t1 pG.out qY _ hr1 (Hl.out.on (Rd.below (Rd.ext hx1 hlt Xt)))).mono ?_);rintro e w3 ⟨h3,k,s3,ou,rfl,hr3,cV⟩;have aV:=af.rd h3 hB (by omega);have hx3:=hx1.trans h3;have hz3:=h3.size;have gL:=ae cV;clear cV h3 hB hx1 hr1 hc1 aA ay;obtain⟨hc3,hf3,aR⟩:=aV.see;go_wp2_with fail;refine aF (h:= ?_);refine⟨eB, .mk 2 k ⟨#[]⟩ [] [],none,0,none,0,s3,ou,rfl,(V.dz ..).2 ⟨aM.nil,aM.nil, .inl rfl, .inl rfl⟩,iw,?_⟩;rw [jL.out,<-pG.out];rcases gL.out with⟨rfl,h⟩|⟨rfl,h0,h⟩
    ·exact .inl ⟨rfl,by rw [h];rfl⟩
    ·exact .inr ⟨rfl,h0,by rw [h];rfl⟩
   ·have d57:decide ((c.toNat:Int)<=57)=false:=by simpa using TU
    have hno:c≠110/\c≠116/\c≠102/\c≠34/\¬(c=45\/gP c=true)/\c≠91/\c≠123:=⟨pF HZ,pF c116,pF H3,pF lW,fun h=>h.elim (pF H8) (fun h=>by rw [vH,d57] at h;simp at h),pF c91,pF H6⟩;have jL:=ae (TQ (f:=f) dY.out Hc.out hno);clear hno;go_wp2_with fail;(refine(dE r s1 bad _ hr1).mono ?_);rintro e w3 ⟨rfl,hr3,h3⟩;have cV:=True.intro;have aV:=af.rd h3 hB (by omega);have hx3:=hx1.trans h3;have hz3:=h3.size;have gL:=ae cV;clear cV h3 hB hx1 hr1 hc1 aA ay;obtain⟨hc3,hf3,aR⟩:=aV.see;go_wp2_with fail;refine aF (h:= ?_);exact⟨eB,V.zero,none,0,none,0,⟨#[]⟩,true,rfl,V.mJ _ _,iw, .inr ⟨rfl,rfl,jL.out⟩⟩
  ·have d48:decide ((48:Int)<= (c.toNat:Int))=false:=by simpa using TT
   have hno:c≠110/\c≠116/\c≠102/\c≠34/\¬(c=45\/gP c=true)/\c≠91/\c≠123:=⟨pF HZ,pF c116,pF H3,pF lW,fun h=>h.elim (pF H8) (fun h=>by rw [vH,d48] at h;simp at h),pF c91,pF H6⟩;have jL:=ae (TQ (f:=f) dY.out Hc.out hno);clear hno;go_wp2_with fail;(refine(dE r s1 bad _ hr1).mono ?_);rintro e w3 ⟨rfl,hr3,h3⟩;have cV:=True.intro;have aV:=af.rd h3 hB (by omega);have hx3:=hx1.trans h3;have hz3:=h3.size;have gL:=ae cV;clear cV h3 hB hx1 hr1 hc1 aA ay;obtain⟨hc3,hf3,aR⟩:=aV.see;go_wp2_with fail;refine aF (h:= ?_);exact⟨eB,V.zero,none,0,none,0,⟨#[]⟩,true,rfl,V.mJ _ _,iw, .inr ⟨rfl,rfl,jL.out⟩⟩
theorem ac1 {s:Bytes} {v:V} {t:Bytes} (hl:¬2000<s.length) (h:cu 12 s=some (v,t)):dQ s=if dO t= []/\v.fine=true then(v,0) else(V.zero,1):=by
 unfold dQ Dn;rw [if_neg hl,h];simp only [Option.bind_some];by_cases hc:dO t= []/\v.fine=true
 ·rw [if_pos hc,if_pos hc]
 ·rw [if_neg hc,if_neg hc]
theorem ac2 {s:Bytes} (hl:¬2000<s.length) (h:cu 12 s=none):dQ s=(V.zero,1):=by
 unfold dQ Dn;rw [if_neg hl,h];rfl
theorem ac3 (s:Bytes) (h:(dQ s).2≠0):(dQ s).1=V.zero:=by
 unfold dQ at h⊢
 split
 ·rfl
 ·split
  ·rename_i h1 _ _ h2;rw [if_neg h1,h2] at h;exact absurd rfl h
  ·rfl
theorem ac4 (s:Bytes) (h:(dQ s).2=0):(dQ s).1.fine=true/\s.length<=2000:=by
 unfold dQ at h⊢
 split at h
 ·simp at h
 ·rename_i h1
  rw [if_neg h1]
  split at h
  ·rename_i v h2
   exact⟨ZX h2,by omega⟩
  ·simp at h
def ac5 (r:V×Int) (w:World) (e:Ending) (w':World):Prop:=∃(ka:au) (kc:Nat) (la:au) (lc:Nat),e= .returned (.tuple #[r.1.val ka kc la lc, .int .i64 r.2])/\r.1.In w' (fun b=>w.heap.size<=b) ka kc la lc/\Ext w w'
theorem cM.ac6 {w wr:World} (h:cM w) (hx:Ext w wr) {r:Nat} (hr:w.heap.size<=r):uu r wr:=fun w' hb=>h.ext (Below.trans hx (Below.mono hb hr))
theorem TV (s:ah) (w:World) (hm:s.size<=1099511627776) (hl:cM w):Calls prog 24 #[.string s] w (ac5 (dQ s.data.toList) w):=by
 have hsl:s.data.toList.length=s.size:=Array.length_toList;by_cases hlo:2000<s.size
 ·have Hp:=ae (show dQ s.data.toList=(V.zero,2) by unfold dQ;rw [if_pos (by omega)])
  clear hsl;go_enter func24,ntmps24;go_wp2_with fail;refine aF (h:= ?_);rw [Hp.out];exact⟨none,0,none,0,rfl,V.mJ _ _,Xt⟩
 ·have DW:¬2000<s.data.toList.length:=by omega
  have TW:=ae DW;clear DW hsl;go_enter func24,ntmps24;go_upto_region 4 with fail
  refine aI (R:=fun wx=>aN wx w.heap.size/\Sr wx (w.heap.size+1) s false/\Ext w wx) ⟨aj,iw,Xt⟩ ?_;rintro wa ⟨hB,hr,aH⟩;have ahn:=hr.lt;go_wp2_with fail;(refine(acW 12 (by omega) (w.heap.size+1) 1 s false _ rfl (fun h=>by cases h) (by omega) hr (hl.ac6 aH (by omega))).mono ?_);rintro e w1 ⟨h1,v,ka,kc,la,lc,s1,ML,rfl,eJ,hr1,cV⟩;have ai:=af.rd h1 hB (by omega);have hx1:Ext w w1:=Below.trans aH (Below.mono h1.below (by omega));have hz1:=h1.size;have lM:=ae (show v.In w1 (fun b=>w.heap.size+2<=b) ka kc la lc from eJ.mono fun b hb _=>by omega);have gL:=ae cV;clear cV eJ h1 hB hr;go_upto_region 5 with fail
  refine aI (R:=fun wx=>aN wx w.heap.size/\Sr wx (w.heap.size+1) s1 ML/\aD wx w1.heap.size v ka kc la lc/\v.In wx (fun b=>w.heap.size+2<=b) ka kc la lc/\Ext w wx) ⟨aj,iw,aj,lM.out.ext Xt,Xt⟩ ?_;clear ai hr1 lM hx1;rintro wb ⟨ag,kO,rV,xM,aO⟩;have lC:=ae xM;clear xM;go_wp2_with fail;(refine(Bl (w.heap.size+1) s1 ML _ kO).mono ?_);rintro e w2 ⟨rfl,⟨s2,hs2,hr2⟩,h2⟩;have ag:=af.rd h2 ag (by omega);have rV:=af.rd h2 rV (by omega);have hx2:Ext w w2:=Below.trans aO (Below.mono h2.below (by omega));have bE:=ae (In.rd h2 lC.out (fun b h=>by omega));have jv:=ae hs2;clear hs2 h2 kO lC aO;obtain⟨hc0,aw,hl0⟩:=ag.see;obtain⟨hcv,zr,hlv⟩:=rV.see;have hcr:=hr2.cells;have vI:=hr2.free;have hlr:=hr2.lt
  cases ML with
  |true=>
   have Hp:=ae (ac2 TW.out (by rcases gL.out with⟨h,-⟩|⟨-,-,h⟩;cases h;exact h));go_wp2_with fail;refine aF (h:= ?_);rw [Hp.out];exact⟨none,0,none,0,rfl,V.mJ _ _,Xt⟩
  |false=>
   have hval:cu 12 s.data.toList=some (v,s1.data.toList):=by rcases gL.out with⟨-,h⟩|⟨h,-⟩;exact h;cases h
   have hvs:v.size<=1073741824:=by have h1:=KV 12 _ _ hval;have h2:s.data.toList.length=s.size:=Array.length_toList;simp only at h1;omega
   have mY:=ae (ac1 TW.out hval);clear hval gL;by_cases he:s2.data.toList= []
   ·have hz1:s2.toList= []:=by rw [ByteArray.toList_eq,he]
    have hz2:(s2.toList== [])=true:=by rw [hz1];rfl
    have hz3:s2.toList.isEmpty=true:=by rw [hz1];rfl
    have gJ:(s2.toList != [])=false:=by rw [hz1];rfl
    have fA:(!s2.toList.isEmpty)=false:=by rw [hz3];rfl
    have He:=ae (jv.out.symm.trans he);clear he;go_wp2_with fail;(refine(cT v ka kc la lc _ _ hvs (bE.out.ext Xt)).mono ?_);rintro e w3 ⟨rfl,h3⟩;have aV:=af.ext h3 ag;have ac7:=af.ext h3 rV;have hx3:Ext w w3:=Xt;have bg:=ae (V.In.ext (w':=w3) bE.out Xt);clear hc0 aw hl0 hcv zr hlv;clear h3 ag rV hx2 bE;obtain⟨hc0,aw,hl0⟩:=aV.see;obtain⟨hcv,zr,hlv⟩:=ac7.see
    cases hf:v.fine with
    |true=>
     have Hp:=ae (show dQ s.data.toList=(v,0) by rw [mY.out,if_pos ⟨He.out,hf⟩]);clear hf;go_wp2_with fail;refine aF (h:= ?_);rw [Hp.out];exact⟨ka,kc,la,lc,rfl,bg.out.keep (Held.kept (a:=w3) (T:=fun b=>w.heap.size+2<=b) aC) (fun b hb _=>by omega),Xt⟩
    |false=>
     have Hp:=ae (show dQ s.data.toList=(V.zero,1) by rw [mY.out,if_neg (fun h=>by rw [hf] at h;exact absurd h.2 (by decide))]);clear hf;go_wp2_with fail;refine aF (h:= ?_);rw [Hp.out];exact⟨none,0,none,0,rfl,V.mJ _ _,Xt⟩
   ·have hz1:¬s2.toList= []:=by rw [ByteArray.toList_eq];exact he
    have hz3:s2.toList.isEmpty=false:=by cases h:s2.toList with|nil=>exact absurd h hz1|cons=>rfl
    have hz2:(s2.toList== [])=false:=by simpa using hz1
    have gJ:(s2.toList != [])=true:=by simpa using hz1
    have fA:(!s2.toList.isEmpty)=true:=by rw [hz3];rfl
    have Hp:=ae (show dQ s.data.toList=(V.zero,1) by rw [mY.out,if_neg (fun h=>he (jv.out.trans h.1))]);clear he;go_wp2_with fail;refine aF (h:= ?_);rw [Hp.out];exact⟨none,0,none,0,rfl,V.mJ _ _,Xt⟩
end Go.Proofs.YtlcebdaghmdkeabGreatDoor
