import Derived.Test.YtlcebdaghmdkeabGreatDoorM23
import Derived.Test.YtlcebdaghmdkeabGreatDoorM24
set_option linter.all false
set_option maxRecDepth 100000
set_option maxHeartbeats 64000000
namespace Go.Proofs.YtlcebdaghmdkeabGreatDoor
open Go.Proofs.Tryz
open Go.RowKit
attribute [local go_sem↓] Go.wp_at_zero Go.wp_at_succ
def K1 (r:Nat) (o:Option (V×Bytes)) (w:World) (e:Ending) (w':World):Prop:=
 Rd r w w'/\∃(v:V) (ka:aq) (kc:Nat) (la:aq) (lc:Nat) (s':ah) (gb:Bool),e= .returned (v.val ka kc la lc)/\v.In w' (fun b=>w.heap.size<=b) ka kc la lc/\Sr w' r s' gb/\
  ((gb=false/\o=some (v,s'.data.toList))\/ (gb=true/\s'.data.toList= []/\o=none))
def K2 (f:Nat):Prop:=∀(r:Nat) (d:Int) (s:ah) (bad:Bool) (w:World),d=13-(f:Int)-> (bad=true->s.data.toList= [])->s.size<=1048576->Sr w r s bad->tA r w->
 Calls prog 47 #[.pointer (some ⟨r,0,none⟩), .int .i64 d] w (K1 r (cg f s.data.toList) w)
theorem Rd.abm {r:Nat} {a b:World} (h:Rd r a b) {p:Addr} (hp:a.heap.size<=p.block) (v:Value) (hr:r<a.heap.size):Rd r a (b.setCell p v):=
 ⟨h.below.setCell (by omega) v,⟨by have:=h.size;simpa using this,fun k hk hl=>by rw [Below.heap_setCell _ _ _ _ (by omega)];exact h.held.block k hk hl⟩⟩
theorem Rd.alloc {r:Nat} {a b:World} (h:Rd r a b) (hr:r<a.heap.size) (o:Obj):Rd r a (b.alloc o):=h.ext hr ((Ext.refl b).alloc o)
theorem Rd.drew {r:Nat} {a b:World} (h:Rd r a b):Rd r a b.drew:=⟨h.below.drew,h.held.drew⟩
theorem dY {r:Nat} {a b:World} (h:Rd r a b:=by with_reducible repeat (first|assumption|(refine Rd.abm ?_ ?_ _ (by assumption);rotate_left;(focus(first|(simp;done)|(simp;omega)|omega)))|apply Rd.drew|(refine Rd.alloc ?_ (by assumption) _)|(refine Rd.trans ?_ (by assumption)))):Rd r a b:=h
theorem gZ {w:World} {r:Nat} {s:ah} {bad:Bool} (h:Sr w r s bad:=by unfold Sr;(with_reducible apply af.to);(focus(with_reducible repeat (first|assumption|(apply af.new;(focus(first|rfl|(first|(simp;done)|(simp;omega)|omega))))|apply af.set|(apply af.other;rotate_left;(focus(first|(simp;done)|(simp;omega)|omega)))|apply af.alloc|apply af.drew|(apply af.ext;(focus assumption)))));(first|rfl|(simp;done)|(go_light;simp [*];done))):Sr w r s bad:=h
abbrev tB:aw:=fun _=>False
theorem Rt {r base n:Nat} {wm w3 W w1:World} {v v':Value} {l:List V} {xs:List Value} (hl0:l.length=n) (hown:wm.ownsRow base 36 5 v n xs) (hcells:cH wm (dR base tB v) l xs) (qb:Rd r wm w3) (lR:r<base) (e:Ext w3 W)
 {x:V} {ka:aq} {kc:Nat} {la:aq} {lc:Nat} (hx:x.In w3 (fun b=>wm.heap.size<=b) ka kc la lc) (hbase:base<=wm.heap.size)
 (hown1:w1.ownsRow base 36 5 v' (n+1) (xs++ [.int .i64 x.k, .int .i64 x.n, .string x.s, .slice ka x.keys.length kc, .slice la x.l.length lc])) (hgrow:W.grownBy w1 v.ownBlock)
 (g:Nat) (hv':v'.ownBlock=some g) (hat:v.ownBlock=some g\/g=W.heap.size):gA w1 base tB v' (n+1) (l++ [x]):=by
 have hvb:v.ownBlock=none\/∃g,v.ownBlock=some g/\base<=g:=by
  cases hv:v.ownBlock with
  |none=>exact .inl rfl
  |some g=>exact .inr ⟨g,rfl,(hown.lt g hv).1⟩
 have hc3:cH w3 (dR base tB v) l xs:=hcells.keep (fun b hb hl=>qb.held.block b (by rcases hb with hb|hb;exact hb.2.elim;omega) hl) (fun _ h _=>h);refine gA.push hl0 (hc3.keep (e.kept _) (fun _ h _=>h)) hvb (hx.keep (e.kept _) ?_) hown1 hgrow g hv' hat;intro b hb _;refine .inr ⟨Nat.le_trans hbase hb,fun he=> ?_⟩;have:=(hown.lt b he).2;omega
theorem gA.rd {r base n:Nat} {w w':World} {v:Value} {l:List V} (h:gA w base tB v n l) (e:Rd r w w') (hr:r<base):gA w' base tB v n l:=
 h.keep (fun b hb hk=>e.held.block b (by rcases hk with hk|hk;exact hk.2.elim;omega) hb)
def uD {α:Type} (e:UInt8) (first:Bool) (F K:Bytes->Option α) (s:Bytes):Option α:=
 match dG s with
 | []=>none
 |c::t=>if c=e then F t else(if first=true then some (c::t) else if c=44 then some t else none).bind K
theorem K3 {α:Type} {r:Nat} {s:ah} {bad first:Bool} {c:UInt8} {w w':World} {e:Ending} {R:Option α} {F K:Bytes->Option α} (hm:Al r (dG s.data.toList) bad first c w e w') (hR:bad=false->R=uD c first F K s.data.toList)
 (hb:bad=true->s.data.toList= []/\R=none) (hK:K []=none) (hc:c≠0):
 Rd r w w'/\ ((e= .returned (.bool false)/\∃s' gb,Sr w' r s' gb/\ ((gb=false/\R=F s'.data.toList)\/ (gb=true/\s'.data.toList= []/\R=none)))\/
  (e= .returned (.bool true)/\bad=false/\∃s',Sr w' r s' false/\s'.size<=s.size/\R=K s'.data.toList)):=by
 obtain⟨qb,s',gb,hs',hbs,h⟩:=hm;have hl:s.data.toList.length=s.size:=Array.length_toList;have hl':s'.data.toList.length=s'.size:=Array.length_toList;have hsp:=mE s.data.toList;refine⟨qb,?_⟩
 cases bad with
 |true=>
  obtain⟨h0,hn⟩:=hb rfl;have h1:dG s.data.toList= []:=by rw [h0];rfl
  rw [h1] at h;rcases h with⟨u,hu,-⟩|⟨-,he,h⟩
  ·cases hu
  ·have Ea:gb=true:=by
    rcases h with⟨-,h,-⟩|⟨-,⟨u,hu,-⟩|⟨-,h⟩⟩
    ·exact h
    ·cases hu
    ·exact h
   subst Ea;exact .inl ⟨he,s',true,hs', .inr ⟨rfl,hbs rfl,hn⟩⟩
 |false=>
  have hR:=hR rfl;unfold uD at hR;rcases h with⟨u,hu,he,rfl,mo⟩|⟨hne,he,h⟩
  ·refine .inl ⟨he,s',false,hs', .inl ⟨rfl,?_⟩⟩
   rw [hR,hu,mo];simp
  ·rcases h with⟨rfl,rfl,h⟩|⟨rfl,⟨u,hu,rfl,h⟩|⟨FV,rfl⟩⟩
   ·refine .inr ⟨he,rfl,s',hs',?_,?_⟩
    ·rw [<-hl,<-hl',h];exact hsp
    ·rw [hR,h]
     cases hq:dG s.data.toList with
     |nil=>exact hK.symm
     |cons d t=>
      rw [hq] at hne;have hne:d≠c:=hne;simp only [if_neg hne];rfl
   ·refine .inr ⟨he,rfl,s',hs',?_,?_⟩
    ·rw [hu,List.length_cons] at hsp
     rw [<-hl,<-hl',h];omega
    ·rw [hR,hu,h]
     rw [hu] at hne;have hne:(44:UInt8)≠c:=hne;simp only [if_neg hne];rfl
   ·refine .inl ⟨he,s',true,hs', .inr ⟨rfl,hbs rfl,?_⟩⟩
    rw [hR]
    cases hq:dG s.data.toList with
    |nil=>rfl
    |cons d t=>
     rw [hq] at hne FV;have hne:d≠c:=hne;have FV:d≠44:=FV;simp only [if_neg hne,if_neg FV];rfl
def FW (val:Bytes->Option (V×Bytes)) (R:Option (List V×Bytes)) (s:ah) (bad:Bool) (l:List V):Prop:=
 (bad=true->s.data.toList= [])/\ ((bad=false/\iT val (s.size+1) s.data.toList l=R)\/ (bad=true/\R=none))
theorem Ru {val:Bytes->Option (V×Bytes)} {R:Option (List V×Bytes)} {s:ah} {l:List V} (h:FW val R s false l):
 R=uD 93 (decide (l= [])) (fun t=>some (l,t)) (fun s1=>(val s1).bind fun p=>iT val s.size p.2 (l++ [p.1])) s.data.toList:=by
 rcases h.2 with⟨-,h⟩|⟨h,-⟩
 ·rw [<-h,iT]
  unfold uD
  cases dG s.data.toList with
  |nil=>rfl
  |cons c t=>simp only [decide_eq_true_eq]
 ·cases h
theorem Rv (f:Nat):cg f []=none:=by cases f<;>rfl
theorem Rw {f:Nat} {R:Option (List V×Bytes)} {n:Nat} {s3 s5:ah} {bad:Bool} {l:List V} {x:V} (hR:R=(cg f s3.data.toList).bind fun p=>iT (cg f) n p.2 (l++ [p.1])) (h3:s3.size<=n)
 (h:(bad=false/\cg f s3.data.toList=some (x,s5.data.toList))\/ (bad=true/\s5.data.toList= []/\cg f s3.data.toList=none)):s5.size+(if bad=true then 0 else 1)<n+1/\FW (cg f) R s5 bad (l++ [x]):=by
 have e3:s3.data.toList.length=s3.size:=Array.length_toList;have e5:s5.data.toList.length=s5.size:=Array.length_toList;rcases h with⟨rfl,h⟩|⟨rfl,h0,h⟩
 ·have hl:=z7 _ _ _ h
  simp only at hl;refine⟨by simp;omega,(fun h=>by cases h), .inl ⟨rfl,?_⟩⟩;rw [hR,h];exact Pv (fun s p h=>z7 f s p h) _ _ _ _ (by omega) (by omega)
 ·rw [h0] at e5
  refine⟨by simp at e5⊢;omega,fun _=>h0, .inr ⟨rfl,by rw [hR,h];rfl⟩⟩
theorem abn (f:Nat) (hv:K2 f) (r:Nat) (d:Int) (hd:d=12-(f:Int)) (hf:f<=12) (s:ah) (t:Bytes) (hs:s.data.toList=91::t) (hsz:s.size<=1048576) (w:World) (hr:Sr w r s false) (hl:tA r w):
 Calls prog 75 #[.pointer (some ⟨r,0,none⟩), .int .i64 d] w (K1 r ((iT (cg f) (t.length+1) t []).map fun p=>(.mk 4 0 ⟨#[]⟩ [] p.1,p.2)) w):=by
 have hlt:=hr.lt;obtain⟨R,hR⟩:∃R,iT (cg f) (t.length+1) t []=R:=⟨_,rfl⟩;rw [hR];have Hs:=ae hs;have HR:=ae hR;have Hv:=ae hv;have Hl:=ae hl;have Hd:=ae hd;have hd1:0<=d:=by omega
 have hd2:d<=12:=by omega
 have hwr:IntKind.i64.wrap (d+1)=d+1:=by rw [IntKind.wrap_i64];omega
 clear hs hR hv hl hd;go_enter func75,ntmps75;go_upto_region 2 with fail
 refine aI (R:=fun wx=>aN wx w.heap.size/\af wx (w.heap.size+1) #[.int .i64 4, .int .i64 0, .string ⟨#[]⟩, .slice none 0 0, .slice none 0 0] 36/\Ext w wx) ⟨aj,aj,Xt⟩ ?_;rintro wa ⟨ag,ai,aD⟩;have p8:=hr.ext aD;clear hr;go_wp2_with fail;(refine(wA r s false ⟨#[91]⟩ _ p8).mono ?_);rintro e w1 ⟨rfl,h1,(⟨hp,s1,hs1,hr1⟩|⟨hp,hr1⟩)⟩
 rotate_left
 ·rw [Hs.out] at hp;simp [List.isPrefixOf] at hp
 have hst:s1.data.toList=t:=by rw [hs1,Hs.out];rfl
 have ay:t.length=s1.size:=by rw [<-hst];exact Array.length_toList
 have hl0:s.size=t.length+1:=by have:s.data.toList.length=s.size:=Array.length_toList;rw [Hs.out] at this;exact this.symm
 have gI:FW (cg f) R s1 false []:=⟨(fun h=>by cases h), .inl ⟨rfl,by rw [hst,<-ay,HR.out]⟩⟩;have rJ:=ae gI;have p9:s1.size<=1048576:=by omega
 have ag:=af.rd h1 ag (by omega);have ai:=af.rd h1 ai (by omega);have hx1:Rd r w w1:=(Rd.of hlt aD).trans h1;have hz1:=ai.lt;clear hp hs1 hst gI hl0 ay p8 aD h1;go_wp2_with fail
 go_loopg [] (s1.size+1) (fun g wr=>∃(s2:ah) (bad:Bool) (l:List V) (a0:aq) (c0:Nat),Sr wr r s2 bad/\gA wr (w.heap.size+2) tB (.slice a0 l.length c0) l.length l/\aN wr w.heap.size/\
  af wr (w.heap.size+1) #[.int .i64 4, .int .i64 0, .string ⟨#[]⟩, .slice none 0 0, .slice a0 l.length c0] 36/\g=s2.size+(if bad=true then 0 else 1)/\l.length+(s2.size+(if bad=true then 0 else 1))<=1048577/\Rd r w wr/\FW (cg f) R s2 bad l)
 case atStart=>exact⟨s1,false, [],none,0,hr1,gA.nil _ _ _,ag,ai,rfl,by simp;omega,hx1,rJ.out⟩
 case round=>
  clear hr1 hx1 rJ p9 ag ai hz1;obtain⟨s2,bad,l,a0,c0,hr2,hO,ag,ai,rfl,eJ,hx,gI⟩:=hrel;have HO:=ae hO;have Hb:=ae gI.1;have yJ:=ae (show bad=true->s2.data.toList= []/\R=none from fun h=>⟨gI.1 h,by rcases gI.2 with⟨h',-⟩|⟨-,h'⟩;rw [h] at h';cases h';exact h'⟩);have jW:=ae (show ((cg f []).bind fun p=>iT (cg f) s2.size p.2 (l++ [p.1]))=none by rw [Rv];rfl);have rJ:=ae gI;have abo:l.length+s2.size<=1048577:=by omega
  have qd:=ae eJ;clear eJ;have hlr:=hr2.lt;have bF:=hx.size;have abp:=ai.lt;clear hO gI;obtain⟨hc1,aA,ay⟩:=ai.see;by_cases hl0:l= []
  ·have gW:((l.length:Int)==0)=true:=by rw [hl0];rfl
   have wE:=ae (show bad=false->R=uD 93 true (fun t=>some (l,t)) (fun s1=>(cg f s1).bind fun p=>iT (cg f) s2.size p.2 (l++ [p.1])) s2.data.toList from fun h=>by subst h;have:=Ru rJ.out;rwa [show decide (l= [])=true by simpa using hl0] at this);clear hl0;go_wp2_with fail;(refine(KN r s2 bad true 93 (by decide) Hb.out _ hr2).mono ?_);rintro e w3 hm;obtain⟨h3,hend⟩:=K3 hm (fun hb=>by subst hb;exact wE.out rfl) yJ.out jW.out (by decide);have cx:=ae hend;have nK:=af.rd h3 ag (by omega);have oC:=af.rd h3 ai (by omega);have hx3:=hx.trans h3;have jd:=ae (gA.rd HO.out h3 (by omega));have hz3:=h3.size;clear hm hend ag ai hr2 hx hc1 aA ay wE yJ jW HO;rcases cx.out with⟨rfl,s3,nM,hr3,hfin⟩|⟨rfl,rfl,s3,hr3,CW,bN⟩
   ·have oN:=ae hfin
    clear hfin;obtain⟨a9,c9,wF,qW,-,CX⟩:=jd.out.rows;simp only [Value.slice.injEq,true_and] at wF;obtain⟨rfl,rfl⟩:=wF;have yK:=ae CX;have eK:=ae qW;clear CX qW;obtain⟨hc0,ax,hl0⟩:=nK.see;obtain⟨hc1,aA,ay⟩:=oC.see;go_wp2_with fail;refine aF (h:= ?_);refine⟨dY, .mk 4 0 ⟨#[]⟩ [] l,none,0,a0,c0,s3,nM,rfl,(V.df ..).2 ⟨aM.nil,eK.out, .inl rfl,yK.out.keep (Held.kept (a:=w3) (T:=fun b=>(b<w.heap.size+2/\tB b)\/w.heap.size+2<=b) aB) (fun b hb _=>by rcases hb with hb|hb;exact hb.2.elim;omega)⟩,gZ,?_⟩;rcases oN.out with⟨rfl,hq⟩|⟨rfl,h0,hq⟩
    ·exact .inl ⟨rfl,by rw [hq];rfl⟩
    ·exact .inr ⟨rfl,h0,by rw [hq];rfl⟩
   ·have uE:=ae bN
    clear bN;obtain⟨hl0,xs,hown,hcells⟩:=jd.out;have K4:=ae hl0;have K5:=ae hcells;have bW:=ae hown;obtain⟨j0,hj,hy0,hy1,hy2⟩:=info_parts Tryz.yj;have kL:=ae (show∀b,b<w.heap.size+2->some b≠(Value.slice a0 l.length c0).ownBlock from fun b hb he=>by have:=(hown.lt b he.symm).1;omega);clear hl0 hcells hown;have sN:=hr3.lt;have K6:l.length+1<=maxLen:=by unfold maxLen;omega
    have K7:(l.length+1)*80<=140737488355328:=by omega
    obtain⟨K8,K9,La⟩:=oC.see;go_wp2_with fail
    go_region_law
     (first
      |((refine step_append_lies _ (by rfl) _ _ _ (by rfl) (w.heap.size+2) 36 j0 _ 5 80 underlying34 hj hy0 hy1 hy2 rfl (by decide) (.slice a0 l.length c0) l.length xs (by rfl) (iE.out.alloc _) ⟨w5.heap.size,0,none⟩ 1 1 [.int .i64 x.k, .int .i64 x.n, .string x.s, .slice jR x.keys.length jS, .slice jT x.l.length jU] (by rfl) (by rfl) (World.news_of_block (cs:= #[.int .i64 x.k, .int .i64 x.n, .string x.s, .slice jR x.keys.length jS, .slice jT x.l.length jU]) (t:=36) (fr:=(0,0)) (heap_alloc_new w5 _)) (by simp [Value.oneCell']) (by omega) K6 K7 (by simp;omega) _ rfl ?_;intro g4 oI w6 kW mJ ru Rx;have xj:=af.grown (af.alloc nH _) mJ (kL.out _ (by omega));have xk:=af.grown (af.alloc nr _) mJ (kL.out _ (by omega));have mK:Sr w6 r s5 lS:=af.grown (af.alloc uC _) mJ (kL.out _ (by omega));obtain⟨hcB,hfB,hlB⟩:=xk.see;have CY:=ae mJ;have gL:=ae kW;have Lb:=ae ru;clear mJ kW ru))
      |((go_simp;go_at_call 47;refine(Hv.out r (d+1) s3 false _ (by have:=Hd.out;omega) (fun h=>by cases h) (by have:=qd.out;simp at this;omega) (hr3.ext Xt) (Hl.out.on (Rd.below (Rd.ext hx3 hlt Xt)))).mono ?_;rintro e w5 hval;obtain⟨FX,x,jR,jS,jT,jU,s5,lS,rfl,fH,uC,dx⟩:=hval;have h5:Rd r w3 w5:=(Rd.of sN Xt).trans FX;have nH:=af.rd h5 nK (by omega);have nr:=af.rd h5 oC (by omega);have q15:w5.cell? ⟨w.heap.size+1,4,none⟩=some (.slice a0 l.length c0):=(by rw [nr.cells];rfl);have abq:w.heap.size+1<w5.heap.size:=nr.lt;have abr:w.heap.size<w5.heap.size:=nH.lt;have gq:=h5.size;have iE:=ae (dL bW.out (fun b hb he=>h5.held.block b (by have:=(bW.out.lt b he).1;omega) hb));have iY:=ae fH;have gu:=ae dx;clear fH dx;dsimp only)))
    all_goals
     have bS:Rd r w w6:=Rd.grown (b:=w5.alloc _) (Rd.alloc (hx3.trans h5) hlt _) CY.out (fun g hg=>by have:=(bW.out.lt g hg).1;omega) hlt;have hp:=Rt (n:=l.length) (W:=w5.alloc _) rfl bW.out K5.out h5 (by omega) Xt (iY.out.mono (fun b h _=>h)) (by omega) gL.out CY.out g4 rfl Lb.out
     have Lc:=ae (show∀v,gA (w6.setCell ⟨w.heap.size+1,4,none⟩ v) (w.heap.size+2) tB (.slice (some ⟨g4,0,none⟩) (l++ [x]).length oI) (l++ [x]).length (l++ [x]) from fun v=>by
      have h7:=gA.keep hp (w':=w6.setCell ⟨w.heap.size+1,4,none⟩ v) (fun b hb hk=>by rcases hk with hk|hk;exact hk.2.elim;exact Below.heap_setCell _ _ _ _ (by simp;omega))
      rw [List.length_append,List.length_singleton];exact h7)
     obtain⟨ft,CZ⟩:=Rw uE.out CW gu.out;have Ld:=ae CZ;have nN:=ae ft
     have jr:=ae (show (l++ [x]).length+(s5.size+(if lS=true then 0 else 1))<=1048577 by
      have h1:=qd.out;rw [List.length_append,List.length_singleton];simp only [Bool.false_eq_true,if_false] at h1
      omega)
     clear hp CZ ft;go_wp2_with fail;go_roundg (s5.size+(if lS=true then 0 else 1))
     case measure=>have:=nN.out;simpa using this
     case rel=>exact⟨s5,lS,l++ [x],some ⟨g4,0,none⟩,oI,aj,Lc.out _,aj,(by rw [List.length_append,List.length_singleton];exact aj),rfl,jr.out,dY,Ld.out⟩
  ·have hlp:0<l.length:=List.length_pos_iff.2 hl0
   have gW:((l.length:Int)==0)=false:=by simp;omega
   have wE:=ae (show bad=false->R=uD 93 false (fun t=>some (l,t)) (fun s1=>(cg f s1).bind fun p=>iT (cg f) s2.size p.2 (l++ [p.1])) s2.data.toList from fun h=>by subst h;have:=Ru rJ.out;rwa [show decide (l= [])=false by simpa using hl0] at this);clear hl0;go_wp2_with fail;(refine(KN r s2 bad false 93 (by decide) Hb.out _ hr2).mono ?_);rintro e w3 hm;obtain⟨h3,hend⟩:=K3 hm (fun hb=>by subst hb;exact wE.out rfl) yJ.out jW.out (by decide);have cx:=ae hend;have nK:=af.rd h3 ag (by omega);have oC:=af.rd h3 ai (by omega);have hx3:=hx.trans h3;have jd:=ae (gA.rd HO.out h3 (by omega));have hz3:=h3.size;clear hm hend ag ai hr2 hx hc1 aA ay wE yJ jW HO;rcases cx.out with⟨rfl,s3,nM,hr3,hfin⟩|⟨rfl,rfl,s3,hr3,CW,bN⟩
   ·have oN:=ae hfin
    clear hfin;obtain⟨a9,c9,wF,qW,-,CX⟩:=jd.out.rows;simp only [Value.slice.injEq,true_and] at wF;obtain⟨rfl,rfl⟩:=wF;have yK:=ae CX;have eK:=ae qW;clear CX qW;obtain⟨hc0,ax,hl0⟩:=nK.see;obtain⟨hc1,aA,ay⟩:=oC.see;go_wp2_with fail;refine aF (h:= ?_);refine⟨dY, .mk 4 0 ⟨#[]⟩ [] l,none,0,a0,c0,s3,nM,rfl,(V.df ..).2 ⟨aM.nil,eK.out, .inl rfl,yK.out.keep (Held.kept (a:=w3) (T:=fun b=>(b<w.heap.size+2/\tB b)\/w.heap.size+2<=b) aB) (fun b hb _=>by rcases hb with hb|hb;exact hb.2.elim;omega)⟩,gZ,?_⟩;rcases oN.out with⟨rfl,hq⟩|⟨rfl,h0,hq⟩
    ·exact .inl ⟨rfl,by rw [hq];rfl⟩
    ·exact .inr ⟨rfl,h0,by rw [hq];rfl⟩
   ·have uE:=ae bN
    clear bN;obtain⟨hl0,xs,hown,hcells⟩:=jd.out;have K4:=ae hl0;have K5:=ae hcells;have bW:=ae hown;obtain⟨j0,hj,hy0,hy1,hy2⟩:=info_parts Tryz.yj;have kL:=ae (show∀b,b<w.heap.size+2->some b≠(Value.slice a0 l.length c0).ownBlock from fun b hb he=>by have:=(hown.lt b he.symm).1;omega);clear hl0 hcells hown;have sN:=hr3.lt;have K6:l.length+1<=maxLen:=by unfold maxLen;omega
    have K7:(l.length+1)*80<=140737488355328:=by omega
    obtain⟨K8,K9,La⟩:=oC.see;go_wp2_with fail
    go_region_law
     (first
      |((refine step_append_lies _ (by rfl) _ _ _ (by rfl) (w.heap.size+2) 36 j0 _ 5 80 underlying34 hj hy0 hy1 hy2 rfl (by decide) (.slice a0 l.length c0) l.length xs (by rfl) (iE.out.alloc _) ⟨w5.heap.size,0,none⟩ 1 1 [.int .i64 x.k, .int .i64 x.n, .string x.s, .slice jR x.keys.length jS, .slice jT x.l.length jU] (by rfl) (by rfl) (World.news_of_block (cs:= #[.int .i64 x.k, .int .i64 x.n, .string x.s, .slice jR x.keys.length jS, .slice jT x.l.length jU]) (t:=36) (fr:=(0,0)) (heap_alloc_new w5 _)) (by simp [Value.oneCell']) (by omega) K6 K7 (by simp;omega) _ rfl ?_;intro g4 oI w6 kW mJ ru Rx;have xj:=af.grown (af.alloc nH _) mJ (kL.out _ (by omega));have xk:=af.grown (af.alloc nr _) mJ (kL.out _ (by omega));have mK:Sr w6 r s5 lS:=af.grown (af.alloc uC _) mJ (kL.out _ (by omega));obtain⟨hcB,hfB,hlB⟩:=xk.see;have CY:=ae mJ;have gL:=ae kW;have Lb:=ae ru;clear mJ kW ru))
      |((go_simp;go_at_call 47;refine(Hv.out r (d+1) s3 false _ (by have:=Hd.out;omega) (fun h=>by cases h) (by have:=qd.out;simp at this;omega) (hr3.ext Xt) (Hl.out.on (Rd.below (Rd.ext hx3 hlt Xt)))).mono ?_;rintro e w5 hval;obtain⟨FX,x,jR,jS,jT,jU,s5,lS,rfl,fH,uC,dx⟩:=hval;have h5:Rd r w3 w5:=(Rd.of sN Xt).trans FX;have nH:=af.rd h5 nK (by omega);have nr:=af.rd h5 oC (by omega);have q15:w5.cell? ⟨w.heap.size+1,4,none⟩=some (.slice a0 l.length c0):=(by rw [nr.cells];rfl);have abq:w.heap.size+1<w5.heap.size:=nr.lt;have abr:w.heap.size<w5.heap.size:=nH.lt;have gq:=h5.size;have iE:=ae (dL bW.out (fun b hb he=>h5.held.block b (by have:=(bW.out.lt b he).1;omega) hb));have iY:=ae fH;have gu:=ae dx;clear fH dx;dsimp only)))
    all_goals
     have bS:Rd r w w6:=Rd.grown (b:=w5.alloc _) (Rd.alloc (hx3.trans h5) hlt _) CY.out (fun g hg=>by have:=(bW.out.lt g hg).1;omega) hlt;have hp:=Rt (n:=l.length) (W:=w5.alloc _) rfl bW.out K5.out h5 (by omega) Xt (iY.out.mono (fun b h _=>h)) (by omega) gL.out CY.out g4 rfl Lb.out
     have Lc:=ae (show∀v,gA (w6.setCell ⟨w.heap.size+1,4,none⟩ v) (w.heap.size+2) tB (.slice (some ⟨g4,0,none⟩) (l++ [x]).length oI) (l++ [x]).length (l++ [x]) from fun v=>by
      have h7:=gA.keep hp (w':=w6.setCell ⟨w.heap.size+1,4,none⟩ v) (fun b hb hk=>by rcases hk with hk|hk;exact hk.2.elim;exact Below.heap_setCell _ _ _ _ (by simp;omega))
      rw [List.length_append,List.length_singleton];exact h7)
     obtain⟨ft,CZ⟩:=Rw uE.out CW gu.out;have Ld:=ae CZ;have nN:=ae ft
     have jr:=ae (show (l++ [x]).length+(s5.size+(if lS=true then 0 else 1))<=1048577 by
      have h1:=qd.out;rw [List.length_append,List.length_singleton];simp only [Bool.false_eq_true,if_false] at h1
      omega)
     clear hp CZ ft;go_wp2_with fail;go_roundg (s5.size+(if lS=true then 0 else 1))
     case measure=>have:=nN.out;simpa using this
     case rel=>exact⟨s5,lS,l++ [x],some ⟨g4,0,none⟩,oI,aj,Lc.out _,aj,(by rw [List.length_append,List.length_singleton];exact aj),rfl,jr.out,dY,Ld.out⟩
end Go.Proofs.YtlcebdaghmdkeabGreatDoor
namespace Go.Proofs.YtlcebdaghmdkeabGreatDoor
open Go.RowKit
attribute [local go_sem↓] Go.wp_at_zero Go.wp_at_succ
abbrev Beside (base:Nat) (vk vl:Value) (b:Nat):Prop:=base<=b/\vk.ownBlock≠some b/\vl.ownBlock≠some b
structure dW (w:World) (base:Nat) (vk vl:Value) (n:Nat) (ks:List ah) (l:List V):Prop where
 nk:ks.length=n
 nl:l.length=n
 keys:w.ownsRow base 9 1 vk n (ks.map Value.string)
 items:∃xs,w.ownsRow base 36 5 vl n xs/\cH w (Beside base vk vl) l xs
theorem dW.nil (w:World) (base:Nat):dW w base (.slice none 0 0) (.slice none 0 0) 0 [] []:=⟨rfl,rfl,World.ownsRow_nil _ _ _ _, [],World.ownsRow_nil _ _ _ _,rfl⟩
theorem dW.keep {w w':World} {base:Nat} {vk vl:Value} {n:Nat} {ks:List ah} {l:List V} (h:dW w base vk vl n ks l) (e:∀b,b<w.heap.size->base<=b->w'.heap[b]? =w.heap[b]?):dW w' base vk vl n ks l:=by
 obtain⟨h1,h2,h3,xs,h4,h5⟩:=h;exact⟨h1,h2,dL h3 (fun b hb hg=>e b hb (h3.lt b hg).1),xs,dL h4 (fun b hb hg=>e b hb (h4.lt b hg).1),h5.keep (fun b hb hl=>e b hl hb.1) (fun _ h _=>h)⟩
theorem dW.rd {r base n:Nat} {w w':World} {vk vl:Value} {ks:List ah} {l:List V} (h:dW w base vk vl n ks l) (e:Rd r w w') (hr:r<base):dW w' base vk vl n ks l:=
 h.keep (fun b hb hk=>e.held.block b (by omega) hb)
theorem dW.ext {base n:Nat} {w w':World} {vk vl:Value} {ks:List ah} {l:List V} (h:dW w base vk vl n ks l) (e:Ext w w'):dW w' base vk vl n ks l:=
 h.keep (fun b hb _=>Below.block e b hb)
theorem dW.obj {w:World} {base n:Nat} {ka:aq} {kc:Nat} {la:aq} {lc:Nat} {ks:List ah} {l:List V} (h:dW w base (.slice ka n kc) (.slice la n lc) n ks l):(V.mk 5 0 ⟨#[]⟩ ks l).In w (fun b=>base<=b) ka kc la lc:=by
 obtain⟨h1,h2,h3,xs,h4,h5⟩:=h;obtain⟨a,c,he,hok,-,hst⟩:=dK.strs (w:=w) (base:=base) (v:= .slice ka n kc) ⟨h1,h3⟩;simp only [Value.slice.injEq,true_and] at he;obtain⟨rfl,rfl⟩:=he;obtain⟨a2,c2,xo,fU⟩:=fG h4;simp only [Value.slice.injEq,true_and] at xo;obtain⟨rfl,rfl⟩:=xo;refine(V.df ..).2 ⟨by rw [V.fT,h1];exact hok,by rw [V.dV,h2];exact fU,hst,?_⟩
 cases n with
 |zero=>exact .inl (List.length_eq_zero_iff.1 h2)
 |succ m=>
  obtain⟨g,cur,rfl,hgb,hBg,hcz,hits⟩:=pJ (Nat.succ_pos m) h2 h4 h5;refine .inr ⟨g,0,rfl,hgb,fun i hi=> ?_⟩;rw [Nat.zero_add];exact(hits i hi).mono (fun b h=>h.1)
def C0 (val:Bytes->Option (V×Bytes)) (R:Option ((List ah×List V)×Bytes)) (s:ah) (bad:Bool) (ks:List ah) (l:List V):Prop:=
 (bad=true->s.data.toList= [])/\ (bad=false->cG ks)/\ ((bad=false/\j3 val (s.size+1) s.data.toList ks l=R)\/ (bad=true/\R=none))
def uF (val:Bytes->Option (V×Bytes)) (n:Nat) (ks:List ah) (l:List V) (s1:Bytes):Option ((List ah×List V)×Bytes):=
 (jZ val s1).bind fun p=>if hasB ks p.1.1=true then none else j3 val n p.2 (ks.take (posOf ks p.1.1)++p.1.1::ks.drop (posOf ks p.1.1)) (l.take (posOf ks p.1.1)++p.1.2::l.drop (posOf ks p.1.1))
theorem abt {val:Bytes->Option (V×Bytes)} {R:Option ((List ah×List V)×Bytes)} {s:ah} {ks:List ah} {l:List V} (h:C0 val R s false ks l):
 R=uD 125 (decide (l= [])) (fun t=>some ((ks,l),t)) (uF val s.size ks l) s.data.toList:=by
 rcases h.2.2 with⟨-,h⟩|⟨h,-⟩
 ·rw [<-h,j3]
  unfold uD
  cases dG s.data.toList with
  |nil=>rfl
  |cons c t=>simp only [decide_eq_true_eq];rfl
 ·cases h
theorem abu (val:Bytes->Option (V×Bytes)) (n:Nat) (ks:List ah) (l:List V):uF val n ks l []=none:=rfl
def Le (val:Bytes->Option (V×Bytes)) (s3:Bytes) (key:ah) (x:V) (s8:ah) (bad:Bool):Prop:=
 (bad=false/\jZ val s3=some ((key,x),s8.data.toList))\/ (bad=true/\s8.data.toList= []/\jZ val s3=none)
theorem abv {val:Bytes->Option (V×Bytes)} {s:Bytes} (h:fZ (dG s)≠34):jZ val s=none:=by
 unfold jZ
 cases hq:dG s with
 |nil=>rfl
 |cons c t=>rw [hq] at h;have h:c≠34:=h;simp only [if_neg h]
theorem abw {val:Bytes->Option (V×Bytes)} {s t:Bytes} (h:dG s=34::t):jZ val s=(gw (t.length+1) t []).bind fun p=>match dG p.2 with
 | []=>none
 |c::t=>if c=58 then(val t).map fun q=>((⟨p.1.toArray⟩,q.1),q.2) else none:=by
 unfold jZ;rw [h];rfl
def Lf (val:Bytes->Option (V×Bytes)) (s3:Bytes) (key:ah) (s7:ah) (bad:Bool):Prop:=
 (bad=false/\jZ val s3=(val s7.data.toList).map fun q=>((key,q.1),q.2))\/ (bad=true/\s7.data.toList= []/\jZ val s3=none)
theorem Ry {val:Bytes->Option (V×Bytes)} {s3 t:Bytes} (hs:dG s3=34::t) {key s5 s7:ah} {lS rK:Bool}
 (h5:(lS=false/\gw (t.length+1) t []=some (key.data.toList,s5.data.toList))\/ (lS=true/\s5.data.toList= []/\gw (t.length+1) t []=none))
 (h7:(([58]:Bytes).isPrefixOf (dG s5.data.toList)=true/\s7.data.toList=(dG s5.data.toList).drop 1/\rK=lS)\/ (([58]:Bytes).isPrefixOf (dG s5.data.toList)=false/\s7.data.toList= []/\rK=true)):Lf val s3 key s7 rK:=by
 have hm:=abw (val:=val) hs;rcases h5 with⟨rfl,h5⟩|⟨rfl,h0,h5⟩
 ·rw [h5] at hm
  simp only [Option.bind_some] at hm;have hkey:(⟨key.data.toList.toArray⟩:ah)=key:=by simp
  rcases h7 with⟨hp,h7,rfl⟩|⟨hp,h7,rfl⟩
  ·refine .inl ⟨rfl,?_⟩
   rw [hm,h7]
   cases hq:dG s5.data.toList with
   |nil=>rw [hq] at hp;simp [List.isPrefixOf] at hp
   |cons c u=>
    rw [hq] at hp;simp only [List.isPrefixOf,Bool.and_true,beq_iff_eq] at hp;subst hp;simp only [if_true,hkey];rfl
  ·refine .inr ⟨rfl,h7,?_⟩
   rw [hm]
   cases hq:dG s5.data.toList with
   |nil=>rfl
   |cons c u=>
    rw [hq] at hp;have hc:c≠58:=fun h=>by subst h;simp [List.isPrefixOf] at hp
    simp only [if_neg hc]
 ·rw [h5] at hm
  have hsp:dG s5.data.toList= []:=by rw [h0];rfl
  rw [hsp] at h7;rcases h7 with⟨hp,-⟩|⟨-,h7,rfl⟩
  ·simp [List.isPrefixOf] at hp
  ·exact .inr ⟨rfl,h7,hm⟩
theorem abx {val:Bytes->Option (V×Bytes)} (hv:val []=none) {s3:Bytes} {key s7 s8:ah} {x:V} {rK kE:Bool} (h:Lf val s3 key s7 rK)
 (h8:(kE=false/\val s7.data.toList=some (x,s8.data.toList))\/ (kE=true/\s8.data.toList= []/\val s7.data.toList=none)):Le val s3 key x s8 kE:=by
 rcases h with⟨rfl,h⟩|⟨rfl,h0,h⟩
 ·rcases h8 with⟨rfl,h8⟩|⟨rfl,h1,h8⟩
  ·exact .inl ⟨rfl,by rw [h,h8];rfl⟩
  ·exact .inr ⟨rfl,h1,by rw [h,h8];rfl⟩
 ·rw [h0,hv] at h8
  rcases h8 with⟨-,h8⟩|⟨rfl,h1,-⟩
  ·cases h8
  ·exact .inr ⟨rfl,h1,h⟩
theorem aby {f:Nat} {R:Option ((List ah×List V)×Bytes)} {n:Nat} {s3 s8:ah} {bad:Bool} {ks:List ah} {l:List V} {key:ah} {x:V} (hr:cG ks) (hR:R=uF (cg f) n ks l s3.data.toList) (h3:s3.size<=n)
 (h:Le (cg f) s3.data.toList key x s8 bad) (hb:hasB ks key=false):s8.size+(if bad=true then 0 else 1)<n+1/\C0 (cg f) R s8 bad (ks.take (posOf ks key)++key::ks.drop (posOf ks key)) (l.take (posOf ks key)++x::l.drop (posOf ks key)):=by
 have e3:s3.data.toList.length=s3.size:=Array.length_toList;have e8:s8.data.toList.length=s8.size:=Array.length_toList;rcases h with⟨rfl,h⟩|⟨rfl,h0,h⟩
 ·have hl:=JE (fun s p h=>z7 f s p h) h
  simp only at hl;refine⟨by simp;omega,(fun h=>by cases h),fun _=>Bx hr hb, .inl ⟨rfl,?_⟩⟩;rw [hR];unfold uF;rw [h];simp only [Option.bind_some];rw [if_neg (by rw [hb];decide)];exact Pw (fun s p h=>z7 f s p h) _ _ _ _ _ (by omega) (by omega)
 ·rw [h0] at e8
  refine⟨by simp at e8⊢;omega,fun _=>h0,(fun h=>by cases h), .inr ⟨rfl,by rw [hR];unfold uF;rw [h];rfl⟩⟩
theorem abz {f:Nat} {R:Option ((List ah×List V)×Bytes)} {n:Nat} {s3 s8 s9:ah} {bad:Bool} {ks ks':List ah} {l l':List V} {key:ah} {x:V} (hR:R=uF (cg f) n ks l s3.data.toList)
 (h:Le (cg f) s3.data.toList key x s8 bad) (hb:hasB ks key=true) (h9:s9.data.toList= []):s9.size+(if true=true then 0 else 1)<n+1/\C0 (cg f) R s9 true ks' l':=by
 have e9:s9.data.toList.length=s9.size:=Array.length_toList;rw [h9] at e9;refine⟨by simp at e9⊢;omega,fun _=>h9,(fun h=>by cases h), .inr ⟨rfl,?_⟩⟩;rw [hR];unfold uF;rcases h with⟨rfl,h⟩|⟨rfl,h0,h⟩
 ·rw [h];simp only [Option.bind_some];rw [if_pos hb]
 ·rw [h];rfl
end Go.Proofs.YtlcebdaghmdkeabGreatDoor
namespace Go.Proofs.YtlcebdaghmdkeabGreatDoor
open Go.Proofs.Tryz
open Go.RowKit
attribute [local go_sem↓] Go.wp_at_zero Go.wp_at_succ
theorem abA (f:Nat) (hv:K2 f) (r:Nat) (d:Int) (hd:d=12-(f:Int)) (hf:f<=12) (s:ah) (t:Bytes) (hs:s.data.toList=123::t) (hsz:s.size<=1048576) (w:World) (hr:Sr w r s false) (hl:tA r w):
 Calls prog 76 #[.pointer (some ⟨r,0,none⟩), .int .i64 d] w (K1 r ((j3 (cg f) (t.length+1) t [] []).map fun p=>(.mk 5 0 ⟨#[]⟩ p.1.1 p.1.2,p.2)) w):=by
 have hlt:=hr.lt;obtain⟨R,hR⟩:∃R,j3 (cg f) (t.length+1) t [] []=R:=⟨_,rfl⟩;rw [hR];have Hs:=ae hs;have HR:=ae hR;have Hv:=ae hv;have Hl:=ae hl;have Hd:=ae hd;have hd1:0<=d:=by omega
 have hd2:d<=12:=by omega
 have hwr:IntKind.i64.wrap (d+1)=d+1:=by rw [IntKind.wrap_i64];omega
 clear hs hR hv hl hd;go_enter func76,ntmps76;go_upto_region 2 with fail
 refine aI (R:=fun wx=>aN wx w.heap.size/\af wx (w.heap.size+1) #[.int .i64 5, .int .i64 0, .string ⟨#[]⟩, .slice none 0 0, .slice none 0 0] 36/\Ext w wx) ⟨aj,aj,Xt⟩ ?_;rintro wa ⟨ag,ai,aD⟩;have p8:=hr.ext aD;clear hr;go_wp2_with fail;(refine(wA r s false ⟨#[123]⟩ _ p8).mono ?_);rintro e w1 ⟨rfl,h1,(⟨hp,s1,hs1,hr1⟩|⟨hp,hr1⟩)⟩
 rotate_left
 ·rw [Hs.out] at hp;simp [List.isPrefixOf] at hp
 have hst:s1.data.toList=t:=by rw [hs1,Hs.out];rfl
 have ay:t.length=s1.size:=by rw [<-hst];exact Array.length_toList
 have hl0:s.size=t.length+1:=by have:s.data.toList.length=s.size:=Array.length_toList;rw [Hs.out] at this;exact this.symm
 have gI:C0 (cg f) R s1 false [] []:=⟨(fun h=>by cases h),fun _=>List.Pairwise.nil, .inl ⟨rfl,by rw [hst,<-ay,HR.out]⟩⟩;have rJ:=ae gI;have p9:s1.size<=1048576:=by omega
 have ag:=af.rd h1 ag (by omega);have ai:=af.rd h1 ai (by omega);have hx1:Rd r w w1:=(Rd.of hlt aD).trans h1;have hz1:=ai.lt;clear hp hs1 hst gI hl0 ay p8 aD h1;go_wp2_with fail
 go_loopg [6,7,8,9] (s1.size+1) (fun g _ _ _ _ wr=>∃(s2:ah) (bad:Bool) (n:Nat) (ks:List ah) (l:List V) (a2:aq) (c2:Nat) (a3:aq) (c3:Nat),Sr wr r s2 bad/\dW wr (w.heap.size+2) (.slice a2 n c2) (.slice a3 n c3) n ks l/\aN wr w.heap.size/\
  af wr (w.heap.size+1) #[.int .i64 5, .int .i64 0, .string ⟨#[]⟩, .slice a2 n c2, .slice a3 n c3] 36/\g=s2.size+(if bad=true then 0 else 1)/\n+(s2.size+(if bad=true then 0 else 1))<=1048577/\Rd r w wr/\C0 (cg f) R s2 bad ks l)
 case atStart=>exact⟨s1,false,0, [], [],none,0,none,0,hr1,dW.nil _ _,ag,ai,rfl,by simp;omega,hx1,rJ.out⟩
 case round=>
  clear hr1 hx1 rJ p9 ag ai hz1;obtain⟨s2,bad,n,ks,l,a2,c2,a3,c3,hr2,hO,ag,ai,rfl,eJ,hx,gI⟩:=hrel;have HO:=ae hO;have Hb:=ae gI.1;have yJ:=ae (show bad=true->s2.data.toList= []/\R=none from fun h=>⟨gI.1 h,by rcases gI.2.2 with⟨h',-⟩|⟨-,h'⟩;rw [h] at h';cases h';exact h'⟩);have rJ:=ae gI;have abo:n+s2.size<=1048577:=by omega
  have qd:=ae eJ;have hnl:=hO.nl;have FY:=ae hnl;clear eJ;have hlr:=hr2.lt;have bF:=hx.size;have abp:=ai.lt;clear hO gI hnl;obtain⟨hc1,aA,ay⟩:=ai.see;obtain⟨f0,ax⟩:∃f0,decide (l= [])=f0:=⟨_,rfl⟩;have gW:((n:Int)==0)=f0:=by rw [<-ax,<-FY.out,Bool.eq_iff_iff];simp
  have wE:=ae (show bad=false->R=uD 125 f0 (fun t=>some ((ks,l),t)) (uF (cg f) s2.size ks l) s2.data.toList from fun h=>by subst h;have:=abt rJ.out;rwa [ax] at this);clear ax;go_wp2_with fail;(refine(KN r s2 bad f0 125 (by decide) Hb.out _ hr2).mono ?_);rintro e w3 hm;obtain⟨h3,hend⟩:=K3 hm (fun hb=>by subst hb;exact wE.out rfl) yJ.out (abu _ _ _ _) (by decide);have cx:=ae hend;have nK:=af.rd h3 ag (by omega);have oC:=af.rd h3 ai (by omega);have hx3:=hx.trans h3;have jd:=ae (dW.rd HO.out h3 (by omega));have hz3:=h3.size;clear hm hend ag ai hr2 hx hc1 aA ay wE yJ HO;rcases cx.out with⟨rfl,s3,nM,hr3,hfin⟩|⟨rfl,rfl,s3,hr3,CW,bN⟩
  ·have oN:=ae hfin
   clear hfin;obtain⟨hc0,ax,hl0⟩:=nK.see;obtain⟨K8,K9,La⟩:=oC.see;go_wp2_with fail;refine aF (h:= ?_);have tU:=dW.obj jd.out;have e1:=jd.out.nk;have e2:=jd.out.nl;refine⟨dY, .mk 5 0 ⟨#[]⟩ ks l,a2,c2,a3,c3,s3,nM,by simp [V.val,e1,e2],tU.keep (Held.kept (a:=w3) (T:=fun b=>w.heap.size+2<=b) aB) (fun b hb _=>by omega),gZ,?_⟩;rcases oN.out with⟨hq0,hq⟩|⟨hq0,h0,hq⟩
   ·exact .inl ⟨hq0,by rw [hq];rfl⟩
   ·exact .inr ⟨hq0,h0,by rw [hq];rfl⟩
  ·have uE:=ae bN
   have Rz:=ae (rJ.out.2.1 rfl);clear bN cx;have sN:=hr3.lt;have afZ:s3.size<=1048576:=by have:=qd.out;simp at this;omega
   go_wp2_with fail;(refine(Ak r s3 false _ hr3).mono ?_);rintro e w4 ⟨rfl,⟨s4,hs4,hr4⟩,h4⟩;have rB:=af.rd h4 nK (by omega);have Lg:=af.rd h4 oC (by omega);have bP:=hx3.trans h4;have C2:=ae (dW.rd jd.out h4 (by omega));have iu:=h4.size;have abB:s4.size<=1048576:=by have e3:s3.data.toList.length=s3.size:=Array.length_toList;have e4:s4.data.toList.length=s4.size:=Array.length_toList;have:=mE s3.data.toList;rw [hs4] at e4;omega
   have yL:=ae hs4;obtain⟨c4,rh⟩:∃c4,fZ s4.data.toList=c4:=⟨_,rfl⟩;have FZ:=ae rh;clear hs4 rh nK oC hx3 jd hr3 h4;have Rx:=hr4.lt;by_cases hq:(c4.toNat:Int)=34
   ·have Lh:c4=34:=by apply UInt8.toNat_inj.1;simpa using (by omega:c4.toNat=34)
    have xw:((c4.toNat:Int) !=34)=false:=by simpa using hq
    obtain⟨t4,Az⟩:∃t4,s4.data.toList=34::t4:=by
     have:=FZ.out
     cases hk:s4.data.toList with
     |nil=>rw [hk,Lh] at this;cases this
     |cons c u=>rw [hk,Lh] at this;have this:c=34:=this;exact⟨u,by rw [this]⟩
    have RA:dG s3.data.toList=34::t4:=by rw [<-yL.out,Az]
    have RB:=ae RA;have RD:=ae Az;have Hq:=ae hq;clear RA Az Lh hq;go_wp2_with fail;(refine(lC r s4 false _ hr4).mono ?_);rintro e wn ⟨rfl,rfl⟩;rw [FZ.out];go_wp2_with fail;(refine(Rk r s4 t4 RD.out abB _ hr4).mono ?_);rintro e w5 hT;obtain⟨h5,key,s5,lS,rfl,Fx,uC,RF⟩:=hT;have Li:=ae RF;clear RF;go_wp2_with fail;(refine(Ak r s5 lS _ uC).mono ?_);rintro e w6 ⟨rfl,⟨s6,C4,mK⟩,h6⟩;have AA:=ae C4;clear C4;go_wp2_with fail;(refine(wA r s6 lS ⟨#[58]⟩ _ mK).mono ?_);rintro e w7 ⟨rfl,h7,RG⟩;obtain⟨s7,rK,jg,hK,abC⟩:∃s7 rK,Sr w7 r s7 rK/\Lf (cg f) s3.data.toList key s7 rK/\s7.size<=1048576:=by
     have e4:s4.data.toList.length=s4.size:=Array.length_toList;have e5:s5.data.toList.length=s5.size:=Array.length_toList;have Fu:s5.data.toList.length<=1048576:=by
      rw [RD.out,List.length_cons] at e4;rcases Li.out with⟨-,h⟩|⟨-,h,-⟩
      ·have:=Cj _ _ _ _ h
       simp only at this;omega
      ·rw [h];simp
     rcases RG with⟨hp,s7,fu,jg⟩|⟨hp,jg⟩
     ·refine⟨s7,lS,jg,Ry RB.out Li.out (.inl ⟨by rw [<-AA.out];exact hp,by rw [fu,AA.out];rfl,rfl⟩),?_⟩
      have e7:s7.data.toList.length=s7.size:=Array.length_toList;have:=mE s5.data.toList;rw [fu,List.length_drop,AA.out] at e7;omega
     ·exact⟨⟨#[]⟩,true,jg,Ry RB.out Li.out (.inr ⟨by rw [<-AA.out];exact hp,rfl,rfl⟩),by decide⟩
    have h47:Rd r wn w7:=(h5.trans h6).trans h7;have RH:rK=true->s7.data.toList= []:=fun h=>by rcases hK with⟨h',-⟩|⟨-,h',-⟩;rw [h] at h';cases h';exact h'
    have Hb7:=ae RH;have HK:=ae hK;have RI:=af.rd h47 rB (by omega);have RJ:=af.rd h47 Lg (by omega);have cy:=bP.trans h47;have lD:=ae (dW.rd C2.out h47 (by omega));have IY:=h47.size;have af0:=jg.lt;clear RG RH hK mK uC h5 h6 h7 h47 hr4 rB Lg bP;go_wp2_with fail;(refine(Hv.out r (d+1) s7 rK _ (by have:=Hd.out;omega) Hb7.out abC jg (Hl.out.on (Rd.below cy))).mono ?_);rintro e w8 hval;obtain⟨h8,x,kb,kd,lb,ld,s8,kE,rfl,BR,Lj,RL⟩:=hval;have HM:=ae (abx (Rv f) HK.out RL);have abD:=af.rd h8 RI (by omega);have abE:=af.rd h8 RJ (by omega);have KT:=cy.trans h8;have RM:=ae (dW.rd lD.out h8 (by omega));have hz8:=h8.size;have q7:=ae (show x.In w8 (fun b=>w7.heap.size<=b/\b<w8.heap.size) kb kd lb ld from BR.mono fun b h hl=>⟨h,hl⟩);have F4:=ae (show∀g,(Value.slice a2 n c2).ownBlock=some g->g<w7.heap.size from fun g hg=>(lD.out.keys.lt g hg).2);have F5:=ae (show∀g,(Value.slice a3 n c3).ownBlock=some g->g<w7.heap.size from fun g hg=>by obtain⟨xs,h,-⟩:=lD.out.items;exact(h.lt g hg).2);have af1:=Lj.lt;clear BR RL jg RI RJ cy h8;go_upto_region 11 with fail
    refine aI (R:=fun wx=>aN wx w.heap.size/\af wx (w.heap.size+1) #[.int .i64 5, .int .i64 0, .string ⟨#[]⟩, .slice a2 n c2, .slice a3 n c3] 36/\aC wx w8.heap.size x kb kd lb ld/\Ext w8 wx) ⟨aj,aj,aj,Xt⟩ ?_;clear abD abE;rintro w9 ⟨ag,ai,dH,kO⟩;have RN:=Lj.ext kO;have C5:=ae (dW.ext RM.out kO);have RO:=ae (q7.out.ext kO);have RP:=KT.ext hlt kO;have Qy:=kO.size;clear Lj RM q7 KT lD C2 HK;obtain⟨hc1,aA,ay⟩:=ai.see;obtain⟨a9,c9,wF,-,-,RQ⟩:=dK.strs (w:=w9) (base:=w.heap.size+2) (v:= .slice a2 n c2) ⟨C5.out.nk,C5.out.keys⟩;simp only [Value.slice.injEq,true_and] at wF;obtain⟨rfl,rfl⟩:=wF;have RR:=ae RQ;have C6:=ae C5.out.nk;have cZ:n<=1073741824:=by omega
    clear RQ;go_wp2_with fail;(refine(zw a2 n c2 ks _ key _ C6.out RR.out Rz.out cZ).mono ?_);rintro e xS ⟨rfl,h10⟩;obtain⟨p,hp0⟩:∃p,posOf ks key=p:=⟨_,rfl⟩;rw [hp0];have Hp0:=ae hp0;have qg:p<=n:=by have:=sK ks key;rw [hp0,C6.out] at this;exact this
    have ag:=af.ext h10 ag;have ai:=af.ext h10 ai;have dH:=af.ext h10 dH;have F6:=RN.ext h10;have F7:=ae (dW.ext C5.out h10);have F8:=ae (RO.out.ext h10);have xU:=RP.ext hlt h10;have af2:=h10.size;clear hp0 RN C5 RO RP h10 hc1 aA ay RR
    cases tj:hasB ks key with
    |true=>
     have RS:=ae tj;clear tj;go_wp2_with fail;(refine(dz r s8 kE _ F6).mono ?_);rintro e q8 ⟨rfl,RT,h11⟩;have ag:=af.rd h11 ag (by omega);have ai:=af.rd h11 ai (by omega);have dH:=af.rd h11 dH (by omega);have EO:=ae (dW.rd F7.out h11 (by omega));have RU:=ae (In.rd h11 F8.out (fun b h=>by omega));have vL:=xU.trans h11;have XC:=h11.size;have cQ:=ae (abz (ks':=ks.take p++key::ks.drop p) (l':=l.take p++x::l.drop p) (s9:=⟨#[]⟩) uE.out HM.out RS.out rfl);clear F6 F7 F8 xU h11 HM uE;go_upto_region 14 with fail
     refine aI (R:=fun wx=>aN wx w.heap.size/\af wx (w.heap.size+1) #[.int .i64 5, .int .i64 0, .string ⟨#[]⟩, .slice a2 n c2, .slice a3 n c3] 36/\aC wx w8.heap.size x kb kd lb ld/\Ext q8 wx) ⟨ag,ai,dH,Xt⟩ ?_;clear ag ai dH;rintro wb ⟨ag,ai,dH,iR⟩;have lR:=RT.ext iR;have wu:=ae (dW.ext EO.out iR);have kV:=ae (RU.out.ext iR);have aO:=vL.ext hlt iR;have hzb:=iR.size;clear RT EO RU vL iR;obtain⟨hks,hll,pX,news,uG,hcells⟩:=wu.out;have hks:=ae hks;have hll:=ae hll;have kJ:=ae pX;have qh:=ae uG;have kI:=ae hcells.one;have kj:=ae hcells;have dQ:Hid (∀g,(Value.slice a2 n c2).ownBlock=some g->w.heap.size+2<=g/\g<wb.heap.size):=pX.lt;have fw:Hid (∀g,(Value.slice a3 n c3).ownBlock=some g->w.heap.size+2<=g/\g<wb.heap.size):=uG.lt;have dS:Hid (∀g,(Value.slice a2 n c2).ownBlock=some g-> (Value.slice a3 n c3).ownBlock≠some g):=fun g h h'=>by obtain⟨q1,z1,e1⟩:=zo pX g h;obtain⟨q2,z2,e2⟩:=zo uG g h';rw [e1] at e2;simp at e2
     have aT:=ae (show x.In wb (Beside (w.heap.size+2) (.slice a2 n c2) (.slice a3 n c3)) kb kd lb ld from kV.out.mono fun b h _=>⟨by omega,fun h'=>by have:=F4.out b h';omega,fun h'=>by have:=F5.out b h';omega⟩);clear pX uG hcells kV wu;obtain⟨T,hT⟩:∃T:aw,T=fun b=>(Value.slice a2 n c2).ownBlock≠some b/\ (Value.slice a3 n c3).ownBlock≠some b:=⟨_,rfl⟩
     have rL:Hid (∀k,(Value.slice a2 n c2).ownBlock=some k->¬T k):=by rw [hT];exact fun k h h'=>h'.1 h
     have rM:Hid (∀k,(Value.slice a3 n c3).ownBlock=some k->¬T k):=by rw [hT];exact fun k h h'=>h'.2 h
     have hT0:Hid (∀b,b<w.heap.size+2->T b):=by rw [hT];exact fun b hb=>⟨fun h=>by have:=(dQ.out b h).1;omega,fun h=>by have:=(fw.out b h).1;omega⟩
     have lT:Hid (T w8.heap.size):=by rw [hT];exact⟨fun h=>by have:=F4.out _ h;omega,fun h=>by have:=F5.out _ h;omega⟩
     have pD:Hid (∀b,Beside (w.heap.size+2) (.slice a2 n c2) (.slice a3 n c3) b->T b):=by rw [hT];exact fun b h=>h.2
     clear hT
     have au:∀w',Held T wb w'-> (w'.cell? ⟨w.heap.size+1,3,none⟩=some (.slice a2 n c2)/\w'.cell? ⟨w.heap.size+1,4,none⟩=some (.slice a3 n c3)/\w'.cell? ⟨w8.heap.size,0,none⟩=some (.int .i64 x.k)/\w'.cell? ⟨w8.heap.size,1,none⟩=some (.int .i64 x.n)/\w'.cell? ⟨w8.heap.size,2,none⟩=some (.string x.s)/\w'.cell? ⟨w8.heap.size,3,none⟩=some (.slice kb x.keys.length kd)/\w'.cell? ⟨w8.heap.size,4,none⟩=some (.slice lb x.l.length ld)):=
      fun w' e=>⟨e.kept.cell (hT0.out _ (by simp)) (ai.cells 3),e.kept.cell (hT0.out _ (by simp)) (ai.cells 4),e.kept.cell lT.out (dH.cells 0),e.kept.cell lT.out (dH.cells 1),e.kept.cell lT.out (dH.cells 2),e.kept.cell lT.out (dH.cells 3),e.kept.cell lT.out (dH.cells 4)⟩
     have hbl:=dH.lt;refine fC au (c:=13) (by kernel_rfl) ?_;refine aG 0 [13] (hS:=au _ aB) (h:= ?_);refine aG 1 [13] (hS:=au _ aB) (h:= ?_);refine aG 2 [13] (hS:=au _ aB) (h:= ?_);refine aG 3 [13] (hS:=au _ aB) (h:= ?_);refine aG 6 [13] (hS:=au _ aB) (h:= ?_);refine aG 7 [13] (hS:=au _ aB) (h:= ?_);refine aG 8 [11,13] (hS:=au _ aB) (h:= ?_);refine aG 9 [10,11,13] (hS:=au _ aB) (h:= ?_);(try simp only [rl]);refine lX (rs:= [4,10]) (by kernel_rfl) (by simp) ?_;refine cL.cons (Array.getElem?_eq_getElem (by decide)) (fun K hK=> ?_) (cL.cons (Array.getElem?_eq_getElem (by decide)) (fun K hK=> ?_) cL.nil)
     · (try simp only [rl])
       go_simp;refine hK.out _ _ (fun _=>au _ aB) ?_;clear hK K;(try simp only [rl]);refine lX (rs:= [5,10]) (by kernel_rfl) (by simp) ?_;refine cL.cons (Array.getElem?_eq_getElem (by decide)) (fun K hK=> ?_) (cL.cons (Array.getElem?_eq_getElem (by decide)) (fun K hK=> ?_) cL.nil)
       · (try simp only [rl])
         (try go_simp);(refine(uH (w.heap.size+2) n p _ _ (.slice a2 n c2) (ks.map Value.string) [.string key] _ 9 ?_ ?_ cZ qg ?_ ?_ rfl (oG ks) (by simp [Value.oneCell'])).mono ?_);(focus(simp;omega));(focus(exact eu kJ.out Xt));(focus(exact aj));(focus(intro h;have h':=(dQ.out _ h).2;(first|omega|(simp at h';omega)|(simp at h';done))));rintro e w5 ⟨g5,cV,rfl,dM,cz,fx⟩;have eA:Held T wb w5:=Held.grown aB cz rL.out;have bG:Rd r w w5:=Rd.grown dY cz (fun g hg=>by have:=(dQ.out g hg).1;omega) hlt;have lU:=ae (dL qh.out (fun b hb hg=>Held.block (T:=fun c=>(Value.slice a2 n c2).ownBlock≠some c) (Held.grown aB cz (fun k hk h=>h hk)) b (fun h=>dS.out b h hg) hb));have ft:(Value.slice a3 n c3).ownBlock≠some g5:=fun h=>by
          rcases fx with h'|h'
          ·exact dS.out _ h' h
          ·have h2:=(fw.out _ h).2;simp at h';omega
         have rN:Hid (∀b,Beside (w.heap.size+2) (.slice a2 n c2) (.slice a3 n c3) b->b<wb.heap.size->b≠g5):=fun b hb hl he=>by
          rcases fx with h'|h'
          ·exact hb.2.1 (he▸h')
          ·simp at h';omega
         have gq:wb.heap.size<=w5.heap.size:=eA.size;have iE:=ae dM;have nN:=ae ft;clear dM fx ft;(try go_simp);refine hK.out _ _ (fun _=>au _ aB) ?_;clear hK K;refine aG 12 [13] (hS:=au _ aB) (h:= ?_);(try simp only [rl]);refine aL 10 (h:=fun K hK=> ?_);(try simp only [rl]);go_simp;refine hK.out _ _ (fun _=>au _ aB) ?_;clear hK K;(try simp only [rl]);refine aL 11 (h:=fun K hK=> ?_);(try simp only [rl]);(try go_simp);(refine(qB (w.heap.size+2) n p _ _ (.slice a3 n c3) news (x.five kb kd lb ld) _ 36 ?_ ?_ cZ qg ?_ ?_ rfl kI.out (x.lY kb kd lb ld)).mono ?_);(focus(first|(simp;omega)|omega));(focus(exact eu lU.out Xt));(focus(exact aj));(focus(intro h;have h':=(fw.out _ h).2;(first|omega|(simp at h';omega)|(simp at h';done))));rintro e w6 ⟨g6,bp,rfl,bz,aW,bX⟩;have bw:Held T wb w6:=Held.grown aB aW rM.out;(try go_simp);refine hK.out _ _ (fun _=>au _ bw) ?_;clear hK K;(try simp only [rl]);have bS:Rd r w w6:=Rd.grown dY aW (fun g hg=>by have:=(fw.out g hg).1;omega) hlt;have rO:=ae (dL iE.out (fun b hb hg=>Held.block (T:=fun c=>(Value.slice a3 n c3).ownBlock≠some c) (Held.grown aB aW (fun k hk h=>h hk)) b (by simp only [Value.ownBlock,Option.map_some,Option.some.injEq] at hg;rw [<-hg];exact nN.out) hb));have fX:∀b,Beside (w.heap.size+2) (.slice a2 n c2) (.slice a3 n c3) b->b<wb.heap.size->b≠g6:=fun b hb hl he=>by
          rcases bX with h'|h'
          ·exact hb.2.2 (he▸h')
          · (first|omega|(simp at h';omega))
         have hnew:∀b,Beside (w.heap.size+2) (.slice a2 n c2) (.slice a3 n c3) b->b<wb.heap.size->Beside (w.heap.size+2) (.slice (some ⟨g5,0,none⟩) (n+1) cV) (.slice (some ⟨g6,0,none⟩) (n+1) bp) b:=fun b hb hl=>⟨hb.1,fun h=>rN.out b hb hl (by simpa [Value.ownBlock] using h.symm),fun h=>fX b hb hl (by simpa [Value.ownBlock] using h.symm)⟩;have hcc:=(kj.out.keep (Held.kept (Held.mono bw pD.out)) hnew).ins p (aT.out.keep (Held.kept (Held.mono bw pD.out)) hnew)
         have kA:Hid (dW w6 (w.heap.size+2) (.slice (some ⟨g5,0,none⟩) (n+1) cV) (.slice (some ⟨g6,0,none⟩) (n+1) bp) (n+1) (ks.take p++key::ks.drop p) (l.take p++x::l.drop p)):=
          ⟨by simp [hks.out];omega,by simp [hll.out];omega,by simpa [List.map_take,List.map_drop] using rO.out,_,bz,hcc⟩
         have mK:Sr w6 r (⟨#[]⟩:ah) true:=af.held bw lR (hT0.out _ (by omega));have ag:=af.held bw ag (hT0.out _ (by omega));have ai:=af.held bw ai (hT0.out _ (by omega));have vA:=bw.size;clear bz aW bX hcc hnew fX au cz eA bG dH lR aO;obtain⟨hc1,aA,ay⟩:=ai.see;refine aL 13 (h:=fun K hK=> ?_);(try simp only [rl]);go_simp;refine br hK (h:= ?_);clear hK K;(try simp only [rl]);refine aL 14 (h:=fun K hK=> ?_);(try simp only [rl]);go_simp;refine br hK (h:= ?_);clear hK K;(try simp only [rl]);refine aL 15 (h:=fun K hK=> ?_);(try simp only [rl]);go_simp;refine br hK (h:= ?_);clear hK K;(try simp only [rl]);refine dw (by kernel_rfl) ?_ _;obtain⟨wy,bM⟩:∃wy,(w6.setCell ⟨w.heap.size+1,3,none⟩ (Value.slice (some ⟨g5,0,none⟩) (n+1) cV)).setCell ⟨w.heap.size+1,4,none⟩ (Value.slice (some ⟨g6,0,none⟩) (n+1) bp)=wy:=⟨_,rfl⟩;have jg:Sr wy r (⟨#[]⟩:ah) true:=by rw [<-bM];exact gZ
         have ag:aN wy w.heap.size:=by rw [<-bM];exact aj
         have ai:af wy (w.heap.size+1) #[.int .i64 5, .int .i64 0, .string ⟨#[]⟩, .slice (some ⟨g5,0,none⟩) (n+1) cV, .slice (some ⟨g6,0,none⟩) (n+1) bp] 36:=by rw [<-bM];exact aj
         have rP:Held (fun b=>w.heap.size+2<=b) w6 wy:=by rw [<-bM];exact aB
         have cy:Rd r w wy:=by rw [<-bM];exact dY
         rw [bM];clear mK hc1 aA ay bS bM;have lD:=ae (dW.keep kA.out (fun b hb hk=>rP.block b hk hb));have rQ:=ae cQ.out.2;have rR:=ae cQ.out.1
         have rS:=ae (show n+1+(((⟨#[]⟩:ah)).size+(if true=true then 0 else 1))<=1048577 by
          have h1:=qd.out;have h2:=cQ.out.1;have h3:(⟨#[]⟩:ah).size=0:=rfl;simp only [Bool.false_eq_true,if_false] at h1
          (first|omega|(simp [h3];omega)|(simp [h3];done)))
         go_wp2_with fail;go_roundg (((⟨#[]⟩:ah)).size+(if true=true then 0 else 1))
         case measure=>have:=rR.out;simpa using this
         case rel=>exact⟨(⟨#[]⟩:ah),true,n+1,ks.take p++key::ks.drop p,l.take p++x::l.drop p,some ⟨g5,0,none⟩,cV,some ⟨g6,0,none⟩,bp,jg,lD.out,ag,ai,rfl,rS.out,cy,rQ.out⟩
       · (try simp only [rl])
         go_simp;refine hK.out _ _ (fun _=>au _ aB) ?_;clear hK K;(try simp only [rl]);refine aL 5 (h:=fun K hK=> ?_);(try simp only [rl]);(try go_simp);(refine(uH (w.heap.size+2) n p _ _ (.slice a2 n c2) (ks.map Value.string) [.string key] _ 9 ?_ ?_ cZ qg ?_ ?_ rfl (oG ks) (by simp [Value.oneCell'])).mono ?_);(focus(simp;omega));(focus(exact eu kJ.out Xt));(focus(exact aj));(focus(intro h;have h':=(dQ.out _ h).2;(first|omega|(simp at h';omega)|(simp at h';done))));rintro e w5 ⟨g5,cV,rfl,dM,cz,fx⟩;have eA:Held T wb w5:=Held.grown aB cz rL.out;have bG:Rd r w w5:=Rd.grown dY cz (fun g hg=>by have:=(dQ.out g hg).1;omega) hlt;have lU:=ae (dL qh.out (fun b hb hg=>Held.block (T:=fun c=>(Value.slice a2 n c2).ownBlock≠some c) (Held.grown aB cz (fun k hk h=>h hk)) b (fun h=>dS.out b h hg) hb));have ft:(Value.slice a3 n c3).ownBlock≠some g5:=fun h=>by
          rcases fx with h'|h'
          ·exact dS.out _ h' h
          ·have h2:=(fw.out _ h).2;simp at h';omega
         have rN:Hid (∀b,Beside (w.heap.size+2) (.slice a2 n c2) (.slice a3 n c3) b->b<wb.heap.size->b≠g5):=fun b hb hl he=>by
          rcases fx with h'|h'
          ·exact hb.2.1 (he▸h')
          ·simp at h';omega
         have gq:wb.heap.size<=w5.heap.size:=eA.size;have iE:=ae dM;have nN:=ae ft;have C8:af w5 (wb.heap.size+1) (x.five kb kd lb ld).toArray 36:=af.grown (w':=w5) aj cz (fun e=>by have h':=(dQ.out _ e.symm).2;omega);clear dM fx ft;(try go_simp);refine hK.out _ _ (fun _=>au _ aB) ?_;clear hK K;refine aG 12 [13] (hS:=au _ aB) (h:= ?_);(try simp only [rl]);refine aL 11 (h:=fun K hK=> ?_);(try simp only [rl]);(try go_simp);(refine(qB (w.heap.size+2) n p _ _ (.slice a3 n c3) news (x.five kb kd lb ld) _ 36 ?_ ?_ cZ qg ?_ ?_ rfl kI.out (x.lY kb kd lb ld)).mono ?_);(focus(first|(simp;omega)|omega));(focus(exact eu lU.out Xt));(focus(exact aj));(focus(intro h;have h':=(fw.out _ h).2;(first|omega|(simp at h';omega)|(simp at h';done))));rintro e w6 ⟨g6,bp,rfl,bz,aW,bX⟩;have bw:Held T wb w6:=Held.grown aB aW rM.out;(try go_simp);refine hK.out _ _ (fun _=>au _ bw) ?_;clear hK K;(try simp only [rl]);have bS:Rd r w w6:=Rd.grown dY aW (fun g hg=>by have:=(fw.out g hg).1;omega) hlt;have rO:=ae (dL iE.out (fun b hb hg=>Held.block (T:=fun c=>(Value.slice a3 n c3).ownBlock≠some c) (Held.grown aB aW (fun k hk h=>h hk)) b (by simp only [Value.ownBlock,Option.map_some,Option.some.injEq] at hg;rw [<-hg];exact nN.out) hb));have fX:∀b,Beside (w.heap.size+2) (.slice a2 n c2) (.slice a3 n c3) b->b<wb.heap.size->b≠g6:=fun b hb hl he=>by
          rcases bX with h'|h'
          ·exact hb.2.2 (he▸h')
          · (first|omega|(simp at h';omega))
         have hnew:∀b,Beside (w.heap.size+2) (.slice a2 n c2) (.slice a3 n c3) b->b<wb.heap.size->Beside (w.heap.size+2) (.slice (some ⟨g5,0,none⟩) (n+1) cV) (.slice (some ⟨g6,0,none⟩) (n+1) bp) b:=fun b hb hl=>⟨hb.1,fun h=>rN.out b hb hl (by simpa [Value.ownBlock] using h.symm),fun h=>fX b hb hl (by simpa [Value.ownBlock] using h.symm)⟩;have hcc:=(kj.out.keep (Held.kept (Held.mono bw pD.out)) hnew).ins p (aT.out.keep (Held.kept (Held.mono bw pD.out)) hnew)
         have kA:Hid (dW w6 (w.heap.size+2) (.slice (some ⟨g5,0,none⟩) (n+1) cV) (.slice (some ⟨g6,0,none⟩) (n+1) bp) (n+1) (ks.take p++key::ks.drop p) (l.take p++x::l.drop p)):=
          ⟨by simp [hks.out];omega,by simp [hll.out];omega,by simpa [List.map_take,List.map_drop] using rO.out,_,bz,hcc⟩
         have mK:Sr w6 r (⟨#[]⟩:ah) true:=af.held bw lR (hT0.out _ (by omega));have ag:=af.held bw ag (hT0.out _ (by omega));have ai:=af.held bw ai (hT0.out _ (by omega));have vA:=bw.size;clear bz aW bX hcc hnew fX au cz eA bG dH lR aO;obtain⟨hc1,aA,ay⟩:=ai.see;refine aL 13 (h:=fun K hK=> ?_);(try simp only [rl]);go_simp;refine br hK (h:= ?_);clear hK K;(try simp only [rl]);refine aL 14 (h:=fun K hK=> ?_);(try simp only [rl]);go_simp;refine br hK (h:= ?_);clear hK K;(try simp only [rl]);refine aL 15 (h:=fun K hK=> ?_);(try simp only [rl]);go_simp;refine br hK (h:= ?_);clear hK K;(try simp only [rl]);refine dw (by kernel_rfl) ?_ _;obtain⟨wy,bM⟩:∃wy,(w6.setCell ⟨w.heap.size+1,3,none⟩ (Value.slice (some ⟨g5,0,none⟩) (n+1) cV)).setCell ⟨w.heap.size+1,4,none⟩ (Value.slice (some ⟨g6,0,none⟩) (n+1) bp)=wy:=⟨_,rfl⟩;have jg:Sr wy r (⟨#[]⟩:ah) true:=by rw [<-bM];exact gZ
         have ag:aN wy w.heap.size:=by rw [<-bM];exact aj
         have ai:af wy (w.heap.size+1) #[.int .i64 5, .int .i64 0, .string ⟨#[]⟩, .slice (some ⟨g5,0,none⟩) (n+1) cV, .slice (some ⟨g6,0,none⟩) (n+1) bp] 36:=by rw [<-bM];exact aj
         have rP:Held (fun b=>w.heap.size+2<=b) w6 wy:=by rw [<-bM];exact aB
         have cy:Rd r w wy:=by rw [<-bM];exact dY
         rw [bM];clear mK hc1 aA ay bS bM;have lD:=ae (dW.keep kA.out (fun b hb hk=>rP.block b hk hb));have rQ:=ae cQ.out.2;have rR:=ae cQ.out.1
         have rS:=ae (show n+1+(((⟨#[]⟩:ah)).size+(if true=true then 0 else 1))<=1048577 by
          have h1:=qd.out;have h2:=cQ.out.1;have h3:(⟨#[]⟩:ah).size=0:=rfl;simp only [Bool.false_eq_true,if_false] at h1
          (first|omega|(simp [h3];omega)|(simp [h3];done)))
         go_wp2_with fail;go_roundg (((⟨#[]⟩:ah)).size+(if true=true then 0 else 1))
         case measure=>have:=rR.out;simpa using this
         case rel=>exact⟨(⟨#[]⟩:ah),true,n+1,ks.take p++key::ks.drop p,l.take p++x::l.drop p,some ⟨g5,0,none⟩,cV,some ⟨g6,0,none⟩,bp,jg,lD.out,ag,ai,rfl,rS.out,cy,rQ.out⟩
     · (try simp only [rl])
       go_simp;refine hK.out _ _ (fun _=>au _ aB) ?_;clear hK K;(try simp only [rl]);refine aL 4 (h:=fun K hK=> ?_);(try simp only [rl]);go_simp;refine hK.out _ _ (fun _=>au _ aB) ?_;clear hK K;(try simp only [rl]);refine aL 5 (h:=fun K hK=> ?_);(try simp only [rl]);(try go_simp);(refine(uH (w.heap.size+2) n p _ _ (.slice a2 n c2) (ks.map Value.string) [.string key] _ 9 ?_ ?_ cZ qg ?_ ?_ rfl (oG ks) (by simp [Value.oneCell'])).mono ?_);(focus(simp;omega));(focus(exact eu kJ.out Xt));(focus(exact aj));(focus(intro h;have h':=(dQ.out _ h).2;(first|omega|(simp at h';omega)|(simp at h';done))));rintro e w5 ⟨g5,cV,rfl,dM,cz,fx⟩;have eA:Held T wb w5:=Held.grown aB cz rL.out;have bG:Rd r w w5:=Rd.grown dY cz (fun g hg=>by have:=(dQ.out g hg).1;omega) hlt;have lU:=ae (dL qh.out (fun b hb hg=>Held.block (T:=fun c=>(Value.slice a2 n c2).ownBlock≠some c) (Held.grown aB cz (fun k hk h=>h hk)) b (fun h=>dS.out b h hg) hb));have ft:(Value.slice a3 n c3).ownBlock≠some g5:=fun h=>by
        rcases fx with h'|h'
        ·exact dS.out _ h' h
        ·have h2:=(fw.out _ h).2;simp at h';omega
       have rN:Hid (∀b,Beside (w.heap.size+2) (.slice a2 n c2) (.slice a3 n c3) b->b<wb.heap.size->b≠g5):=fun b hb hl he=>by
        rcases fx with h'|h'
        ·exact hb.2.1 (he▸h')
        ·simp at h';omega
       have gq:wb.heap.size<=w5.heap.size:=eA.size;have iE:=ae dM;have nN:=ae ft;have C8:af w5 (wb.heap.size) (x.five kb kd lb ld).toArray 36:=af.grown (w':=w5) aj cz (fun e=>by have h':=(dQ.out _ e.symm).2;omega);clear dM fx ft;(try go_simp);refine hK.out _ _ (fun _=>au _ aB) ?_;clear hK K;refine aG 12 [13] (hS:=au _ aB) (h:= ?_);(try simp only [rl]);refine aL 11 (h:=fun K hK=> ?_);(try simp only [rl]);(try go_simp);(refine(qB (w.heap.size+2) n p _ _ (.slice a3 n c3) news (x.five kb kd lb ld) _ 36 ?_ ?_ cZ qg ?_ ?_ rfl kI.out (x.lY kb kd lb ld)).mono ?_);(focus(first|(simp;omega)|omega));(focus(exact eu lU.out Xt));(focus(exact aj));(focus(intro h;have h':=(fw.out _ h).2;(first|omega|(simp at h';omega)|(simp at h';done))));rintro e w6 ⟨g6,bp,rfl,bz,aW,bX⟩;have bw:Held T wb w6:=Held.grown aB aW rM.out;(try go_simp);refine hK.out _ _ (fun _=>au _ bw) ?_;clear hK K;(try simp only [rl]);have bS:Rd r w w6:=Rd.grown dY aW (fun g hg=>by have:=(fw.out g hg).1;omega) hlt;have rO:=ae (dL iE.out (fun b hb hg=>Held.block (T:=fun c=>(Value.slice a3 n c3).ownBlock≠some c) (Held.grown aB aW (fun k hk h=>h hk)) b (by simp only [Value.ownBlock,Option.map_some,Option.some.injEq] at hg;rw [<-hg];exact nN.out) hb));have fX:∀b,Beside (w.heap.size+2) (.slice a2 n c2) (.slice a3 n c3) b->b<wb.heap.size->b≠g6:=fun b hb hl he=>by
        rcases bX with h'|h'
        ·exact hb.2.2 (he▸h')
        · (first|omega|(simp at h';omega))
       have hnew:∀b,Beside (w.heap.size+2) (.slice a2 n c2) (.slice a3 n c3) b->b<wb.heap.size->Beside (w.heap.size+2) (.slice (some ⟨g5,0,none⟩) (n+1) cV) (.slice (some ⟨g6,0,none⟩) (n+1) bp) b:=fun b hb hl=>⟨hb.1,fun h=>rN.out b hb hl (by simpa [Value.ownBlock] using h.symm),fun h=>fX b hb hl (by simpa [Value.ownBlock] using h.symm)⟩;have hcc:=(kj.out.keep (Held.kept (Held.mono bw pD.out)) hnew).ins p (aT.out.keep (Held.kept (Held.mono bw pD.out)) hnew)
       have kA:Hid (dW w6 (w.heap.size+2) (.slice (some ⟨g5,0,none⟩) (n+1) cV) (.slice (some ⟨g6,0,none⟩) (n+1) bp) (n+1) (ks.take p++key::ks.drop p) (l.take p++x::l.drop p)):=
        ⟨by simp [hks.out];omega,by simp [hll.out];omega,by simpa [List.map_take,List.map_drop] using rO.out,_,bz,hcc⟩
       have mK:Sr w6 r (⟨#[]⟩:ah) true:=af.held bw lR (hT0.out _ (by omega));have ag:=af.held bw ag (hT0.out _ (by omega));have ai:=af.held bw ai (hT0.out _ (by omega));have vA:=bw.size;clear bz aW bX hcc hnew fX au cz eA bG dH lR aO;obtain⟨hc1,aA,ay⟩:=ai.see;refine aL 13 (h:=fun K hK=> ?_);(try simp only [rl]);go_simp;refine br hK (h:= ?_);clear hK K;(try simp only [rl]);refine aL 14 (h:=fun K hK=> ?_);(try simp only [rl]);go_simp;refine br hK (h:= ?_);clear hK K;(try simp only [rl]);refine aL 15 (h:=fun K hK=> ?_);(try simp only [rl]);go_simp;refine br hK (h:= ?_);clear hK K;(try simp only [rl]);refine dw (by kernel_rfl) ?_ _;obtain⟨wy,bM⟩:∃wy,(w6.setCell ⟨w.heap.size+1,3,none⟩ (Value.slice (some ⟨g5,0,none⟩) (n+1) cV)).setCell ⟨w.heap.size+1,4,none⟩ (Value.slice (some ⟨g6,0,none⟩) (n+1) bp)=wy:=⟨_,rfl⟩;have jg:Sr wy r (⟨#[]⟩:ah) true:=by rw [<-bM];exact gZ
       have ag:aN wy w.heap.size:=by rw [<-bM];exact aj
       have ai:af wy (w.heap.size+1) #[.int .i64 5, .int .i64 0, .string ⟨#[]⟩, .slice (some ⟨g5,0,none⟩) (n+1) cV, .slice (some ⟨g6,0,none⟩) (n+1) bp] 36:=by rw [<-bM];exact aj
       have rP:Held (fun b=>w.heap.size+2<=b) w6 wy:=by rw [<-bM];exact aB
       have cy:Rd r w wy:=by rw [<-bM];exact dY
       rw [bM];clear mK hc1 aA ay bS bM;have lD:=ae (dW.keep kA.out (fun b hb hk=>rP.block b hk hb));have rQ:=ae cQ.out.2;have rR:=ae cQ.out.1
       have rS:=ae (show n+1+(((⟨#[]⟩:ah)).size+(if true=true then 0 else 1))<=1048577 by
        have h1:=qd.out;have h2:=cQ.out.1;have h3:(⟨#[]⟩:ah).size=0:=rfl;simp only [Bool.false_eq_true,if_false] at h1
        (first|omega|(simp [h3];omega)|(simp [h3];done)))
       go_wp2_with fail;go_roundg (((⟨#[]⟩:ah)).size+(if true=true then 0 else 1))
       case measure=>have:=rR.out;simpa using this
       case rel=>exact⟨(⟨#[]⟩:ah),true,n+1,ks.take p++key::ks.drop p,l.take p++x::l.drop p,some ⟨g5,0,none⟩,cV,some ⟨g6,0,none⟩,bp,jg,lD.out,ag,ai,rfl,rS.out,cy,rQ.out⟩
    |false=>
     have RS:=ae tj;have cQ:=ae (by have h:=aby Rz.out uE.out CW HM.out tj;rw [Hp0.out] at h;exact h);clear tj HM uE;go_upto_region 14 with fail
     refine aI (R:=fun wx=>aN wx w.heap.size/\af wx (w.heap.size+1) #[.int .i64 5, .int .i64 0, .string ⟨#[]⟩, .slice a2 n c2, .slice a3 n c3] 36/\aC wx w8.heap.size x kb kd lb ld/\Ext xS wx) ⟨ag,ai,dH,Xt⟩ ?_;clear ag ai dH;rintro wb ⟨ag,ai,dH,iR⟩;have lR:=F6.ext iR;have wu:=ae (dW.ext F7.out iR);have kV:=ae (F8.out.ext iR);have aO:=xU.ext hlt iR;have hzb:=iR.size;clear F6 F7 F8 xU iR;obtain⟨hks,hll,pX,news,uG,hcells⟩:=wu.out;have hks:=ae hks;have hll:=ae hll;have kJ:=ae pX;have qh:=ae uG;have kI:=ae hcells.one;have kj:=ae hcells;have dQ:Hid (∀g,(Value.slice a2 n c2).ownBlock=some g->w.heap.size+2<=g/\g<wb.heap.size):=pX.lt;have fw:Hid (∀g,(Value.slice a3 n c3).ownBlock=some g->w.heap.size+2<=g/\g<wb.heap.size):=uG.lt;have dS:Hid (∀g,(Value.slice a2 n c2).ownBlock=some g-> (Value.slice a3 n c3).ownBlock≠some g):=fun g h h'=>by obtain⟨q1,z1,e1⟩:=zo pX g h;obtain⟨q2,z2,e2⟩:=zo uG g h';rw [e1] at e2;simp at e2
     have aT:=ae (show x.In wb (Beside (w.heap.size+2) (.slice a2 n c2) (.slice a3 n c3)) kb kd lb ld from kV.out.mono fun b h _=>⟨by omega,fun h'=>by have:=F4.out b h';omega,fun h'=>by have:=F5.out b h';omega⟩);clear pX uG hcells kV wu;obtain⟨T,hT⟩:∃T:aw,T=fun b=>(Value.slice a2 n c2).ownBlock≠some b/\ (Value.slice a3 n c3).ownBlock≠some b:=⟨_,rfl⟩
     have rL:Hid (∀k,(Value.slice a2 n c2).ownBlock=some k->¬T k):=by rw [hT];exact fun k h h'=>h'.1 h
     have rM:Hid (∀k,(Value.slice a3 n c3).ownBlock=some k->¬T k):=by rw [hT];exact fun k h h'=>h'.2 h
     have hT0:Hid (∀b,b<w.heap.size+2->T b):=by rw [hT];exact fun b hb=>⟨fun h=>by have:=(dQ.out b h).1;omega,fun h=>by have:=(fw.out b h).1;omega⟩
     have lT:Hid (T w8.heap.size):=by rw [hT];exact⟨fun h=>by have:=F4.out _ h;omega,fun h=>by have:=F5.out _ h;omega⟩
     have pD:Hid (∀b,Beside (w.heap.size+2) (.slice a2 n c2) (.slice a3 n c3) b->T b):=by rw [hT];exact fun b h=>h.2
     clear hT
     have au:∀w',Held T wb w'-> (w'.cell? ⟨w.heap.size+1,3,none⟩=some (.slice a2 n c2)/\w'.cell? ⟨w.heap.size+1,4,none⟩=some (.slice a3 n c3)/\w'.cell? ⟨w8.heap.size,0,none⟩=some (.int .i64 x.k)/\w'.cell? ⟨w8.heap.size,1,none⟩=some (.int .i64 x.n)/\w'.cell? ⟨w8.heap.size,2,none⟩=some (.string x.s)/\w'.cell? ⟨w8.heap.size,3,none⟩=some (.slice kb x.keys.length kd)/\w'.cell? ⟨w8.heap.size,4,none⟩=some (.slice lb x.l.length ld)):=
      fun w' e=>⟨e.kept.cell (hT0.out _ (by simp)) (ai.cells 3),e.kept.cell (hT0.out _ (by simp)) (ai.cells 4),e.kept.cell lT.out (dH.cells 0),e.kept.cell lT.out (dH.cells 1),e.kept.cell lT.out (dH.cells 2),e.kept.cell lT.out (dH.cells 3),e.kept.cell lT.out (dH.cells 4)⟩
     have hbl:=dH.lt;refine fC au (c:=13) (by kernel_rfl) ?_;refine aG 0 [13] (hS:=au _ aB) (h:= ?_);refine aG 1 [13] (hS:=au _ aB) (h:= ?_);refine aG 2 [13] (hS:=au _ aB) (h:= ?_);refine aG 3 [13] (hS:=au _ aB) (h:= ?_);refine aG 6 [13] (hS:=au _ aB) (h:= ?_);refine aG 7 [13] (hS:=au _ aB) (h:= ?_);refine aG 8 [11,13] (hS:=au _ aB) (h:= ?_);refine aG 9 [10,11,13] (hS:=au _ aB) (h:= ?_);(try simp only [rl]);refine lX (rs:= [4,10]) (by kernel_rfl) (by simp) ?_;refine cL.cons (Array.getElem?_eq_getElem (by decide)) (fun K hK=> ?_) (cL.cons (Array.getElem?_eq_getElem (by decide)) (fun K hK=> ?_) cL.nil)
     · (try simp only [rl])
       go_simp;refine hK.out _ _ (fun _=>au _ aB) ?_;clear hK K;(try simp only [rl]);refine lX (rs:= [5,10]) (by kernel_rfl) (by simp) ?_;refine cL.cons (Array.getElem?_eq_getElem (by decide)) (fun K hK=> ?_) (cL.cons (Array.getElem?_eq_getElem (by decide)) (fun K hK=> ?_) cL.nil)
       · (try simp only [rl])
         (try go_simp);(refine(uH (w.heap.size+2) n p _ _ (.slice a2 n c2) (ks.map Value.string) [.string key] _ 9 ?_ ?_ cZ qg ?_ ?_ rfl (oG ks) (by simp [Value.oneCell'])).mono ?_);(focus(simp;omega));(focus(exact eu kJ.out Xt));(focus(exact aj));(focus(intro h;have h':=(dQ.out _ h).2;(first|omega|(simp at h';omega)|(simp at h';done))));rintro e w5 ⟨g5,cV,rfl,dM,cz,fx⟩;have eA:Held T wb w5:=Held.grown aB cz rL.out;have bG:Rd r w w5:=Rd.grown dY cz (fun g hg=>by have:=(dQ.out g hg).1;omega) hlt;have lU:=ae (dL qh.out (fun b hb hg=>Held.block (T:=fun c=>(Value.slice a2 n c2).ownBlock≠some c) (Held.grown aB cz (fun k hk h=>h hk)) b (fun h=>dS.out b h hg) hb));have ft:(Value.slice a3 n c3).ownBlock≠some g5:=fun h=>by
          rcases fx with h'|h'
          ·exact dS.out _ h' h
          ·have h2:=(fw.out _ h).2;simp at h';omega
         have rN:Hid (∀b,Beside (w.heap.size+2) (.slice a2 n c2) (.slice a3 n c3) b->b<wb.heap.size->b≠g5):=fun b hb hl he=>by
          rcases fx with h'|h'
          ·exact hb.2.1 (he▸h')
          ·simp at h';omega
         have gq:wb.heap.size<=w5.heap.size:=eA.size;have iE:=ae dM;have nN:=ae ft;clear dM fx ft;(try go_simp);refine hK.out _ _ (fun _=>au _ aB) ?_;clear hK K;refine aG 12 [13] (hS:=au _ aB) (h:= ?_);(try simp only [rl]);refine aL 10 (h:=fun K hK=> ?_);(try simp only [rl]);go_simp;refine hK.out _ _ (fun _=>au _ aB) ?_;clear hK K;(try simp only [rl]);refine aL 11 (h:=fun K hK=> ?_);(try simp only [rl]);(try go_simp);(refine(qB (w.heap.size+2) n p _ _ (.slice a3 n c3) news (x.five kb kd lb ld) _ 36 ?_ ?_ cZ qg ?_ ?_ rfl kI.out (x.lY kb kd lb ld)).mono ?_);(focus(first|(simp;omega)|omega));(focus(exact eu lU.out Xt));(focus(exact aj));(focus(intro h;have h':=(fw.out _ h).2;(first|omega|(simp at h';omega)|(simp at h';done))));rintro e w6 ⟨g6,bp,rfl,bz,aW,bX⟩;have bw:Held T wb w6:=Held.grown aB aW rM.out;(try go_simp);refine hK.out _ _ (fun _=>au _ bw) ?_;clear hK K;(try simp only [rl]);have bS:Rd r w w6:=Rd.grown dY aW (fun g hg=>by have:=(fw.out g hg).1;omega) hlt;have rO:=ae (dL iE.out (fun b hb hg=>Held.block (T:=fun c=>(Value.slice a3 n c3).ownBlock≠some c) (Held.grown aB aW (fun k hk h=>h hk)) b (by simp only [Value.ownBlock,Option.map_some,Option.some.injEq] at hg;rw [<-hg];exact nN.out) hb));have fX:∀b,Beside (w.heap.size+2) (.slice a2 n c2) (.slice a3 n c3) b->b<wb.heap.size->b≠g6:=fun b hb hl he=>by
          rcases bX with h'|h'
          ·exact hb.2.2 (he▸h')
          · (first|omega|(simp at h';omega))
         have hnew:∀b,Beside (w.heap.size+2) (.slice a2 n c2) (.slice a3 n c3) b->b<wb.heap.size->Beside (w.heap.size+2) (.slice (some ⟨g5,0,none⟩) (n+1) cV) (.slice (some ⟨g6,0,none⟩) (n+1) bp) b:=fun b hb hl=>⟨hb.1,fun h=>rN.out b hb hl (by simpa [Value.ownBlock] using h.symm),fun h=>fX b hb hl (by simpa [Value.ownBlock] using h.symm)⟩;have hcc:=(kj.out.keep (Held.kept (Held.mono bw pD.out)) hnew).ins p (aT.out.keep (Held.kept (Held.mono bw pD.out)) hnew)
         have kA:Hid (dW w6 (w.heap.size+2) (.slice (some ⟨g5,0,none⟩) (n+1) cV) (.slice (some ⟨g6,0,none⟩) (n+1) bp) (n+1) (ks.take p++key::ks.drop p) (l.take p++x::l.drop p)):=
          ⟨by simp [hks.out];omega,by simp [hll.out];omega,by simpa [List.map_take,List.map_drop] using rO.out,_,bz,hcc⟩
         have mK:Sr w6 r s8 kE:=af.held bw lR (hT0.out _ (by omega));have ag:=af.held bw ag (hT0.out _ (by omega));have ai:=af.held bw ai (hT0.out _ (by omega));have vA:=bw.size;clear bz aW bX hcc hnew fX au cz eA bG dH lR aO;obtain⟨hc1,aA,ay⟩:=ai.see;refine aL 13 (h:=fun K hK=> ?_);(try simp only [rl]);go_simp;refine br hK (h:= ?_);clear hK K;(try simp only [rl]);refine aL 14 (h:=fun K hK=> ?_);(try simp only [rl]);go_simp;refine br hK (h:= ?_);clear hK K;(try simp only [rl]);refine aL 15 (h:=fun K hK=> ?_);(try simp only [rl]);go_simp;refine br hK (h:= ?_);clear hK K;(try simp only [rl]);refine dw (by kernel_rfl) ?_ _;obtain⟨wy,bM⟩:∃wy,(w6.setCell ⟨w.heap.size+1,3,none⟩ (Value.slice (some ⟨g5,0,none⟩) (n+1) cV)).setCell ⟨w.heap.size+1,4,none⟩ (Value.slice (some ⟨g6,0,none⟩) (n+1) bp)=wy:=⟨_,rfl⟩;have jg:Sr wy r s8 kE:=by rw [<-bM];exact gZ
         have ag:aN wy w.heap.size:=by rw [<-bM];exact aj
         have ai:af wy (w.heap.size+1) #[.int .i64 5, .int .i64 0, .string ⟨#[]⟩, .slice (some ⟨g5,0,none⟩) (n+1) cV, .slice (some ⟨g6,0,none⟩) (n+1) bp] 36:=by rw [<-bM];exact aj
         have rP:Held (fun b=>w.heap.size+2<=b) w6 wy:=by rw [<-bM];exact aB
         have cy:Rd r w wy:=by rw [<-bM];exact dY
         rw [bM];clear mK hc1 aA ay bS bM;have lD:=ae (dW.keep kA.out (fun b hb hk=>rP.block b hk hb));have rQ:=ae cQ.out.2;have rR:=ae cQ.out.1
         have rS:=ae (show n+1+((s8).size+(if kE=true then 0 else 1))<=1048577 by
          have h1:=qd.out;have h2:=cQ.out.1;have h3:(⟨#[]⟩:ah).size=0:=rfl;simp only [Bool.false_eq_true,if_false] at h1
          (first|omega|(simp [h3];omega)|(simp [h3];done)))
         go_wp2_with fail;go_roundg ((s8).size+(if kE=true then 0 else 1))
         case measure=>have:=rR.out;simpa using this
         case rel=>exact⟨s8,kE,n+1,ks.take p++key::ks.drop p,l.take p++x::l.drop p,some ⟨g5,0,none⟩,cV,some ⟨g6,0,none⟩,bp,jg,lD.out,ag,ai,rfl,rS.out,cy,rQ.out⟩
       · (try simp only [rl])
         go_simp;refine hK.out _ _ (fun _=>au _ aB) ?_;clear hK K;(try simp only [rl]);refine aL 5 (h:=fun K hK=> ?_);(try simp only [rl]);(try go_simp);(refine(uH (w.heap.size+2) n p _ _ (.slice a2 n c2) (ks.map Value.string) [.string key] _ 9 ?_ ?_ cZ qg ?_ ?_ rfl (oG ks) (by simp [Value.oneCell'])).mono ?_);(focus(simp;omega));(focus(exact eu kJ.out Xt));(focus(exact aj));(focus(intro h;have h':=(dQ.out _ h).2;(first|omega|(simp at h';omega)|(simp at h';done))));rintro e w5 ⟨g5,cV,rfl,dM,cz,fx⟩;have eA:Held T wb w5:=Held.grown aB cz rL.out;have bG:Rd r w w5:=Rd.grown dY cz (fun g hg=>by have:=(dQ.out g hg).1;omega) hlt;have lU:=ae (dL qh.out (fun b hb hg=>Held.block (T:=fun c=>(Value.slice a2 n c2).ownBlock≠some c) (Held.grown aB cz (fun k hk h=>h hk)) b (fun h=>dS.out b h hg) hb));have ft:(Value.slice a3 n c3).ownBlock≠some g5:=fun h=>by
          rcases fx with h'|h'
          ·exact dS.out _ h' h
          ·have h2:=(fw.out _ h).2;simp at h';omega
         have rN:Hid (∀b,Beside (w.heap.size+2) (.slice a2 n c2) (.slice a3 n c3) b->b<wb.heap.size->b≠g5):=fun b hb hl he=>by
          rcases fx with h'|h'
          ·exact hb.2.1 (he▸h')
          ·simp at h';omega
         have gq:wb.heap.size<=w5.heap.size:=eA.size;have iE:=ae dM;have nN:=ae ft;have C8:af w5 (wb.heap.size+1) (x.five kb kd lb ld).toArray 36:=af.grown (w':=w5) aj cz (fun e=>by have h':=(dQ.out _ e.symm).2;omega);clear dM fx ft;(try go_simp);refine hK.out _ _ (fun _=>au _ aB) ?_;clear hK K;refine aG 12 [13] (hS:=au _ aB) (h:= ?_);(try simp only [rl]);refine aL 11 (h:=fun K hK=> ?_);(try simp only [rl]);(try go_simp);(refine(qB (w.heap.size+2) n p _ _ (.slice a3 n c3) news (x.five kb kd lb ld) _ 36 ?_ ?_ cZ qg ?_ ?_ rfl kI.out (x.lY kb kd lb ld)).mono ?_);(focus(first|(simp;omega)|omega));(focus(exact eu lU.out Xt));(focus(exact aj));(focus(intro h;have h':=(fw.out _ h).2;(first|omega|(simp at h';omega)|(simp at h';done))));rintro e w6 ⟨g6,bp,rfl,bz,aW,bX⟩;have bw:Held T wb w6:=Held.grown aB aW rM.out;(try go_simp);refine hK.out _ _ (fun _=>au _ bw) ?_;clear hK K;(try simp only [rl]);have bS:Rd r w w6:=Rd.grown dY aW (fun g hg=>by have:=(fw.out g hg).1;omega) hlt;have rO:=ae (dL iE.out (fun b hb hg=>Held.block (T:=fun c=>(Value.slice a3 n c3).ownBlock≠some c) (Held.grown aB aW (fun k hk h=>h hk)) b (by simp only [Value.ownBlock,Option.map_some,Option.some.injEq] at hg;rw [<-hg];exact nN.out) hb));have fX:∀b,Beside (w.heap.size+2) (.slice a2 n c2) (.slice a3 n c3) b->b<wb.heap.size->b≠g6:=fun b hb hl he=>by
          rcases bX with h'|h'
          ·exact hb.2.2 (he▸h')
          · (first|omega|(simp at h';omega))
         have hnew:∀b,Beside (w.heap.size+2) (.slice a2 n c2) (.slice a3 n c3) b->b<wb.heap.size->Beside (w.heap.size+2) (.slice (some ⟨g5,0,none⟩) (n+1) cV) (.slice (some ⟨g6,0,none⟩) (n+1) bp) b:=fun b hb hl=>⟨hb.1,fun h=>rN.out b hb hl (by simpa [Value.ownBlock] using h.symm),fun h=>fX b hb hl (by simpa [Value.ownBlock] using h.symm)⟩;have hcc:=(kj.out.keep (Held.kept (Held.mono bw pD.out)) hnew).ins p (aT.out.keep (Held.kept (Held.mono bw pD.out)) hnew)
         have kA:Hid (dW w6 (w.heap.size+2) (.slice (some ⟨g5,0,none⟩) (n+1) cV) (.slice (some ⟨g6,0,none⟩) (n+1) bp) (n+1) (ks.take p++key::ks.drop p) (l.take p++x::l.drop p)):=
          ⟨by simp [hks.out];omega,by simp [hll.out];omega,by simpa [List.map_take,List.map_drop] using rO.out,_,bz,hcc⟩
         have mK:Sr w6 r s8 kE:=af.held bw lR (hT0.out _ (by omega));have ag:=af.held bw ag (hT0.out _ (by omega));have ai:=af.held bw ai (hT0.out _ (by omega));have vA:=bw.size;clear bz aW bX hcc hnew fX au cz eA bG dH lR aO;obtain⟨hc1,aA,ay⟩:=ai.see;refine aL 13 (h:=fun K hK=> ?_);(try simp only [rl]);go_simp;refine br hK (h:= ?_);clear hK K;(try simp only [rl]);refine aL 14 (h:=fun K hK=> ?_);(try simp only [rl]);go_simp;refine br hK (h:= ?_);clear hK K;(try simp only [rl]);refine aL 15 (h:=fun K hK=> ?_);(try simp only [rl]);go_simp;refine br hK (h:= ?_);clear hK K;(try simp only [rl]);refine dw (by kernel_rfl) ?_ _;obtain⟨wy,bM⟩:∃wy,(w6.setCell ⟨w.heap.size+1,3,none⟩ (Value.slice (some ⟨g5,0,none⟩) (n+1) cV)).setCell ⟨w.heap.size+1,4,none⟩ (Value.slice (some ⟨g6,0,none⟩) (n+1) bp)=wy:=⟨_,rfl⟩;have jg:Sr wy r s8 kE:=by rw [<-bM];exact gZ
         have ag:aN wy w.heap.size:=by rw [<-bM];exact aj
         have ai:af wy (w.heap.size+1) #[.int .i64 5, .int .i64 0, .string ⟨#[]⟩, .slice (some ⟨g5,0,none⟩) (n+1) cV, .slice (some ⟨g6,0,none⟩) (n+1) bp] 36:=by rw [<-bM];exact aj
         have rP:Held (fun b=>w.heap.size+2<=b) w6 wy:=by rw [<-bM];exact aB
         have cy:Rd r w wy:=by rw [<-bM];exact dY
         rw [bM];clear mK hc1 aA ay bS bM;have lD:=ae (dW.keep kA.out (fun b hb hk=>rP.block b hk hb));have rQ:=ae cQ.out.2;have rR:=ae cQ.out.1
         have rS:=ae (show n+1+((s8).size+(if kE=true then 0 else 1))<=1048577 by
          have h1:=qd.out;have h2:=cQ.out.1;have h3:(⟨#[]⟩:ah).size=0:=rfl;simp only [Bool.false_eq_true,if_false] at h1
          (first|omega|(simp [h3];omega)|(simp [h3];done)))
         go_wp2_with fail;go_roundg ((s8).size+(if kE=true then 0 else 1))
         case measure=>have:=rR.out;simpa using this
         case rel=>exact⟨s8,kE,n+1,ks.take p++key::ks.drop p,l.take p++x::l.drop p,some ⟨g5,0,none⟩,cV,some ⟨g6,0,none⟩,bp,jg,lD.out,ag,ai,rfl,rS.out,cy,rQ.out⟩
     · (try simp only [rl])
       go_simp;refine hK.out _ _ (fun _=>au _ aB) ?_;clear hK K;(try simp only [rl]);refine aL 4 (h:=fun K hK=> ?_);(try simp only [rl]);go_simp;refine hK.out _ _ (fun _=>au _ aB) ?_;clear hK K;(try simp only [rl]);refine aL 5 (h:=fun K hK=> ?_);(try simp only [rl]);(try go_simp);(refine(uH (w.heap.size+2) n p _ _ (.slice a2 n c2) (ks.map Value.string) [.string key] _ 9 ?_ ?_ cZ qg ?_ ?_ rfl (oG ks) (by simp [Value.oneCell'])).mono ?_);(focus(simp;omega));(focus(exact eu kJ.out Xt));(focus(exact aj));(focus(intro h;have h':=(dQ.out _ h).2;(first|omega|(simp at h';omega)|(simp at h';done))));rintro e w5 ⟨g5,cV,rfl,dM,cz,fx⟩;have eA:Held T wb w5:=Held.grown aB cz rL.out;have bG:Rd r w w5:=Rd.grown dY cz (fun g hg=>by have:=(dQ.out g hg).1;omega) hlt;have lU:=ae (dL qh.out (fun b hb hg=>Held.block (T:=fun c=>(Value.slice a2 n c2).ownBlock≠some c) (Held.grown aB cz (fun k hk h=>h hk)) b (fun h=>dS.out b h hg) hb));have ft:(Value.slice a3 n c3).ownBlock≠some g5:=fun h=>by
        rcases fx with h'|h'
        ·exact dS.out _ h' h
        ·have h2:=(fw.out _ h).2;simp at h';omega
       have rN:Hid (∀b,Beside (w.heap.size+2) (.slice a2 n c2) (.slice a3 n c3) b->b<wb.heap.size->b≠g5):=fun b hb hl he=>by
        rcases fx with h'|h'
        ·exact hb.2.1 (he▸h')
        ·simp at h';omega
       have gq:wb.heap.size<=w5.heap.size:=eA.size;have iE:=ae dM;have nN:=ae ft;have C8:af w5 (wb.heap.size) (x.five kb kd lb ld).toArray 36:=af.grown (w':=w5) aj cz (fun e=>by have h':=(dQ.out _ e.symm).2;omega);clear dM fx ft;(try go_simp);refine hK.out _ _ (fun _=>au _ aB) ?_;clear hK K;refine aG 12 [13] (hS:=au _ aB) (h:= ?_);(try simp only [rl]);refine aL 11 (h:=fun K hK=> ?_);(try simp only [rl]);(try go_simp);(refine(qB (w.heap.size+2) n p _ _ (.slice a3 n c3) news (x.five kb kd lb ld) _ 36 ?_ ?_ cZ qg ?_ ?_ rfl kI.out (x.lY kb kd lb ld)).mono ?_);(focus(first|(simp;omega)|omega));(focus(exact eu lU.out Xt));(focus(exact aj));(focus(intro h;have h':=(fw.out _ h).2;(first|omega|(simp at h';omega)|(simp at h';done))));rintro e w6 ⟨g6,bp,rfl,bz,aW,bX⟩;have bw:Held T wb w6:=Held.grown aB aW rM.out;(try go_simp);refine hK.out _ _ (fun _=>au _ bw) ?_;clear hK K;(try simp only [rl]);have bS:Rd r w w6:=Rd.grown dY aW (fun g hg=>by have:=(fw.out g hg).1;omega) hlt;have rO:=ae (dL iE.out (fun b hb hg=>Held.block (T:=fun c=>(Value.slice a3 n c3).ownBlock≠some c) (Held.grown aB aW (fun k hk h=>h hk)) b (by simp only [Value.ownBlock,Option.map_some,Option.some.injEq] at hg;rw [<-hg];exact nN.out) hb));have fX:∀b,Beside (w.heap.size+2) (.slice a2 n c2) (.slice a3 n c3) b->b<wb.heap.size->b≠g6:=fun b hb hl he=>by
        rcases bX with h'|h'
        ·exact hb.2.2 (he▸h')
        · (first|omega|(simp at h';omega))
       have hnew:∀b,Beside (w.heap.size+2) (.slice a2 n c2) (.slice a3 n c3) b->b<wb.heap.size->Beside (w.heap.size+2) (.slice (some ⟨g5,0,none⟩) (n+1) cV) (.slice (some ⟨g6,0,none⟩) (n+1) bp) b:=fun b hb hl=>⟨hb.1,fun h=>rN.out b hb hl (by simpa [Value.ownBlock] using h.symm),fun h=>fX b hb hl (by simpa [Value.ownBlock] using h.symm)⟩;have hcc:=(kj.out.keep (Held.kept (Held.mono bw pD.out)) hnew).ins p (aT.out.keep (Held.kept (Held.mono bw pD.out)) hnew)
       have kA:Hid (dW w6 (w.heap.size+2) (.slice (some ⟨g5,0,none⟩) (n+1) cV) (.slice (some ⟨g6,0,none⟩) (n+1) bp) (n+1) (ks.take p++key::ks.drop p) (l.take p++x::l.drop p)):=
        ⟨by simp [hks.out];omega,by simp [hll.out];omega,by simpa [List.map_take,List.map_drop] using rO.out,_,bz,hcc⟩
       have mK:Sr w6 r s8 kE:=af.held bw lR (hT0.out _ (by omega));have ag:=af.held bw ag (hT0.out _ (by omega));have ai:=af.held bw ai (hT0.out _ (by omega));have vA:=bw.size;clear bz aW bX hcc hnew fX au cz eA bG dH lR aO;obtain⟨hc1,aA,ay⟩:=ai.see;refine aL 13 (h:=fun K hK=> ?_);(try simp only [rl]);go_simp;refine br hK (h:= ?_);clear hK K;(try simp only [rl]);refine aL 14 (h:=fun K hK=> ?_);(try simp only [rl]);go_simp;refine br hK (h:= ?_);clear hK K;(try simp only [rl]);refine aL 15 (h:=fun K hK=> ?_);(try simp only [rl]);go_simp;refine br hK (h:= ?_);clear hK K;(try simp only [rl]);refine dw (by kernel_rfl) ?_ _;obtain⟨wy,bM⟩:∃wy,(w6.setCell ⟨w.heap.size+1,3,none⟩ (Value.slice (some ⟨g5,0,none⟩) (n+1) cV)).setCell ⟨w.heap.size+1,4,none⟩ (Value.slice (some ⟨g6,0,none⟩) (n+1) bp)=wy:=⟨_,rfl⟩;have jg:Sr wy r s8 kE:=by rw [<-bM];exact gZ
       have ag:aN wy w.heap.size:=by rw [<-bM];exact aj
       have ai:af wy (w.heap.size+1) #[.int .i64 5, .int .i64 0, .string ⟨#[]⟩, .slice (some ⟨g5,0,none⟩) (n+1) cV, .slice (some ⟨g6,0,none⟩) (n+1) bp] 36:=by rw [<-bM];exact aj
       have rP:Held (fun b=>w.heap.size+2<=b) w6 wy:=by rw [<-bM];exact aB
       have cy:Rd r w wy:=by rw [<-bM];exact dY
       rw [bM];clear mK hc1 aA ay bS bM;have lD:=ae (dW.keep kA.out (fun b hb hk=>rP.block b hk hb));have rQ:=ae cQ.out.2;have rR:=ae cQ.out.1
       have rS:=ae (show n+1+((s8).size+(if kE=true then 0 else 1))<=1048577 by
        have h1:=qd.out;have h2:=cQ.out.1;have h3:(⟨#[]⟩:ah).size=0:=rfl;simp only [Bool.false_eq_true,if_false] at h1
        (first|omega|(simp [h3];omega)|(simp [h3];done)))
       go_wp2_with fail;go_roundg ((s8).size+(if kE=true then 0 else 1))
       case measure=>have:=rR.out;simpa using this
       case rel=>exact⟨s8,kE,n+1,ks.take p++key::ks.drop p,l.take p++x::l.drop p,some ⟨g5,0,none⟩,cV,some ⟨g6,0,none⟩,bp,jg,lD.out,ag,ai,rfl,rS.out,cy,rQ.out⟩
   ·have xw:((c4.toNat:Int) !=34)=true:=by simpa using hq
    have bj:=ae (show R=none by
     rw [uE.out];unfold uF
     rw [abv (fun h=>hq (by rw [<-FZ.out,yL.out,h];rfl))];rfl)
    go_wp2_with fail;(refine(lC r s4 false _ hr4).mono ?_);rintro e wn ⟨rfl,rfl⟩;rw [FZ.out];go_wp2_with fail;(refine(dz r s4 false _ hr4).mono ?_);rintro e w5 ⟨rfl,uC,h5⟩;have nH:=af.rd h5 rB (by omega);have nr:=af.rd h5 Lg (by omega);have bG:=bP.trans h5;have Ll:=ae (dW.rd C2.out h5 (by omega));have oN:=ae (show (true=false/\R=some ((ks,l),([]:Bytes)))\/ (true=true/\ (⟨#[]⟩:ah).data.toList= []/\R=none) from .inr ⟨rfl,rfl,bj.out⟩);have Hfn:=ae bj.out;have gq:=h5.size;obtain⟨hc0,ax,hl0⟩:=nH.see;obtain⟨K8,K9,La⟩:=nr.see;go_wp2_with fail;refine aF (h:= ?_);have tU:=dW.obj Ll.out;have e1:=Ll.out.nk;have e2:=Ll.out.nl;refine⟨dY, .mk 5 0 ⟨#[]⟩ ks l,a2,c2,a3,c3,⟨#[]⟩,true,by simp [V.val,e1,e2],tU.keep (Held.kept (a:=w5) (T:=fun b=>w.heap.size+2<=b) aB) (fun b hb _=>by omega),gZ, .inr ⟨rfl,rfl,by rw [bj.out];rfl⟩⟩
theorem wG {f:Nat} {s t:Bytes} {c:UInt8} (h:dG s=c::t):cg (f+1) s=(
 if c=110 then(if [117,108,108].isPrefixOf t=true then some (V.zero,t.drop 3) else none)
 else if c=116 then(if [114,117,101].isPrefixOf t=true then some (yg,t.drop 3) else none)
 else if c=102 then(if [97,108,115,101].isPrefixOf t=true then some (yh,t.drop 4) else none)
 else if c=34 then(gw (t.length+1) t []).map fun p=>(.mk 3 0 ⟨p.1.toArray⟩ [] [],p.2)
 else if c=45\/gy c=true then(ej (c::t)).map fun p=>(.mk 2 p.1 ⟨#[]⟩ [] [],p.2)
 else if c=91 then(iT (cg f) (t.length+1) t []).map fun p=>(.mk 4 0 ⟨#[]⟩ [] p.1,p.2)
 else if c=123 then(j3 (cg f) (t.length+1) t [] []).map fun p=>(.mk 5 0 ⟨#[]⟩ p.1.1 p.1.2,p.2)
 else none):=by
 rw [cg,h]
theorem abF {f:Nat} {s t:Bytes} (h:dG s=110::t):cg (f+1) s=if(⟨#[110,117,108,108]⟩:ah).data.toList.isPrefixOf (110::t)=true then some (V.zero,(110::t).drop 4) else none:=by
 rw [wG h];simp [List.isPrefixOf]
theorem abG {f:Nat} {s t:Bytes} (h:dG s=116::t):cg (f+1) s=if(⟨#[116,114,117,101]⟩:ah).data.toList.isPrefixOf (116::t)=true then some (yg,(116::t).drop 4) else none:=by
 rw [wG h];simp [List.isPrefixOf]
theorem abH {f:Nat} {s t:Bytes} (h:dG s=102::t):cg (f+1) s=if(⟨#[102,97,108,115,101]⟩:ah).data.toList.isPrefixOf (102::t)=true then some (yh,(102::t).drop 5) else none:=by
 rw [wG h];simp [List.isPrefixOf]
theorem abI {f:Nat} {s t:Bytes} (h:dG s=34::t):cg (f+1) s=(gw (t.length+1) t []).map fun p=>(.mk 3 0 ⟨p.1.toArray⟩ [] [],p.2):=by
 rw [wG h];rfl
theorem RV {f:Nat} {s t:Bytes} {c:UInt8} (h:dG s=c::t) (hd:c=45\/gy c=true):cg (f+1) s=(ej (c::t)).map fun p=>(.mk 2 p.1 ⟨#[]⟩ [] [],p.2):=by
 have:=YG hd;rw [wG h,if_neg this.2.2.2.2.1,if_neg this.2.2.2.2.2.1,if_neg this.2.2.2.2.2.2.1,if_neg this.2.2.2.2.2.2.2,if_pos hd]
theorem abJ {f:Nat} {s t:Bytes} (h:dG s=91::t):cg (f+1) s=(iT (cg f) (t.length+1) t []).map fun p=>(.mk 4 0 ⟨#[]⟩ [] p.1,p.2):=by
 rw [wG h];rfl
theorem abK {f:Nat} {s t:Bytes} (h:dG s=123::t):cg (f+1) s=(j3 (cg f) (t.length+1) t [] []).map fun p=>(.mk 5 0 ⟨#[]⟩ p.1.1 p.1.2,p.2):=by
 rw [wG h];rfl
theorem RX {f:Nat} {s s1:Bytes} {c:UInt8} (h:s1=dG s) (hc:fZ s1=c) (hn:c≠110/\c≠116/\c≠102/\c≠34/\¬(c=45\/gy c=true)/\c≠91/\c≠123):cg (f+1) s=none:=by
 cases hq:s1 with
 |nil=>rw [cg,<-h,hq]
 |cons d t=>
  rw [hq] at hc;have hc:d=c:=hc;subst hc;obtain⟨h1,h2,h3,h4,h5,h6,h7⟩:=hn;rw [wG (h.symm.trans hq),if_neg h1,if_neg h2,if_neg h3,if_neg h4,if_neg h5,if_neg h6,if_neg h7]
theorem head_cons {l:Bytes} {c:UInt8} (h:fZ l=c) (h0:(c.toNat:Int)≠0):∃t,l=c::t:=by
 cases l with
 |nil=>rw [<-h] at h0;exact absurd rfl h0
 |cons d t=>have h:d=c:=h;exact⟨t,by rw [h]⟩
theorem wH {bad:Bool} {s s1:Bytes} {c:UInt8} (hb:bad=true->s= []) (h:s1=dG s) (hc:fZ s1=c) (h0:(c.toNat:Int)≠0):bad=false:=by
 cases bad with
 |false=>rfl
 |true=>
  rw [hb rfl] at h;subst h;rw [<-hc] at h0;exact absurd rfl h0
theorem oO {c d:UInt8} (h:(c.toNat:Int)≠d.toNat):c≠d:=fun e=>h (by rw [e])
theorem abL:∀f:Nat,f<=13->K2 f:=by
 intro f
 induction f with
 |zero=>
  intro _ r d s bad w hd hb hsz hr hl;obtain rfl:d=13:=by omega
  have hlt:=hr.lt;clear hd hb hl;go_enter func47,ntmps47;go_upto_region 1 with fail
  refine aI (R:=fun wx=>aN wx w.heap.size/\Ext w wx) ⟨aj,Xt⟩ ?_;rintro wa ⟨hB,aD⟩;have p8:=hr.ext aD;go_wp2_with fail;(refine(Ak r s bad _ p8).mono ?_);rintro e w1 ⟨rfl,⟨s1,hs1,hr1⟩,h1⟩;have ai:=af.rd h1 hB (by omega);have hx1:Rd r w w1:=(Rd.of hlt aD).trans h1;have hz1:=ai.lt;clear hs1 h1 hB p8 aD hr;go_wp2_with fail;(refine(dz r s1 bad _ hr1).mono ?_);rintro e w2 ⟨rfl,hr2,h2⟩;have ak:=af.rd h2 ai (by omega);have hx2:=hx1.trans h2;clear hr1 ai hx1 h2;go_wp2_with fail;(refine(lC r ⟨#[]⟩ true _ hr2).mono ?_);rintro e w3 ⟨rfl,rfl⟩;have e0:(fZ (⟨#[]⟩:ah).data.toList).toNat=0:=rfl;rw [e0];clear e0;go_wp2_with fail;(refine(dz r ⟨#[]⟩ true _ hr2).mono ?_);rintro e w4 ⟨rfl,hr4,h4⟩;have hB4:=af.rd h4 ak (by omega);have bP:=hx2.trans h4;clear hr2 ak hx2 h4;obtain⟨rh,vY,hl4⟩:=hB4.see;go_wp2_with fail;refine aF (h:= ?_);exact⟨dY,V.zero,none,0,none,0,⟨#[]⟩,true,rfl,V.mY _ _,gZ, .inr ⟨rfl,rfl,rfl⟩⟩
 |succ f ih=>
  intro hf r d s bad w hd hb hsz hr hl;have ih:=ih (by omega);have hlt:=hr.lt;have hd1:¬(12:Int)<d:=by omega
  have hd2:0<=d:=by omega
  have RY:d=12-(f:Int):=by omega
  have Hb:=ae hb;have Hl:=ae hl;have RZ:=ae RY;clear hd hb hl RY;go_enter func47,ntmps47;go_upto_region 1 with fail
  refine aI (R:=fun wx=>aN wx w.heap.size/\Ext w wx) ⟨aj,Xt⟩ ?_;rintro wa ⟨hB,aD⟩;have p8:=hr.ext aD;go_wp2_with fail;(refine(Ak r s bad _ p8).mono ?_);rintro e w1 ⟨rfl,⟨s1,hs1,hr1⟩,h1⟩;have hB:=af.rd h1 hB (by omega);have hx1:Rd r w w1:=(Rd.of hlt aD).trans h1;have hz1:=hB.lt;have p9:s1.size<=1048576:=by have e1:s.data.toList.length=s.size:=Array.length_toList;have e2:s1.data.toList.length=s1.size:=Array.length_toList;have:=mE s.data.toList;rw [hs1] at e2;omega
  have dU:=ae hs1;clear hs1 h1 p8 aD hr;obtain⟨c,hc⟩:∃c,fZ s1.data.toList=c:=⟨_,rfl⟩;have Hc:=ae hc;clear hc;have hcl:(c.toNat:Int)<256:=by have:=c.toNat_lt;omega
  obtain⟨hc1,aA,ay⟩:=hB.see;go_wp2_with fail;(refine(lC r s1 bad _ hr1).mono ?_);rintro e wn ⟨rfl,rfl⟩;rw [Hc.out];by_cases F9:(c.toNat:Int)=110
  ·have abM:((c.toNat:Int)==110)=true:=by simpa using F9
   obtain⟨t1,ht1⟩:=head_cons Hc.out (by omega);obtain rfl:bad=false:=wH Hb.out dU.out Hc.out (by omega);have hcn:c=110:=by apply UInt8.toNat_inj.1;simpa using (by omega:c.toNat=110)
   have jD:=ae (show cg (f+1) s.data.toList=if(⟨#[110,117,108,108]⟩:ah).data.toList.isPrefixOf s1.data.toList=true then some (V.zero,s1.data.toList.drop 4) else none from by rw [ht1,hcn];exact abF (by rw [<-dU.out,ht1,hcn]));clear ht1 hcn;go_wp2_with fail;(refine(wA r s1 false ⟨#[110,117,108,108]⟩ _ hr1).mono ?_);rintro e w3 ⟨rfl,h3,dx⟩;have bK:=af.rd h3 hB (by omega);have hx3:=hx1.trans h3;have hz3:=h3.size;have gu:=ae dx;clear dx h3 hB hx1 hr1 hc1 aA ay;obtain⟨hc3,hf3,aS⟩:=bK.see;go_wp2_with fail;refine aF (h:= ?_);rcases gu.out with⟨hp,s3,hs3,hr3⟩|⟨hp,hr3⟩
   ·exact⟨dY,V.zero,none,0,none,0,s3,false,rfl,(V.df ..).2 ⟨aM.nil,aM.nil, .inl rfl, .inl rfl⟩,gZ, .inl ⟨rfl,by rw [jD.out,if_pos hp,hs3];rfl⟩⟩
   ·exact⟨dY,V.zero,none,0,none,0,⟨#[]⟩,true,rfl,(V.df ..).2 ⟨aM.nil,aM.nil, .inl rfl, .inl rfl⟩,gZ, .inr ⟨rfl,rfl,by rw [jD.out,if_neg (by rw [hp];decide)]⟩⟩
  have abM:((c.toNat:Int)==110)=false:=by simpa using F9
  by_cases c116:(c.toNat:Int)=116
  ·have abN:((c.toNat:Int)==116)=true:=by simpa using c116
   obtain⟨t1,ht1⟩:=head_cons Hc.out (by omega);obtain rfl:bad=false:=wH Hb.out dU.out Hc.out (by omega);have hcn:c=116:=by apply UInt8.toNat_inj.1;simpa using (by omega:c.toNat=116)
   have jD:=ae (show cg (f+1) s.data.toList=if(⟨#[116,114,117,101]⟩:ah).data.toList.isPrefixOf s1.data.toList=true then some (yg,s1.data.toList.drop 4) else none from by rw [ht1,hcn];exact abG (by rw [<-dU.out,ht1,hcn]));clear ht1 hcn;go_wp2_with fail;(refine(wA r s1 false ⟨#[116,114,117,101]⟩ _ hr1).mono ?_);rintro e w3 ⟨rfl,h3,dx⟩;have bK:=af.rd h3 hB (by omega);have hx3:=hx1.trans h3;have hz3:=h3.size;have gu:=ae dx;clear dx h3 hB hx1 hr1 hc1 aA ay;obtain⟨hc3,hf3,aS⟩:=bK.see;go_wp2_with fail;refine aF (h:= ?_);rcases gu.out with⟨hp,s3,hs3,hr3⟩|⟨hp,hr3⟩
   ·exact⟨dY,yg,none,0,none,0,s3,false,rfl,(V.df ..).2 ⟨aM.nil,aM.nil, .inl rfl, .inl rfl⟩,gZ, .inl ⟨rfl,by rw [jD.out,if_pos hp,hs3];rfl⟩⟩
   ·exact⟨dY,yg,none,0,none,0,⟨#[]⟩,true,rfl,(V.df ..).2 ⟨aM.nil,aM.nil, .inl rfl, .inl rfl⟩,gZ, .inr ⟨rfl,rfl,by rw [jD.out,if_neg (by rw [hp];decide)]⟩⟩
  have abN:((c.toNat:Int)==116)=false:=by simpa using c116
  by_cases Ga:(c.toNat:Int)=102
  ·have abO:((c.toNat:Int)==102)=true:=by simpa using Ga
   obtain⟨t1,ht1⟩:=head_cons Hc.out (by omega);obtain rfl:bad=false:=wH Hb.out dU.out Hc.out (by omega);have hcn:c=102:=by apply UInt8.toNat_inj.1;simpa using (by omega:c.toNat=102)
   have jD:=ae (show cg (f+1) s.data.toList=if(⟨#[102,97,108,115,101]⟩:ah).data.toList.isPrefixOf s1.data.toList=true then some (yh,s1.data.toList.drop 5) else none from by rw [ht1,hcn];exact abH (by rw [<-dU.out,ht1,hcn]));clear ht1 hcn;go_wp2_with fail;(refine(wA r s1 false ⟨#[102,97,108,115,101]⟩ _ hr1).mono ?_);rintro e w3 ⟨rfl,h3,dx⟩;have bK:=af.rd h3 hB (by omega);have hx3:=hx1.trans h3;have hz3:=h3.size;have gu:=ae dx;clear dx h3 hB hx1 hr1 hc1 aA ay;obtain⟨hc3,hf3,aS⟩:=bK.see;go_wp2_with fail;refine aF (h:= ?_);rcases gu.out with⟨hp,s3,hs3,hr3⟩|⟨hp,hr3⟩
   ·exact⟨dY,yh,none,0,none,0,s3,false,rfl,(V.df ..).2 ⟨aM.nil,aM.nil, .inl rfl, .inl rfl⟩,gZ, .inl ⟨rfl,by rw [jD.out,if_pos hp,hs3];rfl⟩⟩
   ·exact⟨dY,yh,none,0,none,0,⟨#[]⟩,true,rfl,(V.df ..).2 ⟨aM.nil,aM.nil, .inl rfl, .inl rfl⟩,gZ, .inr ⟨rfl,rfl,by rw [jD.out,if_neg (by rw [hp];decide)]⟩⟩
  have abO:((c.toNat:Int)==102)=false:=by simpa using Ga
  by_cases lB:(c.toNat:Int)=34
  ·have KF:((c.toNat:Int)==34)=true:=by simpa using lB
   obtain⟨t1,ht1⟩:=head_cons Hc.out (by omega);obtain rfl:bad=false:=wH Hb.out dU.out Hc.out (by omega);have hcn:c=34:=by apply UInt8.toNat_inj.1;simpa using (by omega:c.toNat=34)
   have oP:=ae (show s1.data.toList=34::t1 by rw [ht1,hcn]);have jD:=ae (abI (f:=f) (dU.out.symm.trans oP.out));clear ht1 hcn;go_wp2_with fail;(refine(Rk r s1 t1 oP.out p9 _ hr1).mono ?_);rintro e w3 hT;obtain⟨h3,b,s3,nM,rfl,-,hr3,dx⟩:=hT;have bK:=af.rd h3 hB (by omega);have hx3:=hx1.trans h3;have hz3:=h3.size;have gu:=ae dx;clear dx h3 hB hx1 hr1 hc1 aA ay;obtain⟨hc3,hf3,aS⟩:=bK.see;go_wp2_with fail;refine aF (h:= ?_);refine⟨dY, .mk 3 0 b [] [],none,0,none,0,s3,nM,rfl,(V.df ..).2 ⟨aM.nil,aM.nil, .inl rfl, .inl rfl⟩,gZ,?_⟩;rw [jD.out];rcases gu.out with⟨rfl,h⟩|⟨rfl,h0,h⟩
   ·exact .inl ⟨rfl,by rw [h];rfl⟩
   ·exact .inr ⟨rfl,h0,by rw [h];rfl⟩
  have KF:((c.toNat:Int)==34)=false:=by simpa using lB
  by_cases c91:(c.toNat:Int)=91
  ·have b91:((c.toNat:Int)==91)=true:=by simpa using c91
   have Lm:((c.toNat:Int)==45)=false:=by simpa using (by omega:(c.toNat:Int)≠45)
   have d48:decide ((48:Int)<= (c.toNat:Int))=true:=by simpa using (by omega:(48:Int)<= (c.toNat:Int))
   have d57:decide ((c.toNat:Int)<=57)=false:=by simpa using (by omega:(57:Int)<(c.toNat:Int))
   obtain⟨t1,ht1⟩:=head_cons Hc.out (by omega);obtain rfl:bad=false:=wH Hb.out dU.out Hc.out (by omega);have hcn:c=91:=by apply UInt8.toNat_inj.1;simpa using (by omega:c.toNat=91)
   have oP:=ae (show s1.data.toList=91::t1 by rw [ht1,hcn]);have jD:=ae (abJ (f:=f) (dU.out.symm.trans oP.out));clear ht1 hcn;go_wp2_with fail;(refine(abn f ih r d RZ.out (by omega) s1 t1 oP.out p9 _ hr1 (Hl.out.on (Rd.below (Rd.ext hx1 hlt Xt)))).mono ?_);rintro e w3 ⟨h3,v,ka,kc,la,lc,s3,nM,rfl,bn,hr3,dx⟩;have bJ:=ae bn;clear bn;have bK:=af.rd h3 hB (by omega);have hx3:=hx1.trans h3;have hz3:=h3.size;have gu:=ae dx;clear dx h3 hB hx1 hr1 hc1 aA ay;obtain⟨hc3,hf3,aS⟩:=bK.see;go_wp2_with fail;refine aF (h:= ?_);refine⟨dY,v,ka,kc,la,lc,s3,nM,rfl,bJ.out.keep (Held.kept (a:=w3) (T:=fun b=>wn.heap.size<=b) aB) (fun b hb _=>by omega),gZ,?_⟩;rw [jD.out];exact gu.out
  have b91:((c.toNat:Int)==91)=false:=by simpa using c91
  by_cases Gb:(c.toNat:Int)=123
  ·have abP:((c.toNat:Int)==123)=true:=by simpa using Gb
   have Lm:((c.toNat:Int)==45)=false:=by simpa using (by omega:(c.toNat:Int)≠45)
   have d48:decide ((48:Int)<= (c.toNat:Int))=true:=by simpa using (by omega:(48:Int)<= (c.toNat:Int))
   have d57:decide ((c.toNat:Int)<=57)=false:=by simpa using (by omega:(57:Int)<(c.toNat:Int))
   obtain⟨t1,ht1⟩:=head_cons Hc.out (by omega);obtain rfl:bad=false:=wH Hb.out dU.out Hc.out (by omega);have hcn:c=123:=by apply UInt8.toNat_inj.1;simpa using (by omega:c.toNat=123)
   have oP:=ae (show s1.data.toList=123::t1 by rw [ht1,hcn]);have jD:=ae (abK (f:=f) (dU.out.symm.trans oP.out));clear ht1 hcn;go_wp2_with fail;(refine(abA f ih r d RZ.out (by omega) s1 t1 oP.out p9 _ hr1 (Hl.out.on (Rd.below (Rd.ext hx1 hlt Xt)))).mono ?_);rintro e w3 ⟨h3,v,ka,kc,la,lc,s3,nM,rfl,bn,hr3,dx⟩;have bJ:=ae bn;clear bn;have bK:=af.rd h3 hB (by omega);have hx3:=hx1.trans h3;have hz3:=h3.size;have gu:=ae dx;clear dx h3 hB hx1 hr1 hc1 aA ay;obtain⟨hc3,hf3,aS⟩:=bK.see;go_wp2_with fail;refine aF (h:= ?_);refine⟨dY,v,ka,kc,la,lc,s3,nM,rfl,bJ.out.keep (Held.kept (a:=w3) (T:=fun b=>wn.heap.size<=b) aB) (fun b hb _=>by omega),gZ,?_⟩;rw [jD.out];exact gu.out
  have abP:((c.toNat:Int)==123)=false:=by simpa using Gb
  by_cases Gc:(c.toNat:Int)=45
  ·have Lm:((c.toNat:Int)==45)=true:=by simpa using Gc
   obtain⟨t1,ht1⟩:=head_cons Hc.out (by omega);obtain rfl:bad=false:=wH Hb.out dU.out Hc.out (by omega);have C9:c=45\/gy c=true:= .inl (by apply UInt8.toNat_inj.1;simpa using (by omega:c.toNat=45));have oP:=ae ht1;have jD:=ae (RV (f:=f) (dU.out.symm.trans ht1) C9);clear ht1 C9;go_wp2_with fail;(refine(QY r s1 c t1 oP.out p9 _ hr1 (Hl.out.on (Rd.below (Rd.ext hx1 hlt Xt)))).mono ?_);rintro e w3 ⟨h3,k,s3,nM,rfl,hr3,dx⟩;have bK:=af.rd h3 hB (by omega);have hx3:=hx1.trans h3;have hz3:=h3.size;have gu:=ae dx;clear dx h3 hB hx1 hr1 hc1 aA ay;obtain⟨hc3,hf3,aS⟩:=bK.see;go_wp2_with fail;refine aF (h:= ?_);refine⟨dY, .mk 2 k ⟨#[]⟩ [] [],none,0,none,0,s3,nM,rfl,(V.df ..).2 ⟨aM.nil,aM.nil, .inl rfl, .inl rfl⟩,gZ,?_⟩;rw [jD.out,<-oP.out];rcases gu.out with⟨rfl,h⟩|⟨rfl,h0,h⟩
   ·exact .inl ⟨rfl,by rw [h];rfl⟩
   ·exact .inr ⟨rfl,h0,by rw [h];rfl⟩
  have Lm:((c.toNat:Int)==45)=false:=by simpa using Gc
  by_cases R3:(48:Int)<= (c.toNat:Int)
  ·have d48:decide ((48:Int)<= (c.toNat:Int))=true:=by simpa using R3
   by_cases R4:(c.toNat:Int)<=57
   ·have d57:decide ((c.toNat:Int)<=57)=true:=by simpa using R4
    obtain⟨t1,ht1⟩:=head_cons Hc.out (by omega);obtain rfl:bad=false:=wH Hb.out dU.out Hc.out (by omega);have C9:c=45\/gy c=true:= .inr (by rw [uz,d48,d57];rfl);have oP:=ae ht1;have jD:=ae (RV (f:=f) (dU.out.symm.trans ht1) C9);clear ht1 C9;go_wp2_with fail;(refine(QY r s1 c t1 oP.out p9 _ hr1 (Hl.out.on (Rd.below (Rd.ext hx1 hlt Xt)))).mono ?_);rintro e w3 ⟨h3,k,s3,nM,rfl,hr3,dx⟩;have bK:=af.rd h3 hB (by omega);have hx3:=hx1.trans h3;have hz3:=h3.size;have gu:=ae dx;clear dx h3 hB hx1 hr1 hc1 aA ay;obtain⟨hc3,hf3,aS⟩:=bK.see;go_wp2_with fail;refine aF (h:= ?_);refine⟨dY, .mk 2 k ⟨#[]⟩ [] [],none,0,none,0,s3,nM,rfl,(V.df ..).2 ⟨aM.nil,aM.nil, .inl rfl, .inl rfl⟩,gZ,?_⟩;rw [jD.out,<-oP.out];rcases gu.out with⟨rfl,h⟩|⟨rfl,h0,h⟩
    ·exact .inl ⟨rfl,by rw [h];rfl⟩
    ·exact .inr ⟨rfl,h0,by rw [h];rfl⟩
   ·have d57:decide ((c.toNat:Int)<=57)=false:=by simpa using R4
    have hno:c≠110/\c≠116/\c≠102/\c≠34/\¬(c=45\/gy c=true)/\c≠91/\c≠123:=⟨oO F9,oO c116,oO Ga,oO lB,fun h=>h.elim (oO Gc) (fun h=>by rw [uz,d57] at h;simp at h),oO c91,oO Gb⟩;have jD:=ae (RX (f:=f) dU.out Hc.out hno);clear hno;go_wp2_with fail;(refine(dz r s1 bad _ hr1).mono ?_);rintro e w3 ⟨rfl,hr3,h3⟩;have dx:=True.intro;have bK:=af.rd h3 hB (by omega);have hx3:=hx1.trans h3;have hz3:=h3.size;have gu:=ae dx;clear dx h3 hB hx1 hr1 hc1 aA ay;obtain⟨hc3,hf3,aS⟩:=bK.see;go_wp2_with fail;refine aF (h:= ?_);exact⟨dY,V.zero,none,0,none,0,⟨#[]⟩,true,rfl,V.mY _ _,gZ, .inr ⟨rfl,rfl,jD.out⟩⟩
  ·have d48:decide ((48:Int)<= (c.toNat:Int))=false:=by simpa using R3
   have hno:c≠110/\c≠116/\c≠102/\c≠34/\¬(c=45\/gy c=true)/\c≠91/\c≠123:=⟨oO F9,oO c116,oO Ga,oO lB,fun h=>h.elim (oO Gc) (fun h=>by rw [uz,d48] at h;simp at h),oO c91,oO Gb⟩;have jD:=ae (RX (f:=f) dU.out Hc.out hno);clear hno;go_wp2_with fail;(refine(dz r s1 bad _ hr1).mono ?_);rintro e w3 ⟨rfl,hr3,h3⟩;have dx:=True.intro;have bK:=af.rd h3 hB (by omega);have hx3:=hx1.trans h3;have hz3:=h3.size;have gu:=ae dx;clear dx h3 hB hx1 hr1 hc1 aA ay;obtain⟨hc3,hf3,aS⟩:=bK.see;go_wp2_with fail;refine aF (h:= ?_);exact⟨dY,V.zero,none,0,none,0,⟨#[]⟩,true,rfl,V.mY _ _,gZ, .inr ⟨rfl,rfl,jD.out⟩⟩
theorem abQ {s:Bytes} {v:V} {t:Bytes} (hl:¬2000<s.length) (h:cg 12 s=some (v,t)):ek s=if dG t= []/\v.fine=true then(v,0) else(V.zero,1):=by
 unfold ek Ci;rw [if_neg hl,h];simp only [Option.bind_some];by_cases hc:dG t= []/\v.fine=true
 ·rw [if_pos hc,if_pos hc]
 ·rw [if_neg hc,if_neg hc]
theorem abR {s:Bytes} (hl:¬2000<s.length) (h:cg 12 s=none):ek s=(V.zero,1):=by
 unfold ek Ci;rw [if_neg hl,h];rfl
theorem abS (s:Bytes) (h:(ek s).2≠0):(ek s).1=V.zero:=by
 unfold ek at h⊢
 split
 ·rfl
 ·split
  ·rename_i h1 _ _ h2;rw [if_neg h1,h2] at h;exact absurd rfl h
  ·rfl
theorem abT (s:Bytes) (h:(ek s).2=0):(ek s).1.fine=true/\s.length<=2000:=by
 unfold ek at h⊢
 split at h
 ·simp at h
 ·rename_i h1
  rw [if_neg h1]
  split at h
  ·rename_i v h2
   exact⟨YD h2,by omega⟩
  ·simp at h
def abU (r:V×Int) (w:World) (e:Ending) (w':World):Prop:=∃(ka:aq) (kc:Nat) (la:aq) (lc:Nat),e= .returned (.tuple #[r.1.val ka kc la lc, .int .i64 r.2])/\r.1.In w' (fun b=>w.heap.size<=b) ka kc la lc/\Ext w w'
theorem cS.abV {w wr:World} (h:cS w) (hx:Ext w wr) {r:Nat} (hr:w.heap.size<=r):tA r wr:=fun w' hb=>h.ext (Below.trans hx (Below.mono hb hr))
theorem abW (s:ah) (w:World) (hm:s.size<=1099511627776) (hl:cS w):Calls prog 24 #[.string s] w (abU (ek s.data.toList) w):=by
 have hsl:s.data.toList.length=s.size:=Array.length_toList;by_cases hlo:2000<s.size
 ·have Hp:=ae (show ek s.data.toList=(V.zero,2) by unfold ek;rw [if_pos (by omega)])
  clear hsl;go_enter func24,ntmps24;go_wp2_with fail;refine aF (h:= ?_);rw [Hp.out];exact⟨none,0,none,0,rfl,V.mY _ _,Xt⟩
 ·have CK:¬2000<s.data.toList.length:=by omega
  have R5:=ae CK;clear CK hsl;go_enter func24,ntmps24;go_upto_region 4 with fail
  refine aI (R:=fun wx=>aN wx w.heap.size/\Sr wx (w.heap.size+1) s false/\Ext w wx) ⟨aj,gZ,Xt⟩ ?_;rintro wa ⟨hB,hr,aD⟩;have af3:=hr.lt;go_wp2_with fail;(refine(abL 12 (by omega) (w.heap.size+1) 1 s false _ rfl (fun h=>by cases h) (by omega) hr (hl.abV aD (by omega))).mono ?_);rintro e w1 ⟨h1,v,ka,kc,la,lc,s1,Lp,rfl,fc,hr1,dx⟩;have ai:=af.rd h1 hB (by omega);have hx1:Ext w w1:=Below.trans aD (Below.mono h1.below (by omega));have hz1:=h1.size;have ni:=ae (show v.In w1 (fun b=>w.heap.size+2<=b) ka kc la lc from fc.mono fun b hb _=>by omega);have gu:=ae dx;clear dx fc h1 hB hr;go_upto_region 5 with fail
  refine aI (R:=fun wx=>aN wx w.heap.size/\Sr wx (w.heap.size+1) s1 Lp/\aC wx w1.heap.size v ka kc la lc/\v.In wx (fun b=>w.heap.size+2<=b) ka kc la lc/\Ext w wx) ⟨aj,gZ,aj,ni.out.ext Xt,Xt⟩ ?_;clear ai hr1 ni hx1;rintro wb ⟨ag,lR,qX,wI,aO⟩;have kV:=ae wI;clear wI;go_wp2_with fail;(refine(Ak (w.heap.size+1) s1 Lp _ lR).mono ?_);rintro e w2 ⟨rfl,⟨s2,hs2,hr2⟩,h2⟩;have ag:=af.rd h2 ag (by omega);have qX:=af.rd h2 qX (by omega);have hx2:Ext w w2:=Below.trans aO (Below.mono h2.below (by omega));have cn:=ae (In.rd h2 kV.out (fun b h=>by omega));have je:=ae hs2;clear hs2 h2 lR kV aO;obtain⟨hc0,ax,hl0⟩:=ag.see;obtain⟨hcv,yx,hlv⟩:=qX.see;have hcr:=hr2.cells;have uA:=hr2.free;have hlr:=hr2.lt
  cases Lp with
  |true=>
   have Hp:=ae (abR R5.out (by rcases gu.out with⟨h,-⟩|⟨-,-,h⟩;cases h;exact h));go_wp2_with fail;refine aF (h:= ?_);rw [Hp.out];exact⟨none,0,none,0,rfl,V.mY _ _,Xt⟩
  |false=>
   have hval:cg 12 s.data.toList=some (v,s1.data.toList):=by rcases gu.out with⟨-,h⟩|⟨h,-⟩;exact h;cases h
   have hvs:v.size<=1073741824:=by have h1:=JJ 12 _ _ hval;have h2:s.data.toList.length=s.size:=Array.length_toList;simp only at h1;omega
   have mD:=ae (abQ R5.out hval);clear hval gu;by_cases he:s2.data.toList= []
   ·have hz1:s2.toList= []:=by rw [ByteArray.toList_eq,he]
    have hz2:(s2.toList== [])=true:=by rw [hz1];rfl
    have hz3:s2.toList.isEmpty=true:=by rw [hz1];rfl
    have iu:(s2.toList != [])=false:=by rw [hz1];rfl
    have gq:(!s2.toList.isEmpty)=false:=by rw [hz3];rfl
    have He:=ae (je.out.symm.trans he);clear he;go_wp2_with fail;(refine(cU v ka kc la lc _ _ hvs (cn.out.ext Xt)).mono ?_);rintro e w3 ⟨rfl,h3⟩;have bK:=af.ext h3 ag;have abX:=af.ext h3 qX;have hx3:Ext w w3:=Xt;have bJ:=ae (V.In.ext (w':=w3) cn.out Xt);clear hc0 ax hl0 hcv yx hlv;clear h3 ag qX hx2 cn;obtain⟨hc0,ax,hl0⟩:=bK.see;obtain⟨hcv,yx,hlv⟩:=abX.see
    cases hf:v.fine with
    |true=>
     have Hp:=ae (show ek s.data.toList=(v,0) by rw [mD.out,if_pos ⟨He.out,hf⟩]);clear hf;go_wp2_with fail;refine aF (h:= ?_);rw [Hp.out];exact⟨ka,kc,la,lc,rfl,bJ.out.keep (Held.kept (a:=w3) (T:=fun b=>w.heap.size+2<=b) aB) (fun b hb _=>by omega),Xt⟩
    |false=>
     have Hp:=ae (show ek s.data.toList=(V.zero,1) by rw [mD.out,if_neg (fun h=>by rw [hf] at h;exact absurd h.2 (by decide))]);clear hf;go_wp2_with fail;refine aF (h:= ?_);rw [Hp.out];exact⟨none,0,none,0,rfl,V.mY _ _,Xt⟩
   ·have hz1:¬s2.toList= []:=by rw [ByteArray.toList_eq];exact he
    have hz3:s2.toList.isEmpty=false:=by cases h:s2.toList with|nil=>exact absurd h hz1|cons=>rfl
    have hz2:(s2.toList== [])=false:=by simpa using hz1
    have iu:(s2.toList != [])=true:=by simpa using hz1
    have gq:(!s2.toList.isEmpty)=true:=by rw [hz3];rfl
    have Hp:=ae (show ek s.data.toList=(V.zero,1) by rw [mD.out,if_neg (fun h=>he (je.out.trans h.1))]);clear he;go_wp2_with fail;refine aF (h:= ?_);rw [Hp.out];exact⟨none,0,none,0,rfl,V.mY _ _,Xt⟩
end Go.Proofs.YtlcebdaghmdkeabGreatDoor
