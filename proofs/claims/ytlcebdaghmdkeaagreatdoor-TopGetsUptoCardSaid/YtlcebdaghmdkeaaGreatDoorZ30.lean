import Derived.Test.YtlcebdaghmdkeaaGreatDoorZ19
import Derived.Test.YtlcebdaghmdkeaaGreatDoorZ29
set_option linter.all false
set_option maxRecDepth 100000
set_option maxHeartbeats 64000000
namespace Go.Proofs.YtlcebdaghmdkeaaGreatDoor
open Go.Proofs.Tryz
open Go.RowKit
attribute [local go_sem↓] Go.wp_at_zero Go.wp_at_succ
def Mw (r:Nat) (o:Option (V×Bytes)) (w:World) (e:Ending) (w':World):Prop:=
 Rd r w w'/\∃(v:V) (ka:aq) (kc:Nat) (la:aq) (lc:Nat) (s':ah) (gy:Bool),e= .returned (v.val ka kc la lc)/\v.In w' (fun b=>w.heap.size<=b) ka kc la lc/\Sr w' r s' gy/\
  ((gy=false/\o=some (v,s'.data.toList))\/ (gy=true/\s'.data.toList= []/\o=none))
def Mx (f:Nat):Prop:=∀(r:Nat) (d:Int) (s:ah) (bad:Bool) (w:World),d=13-(f:Int)-> (bad=true->s.data.toList= [])->s.size<=1048576->Sr w r s bad->uj r w->
 Calls prog 70 #[.pointer (some ⟨r,0,none⟩), .int .i64 d] w (Mw r (bJ f s.data.toList) w)
theorem Rd.acw {r:Nat} {a b:World} (h:Rd r a b) {p:Addr} (hp:a.heap.size<=p.block) (v:Value) (hr:r<a.heap.size):Rd r a (b.setCell p v):=
 ⟨h.below.setCell (by omega) v,⟨by have:=h.size;simpa using this,fun k hk hl=>by rw [Below.heap_setCell _ _ _ _ (by omega)];exact h.held.block k hk hl⟩⟩
theorem Rd.alloc {r:Nat} {a b:World} (h:Rd r a b) (hr:r<a.heap.size) (o:Obj):Rd r a (b.alloc o):=h.ext hr ((Ext.refl b).alloc o)
theorem Rd.drew {r:Nat} {a b:World} (h:Rd r a b):Rd r a b.drew:=⟨h.below.drew,h.held.drew⟩
theorem eD {r:Nat} {a b:World} (h:Rd r a b:=by with_reducible repeat (first|assumption|(refine Rd.acw ?_ ?_ _ (by assumption);rotate_left;(focus(first|(simp;done)|(simp;omega)|omega)))|apply Rd.drew|(refine Rd.alloc ?_ (by assumption) _)|(refine Rd.trans ?_ (by assumption)))):Rd r a b:=h
theorem iw {w:World} {r:Nat} {s:ah} {bad:Bool} (h:Sr w r s bad:=by unfold Sr;(with_reducible apply af.to);(focus(with_reducible repeat (first|assumption|(apply af.new;(focus(first|rfl|(first|(simp;done)|(simp;omega)|omega))))|apply af.set|(apply af.other;rotate_left;(focus(first|(simp;done)|(simp;omega)|omega)))|apply af.alloc|apply af.drew|(apply af.ext;(focus assumption)))));(first|rfl|(simp;done)|(go_light;simp [*];done))):Sr w r s bad:=h
abbrev uk:aA:=fun _=>False
theorem Ti {r base n:Nat} {wm w3 W w1:World} {v v':Value} {l:List V} {xs:List Value} (hl0:l.length=n) (hown:wm.ownsRow base 41 5 v n xs) (hcells:cV wm (fR base uk v) l xs) (qO:Rd r wm w3) (mD:r<base) (e:Ext w3 W)
 {x:V} {ka:aq} {kc:Nat} {la:aq} {lc:Nat} (hx:x.In w3 (fun b=>wm.heap.size<=b) ka kc la lc) (hbase:base<=wm.heap.size)
 (hown1:w1.ownsRow base 41 5 v' (n+1) (xs++ [.int .i64 x.k, .int .i64 x.n, .string x.s, .slice ka x.keys.length kc, .slice la x.l.length lc])) (hgrow:W.grownBy w1 v.ownBlock)
 (g:Nat) (hv':v'.ownBlock=some g) (hat:v.ownBlock=some g\/g=W.heap.size):gN w1 base uk v' (n+1) (l++ [x]):=by
 have hvb:v.ownBlock=none\/∃g,v.ownBlock=some g/\base<=g:=by
  cases hv:v.ownBlock with
  |none=>exact .inl rfl
  |some g=>exact .inr ⟨g,rfl,(hown.lt g hv).1⟩
 have hc3:cV w3 (fR base uk v) l xs:=hcells.keep (fun b hb hl=>qO.held.block b (by rcases hb with hb|hb;exact hb.2.elim;omega) hl) (fun _ h _=>h);refine gN.push hl0 (hc3.keep (e.kept _) (fun _ h _=>h)) hvb (hx.keep (e.kept _) ?_) hown1 hgrow g hv' hat;intro b hb _;refine .inr ⟨Nat.le_trans hbase hb,fun he=> ?_⟩;have:=(hown.lt b he).2;omega
theorem gN.rd {r base n:Nat} {w w':World} {v:Value} {l:List V} (h:gN w base uk v n l) (e:Rd r w w') (hr:r<base):gN w' base uk v n l:=
 h.keep (fun b hb hk=>e.held.block b (by rcases hk with hk|hk;exact hk.2.elim;omega) hb)
def vD {α:Type} (e:UInt8) (first:Bool) (F K:Bytes->Option α) (s:Bytes):Option α:=
 match dw s with
 | []=>none
 |c::t=>if c=e then F t else(if first=true then some (c::t) else if c=44 then some t else none).bind K
theorem My {α:Type} {r:Nat} {s:ah} {bad first:Bool} {c:UInt8} {w w':World} {e:Ending} {R:Option α} {F K:Bytes->Option α} (hm:Bd r (dw s.data.toList) bad first c w e w') (hR:bad=false->R=vD c first F K s.data.toList)
 (hb:bad=true->s.data.toList= []/\R=none) (hK:K []=none) (hc:c≠0):
 Rd r w w'/\ ((e= .returned (.bool false)/\∃s' gy,Sr w' r s' gy/\ ((gy=false/\R=F s'.data.toList)\/ (gy=true/\s'.data.toList= []/\R=none)))\/
  (e= .returned (.bool true)/\bad=false/\∃s',Sr w' r s' false/\s'.size<=s.size/\R=K s'.data.toList)):=by
 obtain⟨qO,s',gy,hs',hbs,h⟩:=hm;have hl:s.data.toList.length=s.size:=Array.length_toList;have hl':s'.data.toList.length=s'.size:=Array.length_toList;have hsp:=nC s.data.toList;refine⟨qO,?_⟩
 cases bad with
 |true=>
  obtain⟨h0,hn⟩:=hb rfl;have h1:dw s.data.toList= []:=by rw [h0];rfl
  rw [h1] at h;rcases h with⟨u,hu,-⟩|⟨-,he,h⟩
  ·cases hu
  ·have Fk:gy=true:=by
    rcases h with⟨-,h,-⟩|⟨-,⟨u,hu,-⟩|⟨-,h⟩⟩
    ·exact h
    ·cases hu
    ·exact h
   subst Fk;exact .inl ⟨he,s',true,hs', .inr ⟨rfl,hbs rfl,hn⟩⟩
 |false=>
  have hR:=hR rfl;unfold vD at hR;rcases h with⟨u,hu,he,rfl,ng⟩|⟨hne,he,h⟩
  ·refine .inl ⟨he,s',false,hs', .inl ⟨rfl,?_⟩⟩
   rw [hR,hu,ng];simp
  ·rcases h with⟨rfl,rfl,h⟩|⟨rfl,⟨u,hu,rfl,h⟩|⟨HZ,rfl⟩⟩
   ·refine .inr ⟨he,rfl,s',hs',?_,?_⟩
    ·rw [<-hl,<-hl',h];exact hsp
    ·rw [hR,h]
     cases hq:dw s.data.toList with
     |nil=>exact hK.symm
     |cons d t=>
      rw [hq] at hne;have hne:d≠c:=hne;simp only [if_neg hne];rfl
   ·refine .inr ⟨he,rfl,s',hs',?_,?_⟩
    ·rw [hu,List.length_cons] at hsp
     rw [<-hl,<-hl',h];omega
    ·rw [hR,hu,h]
     rw [hu] at hne;have hne:(44:UInt8)≠c:=hne;simp only [if_neg hne];rfl
   ·refine .inl ⟨he,s',true,hs', .inr ⟨rfl,hbs rfl,?_⟩⟩
    rw [hR]
    cases hq:dw s.data.toList with
    |nil=>rfl
    |cons d t=>
     rw [hq] at hne HZ;have hne:d≠c:=hne;have HZ:d≠44:=HZ;simp only [if_neg hne,if_neg HZ];rfl
def H3 (val:Bytes->Option (V×Bytes)) (R:Option (List V×Bytes)) (s:ah) (bad:Bool) (l:List V):Prop:=
 (bad=true->s.data.toList= [])/\ ((bad=false/\gM val (s.size+1) s.data.toList l=R)\/ (bad=true/\R=none))
theorem Tj {val:Bytes->Option (V×Bytes)} {R:Option (List V×Bytes)} {s:ah} {l:List V} (h:H3 val R s false l):
 R=vD 93 (decide (l= [])) (fun t=>some (l,t)) (fun s1=>(val s1).bind fun p=>gM val s.size p.2 (l++ [p.1])) s.data.toList:=by
 rcases h.2 with⟨-,h⟩|⟨h,-⟩
 ·rw [<-h,gM]
  unfold vD
  cases dw s.data.toList with
  |nil=>rfl
  |cons c t=>simp only [decide_eq_true_eq]
 ·cases h
theorem Tk (f:Nat):bJ f []=none:=by cases f<;>rfl
theorem Tm {f:Nat} {R:Option (List V×Bytes)} {n:Nat} {s3 s5:ah} {bad:Bool} {l:List V} {x:V} (hR:R=(bJ f s3.data.toList).bind fun p=>gM (bJ f) n p.2 (l++ [p.1])) (h3:s3.size<=n)
 (h:(bad=false/\bJ f s3.data.toList=some (x,s5.data.toList))\/ (bad=true/\s5.data.toList= []/\bJ f s3.data.toList=none)):s5.size+(if bad=true then 0 else 1)<n+1/\H3 (bJ f) R s5 bad (l++ [x]):=by
 have e3:s3.data.toList.length=s3.size:=Array.length_toList;have e5:s5.data.toList.length=s5.size:=Array.length_toList;rcases h with⟨rfl,h⟩|⟨rfl,h0,h⟩
 ·have hl:=AQ _ _ _ h
  simp only at hl;refine⟨by simp;omega,(fun h=>by cases h), .inl ⟨rfl,?_⟩⟩;rw [hR,h];exact Re (fun s p h=>AQ f s p h) _ _ _ _ (by omega) (by omega)
 ·rw [h0] at e5
  refine⟨by simp at e5⊢;omega,fun _=>h0, .inr ⟨rfl,by rw [hR,h];rfl⟩⟩
theorem acx (f:Nat) (hv:Mx f) (r:Nat) (d:Int) (hd:d=12-(f:Int)) (hf:f<=12) (s:ah) (t:Bytes) (hs:s.data.toList=91::t) (hsz:s.size<=1048576) (w:World) (hr:Sr w r s false) (hl:uj r w):
 Calls prog 109 #[.pointer (some ⟨r,0,none⟩), .int .i64 d] w (Mw r ((gM (bJ f) (t.length+1) t []).map fun p=>(.mk 4 0 ⟨#[]⟩ [] p.1,p.2)) w):=by
 have hlt:=hr.lt;obtain⟨R,hR⟩:∃R,gM (bJ f) (t.length+1) t []=R:=⟨_,rfl⟩;rw [hR];have Hs:=ae hs;have HR:=ae hR;have Hv:=ae hv;have Hl:=ae hl;have Hd:=ae hd;have hd1:0<=d:=by omega
 have hd2:d<=12:=by omega
 have hwr:IntKind.i64.wrap (d+1)=d+1:=by rw [IntKind.wrap_i64];omega
 clear hs hR hv hl hd;go_enter func109,ntmps109;go_upto_region 2 with fail
 refine aI (R:=fun wx=>aN wx w.heap.size/\af wx (w.heap.size+1) #[.int .i64 4, .int .i64 0, .string ⟨#[]⟩, .slice none 0 0, .slice none 0 0] 41/\Ext w wx) ⟨aj,aj,Xt⟩ ?_;rintro wa ⟨ag,ai,aF⟩;have qL:=hr.ext aF;clear hr;go_wp2_with fail;(refine(xg r s false ⟨#[91]⟩ _ qL).mono ?_);rintro e w1 ⟨rfl,h1,(⟨hp,s1,hs1,hr1⟩|⟨hp,hr1⟩)⟩
 rotate_left
 ·rw [Hs.out] at hp;simp [List.isPrefixOf] at hp
 have hst:s1.data.toList=t:=by rw [hs1,Hs.out];rfl
 have az:t.length=s1.size:=by rw [<-hst];exact Array.length_toList
 have hl0:s.size=t.length+1:=by have:s.data.toList.length=s.size:=Array.length_toList;rw [Hs.out] at this;exact this.symm
 have gW:H3 (bJ f) R s1 false []:=⟨(fun h=>by cases h), .inl ⟨rfl,by rw [hst,<-az,HR.out]⟩⟩;have sy:=ae gW;have qN:s1.size<=1048576:=by omega
 have ag:=af.rd h1 ag (by omega);have ai:=af.rd h1 ai (by omega);have hx1:Rd r w w1:=(Rd.of hlt aF).trans h1;have hz1:=ai.lt;clear hp hs1 hst gW hl0 az qL aF h1;go_wp2_with fail
 go_loopg [] (s1.size+1) (fun g wr=>∃(s2:ah) (bad:Bool) (l:List V) (a0:aq) (c0:Nat),Sr wr r s2 bad/\gN wr (w.heap.size+2) uk (.slice a0 l.length c0) l.length l/\aN wr w.heap.size/\
  af wr (w.heap.size+1) #[.int .i64 4, .int .i64 0, .string ⟨#[]⟩, .slice none 0 0, .slice a0 l.length c0] 41/\g=s2.size+(if bad=true then 0 else 1)/\l.length+(s2.size+(if bad=true then 0 else 1))<=1048577/\Rd r w wr/\H3 (bJ f) R s2 bad l)
 case atStart=>exact⟨s1,false, [],none,0,hr1,gN.nil _ _ _,ag,ai,rfl,by simp;omega,hx1,sy.out⟩
 case round=>
  clear hr1 hx1 sy qN ag ai hz1;obtain⟨s2,bad,l,a0,c0,hr2,hO,ag,ai,rfl,cx,hx,gW⟩:=hrel;have HO:=ae hO;have Hb:=ae gW.1;have zn:=ae (show bad=true->s2.data.toList= []/\R=none from fun h=>⟨gW.1 h,by rcases gW.2 with⟨h',-⟩|⟨-,h'⟩;rw [h] at h';cases h';exact h'⟩);have kx:=ae (show ((bJ f []).bind fun p=>gM (bJ f) s2.size p.2 (l++ [p.1]))=none by rw [Tk];rfl);have sy:=ae gW;have acy:l.length+s2.size<=1048577:=by omega
  have qP:=ae cx;clear cx;have hlr:=hr2.lt;have br:=hx.size;have acz:=ai.lt;clear hO gW;obtain⟨hc1,aB,az⟩:=ai.see;by_cases hl0:l= []
  ·have il:((l.length:Int)==0)=true:=by rw [hl0];rfl
   have xm:=ae (show bad=false->R=vD 93 true (fun t=>some (l,t)) (fun s1=>(bJ f s1).bind fun p=>gM (bJ f) s2.size p.2 (l++ [p.1])) s2.data.toList from fun h=>by subst h;have:=Tj sy.out;rwa [show decide (l= [])=true by simpa using hl0] at this);clear hl0;go_wp2_with fail;(refine(Mi r s2 bad true 93 (by decide) Hb.out _ hr2).mono ?_);rintro e w3 hm;obtain⟨h3,hend⟩:=My hm (fun hb=>by subst hb;exact xm.out rfl) zn.out kx.out (by decide);have cF:=ae hend;have oL:=af.rd h3 ag (by omega);have nA:=af.rd h3 ai (by omega);have hx3:=hx.trans h3;have lH:=ae (gN.rd HO.out h3 (by omega));have hz3:=h3.size;clear hm hend ag ai hr2 hx hc1 aB az xm zn kx HO;rcases cF.out with⟨rfl,s3,oN,hr3,hfin⟩|⟨rfl,rfl,s3,hr3,DX,bV⟩
   ·have pF:=ae hfin
    clear hfin;obtain⟨a9,c9,xn,rL,-,DY⟩:=lH.out.rows;simp only [Value.slice.injEq,true_and] at xn;obtain⟨rfl,rfl⟩:=xn;have zo:=ae DY;have dv:=ae rL;clear DY rL;obtain⟨hc0,aw,hl0⟩:=oL.see;obtain⟨hc1,aB,az⟩:=nA.see;go_wp2_with fail;refine aG (h:= ?_);refine⟨eD, .mk 4 0 ⟨#[]⟩ [] l,none,0,a0,c0,s3,oN,rfl,(V.dD ..).2 ⟨aO.nil,dv.out, .inl rfl,zo.out.keep (Held.kept (a:=w3) (T:=fun b=>(b<w.heap.size+2/\uk b)\/w.heap.size+2<=b) aC) (fun b hb _=>by rcases hb with hb|hb;exact hb.2.elim;omega)⟩,iw,?_⟩;rcases pF.out with⟨rfl,hq⟩|⟨rfl,h0,hq⟩
    ·exact .inl ⟨rfl,by rw [hq];rfl⟩
    ·exact .inr ⟨rfl,h0,by rw [hq];rfl⟩
   ·have vE:=ae bV
    clear bV;obtain⟨hl0,xs,hown,hcells⟩:=lH.out;have Mz:=ae hl0;have MA:=ae hcells;have ck:=ae hown;obtain⟨j0,hj,hy0,hy1,hy2⟩:=info_parts Tryz.yS;have lq:=ae (show∀b,b<w.heap.size+2->some b≠(Value.slice a0 l.length c0).ownBlock from fun b hb he=>by have:=(hown.lt b he.symm).1;omega);clear hl0 hcells hown;have tV:=hr3.lt;have MB:l.length+1<=maxLen:=by unfold maxLen;omega
    have MC:(l.length+1)*80<=140737488355328:=by omega
    obtain⟨H6,H8,H9⟩:=nA.see;go_wp2_with fail
    go_region_law
     (first
      |((refine step_append_lies _ (by rfl) _ _ _ (by rfl) (w.heap.size+2) 41 j0 _ 5 80 underlying39 hj hy0 hy1 hy2 rfl (by decide) (.slice a0 l.length c0) l.length xs (by rfl) (iR.out.alloc _) ⟨w5.heap.size,0,none⟩ 1 1 [.int .i64 x.k, .int .i64 x.n, .string x.s, .slice km x.keys.length kq, .slice kr x.l.length ku] (by rfl) (by rfl) (World.news_of_block (cs:= #[.int .i64 x.k, .int .i64 x.n, .string x.s, .slice km x.keys.length kq, .slice kr x.l.length ku]) (t:=41) (fr:=(0,0)) (heap_alloc_new w5 _)) (by simp [Value.oneCell']) (by omega) MB MC (by simp;omega) _ rfl ?_;intro g4 pC w6 lI nH rZ Tn;have xZ:=af.grown (af.alloc oI _) nH (lq.out _ (by omega));have x8:=af.grown (af.alloc oh _) nH (lq.out _ (by omega));have nI:Sr w6 r s5 mE:=af.grown (af.alloc vC _) nH (lq.out _ (by omega));obtain⟨hcB,hfB,hlB⟩:=x8.see;have DZ:=ae nH;have gZ:=ae lI;have MD:=ae rZ;clear nH lI rZ))
      |((go_simp;go_at_call 70;refine(Hv.out r (d+1) s3 false _ (by have:=Hd.out;omega) (fun h=>by cases h) (by have:=qP.out;simp at this;omega) (hr3.ext Xt) (Hl.out.on (Rd.below (Rd.ext hx3 hlt Xt)))).mono ?_;rintro e w5 hval;obtain⟨Ia,x,km,kq,kr,ku,s5,mE,rfl,fV,vC,dF⟩:=hval;have h5:Rd r w3 w5:=(Rd.of tV Xt).trans Ia;have oI:=af.rd h5 oL (by omega);have oh:=af.rd h5 nA (by omega);have q15:w5.cell? ⟨w.heap.size+1,4,none⟩=some (.slice a0 l.length c0):=(by rw [oh.cells];rfl);have acA:w.heap.size+1<w5.heap.size:=oh.lt;have acB:w.heap.size<w5.heap.size:=oI.lt;have fX:=h5.size;have iR:=ae (eo ck.out (fun b hb he=>h5.held.block b (by have:=(ck.out.lt b he).1;omega) hb));have gI:=ae fV;have gJ:=ae dF;clear fV dF;dsimp only)))
    all_goals
     have bS:Rd r w w6:=Rd.grown (b:=w5.alloc _) (Rd.alloc (hx3.trans h5) hlt _) DZ.out (fun g hg=>by have:=(ck.out.lt g hg).1;omega) hlt;have hp:=Ti (n:=l.length) (W:=w5.alloc _) rfl ck.out MA.out h5 (by omega) Xt (gI.out.mono (fun b h _=>h)) (by omega) gZ.out DZ.out g4 rfl MD.out
     have ME:=ae (show∀v,gN (w6.setCell ⟨w.heap.size+1,4,none⟩ v) (w.heap.size+2) uk (.slice (some ⟨g4,0,none⟩) (l++ [x]).length pC) (l++ [x]).length (l++ [x]) from fun v=>by
      have h7:=gN.keep hp (w':=w6.setCell ⟨w.heap.size+1,4,none⟩ v) (fun b hb hk=>by rcases hk with hk|hk;exact hk.2.elim;exact Below.heap_setCell _ _ _ _ (by simp;omega))
      rw [List.length_append,List.length_singleton];exact h7)
     obtain⟨fG,D2⟩:=Tm vE.out DX gJ.out;have MF:=ae D2;have oO:=ae fG
     have jK:=ae (show (l++ [x]).length+(s5.size+(if mE=true then 0 else 1))<=1048577 by
      have h1:=qP.out;rw [List.length_append,List.length_singleton];simp only [Bool.false_eq_true,if_false] at h1
      omega)
     clear hp D2 fG;go_wp2_with fail;go_roundg (s5.size+(if mE=true then 0 else 1))
     case measure=>have:=oO.out;simpa using this
     case rel=>exact⟨s5,mE,l++ [x],some ⟨g4,0,none⟩,pC,aj,ME.out _,aj,(by rw [List.length_append,List.length_singleton];exact aj),rfl,jK.out,eD,MF.out⟩
  ·have hlp:0<l.length:=List.length_pos_iff.2 hl0
   have il:((l.length:Int)==0)=false:=by simp;omega
   have xm:=ae (show bad=false->R=vD 93 false (fun t=>some (l,t)) (fun s1=>(bJ f s1).bind fun p=>gM (bJ f) s2.size p.2 (l++ [p.1])) s2.data.toList from fun h=>by subst h;have:=Tj sy.out;rwa [show decide (l= [])=false by simpa using hl0] at this);clear hl0;go_wp2_with fail;(refine(Mi r s2 bad false 93 (by decide) Hb.out _ hr2).mono ?_);rintro e w3 hm;obtain⟨h3,hend⟩:=My hm (fun hb=>by subst hb;exact xm.out rfl) zn.out kx.out (by decide);have cF:=ae hend;have oL:=af.rd h3 ag (by omega);have nA:=af.rd h3 ai (by omega);have hx3:=hx.trans h3;have lH:=ae (gN.rd HO.out h3 (by omega));have hz3:=h3.size;clear hm hend ag ai hr2 hx hc1 aB az xm zn kx HO;rcases cF.out with⟨rfl,s3,oN,hr3,hfin⟩|⟨rfl,rfl,s3,hr3,DX,bV⟩
   ·have pF:=ae hfin
    clear hfin;obtain⟨a9,c9,xn,rL,-,DY⟩:=lH.out.rows;simp only [Value.slice.injEq,true_and] at xn;obtain⟨rfl,rfl⟩:=xn;have zo:=ae DY;have dv:=ae rL;clear DY rL;obtain⟨hc0,aw,hl0⟩:=oL.see;obtain⟨hc1,aB,az⟩:=nA.see;go_wp2_with fail;refine aG (h:= ?_);refine⟨eD, .mk 4 0 ⟨#[]⟩ [] l,none,0,a0,c0,s3,oN,rfl,(V.dD ..).2 ⟨aO.nil,dv.out, .inl rfl,zo.out.keep (Held.kept (a:=w3) (T:=fun b=>(b<w.heap.size+2/\uk b)\/w.heap.size+2<=b) aC) (fun b hb _=>by rcases hb with hb|hb;exact hb.2.elim;omega)⟩,iw,?_⟩;rcases pF.out with⟨rfl,hq⟩|⟨rfl,h0,hq⟩
    ·exact .inl ⟨rfl,by rw [hq];rfl⟩
    ·exact .inr ⟨rfl,h0,by rw [hq];rfl⟩
   ·have vE:=ae bV
    clear bV;obtain⟨hl0,xs,hown,hcells⟩:=lH.out;have Mz:=ae hl0;have MA:=ae hcells;have ck:=ae hown;obtain⟨j0,hj,hy0,hy1,hy2⟩:=info_parts Tryz.yS;have lq:=ae (show∀b,b<w.heap.size+2->some b≠(Value.slice a0 l.length c0).ownBlock from fun b hb he=>by have:=(hown.lt b he.symm).1;omega);clear hl0 hcells hown;have tV:=hr3.lt;have MB:l.length+1<=maxLen:=by unfold maxLen;omega
    have MC:(l.length+1)*80<=140737488355328:=by omega
    obtain⟨H6,H8,H9⟩:=nA.see;go_wp2_with fail
    go_region_law
     (first
      |((refine step_append_lies _ (by rfl) _ _ _ (by rfl) (w.heap.size+2) 41 j0 _ 5 80 underlying39 hj hy0 hy1 hy2 rfl (by decide) (.slice a0 l.length c0) l.length xs (by rfl) (iR.out.alloc _) ⟨w5.heap.size,0,none⟩ 1 1 [.int .i64 x.k, .int .i64 x.n, .string x.s, .slice km x.keys.length kq, .slice kr x.l.length ku] (by rfl) (by rfl) (World.news_of_block (cs:= #[.int .i64 x.k, .int .i64 x.n, .string x.s, .slice km x.keys.length kq, .slice kr x.l.length ku]) (t:=41) (fr:=(0,0)) (heap_alloc_new w5 _)) (by simp [Value.oneCell']) (by omega) MB MC (by simp;omega) _ rfl ?_;intro g4 pC w6 lI nH rZ Tn;have xZ:=af.grown (af.alloc oI _) nH (lq.out _ (by omega));have x8:=af.grown (af.alloc oh _) nH (lq.out _ (by omega));have nI:Sr w6 r s5 mE:=af.grown (af.alloc vC _) nH (lq.out _ (by omega));obtain⟨hcB,hfB,hlB⟩:=x8.see;have DZ:=ae nH;have gZ:=ae lI;have MD:=ae rZ;clear nH lI rZ))
      |((go_simp;go_at_call 70;refine(Hv.out r (d+1) s3 false _ (by have:=Hd.out;omega) (fun h=>by cases h) (by have:=qP.out;simp at this;omega) (hr3.ext Xt) (Hl.out.on (Rd.below (Rd.ext hx3 hlt Xt)))).mono ?_;rintro e w5 hval;obtain⟨Ia,x,km,kq,kr,ku,s5,mE,rfl,fV,vC,dF⟩:=hval;have h5:Rd r w3 w5:=(Rd.of tV Xt).trans Ia;have oI:=af.rd h5 oL (by omega);have oh:=af.rd h5 nA (by omega);have q15:w5.cell? ⟨w.heap.size+1,4,none⟩=some (.slice a0 l.length c0):=(by rw [oh.cells];rfl);have acA:w.heap.size+1<w5.heap.size:=oh.lt;have acB:w.heap.size<w5.heap.size:=oI.lt;have fX:=h5.size;have iR:=ae (eo ck.out (fun b hb he=>h5.held.block b (by have:=(ck.out.lt b he).1;omega) hb));have gI:=ae fV;have gJ:=ae dF;clear fV dF;dsimp only)))
    all_goals
     have bS:Rd r w w6:=Rd.grown (b:=w5.alloc _) (Rd.alloc (hx3.trans h5) hlt _) DZ.out (fun g hg=>by have:=(ck.out.lt g hg).1;omega) hlt;have hp:=Ti (n:=l.length) (W:=w5.alloc _) rfl ck.out MA.out h5 (by omega) Xt (gI.out.mono (fun b h _=>h)) (by omega) gZ.out DZ.out g4 rfl MD.out
     have ME:=ae (show∀v,gN (w6.setCell ⟨w.heap.size+1,4,none⟩ v) (w.heap.size+2) uk (.slice (some ⟨g4,0,none⟩) (l++ [x]).length pC) (l++ [x]).length (l++ [x]) from fun v=>by
      have h7:=gN.keep hp (w':=w6.setCell ⟨w.heap.size+1,4,none⟩ v) (fun b hb hk=>by rcases hk with hk|hk;exact hk.2.elim;exact Below.heap_setCell _ _ _ _ (by simp;omega))
      rw [List.length_append,List.length_singleton];exact h7)
     obtain⟨fG,D2⟩:=Tm vE.out DX gJ.out;have MF:=ae D2;have oO:=ae fG
     have jK:=ae (show (l++ [x]).length+(s5.size+(if mE=true then 0 else 1))<=1048577 by
      have h1:=qP.out;rw [List.length_append,List.length_singleton];simp only [Bool.false_eq_true,if_false] at h1
      omega)
     clear hp D2 fG;go_wp2_with fail;go_roundg (s5.size+(if mE=true then 0 else 1))
     case measure=>have:=oO.out;simpa using this
     case rel=>exact⟨s5,mE,l++ [x],some ⟨g4,0,none⟩,pC,aj,ME.out _,aj,(by rw [List.length_append,List.length_singleton];exact aj),rfl,jK.out,eD,MF.out⟩
end Go.Proofs.YtlcebdaghmdkeaaGreatDoor
namespace Go.Proofs.YtlcebdaghmdkeaaGreatDoor
open Go.RowKit
attribute [local go_sem↓] Go.wp_at_zero Go.wp_at_succ
abbrev Beside (base:Nat) (vk vl:Value) (b:Nat):Prop:=base<=b/\vk.ownBlock≠some b/\vl.ownBlock≠some b
structure ey (w:World) (base:Nat) (vk vl:Value) (n:Nat) (ks:List ah) (l:List V):Prop where
 nk:ks.length=n
 nl:l.length=n
 keys:w.ownsRow base 9 1 vk n (ks.map Value.string)
 items:∃xs,w.ownsRow base 41 5 vl n xs/\cV w (Beside base vk vl) l xs
theorem ey.nil (w:World) (base:Nat):ey w base (.slice none 0 0) (.slice none 0 0) 0 [] []:=⟨rfl,rfl,World.ownsRow_nil _ _ _ _, [],World.ownsRow_nil _ _ _ _,rfl⟩
theorem ey.keep {w w':World} {base:Nat} {vk vl:Value} {n:Nat} {ks:List ah} {l:List V} (h:ey w base vk vl n ks l) (e:∀b,b<w.heap.size->base<=b->w'.heap[b]? =w.heap[b]?):ey w' base vk vl n ks l:=by
 obtain⟨h1,h2,h3,xs,h4,h5⟩:=h;exact⟨h1,h2,eo h3 (fun b hb hg=>e b hb (h3.lt b hg).1),xs,eo h4 (fun b hb hg=>e b hb (h4.lt b hg).1),h5.keep (fun b hb hl=>e b hl hb.1) (fun _ h _=>h)⟩
theorem ey.rd {r base n:Nat} {w w':World} {vk vl:Value} {ks:List ah} {l:List V} (h:ey w base vk vl n ks l) (e:Rd r w w') (hr:r<base):ey w' base vk vl n ks l:=
 h.keep (fun b hb hk=>e.held.block b (by omega) hb)
theorem ey.ext {base n:Nat} {w w':World} {vk vl:Value} {ks:List ah} {l:List V} (h:ey w base vk vl n ks l) (e:Ext w w'):ey w' base vk vl n ks l:=
 h.keep (fun b hb _=>Below.block e b hb)
theorem ey.obj {w:World} {base n:Nat} {ka:aq} {kc:Nat} {la:aq} {lc:Nat} {ks:List ah} {l:List V} (h:ey w base (.slice ka n kc) (.slice la n lc) n ks l):(V.mk 5 0 ⟨#[]⟩ ks l).In w (fun b=>base<=b) ka kc la lc:=by
 obtain⟨h1,h2,h3,xs,h4,h5⟩:=h;obtain⟨a,c,he,hok,-,hst⟩:=ek.strs (w:=w) (base:=base) (v:= .slice ka n kc) ⟨h1,h3⟩;simp only [Value.slice.injEq,true_and] at he;obtain⟨rfl,rfl⟩:=he;obtain⟨a2,c2,yb,gj⟩:=gU h4;simp only [Value.slice.injEq,true_and] at yb;obtain⟨rfl,rfl⟩:=yb;refine(V.dD ..).2 ⟨by rw [V.gi,h1];exact hok,by rw [V.ej,h2];exact gj,hst,?_⟩
 cases n with
 |zero=>exact .inl (List.length_eq_zero_iff.1 h2)
 |succ m=>
  obtain⟨g,cur,rfl,hgb,hBg,hcz,hits⟩:=qg (Nat.succ_pos m) h2 h4 h5;refine .inr ⟨g,0,rfl,hgb,fun i hi=> ?_⟩;rw [Nat.zero_add];exact(hits i hi).mono (fun b h=>h.1)
def D3 (val:Bytes->Option (V×Bytes)) (R:Option ((List ah×List V)×Bytes)) (s:ah) (bad:Bool) (ks:List ah) (l:List V):Prop:=
 (bad=true->s.data.toList= [])/\ (bad=false->cn ks)/\ ((bad=false/\iO val (s.size+1) s.data.toList ks l=R)\/ (bad=true/\R=none))
def vF (val:Bytes->Option (V×Bytes)) (n:Nat) (ks:List ah) (l:List V) (s1:Bytes):Option ((List ah×List V)×Bytes):=
 (jx val s1).bind fun p=>if hasB ks p.1.1=true then none else iO val n p.2 (ks.take (posOf ks p.1.1)++p.1.1::ks.drop (posOf ks p.1.1)) (l.take (posOf ks p.1.1)++p.1.2::l.drop (posOf ks p.1.1))
theorem acC {val:Bytes->Option (V×Bytes)} {R:Option ((List ah×List V)×Bytes)} {s:ah} {ks:List ah} {l:List V} (h:D3 val R s false ks l):
 R=vD 125 (decide (l= [])) (fun t=>some ((ks,l),t)) (vF val s.size ks l) s.data.toList:=by
 rcases h.2.2 with⟨-,h⟩|⟨h,-⟩
 ·rw [<-h,iO]
  unfold vD
  cases dw s.data.toList with
  |nil=>rfl
  |cons c t=>simp only [decide_eq_true_eq];rfl
 ·cases h
theorem acD (val:Bytes->Option (V×Bytes)) (n:Nat) (ks:List ah) (l:List V):vF val n ks l []=none:=rfl
def MG (val:Bytes->Option (V×Bytes)) (s3:Bytes) (key:ah) (x:V) (s8:ah) (bad:Bool):Prop:=
 (bad=false/\jx val s3=some ((key,x),s8.data.toList))\/ (bad=true/\s8.data.toList= []/\jx val s3=none)
theorem acE {val:Bytes->Option (V×Bytes)} {s:Bytes} (h:gw (dw s)≠34):jx val s=none:=by
 unfold jx
 cases hq:dw s with
 |nil=>rfl
 |cons c t=>rw [hq] at h;have h:c≠34:=h;simp only [if_neg h]
theorem acF {val:Bytes->Option (V×Bytes)} {s t:Bytes} (h:dw s=34::t):jx val s=(eA (t.length+1) t []).bind fun p=>match dw p.2 with
 | []=>none
 |c::t=>if c=58 then(val t).map fun q=>((⟨p.1.toArray⟩,q.1),q.2) else none:=by
 unfold jx;rw [h];rfl
def MH (val:Bytes->Option (V×Bytes)) (s3:Bytes) (key:ah) (s7:ah) (bad:Bool):Prop:=
 (bad=false/\jx val s3=(val s7.data.toList).map fun q=>((key,q.1),q.2))\/ (bad=true/\s7.data.toList= []/\jx val s3=none)
theorem Tp {val:Bytes->Option (V×Bytes)} {s3 t:Bytes} (hs:dw s3=34::t) {key s5 s7:ah} {mE sA:Bool}
 (h5:(mE=false/\eA (t.length+1) t []=some (key.data.toList,s5.data.toList))\/ (mE=true/\s5.data.toList= []/\eA (t.length+1) t []=none))
 (h7:(([58]:Bytes).isPrefixOf (dw s5.data.toList)=true/\s7.data.toList=(dw s5.data.toList).drop 1/\sA=mE)\/ (([58]:Bytes).isPrefixOf (dw s5.data.toList)=false/\s7.data.toList= []/\sA=true)):MH val s3 key s7 sA:=by
 have hm:=acF (val:=val) hs;rcases h5 with⟨rfl,h5⟩|⟨rfl,h0,h5⟩
 ·rw [h5] at hm
  simp only [Option.bind_some] at hm;have hkey:(⟨key.data.toList.toArray⟩:ah)=key:=by simp
  rcases h7 with⟨hp,h7,rfl⟩|⟨hp,h7,rfl⟩
  ·refine .inl ⟨rfl,?_⟩
   rw [hm,h7]
   cases hq:dw s5.data.toList with
   |nil=>rw [hq] at hp;simp [List.isPrefixOf] at hp
   |cons c u=>
    rw [hq] at hp;simp only [List.isPrefixOf,Bool.and_true,beq_iff_eq] at hp;subst hp;simp only [if_true,hkey];rfl
  ·refine .inr ⟨rfl,h7,?_⟩
   rw [hm]
   cases hq:dw s5.data.toList with
   |nil=>rfl
   |cons c u=>
    rw [hq] at hp;have hc:c≠58:=fun h=>by subst h;simp [List.isPrefixOf] at hp
    simp only [if_neg hc]
 ·rw [h5] at hm
  have hsp:dw s5.data.toList= []:=by rw [h0];rfl
  rw [hsp] at h7;rcases h7 with⟨hp,-⟩|⟨-,h7,rfl⟩
  ·simp [List.isPrefixOf] at hp
  ·exact .inr ⟨rfl,h7,hm⟩
theorem acG {val:Bytes->Option (V×Bytes)} (hv:val []=none) {s3:Bytes} {key s7 s8:ah} {x:V} {sA kV:Bool} (h:MH val s3 key s7 sA)
 (h8:(kV=false/\val s7.data.toList=some (x,s8.data.toList))\/ (kV=true/\s8.data.toList= []/\val s7.data.toList=none)):MG val s3 key x s8 kV:=by
 rcases h with⟨rfl,h⟩|⟨rfl,h0,h⟩
 ·rcases h8 with⟨rfl,h8⟩|⟨rfl,h1,h8⟩
  ·exact .inl ⟨rfl,by rw [h,h8];rfl⟩
  ·exact .inr ⟨rfl,h1,by rw [h,h8];rfl⟩
 ·rw [h0,hv] at h8
  rcases h8 with⟨-,h8⟩|⟨rfl,h1,-⟩
  ·cases h8
  ·exact .inr ⟨rfl,h1,h⟩
theorem acH {f:Nat} {R:Option ((List ah×List V)×Bytes)} {n:Nat} {s3 s8:ah} {bad:Bool} {ks:List ah} {l:List V} {key:ah} {x:V} (hr:cn ks) (hR:R=vF (bJ f) n ks l s3.data.toList) (h3:s3.size<=n)
 (h:MG (bJ f) s3.data.toList key x s8 bad) (hb:hasB ks key=false):s8.size+(if bad=true then 0 else 1)<n+1/\D3 (bJ f) R s8 bad (ks.take (posOf ks key)++key::ks.drop (posOf ks key)) (l.take (posOf ks key)++x::l.drop (posOf ks key)):=by
 have e3:s3.data.toList.length=s3.size:=Array.length_toList;have e8:s8.data.toList.length=s8.size:=Array.length_toList;rcases h with⟨rfl,h⟩|⟨rfl,h0,h⟩
 ·have hl:=KR (fun s p h=>AQ f s p h) h
  simp only at hl;refine⟨by simp;omega,(fun h=>by cases h),fun _=>CI hr hb, .inl ⟨rfl,?_⟩⟩;rw [hR];unfold vF;rw [h];simp only [Option.bind_some];rw [if_neg (by rw [hb];decide)];exact Rf (fun s p h=>AQ f s p h) _ _ _ _ _ (by omega) (by omega)
 ·rw [h0] at e8
  refine⟨by simp at e8⊢;omega,fun _=>h0,(fun h=>by cases h), .inr ⟨rfl,by rw [hR];unfold vF;rw [h];rfl⟩⟩
theorem acI {f:Nat} {R:Option ((List ah×List V)×Bytes)} {n:Nat} {s3 s8 s9:ah} {bad:Bool} {ks ks':List ah} {l l':List V} {key:ah} {x:V} (hR:R=vF (bJ f) n ks l s3.data.toList)
 (h:MG (bJ f) s3.data.toList key x s8 bad) (hb:hasB ks key=true) (h9:s9.data.toList= []):s9.size+(if true=true then 0 else 1)<n+1/\D3 (bJ f) R s9 true ks' l':=by
 have e9:s9.data.toList.length=s9.size:=Array.length_toList;rw [h9] at e9;refine⟨by simp at e9⊢;omega,fun _=>h9,(fun h=>by cases h), .inr ⟨rfl,?_⟩⟩;rw [hR];unfold vF;rcases h with⟨rfl,h⟩|⟨rfl,h0,h⟩
 ·rw [h];simp only [Option.bind_some];rw [if_pos hb]
 ·rw [h];rfl
end Go.Proofs.YtlcebdaghmdkeaaGreatDoor
namespace Go.Proofs.YtlcebdaghmdkeaaGreatDoor
open Go.Proofs.Tryz
open Go.RowKit
attribute [local go_sem↓] Go.wp_at_zero Go.wp_at_succ
theorem acJ (f:Nat) (hv:Mx f) (r:Nat) (d:Int) (hd:d=12-(f:Int)) (hf:f<=12) (s:ah) (t:Bytes) (hs:s.data.toList=123::t) (hsz:s.size<=1048576) (w:World) (hr:Sr w r s false) (hl:uj r w):
 Calls prog 110 #[.pointer (some ⟨r,0,none⟩), .int .i64 d] w (Mw r ((iO (bJ f) (t.length+1) t [] []).map fun p=>(.mk 5 0 ⟨#[]⟩ p.1.1 p.1.2,p.2)) w):=by
 have hlt:=hr.lt;obtain⟨R,hR⟩:∃R,iO (bJ f) (t.length+1) t [] []=R:=⟨_,rfl⟩;rw [hR];have Hs:=ae hs;have HR:=ae hR;have Hv:=ae hv;have Hl:=ae hl;have Hd:=ae hd;have hd1:0<=d:=by omega
 have hd2:d<=12:=by omega
 have hwr:IntKind.i64.wrap (d+1)=d+1:=by rw [IntKind.wrap_i64];omega
 clear hs hR hv hl hd;go_enter func110,ntmps110;go_upto_region 2 with fail
 refine aI (R:=fun wx=>aN wx w.heap.size/\af wx (w.heap.size+1) #[.int .i64 5, .int .i64 0, .string ⟨#[]⟩, .slice none 0 0, .slice none 0 0] 41/\Ext w wx) ⟨aj,aj,Xt⟩ ?_;rintro wa ⟨ag,ai,aF⟩;have qL:=hr.ext aF;clear hr;go_wp2_with fail;(refine(xg r s false ⟨#[123]⟩ _ qL).mono ?_);rintro e w1 ⟨rfl,h1,(⟨hp,s1,hs1,hr1⟩|⟨hp,hr1⟩)⟩
 rotate_left
 ·rw [Hs.out] at hp;simp [List.isPrefixOf] at hp
 have hst:s1.data.toList=t:=by rw [hs1,Hs.out];rfl
 have az:t.length=s1.size:=by rw [<-hst];exact Array.length_toList
 have hl0:s.size=t.length+1:=by have:s.data.toList.length=s.size:=Array.length_toList;rw [Hs.out] at this;exact this.symm
 have gW:D3 (bJ f) R s1 false [] []:=⟨(fun h=>by cases h),fun _=>List.Pairwise.nil, .inl ⟨rfl,by rw [hst,<-az,HR.out]⟩⟩;have sy:=ae gW;have qN:s1.size<=1048576:=by omega
 have ag:=af.rd h1 ag (by omega);have ai:=af.rd h1 ai (by omega);have hx1:Rd r w w1:=(Rd.of hlt aF).trans h1;have hz1:=ai.lt;clear hp hs1 hst gW hl0 az qL aF h1;go_wp2_with fail
 go_loopg [6,7,8,9] (s1.size+1) (fun g _ _ _ _ wr=>∃(s2:ah) (bad:Bool) (n:Nat) (ks:List ah) (l:List V) (a2:aq) (c2:Nat) (a3:aq) (c3:Nat),Sr wr r s2 bad/\ey wr (w.heap.size+2) (.slice a2 n c2) (.slice a3 n c3) n ks l/\aN wr w.heap.size/\
  af wr (w.heap.size+1) #[.int .i64 5, .int .i64 0, .string ⟨#[]⟩, .slice a2 n c2, .slice a3 n c3] 41/\g=s2.size+(if bad=true then 0 else 1)/\n+(s2.size+(if bad=true then 0 else 1))<=1048577/\Rd r w wr/\D3 (bJ f) R s2 bad ks l)
 case atStart=>exact⟨s1,false,0, [], [],none,0,none,0,hr1,ey.nil _ _,ag,ai,rfl,by simp;omega,hx1,sy.out⟩
 case round=>
  clear hr1 hx1 sy qN ag ai hz1;obtain⟨s2,bad,n,ks,l,a2,c2,a3,c3,hr2,hO,ag,ai,rfl,cx,hx,gW⟩:=hrel;have HO:=ae hO;have Hb:=ae gW.1;have zn:=ae (show bad=true->s2.data.toList= []/\R=none from fun h=>⟨gW.1 h,by rcases gW.2.2 with⟨h',-⟩|⟨-,h'⟩;rw [h] at h';cases h';exact h'⟩);have sy:=ae gW;have acy:n+s2.size<=1048577:=by omega
  have qP:=ae cx;have hnl:=hO.nl;have Ib:=ae hnl;clear cx;have hlr:=hr2.lt;have br:=hx.size;have acz:=ai.lt;clear hO gW hnl;obtain⟨hc1,aB,az⟩:=ai.see;obtain⟨f0,aw⟩:∃f0,decide (l= [])=f0:=⟨_,rfl⟩;have il:((n:Int)==0)=f0:=by rw [<-aw,<-Ib.out,Bool.eq_iff_iff];simp
  have xm:=ae (show bad=false->R=vD 125 f0 (fun t=>some ((ks,l),t)) (vF (bJ f) s2.size ks l) s2.data.toList from fun h=>by subst h;have:=acC sy.out;rwa [aw] at this);clear aw;go_wp2_with fail;(refine(Mi r s2 bad f0 125 (by decide) Hb.out _ hr2).mono ?_);rintro e w3 hm;obtain⟨h3,hend⟩:=My hm (fun hb=>by subst hb;exact xm.out rfl) zn.out (acD _ _ _ _) (by decide);have cF:=ae hend;have oL:=af.rd h3 ag (by omega);have nA:=af.rd h3 ai (by omega);have hx3:=hx.trans h3;have lH:=ae (ey.rd HO.out h3 (by omega));have hz3:=h3.size;clear hm hend ag ai hr2 hx hc1 aB az xm zn HO;rcases cF.out with⟨rfl,s3,oN,hr3,hfin⟩|⟨rfl,rfl,s3,hr3,DX,bV⟩
  ·have pF:=ae hfin
   clear hfin;obtain⟨hc0,aw,hl0⟩:=oL.see;obtain⟨H6,H8,H9⟩:=nA.see;go_wp2_with fail;refine aG (h:= ?_);have uL:=ey.obj lH.out;have e1:=lH.out.nk;have e2:=lH.out.nl;refine⟨eD, .mk 5 0 ⟨#[]⟩ ks l,a2,c2,a3,c3,s3,oN,by simp [V.val,e1,e2],uL.keep (Held.kept (a:=w3) (T:=fun b=>w.heap.size+2<=b) aC) (fun b hb _=>by omega),iw,?_⟩;rcases pF.out with⟨hq0,hq⟩|⟨hq0,h0,hq⟩
   ·exact .inl ⟨hq0,by rw [hq];rfl⟩
   ·exact .inr ⟨hq0,h0,by rw [hq];rfl⟩
  ·have vE:=ae bV
   have Tq:=ae (sy.out.2.1 rfl);clear bV cF;have tV:=hr3.lt;have ahm:s3.size<=1048576:=by have:=qP.out;simp at this;omega
   go_wp2_with fail;(refine(Bc r s3 false _ hr3).mono ?_);rintro e w4 ⟨rfl,⟨s4,hs4,hr4⟩,h4⟩;have r8:=af.rd h4 oL (by omega);have MI:=af.rd h4 nA (by omega);have bX:=hx3.trans h4;have D4:=ae (ey.rd lH.out h4 (by omega));have ij:=h4.size;have acK:s4.size<=1048576:=by have e3:s3.data.toList.length=s3.size:=Array.length_toList;have e4:s4.data.toList.length=s4.size:=Array.length_toList;have:=nC s3.data.toList;rw [hs4] at e4;omega
   have zq:=ae hs4;obtain⟨c4,vp⟩:∃c4,gw s4.data.toList=c4:=⟨_,rfl⟩;have Ic:=ae vp;clear hs4 vp oL nA hx3 lH hr3 h4;have Tn:=hr4.lt;by_cases hq:(c4.toNat:Int)=34
   ·have MJ:c4=34:=by apply UInt8.toNat_inj.1;simpa using (by omega:c4.toNat=34)
    have yg:((c4.toNat:Int) !=34)=false:=by simpa using hq
    obtain⟨t4,MK⟩:∃t4,s4.data.toList=34::t4:=by
     have:=Ic.out
     cases hk:s4.data.toList with
     |nil=>rw [hk,MJ] at this;cases this
     |cons c u=>rw [hk,MJ] at this;have this:c=34:=this;exact⟨u,by rw [this]⟩
    have Tt:dw s3.data.toList=34::t4:=by rw [<-zq.out,MK]
    have Tv:=ae Tt;have Tw:=ae MK;have Hq:=ae hq;clear Tt MK MJ hq;go_wp2_with fail;(refine(lX r s4 false _ hr4).mono ?_);rintro e wn ⟨rfl,rfl⟩;rw [Ic.out];go_wp2_with fail;(refine(Tb r s4 t4 Tw.out acK _ hr4).mono ?_);rintro e w5 hT;obtain⟨h5,key,s5,mE,rfl,Lt,vC,Tx⟩:=hT;have ML:=ae Tx;clear Tx;go_wp2_with fail;(refine(Bc r s5 mE _ vC).mono ?_);rintro e w6 ⟨rfl,⟨s6,D5,nI⟩,h6⟩;have Bp:=ae D5;clear D5;go_wp2_with fail;(refine(xg r s6 mE ⟨#[58]⟩ _ nI).mono ?_);rintro e w7 ⟨rfl,h7,Ty⟩;obtain⟨s7,sA,jB,hK,acL⟩:∃s7 sA,Sr w7 r s7 sA/\MH (bJ f) s3.data.toList key s7 sA/\s7.size<=1048576:=by
     have e4:s4.data.toList.length=s4.size:=Array.length_toList;have e5:s5.data.toList.length=s5.size:=Array.length_toList;have GM:s5.data.toList.length<=1048576:=by
      rw [Tw.out,List.length_cons] at e4;rcases ML.out with⟨-,h⟩|⟨-,h,-⟩
      ·have:=Dh _ _ _ _ h
       simp only at this;omega
      ·rw [h];simp
     rcases Ty with⟨hp,s7,fH,jB⟩|⟨hp,jB⟩
     ·refine⟨s7,mE,jB,Tp Tv.out ML.out (.inl ⟨by rw [<-Bp.out];exact hp,by rw [fH,Bp.out];rfl,rfl⟩),?_⟩
      have e7:s7.data.toList.length=s7.size:=Array.length_toList;have:=nC s5.data.toList;rw [fH,List.length_drop,Bp.out] at e7;omega
     ·exact⟨⟨#[]⟩,true,jB,Tp Tv.out ML.out (.inr ⟨by rw [<-Bp.out];exact hp,rfl,rfl⟩),by decide⟩
    have h47:Rd r wn w7:=(h5.trans h6).trans h7;have Tz:sA=true->s7.data.toList= []:=fun h=>by rcases hK with⟨h',-⟩|⟨-,h',-⟩;rw [h] at h';cases h';exact h'
    have Hb7:=ae Tz;have HK:=ae hK;have TA:=af.rd h47 r8 (by omega);have TC:=af.rd h47 MI (by omega);have bR:=bX.trans h47;have nJ:=ae (ey.rd D4.out h47 (by omega));have PH:=h47.size;have ahn:=jB.lt;clear Ty Tz hK nI vC h5 h6 h7 h47 hr4 r8 MI bX;go_wp2_with fail;(refine(Hv.out r (d+1) s7 sA _ (by have:=Hd.out;omega) Hb7.out acL jB (Hl.out.on (Rd.below bR))).mono ?_);rintro e w8 hval;obtain⟨h8,x,kb,kd,lb,ld,s8,kV,rfl,CY,MN,TD⟩:=hval;have HM:=ae (acG (Tk f) HK.out TD);have acM:=af.rd h8 TA (by omega);have acN:=af.rd h8 TC (by omega);have G8:=bR.trans h8;have TE:=ae (ey.rd nJ.out h8 (by omega));have hz8:=h8.size;have rQ:=ae (show x.In w8 (fun b=>w7.heap.size<=b/\b<w8.heap.size) kb kd lb ld from CY.mono fun b h hl=>⟨h,hl⟩);have Ie:=ae (show∀g,(Value.slice a2 n c2).ownBlock=some g->g<w7.heap.size from fun g hg=>(nJ.out.keys.lt g hg).2);have Ig:=ae (show∀g,(Value.slice a3 n c3).ownBlock=some g->g<w7.heap.size from fun g hg=>by obtain⟨xs,h,-⟩:=nJ.out.items;exact(h.lt g hg).2);have aho:=MN.lt;clear CY TD jB TA TC bR h8;go_upto_region 11 with fail
    refine aI (R:=fun wx=>aN wx w.heap.size/\af wx (w.heap.size+1) #[.int .i64 5, .int .i64 0, .string ⟨#[]⟩, .slice a2 n c2, .slice a3 n c3] 41/\aD wx w8.heap.size x kb kd lb ld/\Ext w8 wx) ⟨aj,aj,aj,Xt⟩ ?_;clear acM acN;rintro w9 ⟨ag,ai,dN,gY⟩;have TF:=MN.ext gY;have D6:=ae (ey.ext TE.out gY);have TG:=ae (rQ.out.ext gY);have D7:=G8.ext hlt gY;have LC:=gY.size;clear MN TE rQ G8 nJ D4 HK;obtain⟨hc1,aB,az⟩:=ai.see;obtain⟨a9,c9,xn,-,-,TH⟩:=ek.strs (w:=w9) (base:=w.heap.size+2) (v:= .slice a2 n c2) ⟨D6.out.nk,D6.out.keys⟩;simp only [Value.slice.injEq,true_and] at xn;obtain⟨rfl,rfl⟩:=xn;have TI:=ae TH;have D8:=ae D6.out.nk;have dx:n<=1073741824:=by omega
    clear TH;go_wp2_with fail;(refine(Aa a2 n c2 ks _ key _ D8.out TI.out Tq.out dx).mono ?_);rintro e yG ⟨rfl,h10⟩;obtain⟨p,hp0⟩:∃p,posOf ks key=p:=⟨_,rfl⟩;rw [hp0];have Hp0:=ae hp0;have qQ:p<=n:=by have:=tR ks key;rw [hp0,D8.out] at this;exact this
    have ag:=af.ext h10 ag;have ai:=af.ext h10 ai;have dN:=af.ext h10 dN;have Ii:=TF.ext h10;have Ij:=ae (ey.ext D6.out h10);have Ik:=ae (TG.out.ext h10);have yH:=D7.ext hlt h10;have TJ:=h10.size;clear hp0 TF D6 TG D7 h10 hc1 aB az TI
    cases uf:hasB ks key with
    |true=>
     have TK:=ae uf;clear uf;go_wp2_with fail;(refine(dG r s8 kV _ Ii).mono ?_);rintro e nB ⟨rfl,TL,h11⟩;have ag:=af.rd h11 ag (by omega);have ai:=af.rd h11 ai (by omega);have dN:=af.rd h11 dN (by omega);have F5:=ae (ey.rd Ij.out h11 (by omega));have TM:=ae (In.rd h11 Ik.out (fun b h=>by omega));have tW:=yH.trans h11;have P7:=h11.size;have cY:=ae (acI (ks':=ks.take p++key::ks.drop p) (l':=l.take p++x::l.drop p) (s9:=⟨#[]⟩) vE.out HM.out TK.out rfl);clear Ii Ij Ik yH h11 HM vE;go_upto_region 14 with fail
     refine aI (R:=fun wx=>aN wx w.heap.size/\af wx (w.heap.size+1) #[.int .i64 5, .int .i64 0, .string ⟨#[]⟩, .slice a2 n c2, .slice a3 n c3] 41/\aD wx w8.heap.size x kb kd lb ld/\Ext nB wx) ⟨ag,ai,dN,Xt⟩ ?_;clear ag ai dN;rintro wb ⟨ag,ai,dN,jO⟩;have mD:=TL.ext jO;have xf:=ae (ey.ext F5.out jO);have lG:=ae (TM.out.ext jO);have aP:=tW.ext hlt jO;have hzb:=jO.size;clear TL F5 TM tW jO;obtain⟨hks,hll,qE,news,rS,hcells⟩:=xf.out;have hks:=ae hks;have hll:=ae hll;have lj:=ae qE;have qR:=ae rS;have lh:=ae hcells.one;have kJ:=ae hcells;have dV:Hid (∀g,(Value.slice a2 n c2).ownBlock=some g->w.heap.size+2<=g/\g<wb.heap.size):=qE.lt;have fI:Hid (∀g,(Value.slice a3 n c3).ownBlock=some g->w.heap.size+2<=g/\g<wb.heap.size):=rS.lt;have dW:Hid (∀g,(Value.slice a2 n c2).ownBlock=some g-> (Value.slice a3 n c3).ownBlock≠some g):=fun g h h'=>by obtain⟨q1,z1,e1⟩:=zY qE g h;obtain⟨q2,z2,e2⟩:=zY rS g h';rw [e1] at e2;simp at e2
     have aV:=ae (show x.In wb (Beside (w.heap.size+2) (.slice a2 n c2) (.slice a3 n c3)) kb kd lb ld from lG.out.mono fun b h _=>⟨by omega,fun h'=>by have:=Ie.out b h';omega,fun h'=>by have:=Ig.out b h';omega⟩);clear qE rS hcells lG xf;obtain⟨T,hT⟩:∃T:aA,T=fun b=>(Value.slice a2 n c2).ownBlock≠some b/\ (Value.slice a3 n c3).ownBlock≠some b:=⟨_,rfl⟩
     have sB:Hid (∀k,(Value.slice a2 n c2).ownBlock=some k->¬T k):=by rw [hT];exact fun k h h'=>h'.1 h
     have sD:Hid (∀k,(Value.slice a3 n c3).ownBlock=some k->¬T k):=by rw [hT];exact fun k h h'=>h'.2 h
     have hT0:Hid (∀b,b<w.heap.size+2->T b):=by rw [hT];exact fun b hb=>⟨fun h=>by have:=(dV.out b h).1;omega,fun h=>by have:=(fI.out b h).1;omega⟩
     have mF:Hid (T w8.heap.size):=by rw [hT];exact⟨fun h=>by have:=Ie.out _ h;omega,fun h=>by have:=Ig.out _ h;omega⟩
     have p7:Hid (∀b,Beside (w.heap.size+2) (.slice a2 n c2) (.slice a3 n c3) b->T b):=by rw [hT];exact fun b h=>h.2
     clear hT
     have au:∀w',Held T wb w'-> (w'.cell? ⟨w.heap.size+1,3,none⟩=some (.slice a2 n c2)/\w'.cell? ⟨w.heap.size+1,4,none⟩=some (.slice a3 n c3)/\w'.cell? ⟨w8.heap.size,0,none⟩=some (.int .i64 x.k)/\w'.cell? ⟨w8.heap.size,1,none⟩=some (.int .i64 x.n)/\w'.cell? ⟨w8.heap.size,2,none⟩=some (.string x.s)/\w'.cell? ⟨w8.heap.size,3,none⟩=some (.slice kb x.keys.length kd)/\w'.cell? ⟨w8.heap.size,4,none⟩=some (.slice lb x.l.length ld)):=
      fun w' e=>⟨e.kept.cell (hT0.out _ (by simp)) (ai.cells 3),e.kept.cell (hT0.out _ (by simp)) (ai.cells 4),e.kept.cell mF.out (dN.cells 0),e.kept.cell mF.out (dN.cells 1),e.kept.cell mF.out (dN.cells 2),e.kept.cell mF.out (dN.cells 3),e.kept.cell mF.out (dN.cells 4)⟩
     have hbl:=dN.lt;refine fN au (c:=13) (by kernel_rfl) ?_;refine aH 0 [13] (hS:=au _ aC) (h:= ?_);refine aH 1 [13] (hS:=au _ aC) (h:= ?_);refine aH 2 [13] (hS:=au _ aC) (h:= ?_);refine aH 3 [13] (hS:=au _ aC) (h:= ?_);refine aH 6 [13] (hS:=au _ aC) (h:= ?_);refine aH 7 [13] (hS:=au _ aC) (h:= ?_);refine aH 8 [11,13] (hS:=au _ aC) (h:= ?_);refine aH 9 [10,11,13] (hS:=au _ aC) (h:= ?_);(try simp only [rl]);refine mQ (rs:= [4,10]) (by kernel_rfl) (by simp) ?_;refine cT.cons (Array.getElem?_eq_getElem (by decide)) (fun K hK=> ?_) (cT.cons (Array.getElem?_eq_getElem (by decide)) (fun K hK=> ?_) cT.nil)
     · (try simp only [rl])
       go_simp;refine hK.out _ _ (fun _=>au _ aC) ?_;clear hK K;(try simp only [rl]);refine mQ (rs:= [5,10]) (by kernel_rfl) (by simp) ?_;refine cT.cons (Array.getElem?_eq_getElem (by decide)) (fun K hK=> ?_) (cT.cons (Array.getElem?_eq_getElem (by decide)) (fun K hK=> ?_) cT.nil)
       · (try simp only [rl])
         (try go_simp);(refine(vG (w.heap.size+2) n p _ _ (.slice a2 n c2) (ks.map Value.string) [.string key] _ 9 ?_ ?_ dx qQ ?_ ?_ rfl (pz ks) (by simp [Value.oneCell'])).mono ?_);(focus(simp;omega));(focus(exact eT lj.out Xt));(focus(exact aj));(focus(intro h;have h':=(dV.out _ h).2;(first|omega|(simp at h';omega)|(simp at h';done))));rintro e w5 ⟨g5,dh,rfl,dR,cG,fJ⟩;have eN:Held T wb w5:=Held.grown aC cG sB.out;have bG:Rd r w w5:=Rd.grown eD cG (fun g hg=>by have:=(dV.out g hg).1;omega) hlt;have mG:=ae (eo qR.out (fun b hb hg=>Held.block (T:=fun c=>(Value.slice a2 n c2).ownBlock≠some c) (Held.grown aC cG (fun k hk h=>h hk)) b (fun h=>dW.out b h hg) hb));have fG:(Value.slice a3 n c3).ownBlock≠some g5:=fun h=>by
          rcases fJ with h'|h'
          ·exact dW.out _ h' h
          ·have h2:=(fI.out _ h).2;simp at h';omega
         have sF:Hid (∀b,Beside (w.heap.size+2) (.slice a2 n c2) (.slice a3 n c3) b->b<wb.heap.size->b≠g5):=fun b hb hl he=>by
          rcases fJ with h'|h'
          ·exact hb.2.1 (he▸h')
          ·simp at h';omega
         have fX:wb.heap.size<=w5.heap.size:=eN.size;have iR:=ae dR;have oO:=ae fG;clear dR fJ fG;(try go_simp);refine hK.out _ _ (fun _=>au _ aC) ?_;clear hK K;refine aH 12 [13] (hS:=au _ aC) (h:= ?_);(try simp only [rl]);refine aM 10 (h:=fun K hK=> ?_);(try simp only [rl]);go_simp;refine hK.out _ _ (fun _=>au _ aC) ?_;clear hK K;(try simp only [rl]);refine aM 11 (h:=fun K hK=> ?_);(try simp only [rl]);(try go_simp);(refine(rf (w.heap.size+2) n p _ _ (.slice a3 n c3) news (x.five kb kd lb ld) _ 41 ?_ ?_ dx qQ ?_ ?_ rfl lh.out (x.mR kb kd lb ld)).mono ?_);(focus(first|(simp;omega)|omega));(focus(exact eT mG.out Xt));(focus(exact aj));(focus(intro h;have h':=(fI.out _ h).2;(first|omega|(simp at h';omega)|(simp at h';done))));rintro e w6 ⟨g6,bA,rfl,bF,aY,cp⟩;have bE:Held T wb w6:=Held.grown aC aY sD.out;(try go_simp);refine hK.out _ _ (fun _=>au _ bE) ?_;clear hK K;(try simp only [rl]);have bS:Rd r w w6:=Rd.grown eD aY (fun g hg=>by have:=(fI.out g hg).1;omega) hlt;have sG:=ae (eo iR.out (fun b hb hg=>Held.block (T:=fun c=>(Value.slice a3 n c3).ownBlock≠some c) (Held.grown aC aY (fun k hk h=>h hk)) b (by simp only [Value.ownBlock,Option.map_some,Option.some.injEq] at hg;rw [<-hg];exact oO.out) hb));have gL:∀b,Beside (w.heap.size+2) (.slice a2 n c2) (.slice a3 n c3) b->b<wb.heap.size->b≠g6:=fun b hb hl he=>by
          rcases cp with h'|h'
          ·exact hb.2.2 (he▸h')
          · (first|omega|(simp at h';omega))
         have hnew:∀b,Beside (w.heap.size+2) (.slice a2 n c2) (.slice a3 n c3) b->b<wb.heap.size->Beside (w.heap.size+2) (.slice (some ⟨g5,0,none⟩) (n+1) dh) (.slice (some ⟨g6,0,none⟩) (n+1) bA) b:=fun b hb hl=>⟨hb.1,fun h=>sF.out b hb hl (by simpa [Value.ownBlock] using h.symm),fun h=>gL b hb hl (by simpa [Value.ownBlock] using h.symm)⟩;have hcc:=(kJ.out.keep (Held.kept (Held.mono bE p7.out)) hnew).ins p (aV.out.keep (Held.kept (Held.mono bE p7.out)) hnew)
         have mr:Hid (ey w6 (w.heap.size+2) (.slice (some ⟨g5,0,none⟩) (n+1) dh) (.slice (some ⟨g6,0,none⟩) (n+1) bA) (n+1) (ks.take p++key::ks.drop p) (l.take p++x::l.drop p)):=
          ⟨by simp [hks.out];omega,by simp [hll.out];omega,by simpa [List.map_take,List.map_drop] using sG.out,_,bF,hcc⟩
         have nI:Sr w6 r (⟨#[]⟩:ah) true:=af.held bE mD (hT0.out _ (by omega));have ag:=af.held bE ag (hT0.out _ (by omega));have ai:=af.held bE ai (hT0.out _ (by omega));have yq:=bE.size;clear bF aY cp hcc hnew gL au cG eN bG dN mD aP;obtain⟨hc1,aB,az⟩:=ai.see;refine aM 13 (h:=fun K hK=> ?_);(try simp only [rl]);go_simp;refine bD hK (h:= ?_);clear hK K;(try simp only [rl]);refine aM 14 (h:=fun K hK=> ?_);(try simp only [rl]);go_simp;refine bD hK (h:= ?_);clear hK K;(try simp only [rl]);refine aM 15 (h:=fun K hK=> ?_);(try simp only [rl]);go_simp;refine bD hK (h:= ?_);clear hK K;(try simp only [rl]);refine dE (by kernel_rfl) ?_ _;obtain⟨wy,bU⟩:∃wy,(w6.setCell ⟨w.heap.size+1,3,none⟩ (Value.slice (some ⟨g5,0,none⟩) (n+1) dh)).setCell ⟨w.heap.size+1,4,none⟩ (Value.slice (some ⟨g6,0,none⟩) (n+1) bA)=wy:=⟨_,rfl⟩;have jB:Sr wy r (⟨#[]⟩:ah) true:=by rw [<-bU];exact iw
         have ag:aN wy w.heap.size:=by rw [<-bU];exact aj
         have ai:af wy (w.heap.size+1) #[.int .i64 5, .int .i64 0, .string ⟨#[]⟩, .slice (some ⟨g5,0,none⟩) (n+1) dh, .slice (some ⟨g6,0,none⟩) (n+1) bA] 41:=by rw [<-bU];exact aj
         have sH:Held (fun b=>w.heap.size+2<=b) w6 wy:=by rw [<-bU];exact aC
         have bR:Rd r w wy:=by rw [<-bU];exact eD
         rw [bU];clear nI hc1 aB az bS bU;have nJ:=ae (ey.keep mr.out (fun b hb hk=>sH.block b hk hb));have sI:=ae cY.out.2;have sJ:=ae cY.out.1
         have sK:=ae (show n+1+(((⟨#[]⟩:ah)).size+(if true=true then 0 else 1))<=1048577 by
          have h1:=qP.out;have h2:=cY.out.1;have h3:(⟨#[]⟩:ah).size=0:=rfl;simp only [Bool.false_eq_true,if_false] at h1
          (first|omega|(simp [h3];omega)|(simp [h3];done)))
         go_wp2_with fail;go_roundg (((⟨#[]⟩:ah)).size+(if true=true then 0 else 1))
         case measure=>have:=sJ.out;simpa using this
         case rel=>exact⟨(⟨#[]⟩:ah),true,n+1,ks.take p++key::ks.drop p,l.take p++x::l.drop p,some ⟨g5,0,none⟩,dh,some ⟨g6,0,none⟩,bA,jB,nJ.out,ag,ai,rfl,sK.out,bR,sI.out⟩
       · (try simp only [rl])
         go_simp;refine hK.out _ _ (fun _=>au _ aC) ?_;clear hK K;(try simp only [rl]);refine aM 5 (h:=fun K hK=> ?_);(try simp only [rl]);(try go_simp);(refine(vG (w.heap.size+2) n p _ _ (.slice a2 n c2) (ks.map Value.string) [.string key] _ 9 ?_ ?_ dx qQ ?_ ?_ rfl (pz ks) (by simp [Value.oneCell'])).mono ?_);(focus(simp;omega));(focus(exact eT lj.out Xt));(focus(exact aj));(focus(intro h;have h':=(dV.out _ h).2;(first|omega|(simp at h';omega)|(simp at h';done))));rintro e w5 ⟨g5,dh,rfl,dR,cG,fJ⟩;have eN:Held T wb w5:=Held.grown aC cG sB.out;have bG:Rd r w w5:=Rd.grown eD cG (fun g hg=>by have:=(dV.out g hg).1;omega) hlt;have mG:=ae (eo qR.out (fun b hb hg=>Held.block (T:=fun c=>(Value.slice a2 n c2).ownBlock≠some c) (Held.grown aC cG (fun k hk h=>h hk)) b (fun h=>dW.out b h hg) hb));have fG:(Value.slice a3 n c3).ownBlock≠some g5:=fun h=>by
          rcases fJ with h'|h'
          ·exact dW.out _ h' h
          ·have h2:=(fI.out _ h).2;simp at h';omega
         have sF:Hid (∀b,Beside (w.heap.size+2) (.slice a2 n c2) (.slice a3 n c3) b->b<wb.heap.size->b≠g5):=fun b hb hl he=>by
          rcases fJ with h'|h'
          ·exact hb.2.1 (he▸h')
          ·simp at h';omega
         have fX:wb.heap.size<=w5.heap.size:=eN.size;have iR:=ae dR;have oO:=ae fG;have D9:af w5 (wb.heap.size+1) (x.five kb kd lb ld).toArray 41:=af.grown (w':=w5) aj cG (fun e=>by have h':=(dV.out _ e.symm).2;omega);clear dR fJ fG;(try go_simp);refine hK.out _ _ (fun _=>au _ aC) ?_;clear hK K;refine aH 12 [13] (hS:=au _ aC) (h:= ?_);(try simp only [rl]);refine aM 11 (h:=fun K hK=> ?_);(try simp only [rl]);(try go_simp);(refine(rf (w.heap.size+2) n p _ _ (.slice a3 n c3) news (x.five kb kd lb ld) _ 41 ?_ ?_ dx qQ ?_ ?_ rfl lh.out (x.mR kb kd lb ld)).mono ?_);(focus(first|(simp;omega)|omega));(focus(exact eT mG.out Xt));(focus(exact aj));(focus(intro h;have h':=(fI.out _ h).2;(first|omega|(simp at h';omega)|(simp at h';done))));rintro e w6 ⟨g6,bA,rfl,bF,aY,cp⟩;have bE:Held T wb w6:=Held.grown aC aY sD.out;(try go_simp);refine hK.out _ _ (fun _=>au _ bE) ?_;clear hK K;(try simp only [rl]);have bS:Rd r w w6:=Rd.grown eD aY (fun g hg=>by have:=(fI.out g hg).1;omega) hlt;have sG:=ae (eo iR.out (fun b hb hg=>Held.block (T:=fun c=>(Value.slice a3 n c3).ownBlock≠some c) (Held.grown aC aY (fun k hk h=>h hk)) b (by simp only [Value.ownBlock,Option.map_some,Option.some.injEq] at hg;rw [<-hg];exact oO.out) hb));have gL:∀b,Beside (w.heap.size+2) (.slice a2 n c2) (.slice a3 n c3) b->b<wb.heap.size->b≠g6:=fun b hb hl he=>by
          rcases cp with h'|h'
          ·exact hb.2.2 (he▸h')
          · (first|omega|(simp at h';omega))
         have hnew:∀b,Beside (w.heap.size+2) (.slice a2 n c2) (.slice a3 n c3) b->b<wb.heap.size->Beside (w.heap.size+2) (.slice (some ⟨g5,0,none⟩) (n+1) dh) (.slice (some ⟨g6,0,none⟩) (n+1) bA) b:=fun b hb hl=>⟨hb.1,fun h=>sF.out b hb hl (by simpa [Value.ownBlock] using h.symm),fun h=>gL b hb hl (by simpa [Value.ownBlock] using h.symm)⟩;have hcc:=(kJ.out.keep (Held.kept (Held.mono bE p7.out)) hnew).ins p (aV.out.keep (Held.kept (Held.mono bE p7.out)) hnew)
         have mr:Hid (ey w6 (w.heap.size+2) (.slice (some ⟨g5,0,none⟩) (n+1) dh) (.slice (some ⟨g6,0,none⟩) (n+1) bA) (n+1) (ks.take p++key::ks.drop p) (l.take p++x::l.drop p)):=
          ⟨by simp [hks.out];omega,by simp [hll.out];omega,by simpa [List.map_take,List.map_drop] using sG.out,_,bF,hcc⟩
         have nI:Sr w6 r (⟨#[]⟩:ah) true:=af.held bE mD (hT0.out _ (by omega));have ag:=af.held bE ag (hT0.out _ (by omega));have ai:=af.held bE ai (hT0.out _ (by omega));have yq:=bE.size;clear bF aY cp hcc hnew gL au cG eN bG dN mD aP;obtain⟨hc1,aB,az⟩:=ai.see;refine aM 13 (h:=fun K hK=> ?_);(try simp only [rl]);go_simp;refine bD hK (h:= ?_);clear hK K;(try simp only [rl]);refine aM 14 (h:=fun K hK=> ?_);(try simp only [rl]);go_simp;refine bD hK (h:= ?_);clear hK K;(try simp only [rl]);refine aM 15 (h:=fun K hK=> ?_);(try simp only [rl]);go_simp;refine bD hK (h:= ?_);clear hK K;(try simp only [rl]);refine dE (by kernel_rfl) ?_ _;obtain⟨wy,bU⟩:∃wy,(w6.setCell ⟨w.heap.size+1,3,none⟩ (Value.slice (some ⟨g5,0,none⟩) (n+1) dh)).setCell ⟨w.heap.size+1,4,none⟩ (Value.slice (some ⟨g6,0,none⟩) (n+1) bA)=wy:=⟨_,rfl⟩;have jB:Sr wy r (⟨#[]⟩:ah) true:=by rw [<-bU];exact iw
         have ag:aN wy w.heap.size:=by rw [<-bU];exact aj
         have ai:af wy (w.heap.size+1) #[.int .i64 5, .int .i64 0, .string ⟨#[]⟩, .slice (some ⟨g5,0,none⟩) (n+1) dh, .slice (some ⟨g6,0,none⟩) (n+1) bA] 41:=by rw [<-bU];exact aj
         have sH:Held (fun b=>w.heap.size+2<=b) w6 wy:=by rw [<-bU];exact aC
         have bR:Rd r w wy:=by rw [<-bU];exact eD
         rw [bU];clear nI hc1 aB az bS bU;have nJ:=ae (ey.keep mr.out (fun b hb hk=>sH.block b hk hb));have sI:=ae cY.out.2;have sJ:=ae cY.out.1
         have sK:=ae (show n+1+(((⟨#[]⟩:ah)).size+(if true=true then 0 else 1))<=1048577 by
          have h1:=qP.out;have h2:=cY.out.1;have h3:(⟨#[]⟩:ah).size=0:=rfl;simp only [Bool.false_eq_true,if_false] at h1
          (first|omega|(simp [h3];omega)|(simp [h3];done)))
         go_wp2_with fail;go_roundg (((⟨#[]⟩:ah)).size+(if true=true then 0 else 1))
         case measure=>have:=sJ.out;simpa using this
         case rel=>exact⟨(⟨#[]⟩:ah),true,n+1,ks.take p++key::ks.drop p,l.take p++x::l.drop p,some ⟨g5,0,none⟩,dh,some ⟨g6,0,none⟩,bA,jB,nJ.out,ag,ai,rfl,sK.out,bR,sI.out⟩
     · (try simp only [rl])
       go_simp;refine hK.out _ _ (fun _=>au _ aC) ?_;clear hK K;(try simp only [rl]);refine aM 4 (h:=fun K hK=> ?_);(try simp only [rl]);go_simp;refine hK.out _ _ (fun _=>au _ aC) ?_;clear hK K;(try simp only [rl]);refine aM 5 (h:=fun K hK=> ?_);(try simp only [rl]);(try go_simp);(refine(vG (w.heap.size+2) n p _ _ (.slice a2 n c2) (ks.map Value.string) [.string key] _ 9 ?_ ?_ dx qQ ?_ ?_ rfl (pz ks) (by simp [Value.oneCell'])).mono ?_);(focus(simp;omega));(focus(exact eT lj.out Xt));(focus(exact aj));(focus(intro h;have h':=(dV.out _ h).2;(first|omega|(simp at h';omega)|(simp at h';done))));rintro e w5 ⟨g5,dh,rfl,dR,cG,fJ⟩;have eN:Held T wb w5:=Held.grown aC cG sB.out;have bG:Rd r w w5:=Rd.grown eD cG (fun g hg=>by have:=(dV.out g hg).1;omega) hlt;have mG:=ae (eo qR.out (fun b hb hg=>Held.block (T:=fun c=>(Value.slice a2 n c2).ownBlock≠some c) (Held.grown aC cG (fun k hk h=>h hk)) b (fun h=>dW.out b h hg) hb));have fG:(Value.slice a3 n c3).ownBlock≠some g5:=fun h=>by
        rcases fJ with h'|h'
        ·exact dW.out _ h' h
        ·have h2:=(fI.out _ h).2;simp at h';omega
       have sF:Hid (∀b,Beside (w.heap.size+2) (.slice a2 n c2) (.slice a3 n c3) b->b<wb.heap.size->b≠g5):=fun b hb hl he=>by
        rcases fJ with h'|h'
        ·exact hb.2.1 (he▸h')
        ·simp at h';omega
       have fX:wb.heap.size<=w5.heap.size:=eN.size;have iR:=ae dR;have oO:=ae fG;have D9:af w5 (wb.heap.size) (x.five kb kd lb ld).toArray 41:=af.grown (w':=w5) aj cG (fun e=>by have h':=(dV.out _ e.symm).2;omega);clear dR fJ fG;(try go_simp);refine hK.out _ _ (fun _=>au _ aC) ?_;clear hK K;refine aH 12 [13] (hS:=au _ aC) (h:= ?_);(try simp only [rl]);refine aM 11 (h:=fun K hK=> ?_);(try simp only [rl]);(try go_simp);(refine(rf (w.heap.size+2) n p _ _ (.slice a3 n c3) news (x.five kb kd lb ld) _ 41 ?_ ?_ dx qQ ?_ ?_ rfl lh.out (x.mR kb kd lb ld)).mono ?_);(focus(first|(simp;omega)|omega));(focus(exact eT mG.out Xt));(focus(exact aj));(focus(intro h;have h':=(fI.out _ h).2;(first|omega|(simp at h';omega)|(simp at h';done))));rintro e w6 ⟨g6,bA,rfl,bF,aY,cp⟩;have bE:Held T wb w6:=Held.grown aC aY sD.out;(try go_simp);refine hK.out _ _ (fun _=>au _ bE) ?_;clear hK K;(try simp only [rl]);have bS:Rd r w w6:=Rd.grown eD aY (fun g hg=>by have:=(fI.out g hg).1;omega) hlt;have sG:=ae (eo iR.out (fun b hb hg=>Held.block (T:=fun c=>(Value.slice a3 n c3).ownBlock≠some c) (Held.grown aC aY (fun k hk h=>h hk)) b (by simp only [Value.ownBlock,Option.map_some,Option.some.injEq] at hg;rw [<-hg];exact oO.out) hb));have gL:∀b,Beside (w.heap.size+2) (.slice a2 n c2) (.slice a3 n c3) b->b<wb.heap.size->b≠g6:=fun b hb hl he=>by
        rcases cp with h'|h'
        ·exact hb.2.2 (he▸h')
        · (first|omega|(simp at h';omega))
       have hnew:∀b,Beside (w.heap.size+2) (.slice a2 n c2) (.slice a3 n c3) b->b<wb.heap.size->Beside (w.heap.size+2) (.slice (some ⟨g5,0,none⟩) (n+1) dh) (.slice (some ⟨g6,0,none⟩) (n+1) bA) b:=fun b hb hl=>⟨hb.1,fun h=>sF.out b hb hl (by simpa [Value.ownBlock] using h.symm),fun h=>gL b hb hl (by simpa [Value.ownBlock] using h.symm)⟩;have hcc:=(kJ.out.keep (Held.kept (Held.mono bE p7.out)) hnew).ins p (aV.out.keep (Held.kept (Held.mono bE p7.out)) hnew)
       have mr:Hid (ey w6 (w.heap.size+2) (.slice (some ⟨g5,0,none⟩) (n+1) dh) (.slice (some ⟨g6,0,none⟩) (n+1) bA) (n+1) (ks.take p++key::ks.drop p) (l.take p++x::l.drop p)):=
        ⟨by simp [hks.out];omega,by simp [hll.out];omega,by simpa [List.map_take,List.map_drop] using sG.out,_,bF,hcc⟩
       have nI:Sr w6 r (⟨#[]⟩:ah) true:=af.held bE mD (hT0.out _ (by omega));have ag:=af.held bE ag (hT0.out _ (by omega));have ai:=af.held bE ai (hT0.out _ (by omega));have yq:=bE.size;clear bF aY cp hcc hnew gL au cG eN bG dN mD aP;obtain⟨hc1,aB,az⟩:=ai.see;refine aM 13 (h:=fun K hK=> ?_);(try simp only [rl]);go_simp;refine bD hK (h:= ?_);clear hK K;(try simp only [rl]);refine aM 14 (h:=fun K hK=> ?_);(try simp only [rl]);go_simp;refine bD hK (h:= ?_);clear hK K;(try simp only [rl]);refine aM 15 (h:=fun K hK=> ?_);(try simp only [rl]);go_simp;refine bD hK (h:= ?_);clear hK K;(try simp only [rl]);refine dE (by kernel_rfl) ?_ _;obtain⟨wy,bU⟩:∃wy,(w6.setCell ⟨w.heap.size+1,3,none⟩ (Value.slice (some ⟨g5,0,none⟩) (n+1) dh)).setCell ⟨w.heap.size+1,4,none⟩ (Value.slice (some ⟨g6,0,none⟩) (n+1) bA)=wy:=⟨_,rfl⟩;have jB:Sr wy r (⟨#[]⟩:ah) true:=by rw [<-bU];exact iw
       have ag:aN wy w.heap.size:=by rw [<-bU];exact aj
       have ai:af wy (w.heap.size+1) #[.int .i64 5, .int .i64 0, .string ⟨#[]⟩, .slice (some ⟨g5,0,none⟩) (n+1) dh, .slice (some ⟨g6,0,none⟩) (n+1) bA] 41:=by rw [<-bU];exact aj
       have sH:Held (fun b=>w.heap.size+2<=b) w6 wy:=by rw [<-bU];exact aC
       have bR:Rd r w wy:=by rw [<-bU];exact eD
       rw [bU];clear nI hc1 aB az bS bU;have nJ:=ae (ey.keep mr.out (fun b hb hk=>sH.block b hk hb));have sI:=ae cY.out.2;have sJ:=ae cY.out.1
       have sK:=ae (show n+1+(((⟨#[]⟩:ah)).size+(if true=true then 0 else 1))<=1048577 by
        have h1:=qP.out;have h2:=cY.out.1;have h3:(⟨#[]⟩:ah).size=0:=rfl;simp only [Bool.false_eq_true,if_false] at h1
        (first|omega|(simp [h3];omega)|(simp [h3];done)))
       go_wp2_with fail;go_roundg (((⟨#[]⟩:ah)).size+(if true=true then 0 else 1))
       case measure=>have:=sJ.out;simpa using this
       case rel=>exact⟨(⟨#[]⟩:ah),true,n+1,ks.take p++key::ks.drop p,l.take p++x::l.drop p,some ⟨g5,0,none⟩,dh,some ⟨g6,0,none⟩,bA,jB,nJ.out,ag,ai,rfl,sK.out,bR,sI.out⟩
    |false=>
     have TK:=ae uf;have cY:=ae (by have h:=acH Tq.out vE.out DX HM.out uf;rw [Hp0.out] at h;exact h);clear uf HM vE;go_upto_region 14 with fail
     refine aI (R:=fun wx=>aN wx w.heap.size/\af wx (w.heap.size+1) #[.int .i64 5, .int .i64 0, .string ⟨#[]⟩, .slice a2 n c2, .slice a3 n c3] 41/\aD wx w8.heap.size x kb kd lb ld/\Ext yG wx) ⟨ag,ai,dN,Xt⟩ ?_;clear ag ai dN;rintro wb ⟨ag,ai,dN,jO⟩;have mD:=Ii.ext jO;have xf:=ae (ey.ext Ij.out jO);have lG:=ae (Ik.out.ext jO);have aP:=yH.ext hlt jO;have hzb:=jO.size;clear Ii Ij Ik yH jO;obtain⟨hks,hll,qE,news,rS,hcells⟩:=xf.out;have hks:=ae hks;have hll:=ae hll;have lj:=ae qE;have qR:=ae rS;have lh:=ae hcells.one;have kJ:=ae hcells;have dV:Hid (∀g,(Value.slice a2 n c2).ownBlock=some g->w.heap.size+2<=g/\g<wb.heap.size):=qE.lt;have fI:Hid (∀g,(Value.slice a3 n c3).ownBlock=some g->w.heap.size+2<=g/\g<wb.heap.size):=rS.lt;have dW:Hid (∀g,(Value.slice a2 n c2).ownBlock=some g-> (Value.slice a3 n c3).ownBlock≠some g):=fun g h h'=>by obtain⟨q1,z1,e1⟩:=zY qE g h;obtain⟨q2,z2,e2⟩:=zY rS g h';rw [e1] at e2;simp at e2
     have aV:=ae (show x.In wb (Beside (w.heap.size+2) (.slice a2 n c2) (.slice a3 n c3)) kb kd lb ld from lG.out.mono fun b h _=>⟨by omega,fun h'=>by have:=Ie.out b h';omega,fun h'=>by have:=Ig.out b h';omega⟩);clear qE rS hcells lG xf;obtain⟨T,hT⟩:∃T:aA,T=fun b=>(Value.slice a2 n c2).ownBlock≠some b/\ (Value.slice a3 n c3).ownBlock≠some b:=⟨_,rfl⟩
     have sB:Hid (∀k,(Value.slice a2 n c2).ownBlock=some k->¬T k):=by rw [hT];exact fun k h h'=>h'.1 h
     have sD:Hid (∀k,(Value.slice a3 n c3).ownBlock=some k->¬T k):=by rw [hT];exact fun k h h'=>h'.2 h
     have hT0:Hid (∀b,b<w.heap.size+2->T b):=by rw [hT];exact fun b hb=>⟨fun h=>by have:=(dV.out b h).1;omega,fun h=>by have:=(fI.out b h).1;omega⟩
     have mF:Hid (T w8.heap.size):=by rw [hT];exact⟨fun h=>by have:=Ie.out _ h;omega,fun h=>by have:=Ig.out _ h;omega⟩
     have p7:Hid (∀b,Beside (w.heap.size+2) (.slice a2 n c2) (.slice a3 n c3) b->T b):=by rw [hT];exact fun b h=>h.2
     clear hT
     have au:∀w',Held T wb w'-> (w'.cell? ⟨w.heap.size+1,3,none⟩=some (.slice a2 n c2)/\w'.cell? ⟨w.heap.size+1,4,none⟩=some (.slice a3 n c3)/\w'.cell? ⟨w8.heap.size,0,none⟩=some (.int .i64 x.k)/\w'.cell? ⟨w8.heap.size,1,none⟩=some (.int .i64 x.n)/\w'.cell? ⟨w8.heap.size,2,none⟩=some (.string x.s)/\w'.cell? ⟨w8.heap.size,3,none⟩=some (.slice kb x.keys.length kd)/\w'.cell? ⟨w8.heap.size,4,none⟩=some (.slice lb x.l.length ld)):=
      fun w' e=>⟨e.kept.cell (hT0.out _ (by simp)) (ai.cells 3),e.kept.cell (hT0.out _ (by simp)) (ai.cells 4),e.kept.cell mF.out (dN.cells 0),e.kept.cell mF.out (dN.cells 1),e.kept.cell mF.out (dN.cells 2),e.kept.cell mF.out (dN.cells 3),e.kept.cell mF.out (dN.cells 4)⟩
     have hbl:=dN.lt;refine fN au (c:=13) (by kernel_rfl) ?_;refine aH 0 [13] (hS:=au _ aC) (h:= ?_);refine aH 1 [13] (hS:=au _ aC) (h:= ?_);refine aH 2 [13] (hS:=au _ aC) (h:= ?_);refine aH 3 [13] (hS:=au _ aC) (h:= ?_);refine aH 6 [13] (hS:=au _ aC) (h:= ?_);refine aH 7 [13] (hS:=au _ aC) (h:= ?_);refine aH 8 [11,13] (hS:=au _ aC) (h:= ?_);refine aH 9 [10,11,13] (hS:=au _ aC) (h:= ?_);(try simp only [rl]);refine mQ (rs:= [4,10]) (by kernel_rfl) (by simp) ?_;refine cT.cons (Array.getElem?_eq_getElem (by decide)) (fun K hK=> ?_) (cT.cons (Array.getElem?_eq_getElem (by decide)) (fun K hK=> ?_) cT.nil)
     · (try simp only [rl])
       go_simp;refine hK.out _ _ (fun _=>au _ aC) ?_;clear hK K;(try simp only [rl]);refine mQ (rs:= [5,10]) (by kernel_rfl) (by simp) ?_;refine cT.cons (Array.getElem?_eq_getElem (by decide)) (fun K hK=> ?_) (cT.cons (Array.getElem?_eq_getElem (by decide)) (fun K hK=> ?_) cT.nil)
       · (try simp only [rl])
         (try go_simp);(refine(vG (w.heap.size+2) n p _ _ (.slice a2 n c2) (ks.map Value.string) [.string key] _ 9 ?_ ?_ dx qQ ?_ ?_ rfl (pz ks) (by simp [Value.oneCell'])).mono ?_);(focus(simp;omega));(focus(exact eT lj.out Xt));(focus(exact aj));(focus(intro h;have h':=(dV.out _ h).2;(first|omega|(simp at h';omega)|(simp at h';done))));rintro e w5 ⟨g5,dh,rfl,dR,cG,fJ⟩;have eN:Held T wb w5:=Held.grown aC cG sB.out;have bG:Rd r w w5:=Rd.grown eD cG (fun g hg=>by have:=(dV.out g hg).1;omega) hlt;have mG:=ae (eo qR.out (fun b hb hg=>Held.block (T:=fun c=>(Value.slice a2 n c2).ownBlock≠some c) (Held.grown aC cG (fun k hk h=>h hk)) b (fun h=>dW.out b h hg) hb));have fG:(Value.slice a3 n c3).ownBlock≠some g5:=fun h=>by
          rcases fJ with h'|h'
          ·exact dW.out _ h' h
          ·have h2:=(fI.out _ h).2;simp at h';omega
         have sF:Hid (∀b,Beside (w.heap.size+2) (.slice a2 n c2) (.slice a3 n c3) b->b<wb.heap.size->b≠g5):=fun b hb hl he=>by
          rcases fJ with h'|h'
          ·exact hb.2.1 (he▸h')
          ·simp at h';omega
         have fX:wb.heap.size<=w5.heap.size:=eN.size;have iR:=ae dR;have oO:=ae fG;clear dR fJ fG;(try go_simp);refine hK.out _ _ (fun _=>au _ aC) ?_;clear hK K;refine aH 12 [13] (hS:=au _ aC) (h:= ?_);(try simp only [rl]);refine aM 10 (h:=fun K hK=> ?_);(try simp only [rl]);go_simp;refine hK.out _ _ (fun _=>au _ aC) ?_;clear hK K;(try simp only [rl]);refine aM 11 (h:=fun K hK=> ?_);(try simp only [rl]);(try go_simp);(refine(rf (w.heap.size+2) n p _ _ (.slice a3 n c3) news (x.five kb kd lb ld) _ 41 ?_ ?_ dx qQ ?_ ?_ rfl lh.out (x.mR kb kd lb ld)).mono ?_);(focus(first|(simp;omega)|omega));(focus(exact eT mG.out Xt));(focus(exact aj));(focus(intro h;have h':=(fI.out _ h).2;(first|omega|(simp at h';omega)|(simp at h';done))));rintro e w6 ⟨g6,bA,rfl,bF,aY,cp⟩;have bE:Held T wb w6:=Held.grown aC aY sD.out;(try go_simp);refine hK.out _ _ (fun _=>au _ bE) ?_;clear hK K;(try simp only [rl]);have bS:Rd r w w6:=Rd.grown eD aY (fun g hg=>by have:=(fI.out g hg).1;omega) hlt;have sG:=ae (eo iR.out (fun b hb hg=>Held.block (T:=fun c=>(Value.slice a3 n c3).ownBlock≠some c) (Held.grown aC aY (fun k hk h=>h hk)) b (by simp only [Value.ownBlock,Option.map_some,Option.some.injEq] at hg;rw [<-hg];exact oO.out) hb));have gL:∀b,Beside (w.heap.size+2) (.slice a2 n c2) (.slice a3 n c3) b->b<wb.heap.size->b≠g6:=fun b hb hl he=>by
          rcases cp with h'|h'
          ·exact hb.2.2 (he▸h')
          · (first|omega|(simp at h';omega))
         have hnew:∀b,Beside (w.heap.size+2) (.slice a2 n c2) (.slice a3 n c3) b->b<wb.heap.size->Beside (w.heap.size+2) (.slice (some ⟨g5,0,none⟩) (n+1) dh) (.slice (some ⟨g6,0,none⟩) (n+1) bA) b:=fun b hb hl=>⟨hb.1,fun h=>sF.out b hb hl (by simpa [Value.ownBlock] using h.symm),fun h=>gL b hb hl (by simpa [Value.ownBlock] using h.symm)⟩;have hcc:=(kJ.out.keep (Held.kept (Held.mono bE p7.out)) hnew).ins p (aV.out.keep (Held.kept (Held.mono bE p7.out)) hnew)
         have mr:Hid (ey w6 (w.heap.size+2) (.slice (some ⟨g5,0,none⟩) (n+1) dh) (.slice (some ⟨g6,0,none⟩) (n+1) bA) (n+1) (ks.take p++key::ks.drop p) (l.take p++x::l.drop p)):=
          ⟨by simp [hks.out];omega,by simp [hll.out];omega,by simpa [List.map_take,List.map_drop] using sG.out,_,bF,hcc⟩
         have nI:Sr w6 r s8 kV:=af.held bE mD (hT0.out _ (by omega));have ag:=af.held bE ag (hT0.out _ (by omega));have ai:=af.held bE ai (hT0.out _ (by omega));have yq:=bE.size;clear bF aY cp hcc hnew gL au cG eN bG dN mD aP;obtain⟨hc1,aB,az⟩:=ai.see;refine aM 13 (h:=fun K hK=> ?_);(try simp only [rl]);go_simp;refine bD hK (h:= ?_);clear hK K;(try simp only [rl]);refine aM 14 (h:=fun K hK=> ?_);(try simp only [rl]);go_simp;refine bD hK (h:= ?_);clear hK K;(try simp only [rl]);refine aM 15 (h:=fun K hK=> ?_);(try simp only [rl]);go_simp;refine bD hK (h:= ?_);clear hK K;(try simp only [rl]);refine dE (by kernel_rfl) ?_ _;obtain⟨wy,bU⟩:∃wy,(w6.setCell ⟨w.heap.size+1,3,none⟩ (Value.slice (some ⟨g5,0,none⟩) (n+1) dh)).setCell ⟨w.heap.size+1,4,none⟩ (Value.slice (some ⟨g6,0,none⟩) (n+1) bA)=wy:=⟨_,rfl⟩;have jB:Sr wy r s8 kV:=by rw [<-bU];exact iw
         have ag:aN wy w.heap.size:=by rw [<-bU];exact aj
         have ai:af wy (w.heap.size+1) #[.int .i64 5, .int .i64 0, .string ⟨#[]⟩, .slice (some ⟨g5,0,none⟩) (n+1) dh, .slice (some ⟨g6,0,none⟩) (n+1) bA] 41:=by rw [<-bU];exact aj
         have sH:Held (fun b=>w.heap.size+2<=b) w6 wy:=by rw [<-bU];exact aC
         have bR:Rd r w wy:=by rw [<-bU];exact eD
         rw [bU];clear nI hc1 aB az bS bU;have nJ:=ae (ey.keep mr.out (fun b hb hk=>sH.block b hk hb));have sI:=ae cY.out.2;have sJ:=ae cY.out.1
         have sK:=ae (show n+1+((s8).size+(if kV=true then 0 else 1))<=1048577 by
          have h1:=qP.out;have h2:=cY.out.1;have h3:(⟨#[]⟩:ah).size=0:=rfl;simp only [Bool.false_eq_true,if_false] at h1
          (first|omega|(simp [h3];omega)|(simp [h3];done)))
         go_wp2_with fail;go_roundg ((s8).size+(if kV=true then 0 else 1))
         case measure=>have:=sJ.out;simpa using this
         case rel=>exact⟨s8,kV,n+1,ks.take p++key::ks.drop p,l.take p++x::l.drop p,some ⟨g5,0,none⟩,dh,some ⟨g6,0,none⟩,bA,jB,nJ.out,ag,ai,rfl,sK.out,bR,sI.out⟩
       · (try simp only [rl])
         go_simp;refine hK.out _ _ (fun _=>au _ aC) ?_;clear hK K;(try simp only [rl]);refine aM 5 (h:=fun K hK=> ?_);(try simp only [rl]);(try go_simp);(refine(vG (w.heap.size+2) n p _ _ (.slice a2 n c2) (ks.map Value.string) [.string key] _ 9 ?_ ?_ dx qQ ?_ ?_ rfl (pz ks) (by simp [Value.oneCell'])).mono ?_);(focus(simp;omega));(focus(exact eT lj.out Xt));(focus(exact aj));(focus(intro h;have h':=(dV.out _ h).2;(first|omega|(simp at h';omega)|(simp at h';done))));rintro e w5 ⟨g5,dh,rfl,dR,cG,fJ⟩;have eN:Held T wb w5:=Held.grown aC cG sB.out;have bG:Rd r w w5:=Rd.grown eD cG (fun g hg=>by have:=(dV.out g hg).1;omega) hlt;have mG:=ae (eo qR.out (fun b hb hg=>Held.block (T:=fun c=>(Value.slice a2 n c2).ownBlock≠some c) (Held.grown aC cG (fun k hk h=>h hk)) b (fun h=>dW.out b h hg) hb));have fG:(Value.slice a3 n c3).ownBlock≠some g5:=fun h=>by
          rcases fJ with h'|h'
          ·exact dW.out _ h' h
          ·have h2:=(fI.out _ h).2;simp at h';omega
         have sF:Hid (∀b,Beside (w.heap.size+2) (.slice a2 n c2) (.slice a3 n c3) b->b<wb.heap.size->b≠g5):=fun b hb hl he=>by
          rcases fJ with h'|h'
          ·exact hb.2.1 (he▸h')
          ·simp at h';omega
         have fX:wb.heap.size<=w5.heap.size:=eN.size;have iR:=ae dR;have oO:=ae fG;have D9:af w5 (wb.heap.size+1) (x.five kb kd lb ld).toArray 41:=af.grown (w':=w5) aj cG (fun e=>by have h':=(dV.out _ e.symm).2;omega);clear dR fJ fG;(try go_simp);refine hK.out _ _ (fun _=>au _ aC) ?_;clear hK K;refine aH 12 [13] (hS:=au _ aC) (h:= ?_);(try simp only [rl]);refine aM 11 (h:=fun K hK=> ?_);(try simp only [rl]);(try go_simp);(refine(rf (w.heap.size+2) n p _ _ (.slice a3 n c3) news (x.five kb kd lb ld) _ 41 ?_ ?_ dx qQ ?_ ?_ rfl lh.out (x.mR kb kd lb ld)).mono ?_);(focus(first|(simp;omega)|omega));(focus(exact eT mG.out Xt));(focus(exact aj));(focus(intro h;have h':=(fI.out _ h).2;(first|omega|(simp at h';omega)|(simp at h';done))));rintro e w6 ⟨g6,bA,rfl,bF,aY,cp⟩;have bE:Held T wb w6:=Held.grown aC aY sD.out;(try go_simp);refine hK.out _ _ (fun _=>au _ bE) ?_;clear hK K;(try simp only [rl]);have bS:Rd r w w6:=Rd.grown eD aY (fun g hg=>by have:=(fI.out g hg).1;omega) hlt;have sG:=ae (eo iR.out (fun b hb hg=>Held.block (T:=fun c=>(Value.slice a3 n c3).ownBlock≠some c) (Held.grown aC aY (fun k hk h=>h hk)) b (by simp only [Value.ownBlock,Option.map_some,Option.some.injEq] at hg;rw [<-hg];exact oO.out) hb));have gL:∀b,Beside (w.heap.size+2) (.slice a2 n c2) (.slice a3 n c3) b->b<wb.heap.size->b≠g6:=fun b hb hl he=>by
          rcases cp with h'|h'
          ·exact hb.2.2 (he▸h')
          · (first|omega|(simp at h';omega))
         have hnew:∀b,Beside (w.heap.size+2) (.slice a2 n c2) (.slice a3 n c3) b->b<wb.heap.size->Beside (w.heap.size+2) (.slice (some ⟨g5,0,none⟩) (n+1) dh) (.slice (some ⟨g6,0,none⟩) (n+1) bA) b:=fun b hb hl=>⟨hb.1,fun h=>sF.out b hb hl (by simpa [Value.ownBlock] using h.symm),fun h=>gL b hb hl (by simpa [Value.ownBlock] using h.symm)⟩;have hcc:=(kJ.out.keep (Held.kept (Held.mono bE p7.out)) hnew).ins p (aV.out.keep (Held.kept (Held.mono bE p7.out)) hnew)
         have mr:Hid (ey w6 (w.heap.size+2) (.slice (some ⟨g5,0,none⟩) (n+1) dh) (.slice (some ⟨g6,0,none⟩) (n+1) bA) (n+1) (ks.take p++key::ks.drop p) (l.take p++x::l.drop p)):=
          ⟨by simp [hks.out];omega,by simp [hll.out];omega,by simpa [List.map_take,List.map_drop] using sG.out,_,bF,hcc⟩
         have nI:Sr w6 r s8 kV:=af.held bE mD (hT0.out _ (by omega));have ag:=af.held bE ag (hT0.out _ (by omega));have ai:=af.held bE ai (hT0.out _ (by omega));have yq:=bE.size;clear bF aY cp hcc hnew gL au cG eN bG dN mD aP;obtain⟨hc1,aB,az⟩:=ai.see;refine aM 13 (h:=fun K hK=> ?_);(try simp only [rl]);go_simp;refine bD hK (h:= ?_);clear hK K;(try simp only [rl]);refine aM 14 (h:=fun K hK=> ?_);(try simp only [rl]);go_simp;refine bD hK (h:= ?_);clear hK K;(try simp only [rl]);refine aM 15 (h:=fun K hK=> ?_);(try simp only [rl]);go_simp;refine bD hK (h:= ?_);clear hK K;(try simp only [rl]);refine dE (by kernel_rfl) ?_ _;obtain⟨wy,bU⟩:∃wy,(w6.setCell ⟨w.heap.size+1,3,none⟩ (Value.slice (some ⟨g5,0,none⟩) (n+1) dh)).setCell ⟨w.heap.size+1,4,none⟩ (Value.slice (some ⟨g6,0,none⟩) (n+1) bA)=wy:=⟨_,rfl⟩;have jB:Sr wy r s8 kV:=by rw [<-bU];exact iw
         have ag:aN wy w.heap.size:=by rw [<-bU];exact aj
         have ai:af wy (w.heap.size+1) #[.int .i64 5, .int .i64 0, .string ⟨#[]⟩, .slice (some ⟨g5,0,none⟩) (n+1) dh, .slice (some ⟨g6,0,none⟩) (n+1) bA] 41:=by rw [<-bU];exact aj
         have sH:Held (fun b=>w.heap.size+2<=b) w6 wy:=by rw [<-bU];exact aC
         have bR:Rd r w wy:=by rw [<-bU];exact eD
         rw [bU];clear nI hc1 aB az bS bU;have nJ:=ae (ey.keep mr.out (fun b hb hk=>sH.block b hk hb));have sI:=ae cY.out.2;have sJ:=ae cY.out.1
         have sK:=ae (show n+1+((s8).size+(if kV=true then 0 else 1))<=1048577 by
          have h1:=qP.out;have h2:=cY.out.1;have h3:(⟨#[]⟩:ah).size=0:=rfl;simp only [Bool.false_eq_true,if_false] at h1
          (first|omega|(simp [h3];omega)|(simp [h3];done)))
         go_wp2_with fail;go_roundg ((s8).size+(if kV=true then 0 else 1))
         case measure=>have:=sJ.out;simpa using this
         case rel=>exact⟨s8,kV,n+1,ks.take p++key::ks.drop p,l.take p++x::l.drop p,some ⟨g5,0,none⟩,dh,some ⟨g6,0,none⟩,bA,jB,nJ.out,ag,ai,rfl,sK.out,bR,sI.out⟩
     · (try simp only [rl])
       go_simp;refine hK.out _ _ (fun _=>au _ aC) ?_;clear hK K;(try simp only [rl]);refine aM 4 (h:=fun K hK=> ?_);(try simp only [rl]);go_simp;refine hK.out _ _ (fun _=>au _ aC) ?_;clear hK K;(try simp only [rl]);refine aM 5 (h:=fun K hK=> ?_);(try simp only [rl]);(try go_simp);(refine(vG (w.heap.size+2) n p _ _ (.slice a2 n c2) (ks.map Value.string) [.string key] _ 9 ?_ ?_ dx qQ ?_ ?_ rfl (pz ks) (by simp [Value.oneCell'])).mono ?_);(focus(simp;omega));(focus(exact eT lj.out Xt));(focus(exact aj));(focus(intro h;have h':=(dV.out _ h).2;(first|omega|(simp at h';omega)|(simp at h';done))));rintro e w5 ⟨g5,dh,rfl,dR,cG,fJ⟩;have eN:Held T wb w5:=Held.grown aC cG sB.out;have bG:Rd r w w5:=Rd.grown eD cG (fun g hg=>by have:=(dV.out g hg).1;omega) hlt;have mG:=ae (eo qR.out (fun b hb hg=>Held.block (T:=fun c=>(Value.slice a2 n c2).ownBlock≠some c) (Held.grown aC cG (fun k hk h=>h hk)) b (fun h=>dW.out b h hg) hb));have fG:(Value.slice a3 n c3).ownBlock≠some g5:=fun h=>by
        rcases fJ with h'|h'
        ·exact dW.out _ h' h
        ·have h2:=(fI.out _ h).2;simp at h';omega
       have sF:Hid (∀b,Beside (w.heap.size+2) (.slice a2 n c2) (.slice a3 n c3) b->b<wb.heap.size->b≠g5):=fun b hb hl he=>by
        rcases fJ with h'|h'
        ·exact hb.2.1 (he▸h')
        ·simp at h';omega
       have fX:wb.heap.size<=w5.heap.size:=eN.size;have iR:=ae dR;have oO:=ae fG;have D9:af w5 (wb.heap.size) (x.five kb kd lb ld).toArray 41:=af.grown (w':=w5) aj cG (fun e=>by have h':=(dV.out _ e.symm).2;omega);clear dR fJ fG;(try go_simp);refine hK.out _ _ (fun _=>au _ aC) ?_;clear hK K;refine aH 12 [13] (hS:=au _ aC) (h:= ?_);(try simp only [rl]);refine aM 11 (h:=fun K hK=> ?_);(try simp only [rl]);(try go_simp);(refine(rf (w.heap.size+2) n p _ _ (.slice a3 n c3) news (x.five kb kd lb ld) _ 41 ?_ ?_ dx qQ ?_ ?_ rfl lh.out (x.mR kb kd lb ld)).mono ?_);(focus(first|(simp;omega)|omega));(focus(exact eT mG.out Xt));(focus(exact aj));(focus(intro h;have h':=(fI.out _ h).2;(first|omega|(simp at h';omega)|(simp at h';done))));rintro e w6 ⟨g6,bA,rfl,bF,aY,cp⟩;have bE:Held T wb w6:=Held.grown aC aY sD.out;(try go_simp);refine hK.out _ _ (fun _=>au _ bE) ?_;clear hK K;(try simp only [rl]);have bS:Rd r w w6:=Rd.grown eD aY (fun g hg=>by have:=(fI.out g hg).1;omega) hlt;have sG:=ae (eo iR.out (fun b hb hg=>Held.block (T:=fun c=>(Value.slice a3 n c3).ownBlock≠some c) (Held.grown aC aY (fun k hk h=>h hk)) b (by simp only [Value.ownBlock,Option.map_some,Option.some.injEq] at hg;rw [<-hg];exact oO.out) hb));have gL:∀b,Beside (w.heap.size+2) (.slice a2 n c2) (.slice a3 n c3) b->b<wb.heap.size->b≠g6:=fun b hb hl he=>by
        rcases cp with h'|h'
        ·exact hb.2.2 (he▸h')
        · (first|omega|(simp at h';omega))
       have hnew:∀b,Beside (w.heap.size+2) (.slice a2 n c2) (.slice a3 n c3) b->b<wb.heap.size->Beside (w.heap.size+2) (.slice (some ⟨g5,0,none⟩) (n+1) dh) (.slice (some ⟨g6,0,none⟩) (n+1) bA) b:=fun b hb hl=>⟨hb.1,fun h=>sF.out b hb hl (by simpa [Value.ownBlock] using h.symm),fun h=>gL b hb hl (by simpa [Value.ownBlock] using h.symm)⟩;have hcc:=(kJ.out.keep (Held.kept (Held.mono bE p7.out)) hnew).ins p (aV.out.keep (Held.kept (Held.mono bE p7.out)) hnew)
       have mr:Hid (ey w6 (w.heap.size+2) (.slice (some ⟨g5,0,none⟩) (n+1) dh) (.slice (some ⟨g6,0,none⟩) (n+1) bA) (n+1) (ks.take p++key::ks.drop p) (l.take p++x::l.drop p)):=
        ⟨by simp [hks.out];omega,by simp [hll.out];omega,by simpa [List.map_take,List.map_drop] using sG.out,_,bF,hcc⟩
       have nI:Sr w6 r s8 kV:=af.held bE mD (hT0.out _ (by omega));have ag:=af.held bE ag (hT0.out _ (by omega));have ai:=af.held bE ai (hT0.out _ (by omega));have yq:=bE.size;clear bF aY cp hcc hnew gL au cG eN bG dN mD aP;obtain⟨hc1,aB,az⟩:=ai.see;refine aM 13 (h:=fun K hK=> ?_);(try simp only [rl]);go_simp;refine bD hK (h:= ?_);clear hK K;(try simp only [rl]);refine aM 14 (h:=fun K hK=> ?_);(try simp only [rl]);go_simp;refine bD hK (h:= ?_);clear hK K;(try simp only [rl]);refine aM 15 (h:=fun K hK=> ?_);(try simp only [rl]);go_simp;refine bD hK (h:= ?_);clear hK K;(try simp only [rl]);refine dE (by kernel_rfl) ?_ _;obtain⟨wy,bU⟩:∃wy,(w6.setCell ⟨w.heap.size+1,3,none⟩ (Value.slice (some ⟨g5,0,none⟩) (n+1) dh)).setCell ⟨w.heap.size+1,4,none⟩ (Value.slice (some ⟨g6,0,none⟩) (n+1) bA)=wy:=⟨_,rfl⟩;have jB:Sr wy r s8 kV:=by rw [<-bU];exact iw
       have ag:aN wy w.heap.size:=by rw [<-bU];exact aj
       have ai:af wy (w.heap.size+1) #[.int .i64 5, .int .i64 0, .string ⟨#[]⟩, .slice (some ⟨g5,0,none⟩) (n+1) dh, .slice (some ⟨g6,0,none⟩) (n+1) bA] 41:=by rw [<-bU];exact aj
       have sH:Held (fun b=>w.heap.size+2<=b) w6 wy:=by rw [<-bU];exact aC
       have bR:Rd r w wy:=by rw [<-bU];exact eD
       rw [bU];clear nI hc1 aB az bS bU;have nJ:=ae (ey.keep mr.out (fun b hb hk=>sH.block b hk hb));have sI:=ae cY.out.2;have sJ:=ae cY.out.1
       have sK:=ae (show n+1+((s8).size+(if kV=true then 0 else 1))<=1048577 by
        have h1:=qP.out;have h2:=cY.out.1;have h3:(⟨#[]⟩:ah).size=0:=rfl;simp only [Bool.false_eq_true,if_false] at h1
        (first|omega|(simp [h3];omega)|(simp [h3];done)))
       go_wp2_with fail;go_roundg ((s8).size+(if kV=true then 0 else 1))
       case measure=>have:=sJ.out;simpa using this
       case rel=>exact⟨s8,kV,n+1,ks.take p++key::ks.drop p,l.take p++x::l.drop p,some ⟨g5,0,none⟩,dh,some ⟨g6,0,none⟩,bA,jB,nJ.out,ag,ai,rfl,sK.out,bR,sI.out⟩
   ·have yg:((c4.toNat:Int) !=34)=true:=by simpa using hq
    have bp:=ae (show R=none by
     rw [vE.out];unfold vF
     rw [acE (fun h=>hq (by rw [<-Ic.out,zq.out,h];rfl))];rfl)
    go_wp2_with fail;(refine(lX r s4 false _ hr4).mono ?_);rintro e wn ⟨rfl,rfl⟩;rw [Ic.out];go_wp2_with fail;(refine(dG r s4 false _ hr4).mono ?_);rintro e w5 ⟨rfl,vC,h5⟩;have oI:=af.rd h5 r8 (by omega);have oh:=af.rd h5 MI (by omega);have bG:=bX.trans h5;have MO:=ae (ey.rd D4.out h5 (by omega));have pF:=ae (show (true=false/\R=some ((ks,l),([]:Bytes)))\/ (true=true/\ (⟨#[]⟩:ah).data.toList= []/\R=none) from .inr ⟨rfl,rfl,bp.out⟩);have Hfn:=ae bp.out;have fX:=h5.size;obtain⟨hc0,aw,hl0⟩:=oI.see;obtain⟨H6,H8,H9⟩:=oh.see;go_wp2_with fail;refine aG (h:= ?_);have uL:=ey.obj MO.out;have e1:=MO.out.nk;have e2:=MO.out.nl;refine⟨eD, .mk 5 0 ⟨#[]⟩ ks l,a2,c2,a3,c3,⟨#[]⟩,true,by simp [V.val,e1,e2],uL.keep (Held.kept (a:=w5) (T:=fun b=>w.heap.size+2<=b) aC) (fun b hb _=>by omega),iw, .inr ⟨rfl,rfl,by rw [bp.out];rfl⟩⟩
theorem xo {f:Nat} {s t:Bytes} {c:UInt8} (h:dw s=c::t):bJ (f+1) s=(
 if c=110 then(if [117,108,108].isPrefixOf t=true then some (V.zero,t.drop 3) else none)
 else if c=116 then(if [114,117,101].isPrefixOf t=true then some (wS,t.drop 3) else none)
 else if c=102 then(if [97,108,115,101].isPrefixOf t=true then some (wT,t.drop 4) else none)
 else if c=34 then(eA (t.length+1) t []).map fun p=>(.mk 3 0 ⟨p.1.toArray⟩ [] [],p.2)
 else if c=45\/eB c=true then(eu (c::t)).map fun p=>(.mk 2 p.1 ⟨#[]⟩ [] [],p.2)
 else if c=91 then(gM (bJ f) (t.length+1) t []).map fun p=>(.mk 4 0 ⟨#[]⟩ [] p.1,p.2)
 else if c=123 then(iO (bJ f) (t.length+1) t [] []).map fun p=>(.mk 5 0 ⟨#[]⟩ p.1.1 p.1.2,p.2)
 else none):=by
 rw [bJ,h]
theorem acO {f:Nat} {s t:Bytes} (h:dw s=110::t):bJ (f+1) s=if(⟨#[110,117,108,108]⟩:ah).data.toList.isPrefixOf (110::t)=true then some (V.zero,(110::t).drop 4) else none:=by
 rw [xo h];simp [List.isPrefixOf]
theorem acP {f:Nat} {s t:Bytes} (h:dw s=116::t):bJ (f+1) s=if(⟨#[116,114,117,101]⟩:ah).data.toList.isPrefixOf (116::t)=true then some (wS,(116::t).drop 4) else none:=by
 rw [xo h];simp [List.isPrefixOf]
theorem acQ {f:Nat} {s t:Bytes} (h:dw s=102::t):bJ (f+1) s=if(⟨#[102,97,108,115,101]⟩:ah).data.toList.isPrefixOf (102::t)=true then some (wT,(102::t).drop 5) else none:=by
 rw [xo h];simp [List.isPrefixOf]
theorem acR {f:Nat} {s t:Bytes} (h:dw s=34::t):bJ (f+1) s=(eA (t.length+1) t []).map fun p=>(.mk 3 0 ⟨p.1.toArray⟩ [] [],p.2):=by
 rw [xo h];rfl
theorem TN {f:Nat} {s t:Bytes} {c:UInt8} (h:dw s=c::t) (hd:c=45\/eB c=true):bJ (f+1) s=(eu (c::t)).map fun p=>(.mk 2 p.1 ⟨#[]⟩ [] [],p.2):=by
 have:=KX hd;rw [xo h,if_neg this.2.2.2.2.1,if_neg this.2.2.2.2.2.1,if_neg this.2.2.2.2.2.2.1,if_neg this.2.2.2.2.2.2.2,if_pos hd]
theorem acS {f:Nat} {s t:Bytes} (h:dw s=91::t):bJ (f+1) s=(gM (bJ f) (t.length+1) t []).map fun p=>(.mk 4 0 ⟨#[]⟩ [] p.1,p.2):=by
 rw [xo h];rfl
theorem acT {f:Nat} {s t:Bytes} (h:dw s=123::t):bJ (f+1) s=(iO (bJ f) (t.length+1) t [] []).map fun p=>(.mk 5 0 ⟨#[]⟩ p.1.1 p.1.2,p.2):=by
 rw [xo h];rfl
theorem TP {f:Nat} {s s1:Bytes} {c:UInt8} (h:s1=dw s) (hc:gw s1=c) (hn:c≠110/\c≠116/\c≠102/\c≠34/\¬(c=45\/eB c=true)/\c≠91/\c≠123):bJ (f+1) s=none:=by
 cases hq:s1 with
 |nil=>rw [bJ,<-h,hq]
 |cons d t=>
  rw [hq] at hc;have hc:d=c:=hc;subst hc;obtain⟨h1,h2,h3,h4,h5,h6,h7⟩:=hn;rw [xo (h.symm.trans hq),if_neg h1,if_neg h2,if_neg h3,if_neg h4,if_neg h5,if_neg h6,if_neg h7]
theorem head_cons {l:Bytes} {c:UInt8} (h:gw l=c) (h0:(c.toNat:Int)≠0):∃t,l=c::t:=by
 cases l with
 |nil=>rw [<-h] at h0;exact absurd rfl h0
 |cons d t=>have h:d=c:=h;exact⟨t,by rw [h]⟩
theorem xp {bad:Bool} {s s1:Bytes} {c:UInt8} (hb:bad=true->s= []) (h:s1=dw s) (hc:gw s1=c) (h0:(c.toNat:Int)≠0):bad=false:=by
 cases bad with
 |false=>rfl
 |true=>
  rw [hb rfl] at h;subst h;rw [<-hc] at h0;exact absurd rfl h0
theorem pG {c d:UInt8} (h:(c.toNat:Int)≠d.toNat):c≠d:=fun e=>h (by rw [e])
theorem acU:∀f:Nat,f<=13->Mx f:=by
 intro f
 induction f with
 |zero=>
  intro _ r d s bad w hd hb hsz hr hl;obtain rfl:d=13:=by omega
  have hlt:=hr.lt;clear hd hb hl;go_enter func70,ntmps70;go_upto_region 1 with fail
  refine aI (R:=fun wx=>aN wx w.heap.size/\Ext w wx) ⟨aj,Xt⟩ ?_;rintro wa ⟨hB,aF⟩;have qL:=hr.ext aF;go_wp2_with fail;(refine(Bc r s bad _ qL).mono ?_);rintro e w1 ⟨rfl,⟨s1,hs1,hr1⟩,h1⟩;have ai:=af.rd h1 hB (by omega);have hx1:Rd r w w1:=(Rd.of hlt aF).trans h1;have hz1:=ai.lt;clear hs1 h1 hB qL aF hr;go_wp2_with fail;(refine(dG r s1 bad _ hr1).mono ?_);rintro e w2 ⟨rfl,hr2,h2⟩;have ak:=af.rd h2 ai (by omega);have hx2:=hx1.trans h2;clear hr1 ai hx1 h2;go_wp2_with fail;(refine(lX r ⟨#[]⟩ true _ hr2).mono ?_);rintro e w3 ⟨rfl,rfl⟩;have e0:(gw (⟨#[]⟩:ah).data.toList).toNat=0:=rfl;rw [e0];clear e0;go_wp2_with fail;(refine(dG r ⟨#[]⟩ true _ hr2).mono ?_);rintro e w4 ⟨rfl,hr4,h4⟩;have hB4:=af.rd h4 ak (by omega);have bX:=hx2.trans h4;clear hr2 ak hx2 h4;obtain⟨vp,AZ,hl4⟩:=hB4.see;go_wp2_with fail;refine aG (h:= ?_);exact⟨eD,V.zero,none,0,none,0,⟨#[]⟩,true,rfl,V.nX _ _,iw, .inr ⟨rfl,rfl,rfl⟩⟩
 |succ f ih=>
  intro hf r d s bad w hd hb hsz hr hl;have ih:=ih (by omega);have hlt:=hr.lt;have hd1:¬(12:Int)<d:=by omega
  have hd2:0<=d:=by omega
  have TQ:d=12-(f:Int):=by omega
  have Hb:=ae hb;have Hl:=ae hl;have TR:=ae TQ;clear hd hb hl TQ;go_enter func70,ntmps70;go_upto_region 1 with fail
  refine aI (R:=fun wx=>aN wx w.heap.size/\Ext w wx) ⟨aj,Xt⟩ ?_;rintro wa ⟨hB,aF⟩;have qL:=hr.ext aF;go_wp2_with fail;(refine(Bc r s bad _ qL).mono ?_);rintro e w1 ⟨rfl,⟨s1,hs1,hr1⟩,h1⟩;have hB:=af.rd h1 hB (by omega);have hx1:Rd r w w1:=(Rd.of hlt aF).trans h1;have hz1:=hB.lt;have qN:s1.size<=1048576:=by have e1:s.data.toList.length=s.size:=Array.length_toList;have e2:s1.data.toList.length=s1.size:=Array.length_toList;have:=nC s.data.toList;rw [hs1] at e2;omega
  have dZ:=ae hs1;clear hs1 h1 qL aF hr;obtain⟨c,hc⟩:∃c,gw s1.data.toList=c:=⟨_,rfl⟩;have Hc:=ae hc;clear hc;have hcl:(c.toNat:Int)<256:=by have:=c.toNat_lt;omega
  obtain⟨hc1,aB,az⟩:=hB.see;go_wp2_with fail;(refine(lX r s1 bad _ hr1).mono ?_);rintro e wn ⟨rfl,rfl⟩;rw [Hc.out];by_cases Il:(c.toNat:Int)=110
  ·have acV:((c.toNat:Int)==110)=true:=by simpa using Il
   obtain⟨t1,ht1⟩:=head_cons Hc.out (by omega);obtain rfl:bad=false:=xp Hb.out dZ.out Hc.out (by omega);have hcn:c=110:=by apply UInt8.toNat_inj.1;simpa using (by omega:c.toNat=110)
   have jV:=ae (show bJ (f+1) s.data.toList=if(⟨#[110,117,108,108]⟩:ah).data.toList.isPrefixOf s1.data.toList=true then some (V.zero,s1.data.toList.drop 4) else none from by rw [ht1,hcn];exact acO (by rw [<-dZ.out,ht1,hcn]));clear ht1 hcn;go_wp2_with fail;(refine(xg r s1 false ⟨#[110,117,108,108]⟩ _ hr1).mono ?_);rintro e w3 ⟨rfl,h3,dF⟩;have bK:=af.rd h3 hB (by omega);have hx3:=hx1.trans h3;have hz3:=h3.size;have gJ:=ae dF;clear dF h3 hB hx1 hr1 hc1 aB az;obtain⟨hc3,hf3,aS⟩:=bK.see;go_wp2_with fail;refine aG (h:= ?_);rcases gJ.out with⟨hp,s3,hs3,hr3⟩|⟨hp,hr3⟩
   ·exact⟨eD,V.zero,none,0,none,0,s3,false,rfl,(V.dD ..).2 ⟨aO.nil,aO.nil, .inl rfl, .inl rfl⟩,iw, .inl ⟨rfl,by rw [jV.out,if_pos hp,hs3];rfl⟩⟩
   ·exact⟨eD,V.zero,none,0,none,0,⟨#[]⟩,true,rfl,(V.dD ..).2 ⟨aO.nil,aO.nil, .inl rfl, .inl rfl⟩,iw, .inr ⟨rfl,rfl,by rw [jV.out,if_neg (by rw [hp];decide)]⟩⟩
  have acV:((c.toNat:Int)==110)=false:=by simpa using Il
  by_cases c116:(c.toNat:Int)=116
  ·have acW:((c.toNat:Int)==116)=true:=by simpa using c116
   obtain⟨t1,ht1⟩:=head_cons Hc.out (by omega);obtain rfl:bad=false:=xp Hb.out dZ.out Hc.out (by omega);have hcn:c=116:=by apply UInt8.toNat_inj.1;simpa using (by omega:c.toNat=116)
   have jV:=ae (show bJ (f+1) s.data.toList=if(⟨#[116,114,117,101]⟩:ah).data.toList.isPrefixOf s1.data.toList=true then some (wS,s1.data.toList.drop 4) else none from by rw [ht1,hcn];exact acP (by rw [<-dZ.out,ht1,hcn]));clear ht1 hcn;go_wp2_with fail;(refine(xg r s1 false ⟨#[116,114,117,101]⟩ _ hr1).mono ?_);rintro e w3 ⟨rfl,h3,dF⟩;have bK:=af.rd h3 hB (by omega);have hx3:=hx1.trans h3;have hz3:=h3.size;have gJ:=ae dF;clear dF h3 hB hx1 hr1 hc1 aB az;obtain⟨hc3,hf3,aS⟩:=bK.see;go_wp2_with fail;refine aG (h:= ?_);rcases gJ.out with⟨hp,s3,hs3,hr3⟩|⟨hp,hr3⟩
   ·exact⟨eD,wS,none,0,none,0,s3,false,rfl,(V.dD ..).2 ⟨aO.nil,aO.nil, .inl rfl, .inl rfl⟩,iw, .inl ⟨rfl,by rw [jV.out,if_pos hp,hs3];rfl⟩⟩
   ·exact⟨eD,wS,none,0,none,0,⟨#[]⟩,true,rfl,(V.dD ..).2 ⟨aO.nil,aO.nil, .inl rfl, .inl rfl⟩,iw, .inr ⟨rfl,rfl,by rw [jV.out,if_neg (by rw [hp];decide)]⟩⟩
  have acW:((c.toNat:Int)==116)=false:=by simpa using c116
  by_cases Im:(c.toNat:Int)=102
  ·have acX:((c.toNat:Int)==102)=true:=by simpa using Im
   obtain⟨t1,ht1⟩:=head_cons Hc.out (by omega);obtain rfl:bad=false:=xp Hb.out dZ.out Hc.out (by omega);have hcn:c=102:=by apply UInt8.toNat_inj.1;simpa using (by omega:c.toNat=102)
   have jV:=ae (show bJ (f+1) s.data.toList=if(⟨#[102,97,108,115,101]⟩:ah).data.toList.isPrefixOf s1.data.toList=true then some (wT,s1.data.toList.drop 5) else none from by rw [ht1,hcn];exact acQ (by rw [<-dZ.out,ht1,hcn]));clear ht1 hcn;go_wp2_with fail;(refine(xg r s1 false ⟨#[102,97,108,115,101]⟩ _ hr1).mono ?_);rintro e w3 ⟨rfl,h3,dF⟩;have bK:=af.rd h3 hB (by omega);have hx3:=hx1.trans h3;have hz3:=h3.size;have gJ:=ae dF;clear dF h3 hB hx1 hr1 hc1 aB az;obtain⟨hc3,hf3,aS⟩:=bK.see;go_wp2_with fail;refine aG (h:= ?_);rcases gJ.out with⟨hp,s3,hs3,hr3⟩|⟨hp,hr3⟩
   ·exact⟨eD,wT,none,0,none,0,s3,false,rfl,(V.dD ..).2 ⟨aO.nil,aO.nil, .inl rfl, .inl rfl⟩,iw, .inl ⟨rfl,by rw [jV.out,if_pos hp,hs3];rfl⟩⟩
   ·exact⟨eD,wT,none,0,none,0,⟨#[]⟩,true,rfl,(V.dD ..).2 ⟨aO.nil,aO.nil, .inl rfl, .inl rfl⟩,iw, .inr ⟨rfl,rfl,by rw [jV.out,if_neg (by rw [hp];decide)]⟩⟩
  have acX:((c.toNat:Int)==102)=false:=by simpa using Im
  by_cases lW:(c.toNat:Int)=34
  ·have Mb:((c.toNat:Int)==34)=true:=by simpa using lW
   obtain⟨t1,ht1⟩:=head_cons Hc.out (by omega);obtain rfl:bad=false:=xp Hb.out dZ.out Hc.out (by omega);have hcn:c=34:=by apply UInt8.toNat_inj.1;simpa using (by omega:c.toNat=34)
   have pH:=ae (show s1.data.toList=34::t1 by rw [ht1,hcn]);have jV:=ae (acR (f:=f) (dZ.out.symm.trans pH.out));clear ht1 hcn;go_wp2_with fail;(refine(Tb r s1 t1 pH.out qN _ hr1).mono ?_);rintro e w3 hT;obtain⟨h3,b,s3,oN,rfl,-,hr3,dF⟩:=hT;have bK:=af.rd h3 hB (by omega);have hx3:=hx1.trans h3;have hz3:=h3.size;have gJ:=ae dF;clear dF h3 hB hx1 hr1 hc1 aB az;obtain⟨hc3,hf3,aS⟩:=bK.see;go_wp2_with fail;refine aG (h:= ?_);refine⟨eD, .mk 3 0 b [] [],none,0,none,0,s3,oN,rfl,(V.dD ..).2 ⟨aO.nil,aO.nil, .inl rfl, .inl rfl⟩,iw,?_⟩;rw [jV.out];rcases gJ.out with⟨rfl,h⟩|⟨rfl,h0,h⟩
   ·exact .inl ⟨rfl,by rw [h];rfl⟩
   ·exact .inr ⟨rfl,h0,by rw [h];rfl⟩
  have Mb:((c.toNat:Int)==34)=false:=by simpa using lW
  by_cases c91:(c.toNat:Int)=91
  ·have b91:((c.toNat:Int)==91)=true:=by simpa using c91
   have MP:((c.toNat:Int)==45)=false:=by simpa using (by omega:(c.toNat:Int)≠45)
   have d48:decide ((48:Int)<= (c.toNat:Int))=true:=by simpa using (by omega:(48:Int)<= (c.toNat:Int))
   have d57:decide ((c.toNat:Int)<=57)=false:=by simpa using (by omega:(57:Int)<(c.toNat:Int))
   obtain⟨t1,ht1⟩:=head_cons Hc.out (by omega);obtain rfl:bad=false:=xp Hb.out dZ.out Hc.out (by omega);have hcn:c=91:=by apply UInt8.toNat_inj.1;simpa using (by omega:c.toNat=91)
   have pH:=ae (show s1.data.toList=91::t1 by rw [ht1,hcn]);have jV:=ae (acS (f:=f) (dZ.out.symm.trans pH.out));clear ht1 hcn;go_wp2_with fail;(refine(acx f ih r d TR.out (by omega) s1 t1 pH.out qN _ hr1 (Hl.out.on (Rd.below (Rd.ext hx1 hlt Xt)))).mono ?_);rintro e w3 ⟨h3,v,ka,kc,la,lc,s3,oN,rfl,bj,hr3,dF⟩;have bN:=ae bj;clear bj;have bK:=af.rd h3 hB (by omega);have hx3:=hx1.trans h3;have hz3:=h3.size;have gJ:=ae dF;clear dF h3 hB hx1 hr1 hc1 aB az;obtain⟨hc3,hf3,aS⟩:=bK.see;go_wp2_with fail;refine aG (h:= ?_);refine⟨eD,v,ka,kc,la,lc,s3,oN,rfl,bN.out.keep (Held.kept (a:=w3) (T:=fun b=>wn.heap.size<=b) aC) (fun b hb _=>by omega),iw,?_⟩;rw [jV.out];exact gJ.out
  have b91:((c.toNat:Int)==91)=false:=by simpa using c91
  by_cases Io:(c.toNat:Int)=123
  ·have acY:((c.toNat:Int)==123)=true:=by simpa using Io
   have MP:((c.toNat:Int)==45)=false:=by simpa using (by omega:(c.toNat:Int)≠45)
   have d48:decide ((48:Int)<= (c.toNat:Int))=true:=by simpa using (by omega:(48:Int)<= (c.toNat:Int))
   have d57:decide ((c.toNat:Int)<=57)=false:=by simpa using (by omega:(57:Int)<(c.toNat:Int))
   obtain⟨t1,ht1⟩:=head_cons Hc.out (by omega);obtain rfl:bad=false:=xp Hb.out dZ.out Hc.out (by omega);have hcn:c=123:=by apply UInt8.toNat_inj.1;simpa using (by omega:c.toNat=123)
   have pH:=ae (show s1.data.toList=123::t1 by rw [ht1,hcn]);have jV:=ae (acT (f:=f) (dZ.out.symm.trans pH.out));clear ht1 hcn;go_wp2_with fail;(refine(acJ f ih r d TR.out (by omega) s1 t1 pH.out qN _ hr1 (Hl.out.on (Rd.below (Rd.ext hx1 hlt Xt)))).mono ?_);rintro e w3 ⟨h3,v,ka,kc,la,lc,s3,oN,rfl,bj,hr3,dF⟩;have bN:=ae bj;clear bj;have bK:=af.rd h3 hB (by omega);have hx3:=hx1.trans h3;have hz3:=h3.size;have gJ:=ae dF;clear dF h3 hB hx1 hr1 hc1 aB az;obtain⟨hc3,hf3,aS⟩:=bK.see;go_wp2_with fail;refine aG (h:= ?_);refine⟨eD,v,ka,kc,la,lc,s3,oN,rfl,bN.out.keep (Held.kept (a:=w3) (T:=fun b=>wn.heap.size<=b) aC) (fun b hb _=>by omega),iw,?_⟩;rw [jV.out];exact gJ.out
  have acY:((c.toNat:Int)==123)=false:=by simpa using Io
  by_cases Ip:(c.toNat:Int)=45
  ·have MP:((c.toNat:Int)==45)=true:=by simpa using Ip
   obtain⟨t1,ht1⟩:=head_cons Hc.out (by omega);obtain rfl:bad=false:=xp Hb.out dZ.out Hc.out (by omega);have Ea:c=45\/eB c=true:= .inl (by apply UInt8.toNat_inj.1;simpa using (by omega:c.toNat=45));have pH:=ae ht1;have jV:=ae (TN (f:=f) (dZ.out.symm.trans ht1) Ea);clear ht1 Ea;go_wp2_with fail;(refine(SP r s1 c t1 pH.out qN _ hr1 (Hl.out.on (Rd.below (Rd.ext hx1 hlt Xt)))).mono ?_);rintro e w3 ⟨h3,k,s3,oN,rfl,hr3,dF⟩;have bK:=af.rd h3 hB (by omega);have hx3:=hx1.trans h3;have hz3:=h3.size;have gJ:=ae dF;clear dF h3 hB hx1 hr1 hc1 aB az;obtain⟨hc3,hf3,aS⟩:=bK.see;go_wp2_with fail;refine aG (h:= ?_);refine⟨eD, .mk 2 k ⟨#[]⟩ [] [],none,0,none,0,s3,oN,rfl,(V.dD ..).2 ⟨aO.nil,aO.nil, .inl rfl, .inl rfl⟩,iw,?_⟩;rw [jV.out,<-pH.out];rcases gJ.out with⟨rfl,h⟩|⟨rfl,h0,h⟩
   ·exact .inl ⟨rfl,by rw [h];rfl⟩
   ·exact .inr ⟨rfl,h0,by rw [h];rfl⟩
  have MP:((c.toNat:Int)==45)=false:=by simpa using Ip
  by_cases TS:(48:Int)<= (c.toNat:Int)
  ·have d48:decide ((48:Int)<= (c.toNat:Int))=true:=by simpa using TS
   by_cases TT:(c.toNat:Int)<=57
   ·have d57:decide ((c.toNat:Int)<=57)=true:=by simpa using TT
    obtain⟨t1,ht1⟩:=head_cons Hc.out (by omega);obtain rfl:bad=false:=xp Hb.out dZ.out Hc.out (by omega);have Ea:c=45\/eB c=true:= .inr (by rw [vA,d48,d57];rfl);have pH:=ae ht1;have jV:=ae (TN (f:=f) (dZ.out.symm.trans ht1) Ea);clear ht1 Ea;go_wp2_with fail;(refine(SP r s1 c t1 pH.out qN _ hr1 (Hl.out.on (Rd.below (Rd.ext hx1 hlt Xt)))).mono ?_);rintro e w3 ⟨h3,k,s3,oN,rfl,hr3,dF⟩;have bK:=af.rd h3 hB (by omega);have hx3:=hx1.trans h3;have hz3:=h3.size;have gJ:=ae dF;clear dF h3 hB hx1 hr1 hc1 aB az;obtain⟨hc3,hf3,aS⟩:=bK.see;go_wp2_with fail;refine aG (h:= ?_);refine⟨eD, .mk 2 k ⟨#[]⟩ [] [],none,0,none,0,s3,oN,rfl,(V.dD ..).2 ⟨aO.nil,aO.nil, .inl rfl, .inl rfl⟩,iw,?_⟩;rw [jV.out,<-pH.out];rcases gJ.out with⟨rfl,h⟩|⟨rfl,h0,h⟩
    ·exact .inl ⟨rfl,by rw [h];rfl⟩
    ·exact .inr ⟨rfl,h0,by rw [h];rfl⟩
   ·have d57:decide ((c.toNat:Int)<=57)=false:=by simpa using TT
    have hno:c≠110/\c≠116/\c≠102/\c≠34/\¬(c=45\/eB c=true)/\c≠91/\c≠123:=⟨pG Il,pG c116,pG Im,pG lW,fun h=>h.elim (pG Ip) (fun h=>by rw [vA,d57] at h;simp at h),pG c91,pG Io⟩;have jV:=ae (TP (f:=f) dZ.out Hc.out hno);clear hno;go_wp2_with fail;(refine(dG r s1 bad _ hr1).mono ?_);rintro e w3 ⟨rfl,hr3,h3⟩;have dF:=True.intro;have bK:=af.rd h3 hB (by omega);have hx3:=hx1.trans h3;have hz3:=h3.size;have gJ:=ae dF;clear dF h3 hB hx1 hr1 hc1 aB az;obtain⟨hc3,hf3,aS⟩:=bK.see;go_wp2_with fail;refine aG (h:= ?_);exact⟨eD,V.zero,none,0,none,0,⟨#[]⟩,true,rfl,V.nX _ _,iw, .inr ⟨rfl,rfl,jV.out⟩⟩
  ·have d48:decide ((48:Int)<= (c.toNat:Int))=false:=by simpa using TS
   have hno:c≠110/\c≠116/\c≠102/\c≠34/\¬(c=45\/eB c=true)/\c≠91/\c≠123:=⟨pG Il,pG c116,pG Im,pG lW,fun h=>h.elim (pG Ip) (fun h=>by rw [vA,d48] at h;simp at h),pG c91,pG Io⟩;have jV:=ae (TP (f:=f) dZ.out Hc.out hno);clear hno;go_wp2_with fail;(refine(dG r s1 bad _ hr1).mono ?_);rintro e w3 ⟨rfl,hr3,h3⟩;have dF:=True.intro;have bK:=af.rd h3 hB (by omega);have hx3:=hx1.trans h3;have hz3:=h3.size;have gJ:=ae dF;clear dF h3 hB hx1 hr1 hc1 aB az;obtain⟨hc3,hf3,aS⟩:=bK.see;go_wp2_with fail;refine aG (h:= ?_);exact⟨eD,V.zero,none,0,none,0,⟨#[]⟩,true,rfl,V.nX _ _,iw, .inr ⟨rfl,rfl,jV.out⟩⟩
theorem acZ {s:Bytes} {v:V} {t:Bytes} (hl:¬2000<s.length) (h:bJ 12 s=some (v,t)):dX s=if dw t= []/\v.fine=true then(v,0) else(V.zero,1):=by
 unfold dX yR;rw [if_neg hl,h];simp only [Option.bind_some];by_cases hc:dw t= []/\v.fine=true
 ·rw [if_pos hc,if_pos hc]
 ·rw [if_neg hc,if_neg hc]
theorem ac0 {s:Bytes} (hl:¬2000<s.length) (h:bJ 12 s=none):dX s=(V.zero,1):=by
 unfold dX yR;rw [if_neg hl,h];rfl
theorem ac1 (s:Bytes) (h:(dX s).2≠0):(dX s).1=V.zero:=by
 unfold dX at h⊢
 split
 ·rfl
 ·split
  ·rename_i h1 _ _ h2;rw [if_neg h1,h2] at h;exact absurd rfl h
  ·rfl
theorem ac2 (s:Bytes) (h:(dX s).2=0):(dX s).1.fine=true/\s.length<=2000:=by
 unfold dX at h⊢
 split at h
 ·simp at h
 ·rename_i h1
  rw [if_neg h1]
  split at h
  ·rename_i v h2
   exact⟨ZM h2,by omega⟩
  ·simp at h
def ac3 (r:V×Int) (w:World) (e:Ending) (w':World):Prop:=∃(ka:aq) (kc:Nat) (la:aq) (lc:Nat),e= .returned (.tuple #[r.1.val ka kc la lc, .int .i64 r.2])/\r.1.In w' (fun b=>w.heap.size<=b) ka kc la lc/\Ext w w'
theorem cZ.ac4 {w wr:World} (h:cZ w) (hx:Ext w wr) {r:Nat} (hr:w.heap.size<=r):uj r wr:=fun w' hb=>h.ext (Below.trans hx (Below.mono hb hr))
theorem ac5 (s:ah) (w:World) (hm:s.size<=1099511627776) (hl:cZ w):Calls prog 48 #[.string s] w (ac3 (dX s.data.toList) w):=by
 have hsl:s.data.toList.length=s.size:=Array.length_toList;by_cases hlo:2000<s.size
 ·have Hp:=ae (show dX s.data.toList=(V.zero,2) by unfold dX;rw [if_pos (by omega)])
  clear hsl;go_enter func48,ntmps48;go_wp2_with fail;refine aG (h:= ?_);rw [Hp.out];exact⟨none,0,none,0,rfl,V.nX _ _,Xt⟩
 ·have DJ:¬2000<s.data.toList.length:=by omega
  have TU:=ae DJ;clear DJ hsl;go_enter func48,ntmps48;go_upto_region 4 with fail
  refine aI (R:=fun wx=>aN wx w.heap.size/\Sr wx (w.heap.size+1) s false/\Ext w wx) ⟨aj,iw,Xt⟩ ?_;rintro wa ⟨hB,hr,aF⟩;have ahp:=hr.lt;go_wp2_with fail;(refine(acU 12 (by omega) (w.heap.size+1) 1 s false _ rfl (fun h=>by cases h) (by omega) hr (hl.ac4 aF (by omega))).mono ?_);rintro e w1 ⟨h1,v,ka,kc,la,lc,s1,MQ,rfl,fA,hr1,dF⟩;have ai:=af.rd h1 hB (by omega);have hx1:Ext w w1:=Below.trans aF (Below.mono h1.below (by omega));have hz1:=h1.size;have og:=ae (show v.In w1 (fun b=>w.heap.size+2<=b) ka kc la lc from fA.mono fun b hb _=>by omega);have gJ:=ae dF;clear dF fA h1 hB hr;go_upto_region 5 with fail
  refine aI (R:=fun wx=>aN wx w.heap.size/\Sr wx (w.heap.size+1) s1 MQ/\aD wx w1.heap.size v ka kc la lc/\v.In wx (fun b=>w.heap.size+2<=b) ka kc la lc/\Ext w wx) ⟨aj,iw,aj,og.out.ext Xt,Xt⟩ ?_;clear ai hr1 og hx1;rintro wb ⟨ag,mD,rM,xq,aP⟩;have lG:=ae xq;clear xq;go_wp2_with fail;(refine(Bc (w.heap.size+1) s1 MQ _ mD).mono ?_);rintro e w2 ⟨rfl,⟨s2,hs2,hr2⟩,h2⟩;have ag:=af.rd h2 ag (by omega);have rM:=af.rd h2 rM (by omega);have hx2:Ext w w2:=Below.trans aP (Below.mono h2.below (by omega));have cE:=ae (In.rd h2 lG.out (fun b h=>by omega));have jz:=ae hs2;clear hs2 h2 mD lG aP;obtain⟨hc0,aw,hl0⟩:=ag.see;obtain⟨hcv,y8,hlv⟩:=rM.see;have hcr:=hr2.cells;have ov:=hr2.free;have hlr:=hr2.lt
  cases MQ with
  |true=>
   have Hp:=ae (ac0 TU.out (by rcases gJ.out with⟨h,-⟩|⟨-,-,h⟩;cases h;exact h));go_wp2_with fail;refine aG (h:= ?_);rw [Hp.out];exact⟨none,0,none,0,rfl,V.nX _ _,Xt⟩
  |false=>
   have hval:bJ 12 s.data.toList=some (v,s1.data.toList):=by rcases gJ.out with⟨-,h⟩|⟨h,-⟩;exact h;cases h
   have hvs:v.size<=1073741824:=by have h1:=K0 12 _ _ hval;have h2:s.data.toList.length=s.size:=Array.length_toList;simp only at h1;omega
   have nz:=ae (acZ TU.out hval);clear hval gJ;by_cases he:s2.data.toList= []
   ·have hz1:s2.toList= []:=by rw [ByteArray.toList_eq,he]
    have hz2:(s2.toList== [])=true:=by rw [hz1];rfl
    have hz3:s2.toList.isEmpty=true:=by rw [hz1];rfl
    have ij:(s2.toList != [])=false:=by rw [hz1];rfl
    have fX:(!s2.toList.isEmpty)=false:=by rw [hz3];rfl
    have He:=ae (jz.out.symm.trans he);clear he;go_wp2_with fail;(refine(df v ka kc la lc _ _ hvs (cE.out.ext Xt)).mono ?_);rintro e w3 ⟨rfl,h3⟩;have bK:=af.ext h3 ag;have ac6:=af.ext h3 rM;have hx3:Ext w w3:=Xt;have bN:=ae (V.In.ext (w':=w3) cE.out Xt);clear hc0 aw hl0 hcv y8 hlv;clear h3 ag rM hx2 cE;obtain⟨hc0,aw,hl0⟩:=bK.see;obtain⟨hcv,y8,hlv⟩:=ac6.see
    cases hf:v.fine with
    |true=>
     have Hp:=ae (show dX s.data.toList=(v,0) by rw [nz.out,if_pos ⟨He.out,hf⟩]);clear hf;go_wp2_with fail;refine aG (h:= ?_);rw [Hp.out];exact⟨ka,kc,la,lc,rfl,bN.out.keep (Held.kept (a:=w3) (T:=fun b=>w.heap.size+2<=b) aC) (fun b hb _=>by omega),Xt⟩
    |false=>
     have Hp:=ae (show dX s.data.toList=(V.zero,1) by rw [nz.out,if_neg (fun h=>by rw [hf] at h;exact absurd h.2 (by decide))]);clear hf;go_wp2_with fail;refine aG (h:= ?_);rw [Hp.out];exact⟨none,0,none,0,rfl,V.nX _ _,Xt⟩
   ·have hz1:¬s2.toList= []:=by rw [ByteArray.toList_eq];exact he
    have hz3:s2.toList.isEmpty=false:=by cases h:s2.toList with|nil=>exact absurd h hz1|cons=>rfl
    have hz2:(s2.toList== [])=false:=by simpa using hz1
    have ij:(s2.toList != [])=true:=by simpa using hz1
    have fX:(!s2.toList.isEmpty)=true:=by rw [hz3];rfl
    have Hp:=ae (show dX s.data.toList=(V.zero,1) by rw [nz.out,if_neg (fun h=>he (jz.out.trans h.1))]);clear he;go_wp2_with fail;refine aG (h:= ?_);rw [Hp.out];exact⟨none,0,none,0,rfl,V.nX _ _,Xt⟩
end Go.Proofs.YtlcebdaghmdkeaaGreatDoor
