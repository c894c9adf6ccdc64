import Derived.StillTailTactics
import Derived.Test.YtlcebdaghmdkeabGreatDoorM27
set_option linter.all false
set_option maxRecDepth 100000
set_option maxHeartbeats 64000000
namespace Go.Proofs.YtlcebdaghmdkeabGreatDoor
open Go.Proofs.Tryz
open Go.RowKit
attribute [local go_sem↓] Go.wp_at_zero Go.wp_at_succ
theorem StepsIn.held {T:aw} {w w':World} {a:aq} {xs:List (Int×Int)} (h:StepsIn w a xs) (hb:∀p:Addr,a=some p->T p.block) (k:Held T w w'):StepsIn w' a xs:=by
 rcases h with h|⟨b,o,rfl,hc⟩
 ·exact .inl h
 ·have hb:=hb ⟨b,o,none⟩ rfl
  exact .inr ⟨b,o,rfl,fun i hi=>⟨k.kept.cell (p:=⟨b,o+i*2,none⟩) hb (hc i hi).1,k.kept.cell (p:=⟨b,o+i*2+1,none⟩) hb (hc i hi).2⟩⟩
theorem dX.lay {w w':World} {P:aw} {r g c:Nat} {s:Sv} {v:Value} {xs:List Value} (hv:v= .slice (some ⟨g,0,none⟩) s.az.length c) (h:dX w P r s v xs) (hu:aQ (fun b=>b≠r) w w') {TG:Int} (hB:af w' r #[v, .int .i64 s.time, .int .i64 TG, .int .i64 s.acts] 74) {k:Nat} (hk:k<s.az.length) (t:Th)
 {ka:aq} {kc:Nat} {la:aq} {lc:Nat} {oa:aq} {oc:Nat} (ht:kZ w (fun b=>P b/\b≠r/\v.ownBlock≠some b) t ka kc la lc oa oc):
 dX (w'.setCells g (k*15) (t.cells ka kc la lc oa oc)) P r {s with az:=s.az.set k t,last:=TG} v (xs.take (k*15)++t.cells ka kc la lc oa oc++xs.drop ((k+1)*15)):=by
 subst hv;have hrow:=h.row g rfl;have hk1:Kept (fun b=>P b/\b≠r/\ (Value.slice (some ⟨g,0,none⟩) s.az.length c).ownBlock≠some b) w (w'.setCells g (k*15) (t.cells ka kc la lc oa oc)):=fun b hb hl=>by have:=(Held.jx (T:=fun b=>b≠g) (Held.refl _ w') (fun h=>h rfl) (k*15) (t.cells ka kc la lc oa oc)).block b (fun e=>hb.2.2 (by rw [e];rfl)) (Nat.lt_of_lt_of_le hl hu.size);rw [this];exact hu.block b hb.2.1 hl
 refine⟨hB.mG (fun e=>hrow.2 e.symm) _ _,h.pr,?_,h.row,?_⟩
 ·have ho:=dL h.own (w':=w') (fun b hb he=>hu.block b (h.row b he).2 hb)
  have:=AJ (o:=k*15) (cs:=t.cells ka kc la lc oa oc) ho (by rw [Th.tG];omega);rw [Th.tG,show k*15+15=(k+1)*15 by omega] at this;simpa using this
 ·have:=(h.cells.keep hk1 (fun _ h _=>h)).ins k (k+1) (ht.keep hk1 (fun _ h _=>h))
  rwa [show s.az.take k++t::s.az.drop (k+1)=s.az.set k t by rw [List.set_eq_take_append_cons_drop,if_pos hk]] at this
theorem Tk (P:aw) (r:Nat) (s:Sv) (v:Value) (xs:List Value) (k:Nat) (t:Th) (x:V) (kb:aq) (kd:Nat) (lb:aq) (ld:Nat) (m:List Ow) (ob:aq) (od:Nat) (w:World) (gi:dX w P r s v xs) (hk:k<s.az.length) (ht:s.az[k]=t)
 (hin:x.In w (fun b=>P b/\b≠r/\v.ownBlock≠some b) kb kd lb ld) (hok:aM ob m.length od) (how:cj w (fun b=>P b/\b≠r/\v.ownBlock≠some b) m ob)
 (hz:t.v.size<=1073741824) (bF:x.size<=1073741824) (Ad:cF m<=2097152) (hb:s.az.length<=1073741824) (hl0:0<=s.last) (ay:s.last<=1099511627776) (hg0:0<=t.gen) (hg1:t.gen<=1099511627776):
 Calls prog 59 #[.pointer (some ⟨r,0,none⟩), .int .i64 k,x.val kb kd lb ld, .slice ob m.length od] w (Gp P r (oU s k t x m) w):=by
 obtain⟨g,c,ka,kc,la,lc,oa,oc,hv,hg,hgr,uQ,hnc,hcs,hti⟩:=gi.thing hk;rw [ht] at hcs hti;have ag:=gi.box;have hlr:=ag.lt;have eV:=ae gi.old;have aH:=ae (hin.mono (T:=fun b=>(P b/\b<w.heap.size)/\b≠r/\v.ownBlock≠some b) fun b h hl=>⟨⟨h.1,hl⟩,h.2⟩);have How:=ae (how.mono (T:=fun b=>(P b/\b<w.heap.size)/\b≠r/\v.ownBlock≠some b) fun b h hl=>⟨⟨h.1,hl⟩,h.2⟩);have Htv:=ae hti.v;have Mj:=ae hti.ows;have eK:=ae hok;have Hc:=ae hcs;have Ht:=ae ht;have y5:=ae uQ;have AO:=ae gi.pr;have Hv:=ae hv;have tY:=vw m;obtain⟨sp,hsp⟩:∃sp,dD x=sp:=⟨_,rfl⟩;have qy:=ae hsp;have hxl:(ia sp).length<=9223372036854775807:=by have:=Mk x;rw [hsp] at this;omega
 clear gi hcs hti ht hsp hin how hok uQ;subst hv;go_enter func59,ntmps59;obtain⟨d0,d1,d2,d3,d4,d5,d6,d7,d8,d9,d10,d11,d12,d13,d14⟩:=AP Hc.out;obtain⟨hc0,ax,hl0⟩:=ag.see;go_upto_region 2 with fail
 refine aI (R:=fun wx=>aC wx w.heap.size x kb kd lb ld/\iU wx (w.heap.size+1)/\lG wx (w.heap.size+1+1) t ka kc la lc oa oc/\Ext w wx) ⟨aj,aj,aj,Xt⟩ ?_;have iD:=ag;clear ag hc0 ax hl0 d0 d1 d2 d3 d4 d5 d6 d7 d8 d9 d10 d11 d12 d13 d14;rintro wa ⟨hA,hR,hT,aD⟩;have Ma:=hT.lt;obtain⟨jH,jI,hlA⟩:=hA.see;go_wp2_with fail;(refine(LV x kb kd lb ld _ _ bF (aH.out.ext Xt)).mono ?_);rintro e w1 y8;rw [qy.out] at y8;obtain⟨a1,n1,c1,rfl,y9,oK,hab,h1⟩:=uK.val y8;have hz2:=h1.size;have hA:=af.ext h1 hA;have hR:=af.ext h1 hR;have hT:=af.ext h1 hT;have TH:∀p:Addr,a1=some p->w.heap.size+3<=p.block:=fun p hp=>Nat.le_trans Ma (hab p hp);have Ml:=ae TH;have hx1:Ext w w1:=Xt;clear y8 hab TH jH jI hlA;go_upto_region 3 with fail
 refine aI (R:=fun wx=>aC wx w.heap.size x kb kd lb ld/\iU wx (w.heap.size+1)/\lG wx (w.heap.size+1+1) t ka kc la lc oa oc/\af wx w1.heap.size #[.string (mN sp), .slice a1 n1 c1] 50/\StepsIn wx a1 (ia sp)/\Ext w wx) ⟨aj,aj,aj,aj,oK.ext Xt,Xt⟩ ?_;clear hA hR hT oK h1 hx1 aD;rintro wb ⟨hA,hR,hT,hS,hst,aO⟩;have aP:=ae hst;clear hst
 cases sp with
 |none=>
  have he:(yS none !=0)=true:=rfl;have gU:=ae (show oU s k t x m=(s, .no 1) by unfold oU;rw [if_pos qy.out]);have hup:aQ (fun b=>¬P b) w wb:=aO.upd _;obtain⟨hcR,jG,eD⟩:=hR.see;go_wp2_with fail;refine aF (h:= ?_);rw [gU.out];exact⟨rfl,⟨_,_,((eV.out.ext aO).keep ((Held.kept (T:=fun b=>b<w.heap.size) aB).mono fun b hb=>hb.2)).mono fun b hb=> .inl hb.1⟩,gD⟩
 |some p=>
  obtain⟨im,sx⟩:=p;have he:(yS (some (im,sx)) !=0)=false:=rfl;obtain⟨er,DB⟩:∃er,yS (some (im,sx))=er:=⟨_,rfl⟩;rw [DB] at he⊢;clear DB;have aP:=ae (show StepsIn wb a1 sx from aP.out);have hxl:sx.length<=9223372036854775807:=hxl;have y9:sx.length=n1:=y9;have hS:af wb w1.heap.size #[.string im, .slice a1 n1 c1] 50:=hS;obtain⟨ot,Gu⟩:∃b,t.other x=b:=⟨_,rfl⟩;obtain⟨tn,htn⟩:∃b,t.turn x m=b:=⟨_,rfl⟩;obtain⟨lW,Mm⟩:∃z,(if tn then s.last+1 else t.ver)=z:=⟨_,rfl⟩;obtain⟨wT,hlast⟩:∃z,(if tn then s.last+1 else s.last)=z:=⟨_,rfl⟩;obtain⟨oh,Mn⟩:∃z,(if ot then t.gen+1 else t.gen)=z:=⟨_,rfl⟩;obtain⟨⟨x',er'⟩,hnx⟩:∃z,fy im sx t.st s.time 0=z:=⟨_,rfl⟩
  have gU:=ae (show oU s k t x m=({s with az:=s.az.set k ⟨t.name,x,m,lW,oh,x'⟩,last:=wT}, .num lW) by
   unfold oU Th.kept;rw [if_neg (by rw [qy.out];simp),Gu,htn,Mm,hlast,Mn,qy.out]
   simp only [mN,ia,hnx])
  have TI:=ae Gu;have Htn:=ae htn;have TJ:=ae Mm;have TK:=ae hlast;have TL:=ae Mn;have qY:=ae hnx;have TM:=ae (show tn=(ot|| !wU m t.ows) by rw [<-htn,<-Gu];rfl);clear Gu htn Mm hlast Mn hnx;go_upto_region 6 with fail
  go_cut [13] (fun s13 wx=>s13= .bool ot/\aC wx w.heap.size x kb kd lb ld/\iU wx (w.heap.size+1)/\lG wx (w.heap.size+1+1) t ka kc la lc oa oc/\af wx w1.heap.size #[.string im, .slice a1 n1 c1] 50/\StepsIn wx a1 sx/\Ext w wx)
  case first=>
   obtain⟨jH,jI,hlA⟩:=hA.see;obtain⟨ie,ig,eZ⟩:=hT.see;by_cases hv:t.ver=0
   ·have hvb:(t.ver==0)=true:=by simpa using hv
    have ho:ot=true:=by rw [<-TI.out];unfold Th.other;rw [hv];rfl
    subst ho;clear hv;go_wp2_with fail
    go_meet
    exact⟨rfl,aj,aj,aj,aj,aP.out.ext Xt,Xt⟩
   ·have hvb:(t.ver==0)=false:=by simpa using hv
    have Ho:=ae (show ot= !x.same t.v by rw [<-TI.out];unfold Th.other;rw [decide_eq_false hv];rfl);clear hv;go_wp2_with fail;(refine(CD x t.v kb kd lb ld _ ka kc la lc _ _ bF hz (aH.out.ext Xt) (Htv.out.ext Xt)).mono ?_);rintro e w2 ⟨rfl,h2⟩;go_wp2_with fail
    go_meet
    exact⟨by rw [Ho.out],af.ext (w:=wb) Xt hA,af.ext (w:=wb) Xt hR,af.ext (w:=wb) Xt hT,af.ext (w:=wb) Xt hS,aP.out.ext Xt,Xt⟩
  case rest=>
   clear hA hR hT hS aO;obtain⟨rfl,hA,hR,hT,hS,hst,hx⟩:=hcut;have aP:=ae hst;clear hst;go_upto_region 7 with fail
   go_cut [48] (fun s48 wx=>s48= .bool tn/\aC wx w.heap.size x kb kd lb ld/\iU wx (w.heap.size+1)/\lG wx (w.heap.size+1+1) t ka kc la lc oa oc/\af wx w1.heap.size #[.string im, .slice a1 n1 c1] 50/\StepsIn wx a1 sx/\Ext w wx)
   case first=>
    obtain⟨ie,ig,eZ⟩:=hT.see
    cases ot with
    |true=>
     obtain rfl:tn=true:=by rw [TM.out];rfl
     go_wp2_with fail
     go_meet
     exact⟨rfl,aj,aj,aj,aj,aP.out.ext Xt,Xt⟩
    |false=>
     go_wp2_with fail;(refine(adU m.length t.ows.length od oc ob oa m t.ows _ _ _ (ae rfl) (ae rfl) (How.out.ext Xt) (Mj.out.ext Xt) (by omega) (ae fun y hy=>by have:=qN hy;omega)).mono ?_);rintro e w2 ⟨bq,rfl,TN,h2⟩
     have Hbq:=ae (show (!bq)=tn by
      rw [TM.out,Bool.false_or];congr 1
      rw [Bool.eq_iff_iff,TN,TP])
     clear TN;go_wp2_with fail
     go_meet
     exact⟨by rw [Hbq.out],af.ext (w:=wc) Xt hA,af.ext (w:=wc) Xt hR,af.ext (w:=wc) Xt hT,af.ext (w:=wc) Xt hS,aP.out.ext Xt,Xt⟩
   case rest=>
    clear hA hR hT hS hx;obtain⟨rfl,hA,hR,hT,hS,hst,hx⟩:=hcut;have aP:=ae hst;clear hst;have ag:=af.ext hx iD;have hu:aQ (fun b=>b≠r) w wc:=hx.upd _;clear hx;go_upto_if 48 with fail
    go_cut [] (fun wx=>aC wx w.heap.size x kb kd lb ld/\iU wx (w.heap.size+1)/\af wx (w.heap.size+1+1) #[.string t.name, .int .i64 t.v.k, .int .i64 t.v.n, .string t.v.s, .slice ka t.v.keys.length kc, .slice la t.v.l.length lc, .slice oa t.ows.length oc, .int .i64 lW, .int .i64 t.gen, .string t.st.sb, .string t.st.cm, .int .i64 t.st.ph, .int .i64 t.st.sp, .int .i64 t.st.wt, .int .i64 t.st.si] 41/\af wx w1.heap.size #[.string im, .slice a1 n1 c1] 50/\StepsIn wx a1 sx/\af wx r #[.slice (some ⟨g,0,none⟩) s.az.length c, .int .i64 s.time, .int .i64 wT, .int .i64 s.acts] 74/\aQ (fun b=>b≠r) w wx)
    case first=>
     obtain⟨ie,ig,eZ⟩:=hT.see;obtain⟨hc0,ax,hl0⟩:=ag.see
     cases tn with
     |true=>
      obtain rfl:lW=s.last+1:=by rw [<-TJ.out];rfl
      obtain rfl:wT=s.last+1:=by rw [<-TK.out];rfl
      go_wp2_with fail
      go_meet
      exact⟨bk,bk,bk,bk,aP.out.held Ml.out aB,bk,gD⟩
     |false=>
      obtain rfl:lW=t.ver:=by rw [<-TJ.out];rfl
      obtain rfl:wT=s.last:=by rw [<-TK.out];rfl
      go_wp2_with fail
      go_meet
      exact⟨hA,hR,hT,hS,aP.out,ag,hu⟩
    case rest=>
     clear hA hR hT hS ag hu;obtain⟨hA,hR,hT,hS,hst,ag,hu⟩:=hcut;have aP:=ae hst;clear hst;go_upto_if 61 with fail
     go_cut [] (fun wx=>aC wx w.heap.size x kb kd lb ld/\iU wx (w.heap.size+1)/\af wx (w.heap.size+1+1) #[.string t.name, .int .i64 t.v.k, .int .i64 t.v.n, .string t.v.s, .slice ka t.v.keys.length kc, .slice la t.v.l.length lc, .slice oa t.ows.length oc, .int .i64 lW, .int .i64 oh, .string t.st.sb, .string t.st.cm, .int .i64 t.st.ph, .int .i64 t.st.sp, .int .i64 t.st.wt, .int .i64 t.st.si] 41/\af wx w1.heap.size #[.string im, .slice a1 n1 c1] 50/\StepsIn wx a1 sx/\af wx r #[.slice (some ⟨g,0,none⟩) s.az.length c, .int .i64 s.time, .int .i64 wT, .int .i64 s.acts] 74/\aQ (fun b=>b≠r) w wx)
     case first=>
      obtain⟨ie,ig,eZ⟩:=hT.see
      cases ot with
      |true=>
       obtain rfl:oh=t.gen+1:=by rw [<-TL.out];rfl
       go_wp2_with fail
       go_meet
       exact⟨bk,bk,bk,bk,aP.out.held Ml.out aB,bk,gD⟩
      |false=>
       obtain rfl:oh=t.gen:=by rw [<-TL.out];rfl
       go_wp2_with fail
       go_meet
       exact⟨hA,hR,hT,hS,aP.out,ag,hu⟩
     case rest=>
      clear hA hR hT hS ag hu;obtain⟨hA,hR,hT,hS,hst,ag,hu⟩:=hcut;have aP:=ae hst;clear hst;obtain⟨jH,jI,hlA⟩:=hA.see;obtain⟨ie,ig,eZ⟩:=hT.see;go_upto_region 13 with fail
      refine aI (R:=fun wx=>aC wx w.heap.size x kb kd lb ld/\iU wx (w.heap.size+1)/\af wx (w.heap.size+1+1) #[.string t.name, .int .i64 x.k, .int .i64 x.n, .string x.s, .slice kb x.keys.length kd, .slice lb x.l.length ld, .slice ob m.length od, .int .i64 lW, .int .i64 oh, .string t.st.sb, .string t.st.cm, .int .i64 t.st.ph, .int .i64 t.st.sp, .int .i64 t.st.wt, .int .i64 t.st.si] 41/\af wx w1.heap.size #[.string im, .slice a1 n1 c1] 50/\StepsIn wx a1 sx/\af wx r #[.slice (some ⟨g,0,none⟩) s.az.length c, .int .i64 s.time, .int .i64 wT, .int .i64 s.acts] 74/\aQ (fun b=>b≠r) w wx) ⟨bk,bk,bk,bk,aP.out.held Ml.out aB,bk,gD⟩ ?_;clear hA hR hT hS ag hu aP jH jI hlA ie ig eZ;rintro wd ⟨hA,hR,hT,hS,hst,ag,hu⟩;have aP:=ae hst;clear hst;have eZ:=hT.lt
      go_cut [] (fun wx=>iU wx (w.heap.size+1)/\af wx (w.heap.size+1+1) #[.string t.name, .int .i64 x.k, .int .i64 x.n, .string x.s, .slice kb x.keys.length kd, .slice lb x.l.length ld, .slice ob m.length od, .int .i64 lW, .int .i64 oh, .string x'.sb, .string x'.cm, .int .i64 x'.ph, .int .i64 x'.sp, .int .i64 x'.wt, .int .i64 x'.si] 41/\af wx r #[.slice (some ⟨g,0,none⟩) s.az.length c, .int .i64 s.time, .int .i64 wT, .int .i64 s.acts] 74/\aQ (fun b=>b≠r) w wx)
      case first=>
       have au:∀w',Ext wd w'-> (w'.cell? ⟨w1.heap.size,0,none⟩=some (.string im)/\w'.cell? ⟨w1.heap.size,1,none⟩=some (.slice a1 n1 c1)/\w'.cell? ⟨w.heap.size+1+1,9,none⟩=some (.string t.st.sb)/\w'.cell? ⟨w.heap.size+1+1,10,none⟩=some (.string t.st.cm)/\w'.cell? ⟨w.heap.size+1+1,11,none⟩=some (.int .i64 t.st.ph)/\w'.cell? ⟨w.heap.size+1+1,12,none⟩=some (.int .i64 t.st.sp)/\w'.cell? ⟨w.heap.size+1+1,13,none⟩=some (.int .i64 t.st.wt)/\w'.cell? ⟨w.heap.size+1+1,14,none⟩=some (.int .i64 t.st.si)/\w'.cell? ⟨r,1,none⟩=some (.int .i64 s.time)):=
        fun w' e=>⟨e.cell (hS.cells 0),e.cell (hS.cells 1),e.cell (hT.cells 9),e.cell (hT.cells 10),e.cell (hT.cells 11),e.cell (hT.cells 12),e.cell (hT.cells 13),e.cell (hT.cells 14),e.cell (ag.cells 1)⟩
       refine fC au (c:=12) (by kernel_rfl) ?_;refine aG 0 [12] (hS:=au _ Xt) (h:= ?_);refine aG 1 [12] (hS:=au _ Xt) (h:= ?_);refine aG 2 [12] (hS:=au _ Xt) (h:= ?_);refine aG 3 [12] (hS:=au _ Xt) (h:= ?_);refine aG 4 [12] (hS:=au _ Xt) (h:= ?_);refine aG 5 [12] (hS:=au _ Xt) (h:= ?_);refine aG 6 [12] (hS:=au _ Xt) (h:= ?_);(try simp only [rl]);refine aL 7 (h:=fun K hK=> ?_);(try simp only [rl]);(try go_simp);(refine(LH qY.out _ hxl (aP.out.ext Xt) y9.symm).mono ?_);rintro e w2 ⟨rfl,h2⟩;(try go_simp);have hx2:Ext wd w2:=Xt;have bQ:=af.ext hx2 hR;have qo:=af.ext hx2 hT;have ak:=af.ext hx2 ag;have hu2:aQ (fun b=>b≠r) w w2:=hu.ext hx2;have agl:=qo.lt;refine hK.out _ _ (fun _=>au _ Xt) ?_;clear hK K;refine aG 8 [12] (hS:=au _ Xt) (h:= ?_);refine aG 9 [12] (hS:=au _ Xt) (h:= ?_);(try simp only [rl]);obtain⟨ie,ig,eZ⟩:=qo.see;refine lX (rs:= [10,11]) (by kernel_rfl) (by simp) ?_;refine cL.cons (Array.getElem?_eq_getElem (by decide)) (fun K hK=> ?_) (cL.cons (Array.getElem?_eq_getElem (by decide)) (fun K hK=> ?_) cL.nil)
       · (try simp only [rl])
         go_simp;refine hK.out _ _ (fun _=>au _ Xt) ?_;clear hK K;(try simp only [rl]);refine aL 11 (h:=fun K hK=> ?_);(try simp only [rl]);go_simp;refine hK.out _ _ (fun _=>au _ Xt) ?_;clear hK K;(try simp only [rl]);refine aL 12 (h:=fun K hK=> ?_);(try simp only [rl]);go_simp;refine br hK (h:= ?_);clear hK K;(try simp only [rl]);refine dw (by kernel_rfl) ?_ _;go_wp2_with fail
         go_meet
         exact⟨bk,bk,bk,gD⟩
       · (try simp only [rl])
         go_simp;refine hK.out _ _ (fun _=>au _ Xt) ?_;clear hK K;(try simp only [rl]);refine lX (rs:= [10,12]) (by kernel_rfl) (by simp) ?_;refine cL.cons (Array.getElem?_eq_getElem (by decide)) (fun K hK=> ?_) (cL.cons (Array.getElem?_eq_getElem (by decide)) (fun K hK=> ?_) cL.nil)
         · (try simp only [rl])
           go_simp;refine hK.out _ _ (fun _=>au _ Xt) ?_;clear hK K;(try simp only [rl]);refine aL 12 (h:=fun K hK=> ?_);(try simp only [rl]);go_simp;refine br hK (h:= ?_);clear hK K;(try simp only [rl]);refine dw (by kernel_rfl) ?_ _;go_wp2_with fail
           go_meet
           exact⟨bk,bk,bk,gD⟩
         · (try simp only [rl])
           go_simp;refine br hK (h:= ?_);clear hK K;(try simp only [rl]);refine aL 10 (h:=fun K hK=> ?_);(try simp only [rl]);go_simp;refine br hK (h:= ?_);clear hK K;(try simp only [rl]);refine dw (by kernel_rfl) ?_ _;go_wp2_with fail
           go_meet
           exact⟨bk,bk,bk,gD⟩
      case rest=>
       clear hA hR hT hS ag hu aP eZ;obtain⟨hR,hT,ag,hu⟩:=hcut;have kD:Hid (∀w',Ext wc w'->w'.there g (k*15) 15):=fun w' e=>by have:=TQ (m:=0) (n:=15) (Gv (w:=w) (w':=w) Hc.out Xt) (by rw [Th.tG];omega);intro j hj;have h1:=this j hj;rw [Nat.add_zero] at h1;have h2:=(hu.ext e).block g (fun h=>hgr h) hg;rw [World.cell?_of_block (a:=⟨g,k*15+j,none⟩) h2,World.frozen?_of_block (a:=⟨g,k*15+j,none⟩) h2];exact h1
       have hgl:g<wc.heap.size:=Nat.lt_of_lt_of_le hg hu.size;have TR:=ae (show kZ w (fun b=>(P b/\b<w.heap.size)/\b≠r/\ (Value.slice (some ⟨g,0,none⟩) s.az.length c).ownBlock≠some b) (⟨t.name,x,m,lW,oh,x'⟩:Th) kb kd lb ld ob od from⟨aH.out,eK.out,How.out⟩);obtain⟨ie,ig,eZ⟩:=hT.see;obtain⟨hc0,ax,hl0⟩:=ag.see;go_upto_region 14 with fail
       go_still_tail 7,(by kernel_rfl)
       refine wpList_store_mid rfl 41 _ _ rfl g (k*15) #[.string t.name, .int .i64 x.k, .int .i64 x.n, .string x.s, .slice kb x.keys.length kd, .slice lb x.l.length ld, .slice ob m.length od, .int .i64 lW, .int .i64 oh, .string x'.sb, .string x'.cm, .int .i64 x'.ph, .int .i64 x'.sp, .int .i64 x'.wt, .int .i64 x'.si] (by rfl) (by rfl) (kD.out wc.drew ((Ext.refl _).drew)) Tryz.ad4 (all_oneCell_toArray (Th.Gj (⟨t.name,x,m,lW,oh,x'⟩:Th) kb kd lb ld ob od)) ?_;go_upto_region 15 with fail
       have hup:aQ (fun b=>¬P b) w wc:=hu.mono (fun b hb e=>hb (e▸AO.out));obtain⟨wd,hwd⟩:∃wd,wc.drew.setCells g (k*15) (Th.cells (⟨t.name,x,m,lW,oh,x'⟩:Th) kb kd lb ld ob od)=wd:=⟨_,rfl⟩;have gi:dX wd (fun b=>P b/\b<w.heap.size) r {s with az:=s.az.set k ⟨t.name,x,m,lW,oh,x'⟩,last:=wT} (.slice (some ⟨g,0,none⟩) s.az.length c) (xs.take (k*15)++Th.cells (⟨t.name,x,m,lW,oh,x'⟩:Th) kb kd lb ld ob od++xs.drop ((k+1)*15)):=by rw [<-hwd];exact dX.lay rfl eV.out hu.drew ag.drew hk _ TR.out
       have bQ:=hR.drew.mG (g:=g) (by omega) (k*15) (Th.cells (⟨t.name,x,m,lW,oh,x'⟩:Th) kb kd lb ld ob od);have qo:=hT.drew.mG (g:=g) (by omega) (k*15) (Th.cells (⟨t.name,x,m,lW,oh,x'⟩:Th) kb kd lb ld ob od);have qu:=hup.drew.sets (g:=g) (fun h=>absurd y5.out h) (k*15) (Th.cells (⟨t.name,x,m,lW,oh,x'⟩:Th) kb kd lb ld ob od);rw [hwd] at bQ qo qu;refine aI (R:=fun wy=>wy=wd) hwd ?_;clear hwd hR hT ag hu hup hgl kD TR ie ig eZ hc0 ax hl0;rintro wy rfl;have qx:=ae gi;clear gi;obtain⟨hcR,jG,eD⟩:=bQ.see;obtain⟨ie,ig,eZ⟩:=qo.see;go_wp2_with fail;refine aF (h:= ?_);rw [gU.out];exact⟨rfl,⟨_,_,(qx.out.keep ((Held.kept (T:=fun b=>b<w.heap.size) aB).mono fun b hb=>hb.2)).mono fun b hb=> .inl hb.1⟩,gD⟩
end Go.Proofs.YtlcebdaghmdkeabGreatDoor
