import Derived.StillTailTactics
import Derived.Test.YtlcebdaghmdkeabGreatDoorZ20
import Derived.Test.YtlcebdaghmdkeabGreatDoorZ35
set_option linter.all false
set_option maxRecDepth 100000
set_option maxHeartbeats 64000000
namespace Go.Proofs.YtlcebdaghmdkeabGreatDoor
open Go.Proofs.Tryz
open Go.RowKit
attribute [local go_sem↓] Go.wp_at_zero Go.wp_at_succ
theorem StepsIn.held {T:az} {w w':World} {a:au} {xs:List (Int×Int)} (h:StepsIn w a xs) (hb:∀p:Addr,a=some p->T p.block) (k:Held T w w'):StepsIn w' a xs:=by
 rcases h with h|⟨b,o,rfl,hc⟩
 ·exact .inl h
 ·have hb:=hb ⟨b,o,none⟩ rfl
  exact .inr ⟨b,o,rfl,fun i hi=>⟨k.kept.cell (p:=⟨b,o+i*2,none⟩) hb (hc i hi).1,k.kept.cell (p:=⟨b,o+i*2+1,none⟩) hb (hc i hi).2⟩⟩
theorem ey.lay {w w':World} {P:az} {r g c:Nat} {s:Sv} {v:Value} {xs:List Value} (hv:v= .slice (some ⟨g,0,none⟩) s.ax.length c) (h:ey w P r s v xs) (hu:aT (fun b=>b≠r) w w') {Vb:Int} (hB:af w' r #[v, .int .i64 s.time, .int .i64 Vb, .int .i64 s.acts] 74) {k:Nat} (hk:k<s.ax.length) (t:Th)
 {ka:au} {kc:Nat} {la:au} {lc:Nat} {oa:au} {oc:Nat} (ht:ji w (fun b=>P b/\b≠r/\v.ownBlock≠some b) t ka kc la lc oa oc):
 ey (w'.setCells g (k*15) (t.cells ka kc la lc oa oc)) P r {s with ax:=s.ax.set k t,last:=Vb} v (xs.take (k*15)++t.cells ka kc la lc oa oc++xs.drop ((k+1)*15)):=by
 subst hv;have hrow:=h.row g rfl;have hk1:Kept (fun b=>P b/\b≠r/\ (Value.slice (some ⟨g,0,none⟩) s.ax.length c).ownBlock≠some b) w (w'.setCells g (k*15) (t.cells ka kc la lc oa oc)):=fun b hb hl=>by have:=(Held.gh (T:=fun b=>b≠g) (Held.refl _ w') (fun h=>h rfl) (k*15) (t.cells ka kc la lc oa oc)).block b (fun e=>hb.2.2 (by rw [e];rfl)) (Nat.lt_of_lt_of_le hl hu.size);rw [this];exact hu.block b hb.2.1 hl
 refine⟨hB.nj (fun e=>hrow.2 e.symm) _ _,h.pr,?_,h.row,?_⟩
 ·have ho:=dX h.own (w':=w') (fun b hb he=>hu.block b (h.row b he).2 hb)
  have:=Iq (o:=k*15) (cs:=t.cells ka kc la lc oa oc) ho (by rw [Th.x8];omega);rw [Th.x8,show k*15+15=(k+1)*15 by omega] at this;simpa using this
 ·have:=(h.cells.keep hk1 (fun _ h _=>h)).ins k (k+1) (ht.keep hk1 (fun _ h _=>h))
  rwa [show s.ax.take k++t::s.ax.drop (k+1)=s.ax.set k t by rw [List.set_eq_take_append_cons_drop,if_pos hk]] at this
theorem UY (P:az) (r:Nat) (s:Sv) (v:Value) (xs:List Value) (k:Nat) (t:Th) (x:V) (kb:au) (kd:Nat) (lb:au) (ld:Nat) (m:List Ow) (ob:au) (od:Nat) (w:World) (fR:ey w P r s v xs) (hk:k<s.ax.length) (ht:s.ax[k]=t)
 (hin:x.In w (fun b=>P b/\b≠r/\v.ownBlock≠some b) kb kd lb ld) (hok:aM ob m.length od) (how:cx w (fun b=>P b/\b≠r/\v.ownBlock≠some b) m ob)
 (hz:t.v.size<=1073741824) (bL:x.size<=1073741824) (Be:cw m<=2097152) (hb:s.ax.length<=1073741824) (hl0:0<=s.last) (ay:s.last<=1099511627776) (hg0:0<=t.gen) (hg1:t.gen<=1099511627776):
 Calls prog 59 #[.pointer (some ⟨r,0,none⟩), .int .i64 k,x.val kb kd lb ld, .slice ob m.length od] w (Ik P r (pK s k t x m) w):=by
 obtain⟨g,c,ka,kc,la,lc,oa,oc,hv,hg,hgr,vX,hnc,hcs,hti⟩:=fR.thing hk;rw [ht] at hcs hti;have ag:=fR.box;have hlr:=ag.lt;have fx:=ae fR.old;have aJ:=ae (hin.mono (T:=fun b=>(P b/\b<w.heap.size)/\b≠r/\v.ownBlock≠some b) fun b h hl=>⟨⟨h.1,hl⟩,h.2⟩);have How:=ae (how.mono (T:=fun b=>(P b/\b<w.heap.size)/\b≠r/\v.ownBlock≠some b) fun b h hl=>⟨⟨h.1,hl⟩,h.2⟩);have Htv:=ae hti.v;have ND:=ae hti.ows;have dN:=ae hok;have Hc:=ae hcs;have Ht:=ae ht;have zV:=ae vX;have BI:=ae fR.pr;have Hv:=ae hv;have yF:=tQ m;obtain⟨sp,hsp⟩:∃sp,dx x=sp:=⟨_,rfl⟩;have rC:=ae hsp;have hxl:(gZ sp).length<=9223372036854775807:=by have:=NF x;rw [hsp] at this;omega
 clear fR hcs hti ht hsp hin how hok vX;subst hv;go_enter func59,ntmps59;obtain⟨d0,d1,d2,d3,d4,d5,d6,d7,d8,d9,d10,d11,d12,d13,d14⟩:=BJ Hc.out;obtain⟨hc0,aw,hl0⟩:=ag.see;go_upto_region 2 with fail
 refine aI (R:=fun wx=>aD wx w.heap.size x kb kd lb ld/\jm wx (w.heap.size+1)/\fu wx (w.heap.size+1+1) t ka kc la lc oa oc/\Ext w wx) ⟨aj,aj,aj,Xt⟩ ?_;have iN:=ag;clear ag hc0 aw hl0 d0 d1 d2 d3 d4 d5 d6 d7 d8 d9 d10 d11 d12 d13 d14;rintro wa ⟨hA,hR,hT,aH⟩;have Nt:=hT.lt;obtain⟨jP,jQ,hlA⟩:=hA.see;go_wp2_with fail;(refine(Ig x kb kd lb ld _ _ bL (aJ.out.ext Xt)).mono ?_);rintro e w1 zX;rw [rC.out] at zX;obtain⟨a1,n1,c1,rfl,zY,pC,hab,h1⟩:=ux.val zX;have hz2:=h1.size;have hA:=af.ext h1 hA;have hR:=af.ext h1 hR;have hT:=af.ext h1 hT;have Vc:∀p:Addr,a1=some p->w.heap.size+3<=p.block:=fun p hp=>Nat.le_trans Nt (hab p hp);have NG:=ae Vc;have hx1:Ext w w1:=Xt;clear zX hab Vc jP jQ hlA;go_upto_region 3 with fail
 refine aI (R:=fun wx=>aD wx w.heap.size x kb kd lb ld/\jm wx (w.heap.size+1)/\fu wx (w.heap.size+1+1) t ka kc la lc oa oc/\af wx w1.heap.size #[.string (mD sp), .slice a1 n1 c1] 50/\StepsIn wx a1 (gZ sp)/\Ext w wx) ⟨aj,aj,aj,aj,pC.ext Xt,Xt⟩ ?_;clear hA hR hT pC h1 hx1 aH;rintro wb ⟨hA,hR,hT,hS,hst,aO⟩;have aP:=ae hst;clear hst
 cases sp with
 |none=>
  have he:(xP none !=0)=true:=rfl;have ig:=ae (show pK s k t x m=(s, .no 1) by unfold pK;rw [if_pos rC.out]);have hup:aT (fun b=>¬P b) w wb:=aO.upd _;obtain⟨hcR,jO,eU⟩:=hR.see;go_wp2_with fail;refine aF (h:= ?_);rw [ig.out];exact⟨rfl,⟨_,_,((fx.out.ext aO).keep ((Held.kept (T:=fun b=>b<w.heap.size) aC).mono fun b hb=>hb.2)).mono fun b hb=> .inl hb.1⟩,fy⟩
 |some p=>
  obtain⟨im,sx⟩:=p;have he:(xP (some (im,sx)) !=0)=false:=rfl;obtain⟨er,EP⟩:∃er,xP (some (im,sx))=er:=⟨_,rfl⟩;rw [EP] at he⊢;clear EP;have aP:=ae (show StepsIn wb a1 sx from aP.out);have hxl:sx.length<=9223372036854775807:=hxl;have zY:sx.length=n1:=zY;have hS:af wb w1.heap.size #[.string im, .slice a1 n1 c1] 50:=hS;obtain⟨ot,Ir⟩:∃b,t.other x=b:=⟨_,rfl⟩;obtain⟨tn,htn⟩:∃b,t.turn x m=b:=⟨_,rfl⟩;obtain⟨mG,NH⟩:∃z,(if tn then s.last+1 else t.ver)=z:=⟨_,rfl⟩;obtain⟨x9,hlast⟩:∃z,(if tn then s.last+1 else s.last)=z:=⟨_,rfl⟩;obtain⟨oO,NI⟩:∃z,(if ot then t.gen+1 else t.gen)=z:=⟨_,rfl⟩;obtain⟨⟨x',er'⟩,hnx⟩:∃z,fD im sx t.st s.time 0=z:=⟨_,rfl⟩
  have ig:=ae (show pK s k t x m=({s with ax:=s.ax.set k ⟨t.name,x,m,mG,oO,x'⟩,last:=x9}, .num mG) by
   unfold pK Th.kept;rw [if_neg (by rw [rC.out];simp),Ir,htn,NH,hlast,NI,rC.out]
   simp only [mD,gZ,hnx])
  have Vd:=ae Ir;have Htn:=ae htn;have Iu:=ae NH;have Ve:=ae hlast;have Vf:=ae NI;have rW:=ae hnx;have Vg:=ae (show tn=(ot|| !ya m t.ows) by rw [<-htn,<-Ir];rfl);clear Ir htn NH hlast NI hnx;go_upto_region 6 with fail
  go_cut [13] (fun s13 wx=>s13= .bool ot/\aD wx w.heap.size x kb kd lb ld/\jm wx (w.heap.size+1)/\fu wx (w.heap.size+1+1) t ka kc la lc oa oc/\af wx w1.heap.size #[.string im, .slice a1 n1 c1] 50/\StepsIn wx a1 sx/\Ext w wx)
  case first=>
   obtain⟨jP,jQ,hlA⟩:=hA.see;obtain⟨iB,iC,fE⟩:=hT.see;by_cases hv:t.ver=0
   ·have hvb:(t.ver==0)=true:=by simpa using hv
    have ho:ot=true:=by rw [<-Vd.out];unfold Th.other;rw [hv];rfl
    subst ho;clear hv;go_wp2_with fail
    go_meet
    exact⟨rfl,aj,aj,aj,aj,aP.out.ext Xt,Xt⟩
   ·have hvb:(t.ver==0)=false:=by simpa using hv
    have Ho:=ae (show ot= !x.same t.v by rw [<-Vd.out];unfold Th.other;rw [decide_eq_false hv];rfl);clear hv;go_wp2_with fail;(refine(xq x t.v kb kd lb ld _ ka kc la lc _ _ bL hz (aJ.out.ext Xt) (Htv.out.ext Xt)).mono ?_);rintro e w2 ⟨rfl,h2⟩;go_wp2_with fail
    go_meet
    exact⟨by rw [Ho.out],af.ext (w:=wb) Xt hA,af.ext (w:=wb) Xt hR,af.ext (w:=wb) Xt hT,af.ext (w:=wb) Xt hS,aP.out.ext Xt,Xt⟩
  case rest=>
   clear hA hR hT hS aO;obtain⟨rfl,hA,hR,hT,hS,hst,hx⟩:=hcut;have aP:=ae hst;clear hst;go_upto_region 7 with fail
   go_cut [48] (fun s48 wx=>s48= .bool tn/\aD wx w.heap.size x kb kd lb ld/\jm wx (w.heap.size+1)/\fu wx (w.heap.size+1+1) t ka kc la lc oa oc/\af wx w1.heap.size #[.string im, .slice a1 n1 c1] 50/\StepsIn wx a1 sx/\Ext w wx)
   case first=>
    obtain⟨iB,iC,fE⟩:=hT.see
    cases ot with
    |true=>
     obtain rfl:tn=true:=by rw [Vg.out];rfl
     go_wp2_with fail
     go_meet
     exact⟨rfl,aj,aj,aj,aj,aP.out.ext Xt,Xt⟩
    |false=>
     go_wp2_with fail;(refine(aeZ m.length t.ows.length od oc ob oa m t.ows _ _ _ (ae rfl) (ae rfl) (How.out.ext Xt) (ND.out.ext Xt) (by omega) (ae fun y hy=>by have:=qG hy;omega)).mono ?_);rintro e w2 ⟨bq,rfl,Vh,h2⟩
     have Hbq:=ae (show (!bq)=tn by
      rw [Vg.out,Bool.false_or];congr 1
      rw [Bool.eq_iff_iff,Vh,NJ])
     clear Vh;go_wp2_with fail
     go_meet
     exact⟨by rw [Hbq.out],af.ext (w:=wc) Xt hA,af.ext (w:=wc) Xt hR,af.ext (w:=wc) Xt hT,af.ext (w:=wc) Xt hS,aP.out.ext Xt,Xt⟩
   case rest=>
    clear hA hR hT hS hx;obtain⟨rfl,hA,hR,hT,hS,hst,hx⟩:=hcut;have aP:=ae hst;clear hst;have ag:=af.ext hx iN;have hu:aT (fun b=>b≠r) w wc:=hx.upd _;clear hx;go_upto_if 48 with fail
    go_cut [] (fun wx=>aD wx w.heap.size x kb kd lb ld/\jm wx (w.heap.size+1)/\af wx (w.heap.size+1+1) #[.string t.name, .int .i64 t.v.k, .int .i64 t.v.n, .string t.v.s, .slice ka t.v.keys.length kc, .slice la t.v.l.length lc, .slice oa t.ows.length oc, .int .i64 mG, .int .i64 t.gen, .string t.st.sb, .string t.st.cm, .int .i64 t.st.ph, .int .i64 t.st.sp, .int .i64 t.st.wt, .int .i64 t.st.si] 41/\af wx w1.heap.size #[.string im, .slice a1 n1 c1] 50/\StepsIn wx a1 sx/\af wx r #[.slice (some ⟨g,0,none⟩) s.ax.length c, .int .i64 s.time, .int .i64 x9, .int .i64 s.acts] 74/\aT (fun b=>b≠r) w wx)
    case first=>
     obtain⟨iB,iC,fE⟩:=hT.see;obtain⟨hc0,aw,hl0⟩:=ag.see
     cases tn with
     |true=>
      obtain rfl:mG=s.last+1:=by rw [<-Iu.out];rfl
      obtain rfl:x9=s.last+1:=by rw [<-Ve.out];rfl
      go_wp2_with fail
      go_meet
      exact⟨aQ,aQ,aQ,aQ,aP.out.held NG.out aC,aQ,fy⟩
     |false=>
      obtain rfl:mG=t.ver:=by rw [<-Iu.out];rfl
      obtain rfl:x9=s.last:=by rw [<-Ve.out];rfl
      go_wp2_with fail
      go_meet
      exact⟨hA,hR,hT,hS,aP.out,ag,hu⟩
    case rest=>
     clear hA hR hT hS ag hu;obtain⟨hA,hR,hT,hS,hst,ag,hu⟩:=hcut;have aP:=ae hst;clear hst;go_upto_if 61 with fail
     go_cut [] (fun wx=>aD wx w.heap.size x kb kd lb ld/\jm wx (w.heap.size+1)/\af wx (w.heap.size+1+1) #[.string t.name, .int .i64 t.v.k, .int .i64 t.v.n, .string t.v.s, .slice ka t.v.keys.length kc, .slice la t.v.l.length lc, .slice oa t.ows.length oc, .int .i64 mG, .int .i64 oO, .string t.st.sb, .string t.st.cm, .int .i64 t.st.ph, .int .i64 t.st.sp, .int .i64 t.st.wt, .int .i64 t.st.si] 41/\af wx w1.heap.size #[.string im, .slice a1 n1 c1] 50/\StepsIn wx a1 sx/\af wx r #[.slice (some ⟨g,0,none⟩) s.ax.length c, .int .i64 s.time, .int .i64 x9, .int .i64 s.acts] 74/\aT (fun b=>b≠r) w wx)
     case first=>
      obtain⟨iB,iC,fE⟩:=hT.see
      cases ot with
      |true=>
       obtain rfl:oO=t.gen+1:=by rw [<-Vf.out];rfl
       go_wp2_with fail
       go_meet
       exact⟨aQ,aQ,aQ,aQ,aP.out.held NG.out aC,aQ,fy⟩
      |false=>
       obtain rfl:oO=t.gen:=by rw [<-Vf.out];rfl
       go_wp2_with fail
       go_meet
       exact⟨hA,hR,hT,hS,aP.out,ag,hu⟩
     case rest=>
      clear hA hR hT hS ag hu;obtain⟨hA,hR,hT,hS,hst,ag,hu⟩:=hcut;have aP:=ae hst;clear hst;obtain⟨jP,jQ,hlA⟩:=hA.see;obtain⟨iB,iC,fE⟩:=hT.see;go_upto_region 13 with fail
      refine aI (R:=fun wx=>aD wx w.heap.size x kb kd lb ld/\jm wx (w.heap.size+1)/\af wx (w.heap.size+1+1) #[.string t.name, .int .i64 x.k, .int .i64 x.n, .string x.s, .slice kb x.keys.length kd, .slice lb x.l.length ld, .slice ob m.length od, .int .i64 mG, .int .i64 oO, .string t.st.sb, .string t.st.cm, .int .i64 t.st.ph, .int .i64 t.st.sp, .int .i64 t.st.wt, .int .i64 t.st.si] 41/\af wx w1.heap.size #[.string im, .slice a1 n1 c1] 50/\StepsIn wx a1 sx/\af wx r #[.slice (some ⟨g,0,none⟩) s.ax.length c, .int .i64 s.time, .int .i64 x9, .int .i64 s.acts] 74/\aT (fun b=>b≠r) w wx) ⟨aQ,aQ,aQ,aQ,aP.out.held NG.out aC,aQ,fy⟩ ?_;clear hA hR hT hS ag hu aP jP jQ hlA iB iC fE;rintro wd ⟨hA,hR,hT,hS,hst,ag,hu⟩;have aP:=ae hst;clear hst;have fE:=hT.lt
      go_cut [] (fun wx=>jm wx (w.heap.size+1)/\af wx (w.heap.size+1+1) #[.string t.name, .int .i64 x.k, .int .i64 x.n, .string x.s, .slice kb x.keys.length kd, .slice lb x.l.length ld, .slice ob m.length od, .int .i64 mG, .int .i64 oO, .string x'.sb, .string x'.cm, .int .i64 x'.ph, .int .i64 x'.sp, .int .i64 x'.wt, .int .i64 x'.si] 41/\af wx r #[.slice (some ⟨g,0,none⟩) s.ax.length c, .int .i64 s.time, .int .i64 x9, .int .i64 s.acts] 74/\aT (fun b=>b≠r) w wx)
      case first=>
       have aq:∀w',Ext wd w'-> (w'.cell? ⟨w1.heap.size,0,none⟩=some (.string im)/\w'.cell? ⟨w1.heap.size,1,none⟩=some (.slice a1 n1 c1)/\w'.cell? ⟨w.heap.size+1+1,9,none⟩=some (.string t.st.sb)/\w'.cell? ⟨w.heap.size+1+1,10,none⟩=some (.string t.st.cm)/\w'.cell? ⟨w.heap.size+1+1,11,none⟩=some (.int .i64 t.st.ph)/\w'.cell? ⟨w.heap.size+1+1,12,none⟩=some (.int .i64 t.st.sp)/\w'.cell? ⟨w.heap.size+1+1,13,none⟩=some (.int .i64 t.st.wt)/\w'.cell? ⟨w.heap.size+1+1,14,none⟩=some (.int .i64 t.st.si)/\w'.cell? ⟨r,1,none⟩=some (.int .i64 s.time)):=
        fun w' e=>⟨e.cell (hS.cells 0),e.cell (hS.cells 1),e.cell (hT.cells 9),e.cell (hT.cells 10),e.cell (hT.cells 11),e.cell (hT.cells 12),e.cell (hT.cells 13),e.cell (hT.cells 14),e.cell (ag.cells 1)⟩
       refine fF aq (c:=12) (by kernel_rfl) ?_;refine aG 0 [12] (hS:=aq _ Xt) (h:= ?_);refine aG 1 [12] (hS:=aq _ Xt) (h:= ?_);refine aG 2 [12] (hS:=aq _ Xt) (h:= ?_);refine aG 3 [12] (hS:=aq _ Xt) (h:= ?_);refine aG 4 [12] (hS:=aq _ Xt) (h:= ?_);refine aG 5 [12] (hS:=aq _ Xt) (h:= ?_);refine aG 6 [12] (hS:=aq _ Xt) (h:= ?_);(try simp only [rl]);refine aK 7 (h:=fun K hK=> ?_);(try simp only [rl]);(try go_simp);(refine(M3 rW.out _ hxl (aP.out.ext Xt) zY.symm).mono ?_);rintro e w2 ⟨rfl,h2⟩;(try go_simp);have hx2:Ext wd w2:=Xt;have bW:=af.ext hx2 hR;have rB:=af.ext hx2 hT;have ak:=af.ext hx2 ag;have hu2:aT (fun b=>b≠r) w w2:=hu.ext hx2;have ahE:=rB.lt;refine hK.out _ _ (fun _=>aq _ Xt) ?_;clear hK K;refine aG 8 [12] (hS:=aq _ Xt) (h:= ?_);refine aG 9 [12] (hS:=aq _ Xt) (h:= ?_);(try simp only [rl]);obtain⟨iB,iC,fE⟩:=rB.see;refine lK (rs:= [10,11]) (by kernel_rfl) (by simp) ?_;refine cj.cons (Array.getElem?_eq_getElem (by decide)) (fun K hK=> ?_) (cj.cons (Array.getElem?_eq_getElem (by decide)) (fun K hK=> ?_) cj.nil)
       · (try simp only [rl])
         go_simp;refine hK.out _ _ (fun _=>aq _ Xt) ?_;clear hK K;(try simp only [rl]);refine aK 11 (h:=fun K hK=> ?_);(try simp only [rl]);go_simp;refine hK.out _ _ (fun _=>aq _ Xt) ?_;clear hK K;(try simp only [rl]);refine aK 12 (h:=fun K hK=> ?_);(try simp only [rl]);go_simp;refine bz hK (h:= ?_);clear hK K;(try simp only [rl]);refine cZ (by kernel_rfl) ?_ _;go_wp2_with fail
         go_meet
         exact⟨aQ,aQ,aQ,fy⟩
       · (try simp only [rl])
         go_simp;refine hK.out _ _ (fun _=>aq _ Xt) ?_;clear hK K;(try simp only [rl]);refine lK (rs:= [10,12]) (by kernel_rfl) (by simp) ?_;refine cj.cons (Array.getElem?_eq_getElem (by decide)) (fun K hK=> ?_) (cj.cons (Array.getElem?_eq_getElem (by decide)) (fun K hK=> ?_) cj.nil)
         · (try simp only [rl])
           go_simp;refine hK.out _ _ (fun _=>aq _ Xt) ?_;clear hK K;(try simp only [rl]);refine aK 12 (h:=fun K hK=> ?_);(try simp only [rl]);go_simp;refine bz hK (h:= ?_);clear hK K;(try simp only [rl]);refine cZ (by kernel_rfl) ?_ _;go_wp2_with fail
           go_meet
           exact⟨aQ,aQ,aQ,fy⟩
         · (try simp only [rl])
           go_simp;refine bz hK (h:= ?_);clear hK K;(try simp only [rl]);refine aK 10 (h:=fun K hK=> ?_);(try simp only [rl]);go_simp;refine bz hK (h:= ?_);clear hK K;(try simp only [rl]);refine cZ (by kernel_rfl) ?_ _;go_wp2_with fail
           go_meet
           exact⟨aQ,aQ,aQ,fy⟩
      case rest=>
       clear hA hR hT hS ag hu aP fE;obtain⟨hR,hT,ag,hu⟩:=hcut;have kM:Hid (∀w',Ext wc w'->w'.there g (k*15) 15):=fun w' e=>by have:=Vi (m:=0) (n:=15) (Iw (w:=w) (w':=w) Hc.out Xt) (by rw [Th.x8];omega);intro j hj;have h1:=this j hj;rw [Nat.add_zero] at h1;have h2:=(hu.ext e).block g (fun h=>hgr h) hg;rw [World.cell?_of_block (a:=⟨g,k*15+j,none⟩) h2,World.frozen?_of_block (a:=⟨g,k*15+j,none⟩) h2];exact h1
       have hgl:g<wc.heap.size:=Nat.lt_of_lt_of_le hg hu.size;have Vj:=ae (show ji w (fun b=>(P b/\b<w.heap.size)/\b≠r/\ (Value.slice (some ⟨g,0,none⟩) s.ax.length c).ownBlock≠some b) (⟨t.name,x,m,mG,oO,x'⟩:Th) kb kd lb ld ob od from⟨aJ.out,dN.out,How.out⟩);obtain⟨iB,iC,fE⟩:=hT.see;obtain⟨hc0,aw,hl0⟩:=ag.see;go_upto_region 14 with fail
       go_still_tail 7,(by kernel_rfl)
       refine wpList_store_mid rfl 41 _ _ rfl g (k*15) #[.string t.name, .int .i64 x.k, .int .i64 x.n, .string x.s, .slice kb x.keys.length kd, .slice lb x.l.length ld, .slice ob m.length od, .int .i64 mG, .int .i64 oO, .string x'.sb, .string x'.cm, .int .i64 x'.ph, .int .i64 x'.sp, .int .i64 x'.wt, .int .i64 x'.si] (by rfl) (by rfl) (kM.out wc.drew ((Ext.refl _).drew)) Tryz.ae8 (all_oneCell_toArray (Th.tD (⟨t.name,x,m,mG,oO,x'⟩:Th) kb kd lb ld ob od)) ?_;go_upto_region 15 with fail
       have hup:aT (fun b=>¬P b) w wc:=hu.mono (fun b hb e=>hb (e▸BI.out));obtain⟨wd,hwd⟩:∃wd,wc.drew.setCells g (k*15) (Th.cells (⟨t.name,x,m,mG,oO,x'⟩:Th) kb kd lb ld ob od)=wd:=⟨_,rfl⟩;have fR:ey wd (fun b=>P b/\b<w.heap.size) r {s with ax:=s.ax.set k ⟨t.name,x,m,mG,oO,x'⟩,last:=x9} (.slice (some ⟨g,0,none⟩) s.ax.length c) (xs.take (k*15)++Th.cells (⟨t.name,x,m,mG,oO,x'⟩:Th) kb kd lb ld ob od++xs.drop ((k+1)*15)):=by rw [<-hwd];exact ey.lay rfl fx.out hu.drew ag.drew hk _ Vj.out
       have bW:=hR.drew.nj (g:=g) (by omega) (k*15) (Th.cells (⟨t.name,x,m,mG,oO,x'⟩:Th) kb kd lb ld ob od);have rB:=hT.drew.nj (g:=g) (by omega) (k*15) (Th.cells (⟨t.name,x,m,mG,oO,x'⟩:Th) kb kd lb ld ob od);have ry:=hup.drew.sets (g:=g) (fun h=>absurd zV.out h) (k*15) (Th.cells (⟨t.name,x,m,mG,oO,x'⟩:Th) kb kd lb ld ob od);rw [hwd] at bW rB ry;refine aI (R:=fun wy=>wy=wd) hwd ?_;clear hwd hR hT ag hu hup hgl kM Vj iB iC fE hc0 aw hl0;rintro wy rfl;have rA:=ae fR;clear fR;obtain⟨hcR,jO,eU⟩:=bW.see;obtain⟨iB,iC,fE⟩:=rB.see;go_wp2_with fail;refine aF (h:= ?_);rw [ig.out];exact⟨rfl,⟨_,_,(rA.out.keep ((Held.kept (T:=fun b=>b<w.heap.size) aC).mono fun b hb=>hb.2)).mono fun b hb=> .inl hb.1⟩,fy⟩
end Go.Proofs.YtlcebdaghmdkeabGreatDoor
