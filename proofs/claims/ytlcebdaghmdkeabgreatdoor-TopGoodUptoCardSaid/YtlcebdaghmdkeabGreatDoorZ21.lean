import Derived.Test.YtlcebdaghmdkeabGreatDoorZ8
set_option linter.all false
set_option maxRecDepth 100000
set_option maxHeartbeats 64000000
namespace Go.Proofs.YtlcebdaghmdkeabGreatDoor
open Go.Proofs.Tryz
open Go.RowKit
attribute [local go_sem↓] Go.wp_at_zero Go.wp_at_succ
theorem AB (l:List Ow) (a:au) (c:Nat) (S:az) (w:World) (hsz:cw l<=2097152) (hin:cx w S l a) (hm:fZ w):
 Calls prog 21 #[.slice a l.length c] w fun e w'=>e= .returned (.bool (gU l))/\Ext w w':=by
 have hlen:=tQ l;go_enter func21,ntmps21;go_wp2_with fail
 go_loopg [11] l.length (fun g i wr=>∃k:Nat,k<=l.length/\i= .int .i64 k/\g=l.length-k/\ (∀i (h:i<l.length),i<k->JC l i h)/\Ext w wr)
 case atStart=>exact⟨0,Nat.zero_le _,rfl,rfl,fun i h h0=>absurd h0 (Nat.not_lt_zero _),Xt⟩
 case round=>
  obtain⟨wo,rfl⟩:∃x,x=wr:=⟨_,rfl⟩;obtain⟨k,hk,rfl,rfl,hok,hx⟩:=hrel;have dN:=ae hok;clear hok;by_cases hlt:k<l.length
  ·obtain⟨b,o,rfl,hS,hI⟩:=hin.resolve_left (by intro h;rw [h] at hlt;simp at hlt)
   obtain⟨pa,pc,d0,d1,hsl,hst⟩:=hI k hlt;have HI:=ae hI;have d0:=hx.cell d0;have d1:=hx.cell d1;have hst:=hst.ext hx;have aP:=ae hst;have hos:=qG (List.getElem_mem hlt);have hnz:=Ow.XO l[k];have hpl:=Ow.qH l[k];have rQ:=ae (fun(j:Nat) (h:j<(l[k]).paths.length)=>show ((l[k]).paths[j]).size<=2097152 from by have:=Ow.AE (o:=l[k]) (List.getElem_mem h);omega);have Pn:k=0\/∃m,k=m+1/\∃(h:m<l.length),wo.cell? ⟨b,o+m*2,none⟩=some (.string (l[m]).name):=by
    cases k with
    |zero=>exact .inl rfl
    |succ m=>obtain⟨_,_,e0,-,-,-⟩:=hI m (by omega);exact .inr ⟨m,rfl,by omega,hx.cell e0⟩
   clear hI hst hin;go_upto_region 4 with fail
   refine aI (R:=fun wx=>af wx wo.heap.size #[.string (l[k]).name, .slice pa (l[k]).paths.length pc] 58/\Ext wo wx) ⟨aj,Xt⟩ ?_;rintro wa ⟨hB,aH⟩;have hx1:Ext w wa:=hx.trans aH;have Fk:=aH.size
   cases eF:gK (l[k]).name with
   |false=>
    have ij:=ae eF;clear eF d0 d1 Pn;have aq:∀w',Ext wa w'-> (w'.cell? ⟨wo.heap.size,0,none⟩=some (.string (l[k]).name)/\w'.cell? ⟨wo.heap.size,1,none⟩=some (.slice pa (l[k]).paths.length pc)):=fun w' e=>⟨e.cell (hB.cells 0),e.cell (hB.cells 1)⟩;refine lO aq (by kernel_rfl) (aq _ Xt) (fun hHeld=> ?_);refine aB 0 (h:= ?_);refine aB 1 (h:= ?_);(try simp only [rl]);refine fJ 2 (h:=fun K hK=> ?_);(try simp only [rl]);(try go_simp);(refine(p5 _ _ (by omega)).mono ?_);rw [ij.out];rintro e w4 ⟨rfl,rfl⟩;(try go_simp);refine hK.out _ _ (aq _ Xt) (fun hHeld=> ?_);clear hK K;(try simp only [rl]);refine aB 3 (h:= ?_);refine aB 4 (h:= ?_);refine bV 5 (h:= ?_);refine bV 6 (h:= ?_);refine bV 7 (h:= ?_);refine bV 8 (h:= ?_);refine bV 9 (h:= ?_);refine bV 10 (h:= ?_);refine bV 11 (h:= ?_);refine bV 12 (h:= ?_);refine bV 13 (h:= ?_);refine bV 14 (h:= ?_);refine bV 15 (h:= ?_);refine bV 16 (h:= ?_);refine bV 17 (h:= ?_);refine aB 18 (h:= ?_);refine aB 19 (h:= ?_);refine bV 20 (h:= ?_);refine bV 21 (h:= ?_);refine bV 22 (h:= ?_);refine bV 23 (h:= ?_);refine aB 24 (h:= ?_);(try simp only [rl]);refine wpAnyH_done (by kernel_rfl) ?_ _;go_wp2_with fail;go_ret;exact⟨dv (AG hlt (fun h=>by have:=h.1;rw [ij.out] at this;cases this)).symm,Xt⟩
   |true=>
    have ij:=ae eF;clear eF d0 d1;rcases Pn with rfl|⟨m,rfl,yF,d0⟩
    ·have JD:=ae (show 0<0->bC (l[0-1]'(by omega)).name (l[0]).name=true from fun h=>absurd h (Nat.lt_irrefl _))
     by_cases hpe:(l[0]).paths= []
     ·have hpi:(((l[0]).paths.length:Int)==0)=true:=by rw [hpe];rfl
      have gT:=ae hpe;clear hpe;have aq:∀w',Ext wa w'-> (w'.cell? ⟨wo.heap.size,0,none⟩=some (.string (l[0]).name)/\w'.cell? ⟨wo.heap.size,1,none⟩=some (.slice pa (l[0]).paths.length pc)):=fun w' e=>⟨e.cell (hB.cells 0),e.cell (hB.cells 1)⟩;refine lO aq (by kernel_rfl) (aq _ Xt) (fun hHeld=> ?_);refine aB 0 (h:= ?_);refine aB 1 (h:= ?_);(try simp only [rl]);refine fJ 2 (h:=fun K hK=> ?_);(try simp only [rl]);(try go_simp);(refine(p5 _ _ (by omega)).mono ?_);rw [ij.out];rintro e w4 ⟨rfl,rfl⟩;(try go_simp);refine hK.out _ _ (aq _ Xt) (fun hHeld=> ?_);clear hK K;(try simp only [rl]);refine aB 3 (h:= ?_);refine aB 4 (h:= ?_);refine aB 5 (h:= ?_);refine aB 6 (h:= ?_);refine aB 7 (h:= ?_);refine bV 8 (h:= ?_);refine bV 9 (h:= ?_);refine bV 10 (h:= ?_);refine bV 11 (h:= ?_);refine bV 12 (h:= ?_);refine bV 13 (h:= ?_);refine bV 14 (h:= ?_);refine bV 15 (h:= ?_);refine bV 16 (h:= ?_);refine aB 17 (h:= ?_);refine aB 18 (h:= ?_);refine aB 19 (h:= ?_);refine aB 20 (h:= ?_);refine aB 21 (h:= ?_);refine aB 22 (h:= ?_);refine aB 23 (h:= ?_);refine aB 24 (h:= ?_);(try simp only [rl]);refine wpAnyH_done (by kernel_rfl) ?_ _;go_wp2_with fail;go_ret;exact⟨dv (AG hlt (fun h=>h.2.2.1 gT.out)).symm,Xt⟩
     ·have hpi:(((l[0]).paths.length:Int)==0)=false:=by have:=List.length_pos_iff.2 hpe;simp;omega
      have JE:=ae hpe;clear hpe;have aq:∀w',Ext wa w'-> (w'.cell? ⟨wo.heap.size,0,none⟩=some (.string (l[0]).name)/\w'.cell? ⟨wo.heap.size,1,none⟩=some (.slice pa (l[0]).paths.length pc)):=fun w' e=>⟨e.cell (hB.cells 0),e.cell (hB.cells 1)⟩;refine lO aq (by kernel_rfl) (aq _ Xt) (fun hHeld=> ?_);refine aB 0 (h:= ?_);refine aB 1 (h:= ?_);(try simp only [rl]);refine fJ 2 (h:=fun K hK=> ?_);(try simp only [rl]);(try go_simp);(refine(p5 _ _ (by omega)).mono ?_);rw [ij.out];rintro e w4 ⟨rfl,rfl⟩;(try go_simp);refine hK.out _ _ (aq _ Xt) (fun hHeld=> ?_);clear hK K;(try simp only [rl]);refine aB 3 (h:= ?_);refine aB 4 (h:= ?_);refine aB 5 (h:= ?_);refine aB 6 (h:= ?_);refine aB 7 (h:= ?_);refine bV 8 (h:= ?_);refine bV 9 (h:= ?_);refine bV 10 (h:= ?_);refine bV 11 (h:= ?_);refine bV 12 (h:= ?_);refine bV 13 (h:= ?_);refine bV 14 (h:= ?_);refine bV 15 (h:= ?_);refine bV 16 (h:= ?_);refine aB 17 (h:= ?_);refine aB 18 (h:= ?_);refine aB 19 (h:= ?_);refine aB 20 (h:= ?_);refine aB 21 (h:= ?_);refine aB 22 (h:= ?_);refine aB 23 (h:= ?_);refine aB 24 (h:= ?_);(try simp only [rl]);refine wpAnyH_done (by kernel_rfl) ?_ _;go_wp2_with fail
      go_loopg [44] (l[0]).paths.length (fun g i wr=>∃j:Nat,j<= (l[0]).paths.length/\i= .int .i64 j/\g=(l[0]).paths.length-j/\ (∀i (h:i<(l[0]).paths.length),i<j->AH (l[0]).paths i h)/\af wr wo.heap.size #[.string (l[0]).name, .slice pa (l[0]).paths.length pc] 58/\Ext wo wr)
      case atStart=>exact⟨0,Nat.zero_le _,rfl,rfl,fun i h h0=>absurd h0 (Nat.not_lt_zero _),aj,Xt⟩
      case round=>
       obtain⟨j,hj,rfl,rfl,Cw,jr,fq⟩:=hrel;have Cx:=ae Cw;clear Cw;have hx2:Ext w wr:=hx.trans fq;obtain⟨lQ,hfi,gV⟩:=jr.see;by_cases hjl:j<(l[0]).paths.length
       ·obtain⟨pb,po,rfl,uV,hC⟩:=aP.out.resolve_left (by intro h;rw [h] at hjl;simp at hjl)
        have e0:=fq.cell (hC j hjl);have yG:j=0\/∃mj,j=mj+1/\∃(h:mj<(l[0]).paths.length),wr.cell? ⟨pb,po+mj,none⟩=some (.string ((l[0]).paths[mj])):=by
         cases j with
         |zero=>exact .inl rfl
         |succ mj=>exact .inr ⟨mj,rfl,by omega,fq.cell (hC mj (by omega))⟩
        have hps:=rQ.out j hjl;clear hC;have hbad:¬AH (l[0]).paths j hjl->gU l=false:=fun h=>AG hlt (fun hw=>by have:=hw.2.2.2;rw [Po hjl h] at this;cases this);have rM:=ae hbad;clear hbad;go_wp2_with fail;(refine(Cy _ _ (by omega) (hm.ext Xt)).mono ?_);rintro e w5 ⟨na,nc,rfl,wP,oZ,h5⟩;have hx3:Ext w w5:=Xt;have jr:=af.ext h5 jr;have Cz:=ae oZ;have hns:=Fl (l[0]).paths[j];have e0:=h5.cell e0;have gT:=ae (Pp (l[0]).paths[j]);have XP:Ext wo w5:=fq.trans h5;clear lQ hfi gV oZ;have yG:j=0\/∃mj,j=mj+1/\∃(h:mj<(l[0]).paths.length),w5.cell? ⟨pb,po+mj,none⟩=some (.string ((l[0]).paths[mj])):=by
         rcases yG with h|⟨mj,h1,h2,h3⟩
         ·exact .inl h
         ·exact .inr ⟨mj,h1,h2,h5.cell h3⟩
        clear h5 fq;obtain⟨lQ,hfi,gV⟩:=jr.see
        cases hsm:(cJ (l[0]).paths[j]).isSome with
        |false=>
         rw [hsm] at gT;go_wp2_with fail;go_ret;exact⟨dv (rM.out (fun h=>by have:=h.1;rw [gT.out] at this;cases this)).symm,Xt⟩
        |true=>
         rw [hsm] at gT;have aU:=ae (Pq hsm);clear hsm;by_cases h0:(bJ (l[0]).paths[j]).length=0
         ·rw [decide_eq_true h0] at gT
          have Ci:(((bJ (l[0]).paths[j]).length:Int)==0)=true:=by rw [h0];rfl
          clear h0;go_wp2_with fail;go_ret;exact⟨dv (rM.out (fun h=>by have:=h.1;rw [gT.out] at this;cases this)).symm,Xt⟩
         ·rw [decide_eq_false h0] at gT
          have Ci:(((bJ (l[0]).paths[j]).length:Int)==0)=false:=beq_eq_false_iff_ne.2 (by omega);clear h0;have CA:((l[0]).paths[j].toList==(l[0]).paths[j].toList)=true:=by simp
          rcases yG with rfl|⟨mj,rfl,XQ,e1⟩
          ·go_wp2_with fail
           (refine(CB na nc _ _ _ (Cz.out.ext Xt) (fun q hq=>by have:=hns.2 q hq;omega) (by omega) (hm.ext Xt)).mono ?_);rw [aU.out];rintro e w6 ⟨rfl,h6⟩;have jr:=af.ext (w':=w6) Xt jr;clear lQ hfi gV;go_wp2_with fail;go_roundg ((l[0]).paths.length-(0+1))
           case measure=>omega
           case rel=>exact⟨0+1,by omega,by go_num,rfl,fun i h hi=>by
            have ei:i=0:=by omega
            subst ei
            exact⟨by rw [gT.out];rfl,fun h=>absurd h (Nat.lt_irrefl _)⟩,aj,Xt⟩
          ·have XR:(((mj+1:Nat):Int)-1)=(mj:Int):=by omega
           have XS:IntKind.i64.wrap (mj:Int)=(mj:Int):=Fm (by omega);have XT:(0:Int)<= (mj:Int):=by omega
           have XU:(mj:Int)<((l[0]).paths.length:Int):=by omega
           cases dt:bC (l[0]).paths[mj] (l[0]).paths[mj+1] with
           |false=>
            have hb:=yH dt;have uW:=ae dt;clear dt;go_wp2_with fail;go_ret;exact⟨dv (rM.out (fun h=>by have:bC (l[0]).paths[mj] (l[0]).paths[mj+1]=true:=h.2 (by omega);rw [uW.out] at this;cases this)).symm,Xt⟩
           |true=>
            have hb:=yH dt;have uW:=ae dt;clear dt;go_wp2_with fail;(refine(CB na nc _ _ _ (Cz.out.ext Xt) (fun q hq=>by have:=hns.2 q hq;omega) (by omega) (hm.ext Xt)).mono ?_);rw [aU.out];rintro e w6 ⟨rfl,h6⟩;have jr:=af.ext (w':=w6) Xt jr;clear lQ hfi gV;go_wp2_with fail;go_roundg ((l[0]).paths.length-(mj+1+1))
            case measure=>omega
            case rel=>exact⟨mj+1+1,by omega,by go_num,rfl,fun i h hi=>by
             by_cases hij:i=mj+1
             ·subst hij
              exact⟨by rw [gT.out];rfl,fun _=>uW.out⟩
             ·exact Cx.out i h (by omega),aj,Xt⟩
       ·have nJ:qI (l[0]).paths=true:=Pr (fun i h=>Cx.out i h (by omega))
        have wE:=ae nJ;clear nJ;go_wp2_with fail;go_roundg (l.length-(0+1))
        case measure=>omega
        case rel=>exact⟨0+1,by omega,by go_num,rfl,fun i h hi=>by
         by_cases hik:i=0
         ·subst hik
          exact⟨ij.out,JD.out,JE.out,wE.out⟩
         ·exact dN.out i h (by omega),Xt⟩
    ·have d0:=aH.cell d0
     have hkk:(((m+1:Nat):Int)-1)=(m:Int):=by omega
     have XV:IntKind.i64.wrap (m:Int)=(m:Int):=Fm (by omega);have hm0:(0:Int)<= (m:Int):=by omega
     have CC:(m:Int)<(l.length:Int):=by omega
     cases dt:bC (l[m]).name (l[m+1]).name with
     |false=>
      have hb:=yH dt;have uW:=ae dt;clear dt;have aq:∀w',Ext wa w'-> (w'.cell? ⟨wo.heap.size,0,none⟩=some (.string (l[m+1]).name)/\w'.cell? ⟨wo.heap.size,1,none⟩=some (.slice pa (l[m+1]).paths.length pc)/\w'.cell? ⟨b,o+m*2,none⟩=some (.string (l[m]).name)):=fun w' e=>⟨e.cell (hB.cells 0),e.cell (hB.cells 1),e.cell (d0)⟩;refine lO aq (by kernel_rfl) (aq _ Xt) (fun hHeld=> ?_);refine aB 0 (h:= ?_);refine aB 1 (h:= ?_);(try simp only [rl]);refine fJ 2 (h:=fun K hK=> ?_);(try simp only [rl]);(try go_simp);(refine(p5 _ _ (by omega)).mono ?_);rw [ij.out];rintro e w4 ⟨rfl,rfl⟩;(try go_simp);refine hK.out _ _ (aq _ Xt) (fun hHeld=> ?_);clear hK K;(try simp only [rl]);refine aB 3 (h:= ?_);refine aB 4 (h:= ?_);refine aB 5 (h:= ?_);refine aB 6 (h:= ?_);refine aB 7 (h:= ?_);refine aB 8 (h:= ?_);refine aB 9 (h:= ?_);refine aB 10 (h:= ?_);refine aB 11 (h:= ?_);refine aB 12 (h:= ?_);refine aB 13 (h:= ?_);refine aB 14 (h:= ?_);refine aB 15 (h:= ?_);refine aB 16 (h:= ?_);refine aB 17 (h:= ?_);refine aB 18 (h:= ?_);refine aB 19 (h:= ?_);refine bV 20 (h:= ?_);refine bV 21 (h:= ?_);refine bV 22 (h:= ?_);refine bV 23 (h:= ?_);refine aB 24 (h:= ?_);(try simp only [rl]);refine wpAnyH_done (by kernel_rfl) ?_ _;go_wp2_with fail;go_ret;exact⟨dv (AG hlt (fun h=>by have:bC (l[m]).name (l[m+1]).name=true:=h.2.1 (by omega);rw [uW.out] at this;cases this)).symm,Xt⟩
     |true=>
      have hb:=yH dt;have JD:=ae (show 0<m+1->bC (l[m+1-1]'(by omega)).name (l[m+1]).name=true from fun _=>dt);clear dt;by_cases hpe:(l[m+1]).paths= []
      ·have hpi:(((l[m+1]).paths.length:Int)==0)=true:=by rw [hpe];rfl
       have gT:=ae hpe;clear hpe;have aq:∀w',Ext wa w'-> (w'.cell? ⟨wo.heap.size,0,none⟩=some (.string (l[m+1]).name)/\w'.cell? ⟨wo.heap.size,1,none⟩=some (.slice pa (l[m+1]).paths.length pc)/\w'.cell? ⟨b,o+m*2,none⟩=some (.string (l[m]).name)):=fun w' e=>⟨e.cell (hB.cells 0),e.cell (hB.cells 1),e.cell (d0)⟩;refine lO aq (by kernel_rfl) (aq _ Xt) (fun hHeld=> ?_);refine aB 0 (h:= ?_);refine aB 1 (h:= ?_);(try simp only [rl]);refine fJ 2 (h:=fun K hK=> ?_);(try simp only [rl]);(try go_simp);(refine(p5 _ _ (by omega)).mono ?_);rw [ij.out];rintro e w4 ⟨rfl,rfl⟩;(try go_simp);refine hK.out _ _ (aq _ Xt) (fun hHeld=> ?_);clear hK K;(try simp only [rl]);refine aB 3 (h:= ?_);refine aB 4 (h:= ?_);refine aB 5 (h:= ?_);refine aB 6 (h:= ?_);refine aB 7 (h:= ?_);refine aB 8 (h:= ?_);refine aB 9 (h:= ?_);refine aB 10 (h:= ?_);refine aB 11 (h:= ?_);refine aB 12 (h:= ?_);refine aB 13 (h:= ?_);refine aB 14 (h:= ?_);refine aB 15 (h:= ?_);refine aB 16 (h:= ?_);refine aB 17 (h:= ?_);refine aB 18 (h:= ?_);refine aB 19 (h:= ?_);refine aB 20 (h:= ?_);refine aB 21 (h:= ?_);refine aB 22 (h:= ?_);refine aB 23 (h:= ?_);refine aB 24 (h:= ?_);(try simp only [rl]);refine wpAnyH_done (by kernel_rfl) ?_ _;go_wp2_with fail;go_ret;exact⟨dv (AG hlt (fun h=>h.2.2.1 gT.out)).symm,Xt⟩
      ·have hpi:(((l[m+1]).paths.length:Int)==0)=false:=by have:=List.length_pos_iff.2 hpe;simp;omega
       have JE:=ae hpe;clear hpe;have aq:∀w',Ext wa w'-> (w'.cell? ⟨wo.heap.size,0,none⟩=some (.string (l[m+1]).name)/\w'.cell? ⟨wo.heap.size,1,none⟩=some (.slice pa (l[m+1]).paths.length pc)/\w'.cell? ⟨b,o+m*2,none⟩=some (.string (l[m]).name)):=fun w' e=>⟨e.cell (hB.cells 0),e.cell (hB.cells 1),e.cell (d0)⟩;refine lO aq (by kernel_rfl) (aq _ Xt) (fun hHeld=> ?_);refine aB 0 (h:= ?_);refine aB 1 (h:= ?_);(try simp only [rl]);refine fJ 2 (h:=fun K hK=> ?_);(try simp only [rl]);(try go_simp);(refine(p5 _ _ (by omega)).mono ?_);rw [ij.out];rintro e w4 ⟨rfl,rfl⟩;(try go_simp);refine hK.out _ _ (aq _ Xt) (fun hHeld=> ?_);clear hK K;(try simp only [rl]);refine aB 3 (h:= ?_);refine aB 4 (h:= ?_);refine aB 5 (h:= ?_);refine aB 6 (h:= ?_);refine aB 7 (h:= ?_);refine aB 8 (h:= ?_);refine aB 9 (h:= ?_);refine aB 10 (h:= ?_);refine aB 11 (h:= ?_);refine aB 12 (h:= ?_);refine aB 13 (h:= ?_);refine aB 14 (h:= ?_);refine aB 15 (h:= ?_);refine aB 16 (h:= ?_);refine aB 17 (h:= ?_);refine aB 18 (h:= ?_);refine aB 19 (h:= ?_);refine aB 20 (h:= ?_);refine aB 21 (h:= ?_);refine aB 22 (h:= ?_);refine aB 23 (h:= ?_);refine aB 24 (h:= ?_);(try simp only [rl]);refine wpAnyH_done (by kernel_rfl) ?_ _;go_wp2_with fail
       go_loopg [44] (l[m+1]).paths.length (fun g i wr=>∃j:Nat,j<= (l[m+1]).paths.length/\i= .int .i64 j/\g=(l[m+1]).paths.length-j/\ (∀i (h:i<(l[m+1]).paths.length),i<j->AH (l[m+1]).paths i h)/\af wr wo.heap.size #[.string (l[m+1]).name, .slice pa (l[m+1]).paths.length pc] 58/\Ext wo wr)
       case atStart=>exact⟨0,Nat.zero_le _,rfl,rfl,fun i h h0=>absurd h0 (Nat.not_lt_zero _),aj,Xt⟩
       case round=>
        obtain⟨j,hj,rfl,rfl,Cw,jr,fq⟩:=hrel;have Cx:=ae Cw;clear Cw;have hx2:Ext w wr:=hx.trans fq;obtain⟨lQ,hfi,gV⟩:=jr.see;by_cases hjl:j<(l[m+1]).paths.length
        ·obtain⟨pb,po,rfl,uV,hC⟩:=aP.out.resolve_left (by intro h;rw [h] at hjl;simp at hjl)
         have e0:=fq.cell (hC j hjl);have yG:j=0\/∃mj,j=mj+1/\∃(h:mj<(l[m+1]).paths.length),wr.cell? ⟨pb,po+mj,none⟩=some (.string ((l[m+1]).paths[mj])):=by
          cases j with
          |zero=>exact .inl rfl
          |succ mj=>exact .inr ⟨mj,rfl,by omega,fq.cell (hC mj (by omega))⟩
         have hps:=rQ.out j hjl;clear hC;have hbad:¬AH (l[m+1]).paths j hjl->gU l=false:=fun h=>AG hlt (fun hw=>by have:=hw.2.2.2;rw [Po hjl h] at this;cases this);have rM:=ae hbad;clear hbad;go_wp2_with fail;(refine(Cy _ _ (by omega) (hm.ext Xt)).mono ?_);rintro e w5 ⟨na,nc,rfl,wP,oZ,h5⟩;have hx3:Ext w w5:=Xt;have jr:=af.ext h5 jr;have Cz:=ae oZ;have hns:=Fl (l[m+1]).paths[j];have e0:=h5.cell e0;have gT:=ae (Pp (l[m+1]).paths[j]);have XP:Ext wo w5:=fq.trans h5;clear lQ hfi gV oZ;have yG:j=0\/∃mj,j=mj+1/\∃(h:mj<(l[m+1]).paths.length),w5.cell? ⟨pb,po+mj,none⟩=some (.string ((l[m+1]).paths[mj])):=by
          rcases yG with h|⟨mj,h1,h2,h3⟩
          ·exact .inl h
          ·exact .inr ⟨mj,h1,h2,h5.cell h3⟩
         clear h5 fq;obtain⟨lQ,hfi,gV⟩:=jr.see
         cases hsm:(cJ (l[m+1]).paths[j]).isSome with
         |false=>
          rw [hsm] at gT;go_wp2_with fail;go_ret;exact⟨dv (rM.out (fun h=>by have:=h.1;rw [gT.out] at this;cases this)).symm,Xt⟩
         |true=>
          rw [hsm] at gT;have aU:=ae (Pq hsm);clear hsm;by_cases h0:(bJ (l[m+1]).paths[j]).length=0
          ·rw [decide_eq_true h0] at gT
           have Ci:(((bJ (l[m+1]).paths[j]).length:Int)==0)=true:=by rw [h0];rfl
           clear h0;go_wp2_with fail;go_ret;exact⟨dv (rM.out (fun h=>by have:=h.1;rw [gT.out] at this;cases this)).symm,Xt⟩
          ·rw [decide_eq_false h0] at gT
           have Ci:(((bJ (l[m+1]).paths[j]).length:Int)==0)=false:=beq_eq_false_iff_ne.2 (by omega);clear h0;have CA:((l[m+1]).paths[j].toList==(l[m+1]).paths[j].toList)=true:=by simp
           rcases yG with rfl|⟨mj,rfl,XQ,e1⟩
           ·go_wp2_with fail
            (refine(CB na nc _ _ _ (Cz.out.ext Xt) (fun q hq=>by have:=hns.2 q hq;omega) (by omega) (hm.ext Xt)).mono ?_);rw [aU.out];rintro e w6 ⟨rfl,h6⟩;have jr:=af.ext (w':=w6) Xt jr;clear lQ hfi gV;go_wp2_with fail;go_roundg ((l[m+1]).paths.length-(0+1))
            case measure=>omega
            case rel=>exact⟨0+1,by omega,by go_num,rfl,fun i h hi=>by
             have ei:i=0:=by omega
             subst ei
             exact⟨by rw [gT.out];rfl,fun h=>absurd h (Nat.lt_irrefl _)⟩,aj,Xt⟩
           ·have XR:(((mj+1:Nat):Int)-1)=(mj:Int):=by omega
            have XS:IntKind.i64.wrap (mj:Int)=(mj:Int):=Fm (by omega);have XT:(0:Int)<= (mj:Int):=by omega
            have XU:(mj:Int)<((l[m+1]).paths.length:Int):=by omega
            cases dt:bC (l[m+1]).paths[mj] (l[m+1]).paths[mj+1] with
            |false=>
             have hb:=yH dt;have uW:=ae dt;clear dt;go_wp2_with fail;go_ret;exact⟨dv (rM.out (fun h=>by have:bC (l[m+1]).paths[mj] (l[m+1]).paths[mj+1]=true:=h.2 (by omega);rw [uW.out] at this;cases this)).symm,Xt⟩
            |true=>
             have hb:=yH dt;have uW:=ae dt;clear dt;go_wp2_with fail;(refine(CB na nc _ _ _ (Cz.out.ext Xt) (fun q hq=>by have:=hns.2 q hq;omega) (by omega) (hm.ext Xt)).mono ?_);rw [aU.out];rintro e w6 ⟨rfl,h6⟩;have jr:=af.ext (w':=w6) Xt jr;clear lQ hfi gV;go_wp2_with fail;go_roundg ((l[m+1]).paths.length-(mj+1+1))
             case measure=>omega
             case rel=>exact⟨mj+1+1,by omega,by go_num,rfl,fun i h hi=>by
              by_cases hij:i=mj+1
              ·subst hij
               exact⟨by rw [gT.out];rfl,fun _=>uW.out⟩
              ·exact Cx.out i h (by omega),aj,Xt⟩
        ·have nJ:qI (l[m+1]).paths=true:=Pr (fun i h=>Cx.out i h (by omega))
         have wE:=ae nJ;clear nJ;go_wp2_with fail;go_roundg (l.length-(m+1+1))
         case measure=>omega
         case rel=>exact⟨m+1+1,by omega,by go_num,rfl,fun i h hi=>by
          by_cases hik:i=m+1
          ·subst hik
           exact⟨ij.out,JD.out,JE.out,wE.out⟩
          ·exact dN.out i h (by omega),Xt⟩
  ·have He:=ae (XW (l:=l) (fun i h=>dN.out i h (by omega)))
   go_wp2_with fail;go_ret;refine⟨dv ?_,Xt⟩;rw [He.out];exact decide_eq_decide.2 (by omega)
end Go.Proofs.YtlcebdaghmdkeabGreatDoor
