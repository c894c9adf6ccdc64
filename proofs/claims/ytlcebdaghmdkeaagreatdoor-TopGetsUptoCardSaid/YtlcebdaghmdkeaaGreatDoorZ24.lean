import Derived.Test.YtlcebdaghmdkeaaGreatDoorZ16
set_option linter.all false
set_option maxRecDepth 100000
set_option maxHeartbeats 64000000
namespace Go.Proofs.YtlcebdaghmdkeaaGreatDoor
open Go.Proofs.Tryz
open Go.RowKit
attribute [local go_sem↓] Go.wp_at_zero Go.wp_at_succ
theorem Fq (l:List Ow) (a:aq) (c:Nat) (S:aA) (w:World) (hsz:cN l<=2097152) (hin:cz w S l a) (hm:fW w):
 Calls prog 72 #[.slice a l.length c] w fun e w'=>e= .returned (.bool (iK l))/\Ext w w':=by
 have hlen:=ym l;go_enter func72,ntmps72;go_wp2_with fail
 go_loopg [11] l.length (fun g i wr=>∃k:Nat,k<=l.length/\i= .int .i64 k/\g=l.length-k/\ (∀i (h:i<l.length),i<k->JH l i h)/\Ext w wr)
 case atStart=>exact⟨0,Nat.zero_le _,rfl,rfl,fun i h h0=>absurd h0 (Nat.not_lt_zero _),Xt⟩
 case round=>
  obtain⟨wo,rfl⟩:∃x,x=wr:=⟨_,rfl⟩;obtain⟨k,hk,rfl,rfl,hok,hx⟩:=hrel;have dv:=ae hok;clear hok;by_cases hlt:k<l.length
  ·obtain⟨b,o,rfl,hS,hI⟩:=hin.resolve_left (by intro h;rw [h] at hlt;simp at hlt)
   obtain⟨pa,pc,d0,d1,hsl,hst⟩:=hI k hlt;have HI:=ae hI;have d0:=hx.cell d0;have d1:=hx.cell d1;have hst:=hst.ext hx;have aQ:=ae hst;have hos:=tK (List.getElem_mem hlt);have hnz:=Ow.Xx l[k];have hpl:=Ow.tL l[k];have rG:=ae (fun(j:Nat) (h:j<(l[k]).paths.length)=>show ((l[k]).paths[j]).size<=2097152 from by have:=Ow.Am (o:=l[k]) (List.getElem_mem h);omega);have Cn:k=0\/∃m,k=m+1/\∃(h:m<l.length),wo.cell? ⟨b,o+m*2,none⟩=some (.string (l[m]).name):=by
    cases k with
    |zero=>exact .inl rfl
    |succ m=>obtain⟨_,_,e0,-,-,-⟩:=hI m (by omega);exact .inr ⟨m,rfl,by omega,hx.cell e0⟩
   clear hI hst hin;go_upto_region 4 with fail
   refine aI (R:=fun wx=>af wx wo.heap.size #[.string (l[k]).name, .slice pa (l[k]).paths.length pc] 69/\Ext wo wx) ⟨aj,Xt⟩ ?_;rintro wa ⟨hB,aF⟩;have hx1:Ext w wa:=hx.trans aF;have Co:=aF.size
   cases eG:fe (l[k]).name with
   |false=>
    have jf:=ae eG;clear eG d0 d1 Cn;have au:∀w',Ext wa w'-> (w'.cell? ⟨wo.heap.size,0,none⟩=some (.string (l[k]).name)/\w'.cell? ⟨wo.heap.size,1,none⟩=some (.slice pa (l[k]).paths.length pc)):=fun w' e=>⟨e.cell (hB.cells 0),e.cell (hB.cells 1)⟩;refine pk au (by kernel_rfl) (au _ Xt) (fun hHeld=> ?_);refine aK 0 (h:= ?_);refine aK 1 (h:= ?_);(try simp only [rl]);refine kv 2 (h:=fun K hK=> ?_);(try simp only [rl]);(try go_simp);(refine(qy _ _ (by omega)).mono ?_);rw [jf.out];rintro e w4 ⟨rfl,rfl⟩;(try go_simp);refine hK.out _ _ (au _ Xt) (fun hHeld=> ?_);clear hK K;(try simp only [rl]);refine aK 3 (h:= ?_);refine aK 4 (h:= ?_);refine cO 5 (h:= ?_);refine cO 6 (h:= ?_);refine cO 7 (h:= ?_);refine cO 8 (h:= ?_);refine cO 9 (h:= ?_);refine cO 10 (h:= ?_);refine cO 11 (h:= ?_);refine cO 12 (h:= ?_);refine cO 13 (h:= ?_);refine cO 14 (h:= ?_);refine cO 15 (h:= ?_);refine cO 16 (h:= ?_);refine cO 17 (h:= ?_);refine aK 18 (h:= ?_);refine aK 19 (h:= ?_);refine cO 20 (h:= ?_);refine cO 21 (h:= ?_);refine cO 22 (h:= ?_);refine cO 23 (h:= ?_);refine aK 24 (h:= ?_);(try simp only [rl]);refine wpAnyH_done (by kernel_rfl) ?_ _;go_wp2_with fail;go_ret;exact⟨dn (Ao hlt (fun h=>by have:=h.1;rw [jf.out] at this;cases this)).symm,Xt⟩
   |true=>
    have jf:=ae eG;clear eG d0 d1;rcases Cn with rfl|⟨m,rfl,Xy,d0⟩
    ·have JI:=ae (show 0<0->bB (l[0-1]'(by omega)).name (l[0]).name=true from fun h=>absurd h (Nat.lt_irrefl _))
     by_cases hpe:(l[0]).paths= []
     ·have hpi:(((l[0]).paths.length:Int)==0)=true:=by rw [hpe];rfl
      have gS:=ae hpe;clear hpe;have au:∀w',Ext wa w'-> (w'.cell? ⟨wo.heap.size,0,none⟩=some (.string (l[0]).name)/\w'.cell? ⟨wo.heap.size,1,none⟩=some (.slice pa (l[0]).paths.length pc)):=fun w' e=>⟨e.cell (hB.cells 0),e.cell (hB.cells 1)⟩;refine pk au (by kernel_rfl) (au _ Xt) (fun hHeld=> ?_);refine aK 0 (h:= ?_);refine aK 1 (h:= ?_);(try simp only [rl]);refine kv 2 (h:=fun K hK=> ?_);(try simp only [rl]);(try go_simp);(refine(qy _ _ (by omega)).mono ?_);rw [jf.out];rintro e w4 ⟨rfl,rfl⟩;(try go_simp);refine hK.out _ _ (au _ Xt) (fun hHeld=> ?_);clear hK K;(try simp only [rl]);refine aK 3 (h:= ?_);refine aK 4 (h:= ?_);refine aK 5 (h:= ?_);refine aK 6 (h:= ?_);refine aK 7 (h:= ?_);refine cO 8 (h:= ?_);refine cO 9 (h:= ?_);refine cO 10 (h:= ?_);refine cO 11 (h:= ?_);refine cO 12 (h:= ?_);refine cO 13 (h:= ?_);refine cO 14 (h:= ?_);refine cO 15 (h:= ?_);refine cO 16 (h:= ?_);refine aK 17 (h:= ?_);refine aK 18 (h:= ?_);refine aK 19 (h:= ?_);refine aK 20 (h:= ?_);refine aK 21 (h:= ?_);refine aK 22 (h:= ?_);refine aK 23 (h:= ?_);refine aK 24 (h:= ?_);(try simp only [rl]);refine wpAnyH_done (by kernel_rfl) ?_ _;go_wp2_with fail;go_ret;exact⟨dn (Ao hlt (fun h=>h.2.2.1 gS.out)).symm,Xt⟩
     ·have hpi:(((l[0]).paths.length:Int)==0)=false:=by have:=List.length_pos_iff.2 hpe;simp;omega
      have JJ:=ae hpe;clear hpe;have au:∀w',Ext wa w'-> (w'.cell? ⟨wo.heap.size,0,none⟩=some (.string (l[0]).name)/\w'.cell? ⟨wo.heap.size,1,none⟩=some (.slice pa (l[0]).paths.length pc)):=fun w' e=>⟨e.cell (hB.cells 0),e.cell (hB.cells 1)⟩;refine pk au (by kernel_rfl) (au _ Xt) (fun hHeld=> ?_);refine aK 0 (h:= ?_);refine aK 1 (h:= ?_);(try simp only [rl]);refine kv 2 (h:=fun K hK=> ?_);(try simp only [rl]);(try go_simp);(refine(qy _ _ (by omega)).mono ?_);rw [jf.out];rintro e w4 ⟨rfl,rfl⟩;(try go_simp);refine hK.out _ _ (au _ Xt) (fun hHeld=> ?_);clear hK K;(try simp only [rl]);refine aK 3 (h:= ?_);refine aK 4 (h:= ?_);refine aK 5 (h:= ?_);refine aK 6 (h:= ?_);refine aK 7 (h:= ?_);refine cO 8 (h:= ?_);refine cO 9 (h:= ?_);refine cO 10 (h:= ?_);refine cO 11 (h:= ?_);refine cO 12 (h:= ?_);refine cO 13 (h:= ?_);refine cO 14 (h:= ?_);refine cO 15 (h:= ?_);refine cO 16 (h:= ?_);refine aK 17 (h:= ?_);refine aK 18 (h:= ?_);refine aK 19 (h:= ?_);refine aK 20 (h:= ?_);refine aK 21 (h:= ?_);refine aK 22 (h:= ?_);refine aK 23 (h:= ?_);refine aK 24 (h:= ?_);(try simp only [rl]);refine wpAnyH_done (by kernel_rfl) ?_ _;go_wp2_with fail
      go_loopg [44] (l[0]).paths.length (fun g i wr=>∃j:Nat,j<= (l[0]).paths.length/\i= .int .i64 j/\g=(l[0]).paths.length-j/\ (∀i (h:i<(l[0]).paths.length),i<j->Ap (l[0]).paths i h)/\af wr wo.heap.size #[.string (l[0]).name, .slice pa (l[0]).paths.length pc] 69/\Ext wo wr)
      case atStart=>exact⟨0,Nat.zero_le _,rfl,rfl,fun i h h0=>absurd h0 (Nat.not_lt_zero _),aj,Xt⟩
      case round=>
       obtain⟨j,hj,rfl,rfl,Cq,jq,jr⟩:=hrel;have Cr:=ae Cq;clear Cq;have hx2:Ext w wr:=hx.trans jr;obtain⟨lO,hfi,gW⟩:=jq.see;by_cases hjl:j<(l[0]).paths.length
       ·obtain⟨pb,po,rfl,uP,hC⟩:=aQ.out.resolve_left (by intro h;rw [h] at hjl;simp at hjl)
        have e0:=jr.cell (hC j hjl);have yn:j=0\/∃mj,j=mj+1/\∃(h:mj<(l[0]).paths.length),wr.cell? ⟨pb,po+mj,none⟩=some (.string ((l[0]).paths[mj])):=by
         cases j with
         |zero=>exact .inl rfl
         |succ mj=>exact .inr ⟨mj,rfl,by omega,jr.cell (hC mj (by omega))⟩
        have hps:=rG.out j hjl;clear hC;have hbad:¬Ap (l[0]).paths j hjl->iK l=false:=fun h=>Ao hlt (fun hw=>by have:=hw.2.2.2;rw [Pb hjl h] at this;cases this);have rB:=ae hbad;clear hbad;go_wp2_with fail;(refine(Ct _ _ (by omega) (hm.ext Xt)).mono ?_);rintro e w5 ⟨na,nc,rfl,wD,pn,h5⟩;have hx3:Ext w w5:=Xt;have jq:=af.ext h5 jq;have Cu:=ae pn;have hns:=Fs (l[0]).paths[j];have e0:=h5.cell e0;have gS:=ae (Pc (l[0]).paths[j]);have Xz:Ext wo w5:=jr.trans h5;clear lO hfi gW pn;have yn:j=0\/∃mj,j=mj+1/\∃(h:mj<(l[0]).paths.length),w5.cell? ⟨pb,po+mj,none⟩=some (.string ((l[0]).paths[mj])):=by
         rcases yn with h|⟨mj,h1,h2,h3⟩
         ·exact .inl h
         ·exact .inr ⟨mj,h1,h2,h5.cell h3⟩
        clear h5 jr;obtain⟨lO,hfi,gW⟩:=jq.see
        cases hsm:(cM (l[0]).paths[j]).isSome with
        |false=>
         rw [hsm] at gS;go_wp2_with fail;go_ret;exact⟨dn (rB.out (fun h=>by have:=h.1;rw [gS.out] at this;cases this)).symm,Xt⟩
        |true=>
         rw [hsm] at gS;have aV:=ae (Pd hsm);clear hsm;by_cases h0:(bQ (l[0]).paths[j]).length=0
         ·rw [decide_eq_true h0] at gS
          have Ca:(((bQ (l[0]).paths[j]).length:Int)==0)=true:=by rw [h0];rfl
          clear h0;go_wp2_with fail;go_ret;exact⟨dn (rB.out (fun h=>by have:=h.1;rw [gS.out] at this;cases this)).symm,Xt⟩
         ·rw [decide_eq_false h0] at gS
          have Ca:(((bQ (l[0]).paths[j]).length:Int)==0)=false:=beq_eq_false_iff_ne.2 (by omega);clear h0;have Cv:((l[0]).paths[j].toList==(l[0]).paths[j].toList)=true:=by simp
          rcases yn with rfl|⟨mj,rfl,XA,e1⟩
          ·go_wp2_with fail
           (refine(Cw na nc _ _ _ (Cu.out.ext Xt) (fun q hq=>by have:=hns.2 q hq;omega) (by omega) (hm.ext Xt)).mono ?_);rw [aV.out];rintro e w6 ⟨rfl,h6⟩;have jq:=af.ext (w':=w6) Xt jq;clear lO hfi gW;go_wp2_with fail;go_roundg ((l[0]).paths.length-(0+1))
           case measure=>omega
           case rel=>exact⟨0+1,by omega,by go_num,rfl,fun i h hi=>by
            have ei:i=0:=by omega
            subst ei
            exact⟨by rw [gS.out];rfl,fun h=>absurd h (Nat.lt_irrefl _)⟩,aj,Xt⟩
          ·have XB:(((mj+1:Nat):Int)-1)=(mj:Int):=by omega
           have XC:IntKind.i64.wrap (mj:Int)=(mj:Int):=JK (by omega);have XD:(0:Int)<= (mj:Int):=by omega
           have XE:(mj:Int)<((l[0]).paths.length:Int):=by omega
           cases dH:bB (l[0]).paths[mj] (l[0]).paths[mj+1] with
           |false=>
            have hb:=Aq dH;have uQ:=ae dH;clear dH;go_wp2_with fail;go_ret;exact⟨dn (rB.out (fun h=>by have:bB (l[0]).paths[mj] (l[0]).paths[mj+1]=true:=h.2 (by omega);rw [uQ.out] at this;cases this)).symm,Xt⟩
           |true=>
            have hb:=Aq dH;have uQ:=ae dH;clear dH;go_wp2_with fail;(refine(Cw na nc _ _ _ (Cu.out.ext Xt) (fun q hq=>by have:=hns.2 q hq;omega) (by omega) (hm.ext Xt)).mono ?_);rw [aV.out];rintro e w6 ⟨rfl,h6⟩;have jq:=af.ext (w':=w6) Xt jq;clear lO hfi gW;go_wp2_with fail;go_roundg ((l[0]).paths.length-(mj+1+1))
            case measure=>omega
            case rel=>exact⟨mj+1+1,by omega,by go_num,rfl,fun i h hi=>by
             by_cases hij:i=mj+1
             ·subst hij
              exact⟨by rw [gS.out];rfl,fun _=>uQ.out⟩
             ·exact Cr.out i h (by omega),aj,Xt⟩
       ·have nW:qz (l[0]).paths=true:=Pe (fun i h=>Cr.out i h (by omega))
        have vU:=ae nW;clear nW;go_wp2_with fail;go_roundg (l.length-(0+1))
        case measure=>omega
        case rel=>exact⟨0+1,by omega,by go_num,rfl,fun i h hi=>by
         by_cases hik:i=0
         ·subst hik
          exact⟨jf.out,JI.out,JJ.out,vU.out⟩
         ·exact dv.out i h (by omega),Xt⟩
    ·have d0:=aF.cell d0
     have hkk:(((m+1:Nat):Int)-1)=(m:Int):=by omega
     have hmw:IntKind.i64.wrap (m:Int)=(m:Int):=JK (by omega);have hm0:(0:Int)<= (m:Int):=by omega
     have yo:(m:Int)<(l.length:Int):=by omega
     cases dH:bB (l[m]).name (l[m+1]).name with
     |false=>
      have hb:=Aq dH;have uQ:=ae dH;clear dH;have au:∀w',Ext wa w'-> (w'.cell? ⟨wo.heap.size,0,none⟩=some (.string (l[m+1]).name)/\w'.cell? ⟨wo.heap.size,1,none⟩=some (.slice pa (l[m+1]).paths.length pc)/\w'.cell? ⟨b,o+m*2,none⟩=some (.string (l[m]).name)):=fun w' e=>⟨e.cell (hB.cells 0),e.cell (hB.cells 1),e.cell (d0)⟩;refine pk au (by kernel_rfl) (au _ Xt) (fun hHeld=> ?_);refine aK 0 (h:= ?_);refine aK 1 (h:= ?_);(try simp only [rl]);refine kv 2 (h:=fun K hK=> ?_);(try simp only [rl]);(try go_simp);(refine(qy _ _ (by omega)).mono ?_);rw [jf.out];rintro e w4 ⟨rfl,rfl⟩;(try go_simp);refine hK.out _ _ (au _ Xt) (fun hHeld=> ?_);clear hK K;(try simp only [rl]);refine aK 3 (h:= ?_);refine aK 4 (h:= ?_);refine aK 5 (h:= ?_);refine aK 6 (h:= ?_);refine aK 7 (h:= ?_);refine aK 8 (h:= ?_);refine aK 9 (h:= ?_);refine aK 10 (h:= ?_);refine aK 11 (h:= ?_);refine aK 12 (h:= ?_);refine aK 13 (h:= ?_);refine aK 14 (h:= ?_);refine aK 15 (h:= ?_);refine aK 16 (h:= ?_);refine aK 17 (h:= ?_);refine aK 18 (h:= ?_);refine aK 19 (h:= ?_);refine cO 20 (h:= ?_);refine cO 21 (h:= ?_);refine cO 22 (h:= ?_);refine cO 23 (h:= ?_);refine aK 24 (h:= ?_);(try simp only [rl]);refine wpAnyH_done (by kernel_rfl) ?_ _;go_wp2_with fail;go_ret;exact⟨dn (Ao hlt (fun h=>by have:bB (l[m]).name (l[m+1]).name=true:=h.2.1 (by omega);rw [uQ.out] at this;cases this)).symm,Xt⟩
     |true=>
      have hb:=Aq dH;have JI:=ae (show 0<m+1->bB (l[m+1-1]'(by omega)).name (l[m+1]).name=true from fun _=>dH);clear dH;by_cases hpe:(l[m+1]).paths= []
      ·have hpi:(((l[m+1]).paths.length:Int)==0)=true:=by rw [hpe];rfl
       have gS:=ae hpe;clear hpe;have au:∀w',Ext wa w'-> (w'.cell? ⟨wo.heap.size,0,none⟩=some (.string (l[m+1]).name)/\w'.cell? ⟨wo.heap.size,1,none⟩=some (.slice pa (l[m+1]).paths.length pc)/\w'.cell? ⟨b,o+m*2,none⟩=some (.string (l[m]).name)):=fun w' e=>⟨e.cell (hB.cells 0),e.cell (hB.cells 1),e.cell (d0)⟩;refine pk au (by kernel_rfl) (au _ Xt) (fun hHeld=> ?_);refine aK 0 (h:= ?_);refine aK 1 (h:= ?_);(try simp only [rl]);refine kv 2 (h:=fun K hK=> ?_);(try simp only [rl]);(try go_simp);(refine(qy _ _ (by omega)).mono ?_);rw [jf.out];rintro e w4 ⟨rfl,rfl⟩;(try go_simp);refine hK.out _ _ (au _ Xt) (fun hHeld=> ?_);clear hK K;(try simp only [rl]);refine aK 3 (h:= ?_);refine aK 4 (h:= ?_);refine aK 5 (h:= ?_);refine aK 6 (h:= ?_);refine aK 7 (h:= ?_);refine aK 8 (h:= ?_);refine aK 9 (h:= ?_);refine aK 10 (h:= ?_);refine aK 11 (h:= ?_);refine aK 12 (h:= ?_);refine aK 13 (h:= ?_);refine aK 14 (h:= ?_);refine aK 15 (h:= ?_);refine aK 16 (h:= ?_);refine aK 17 (h:= ?_);refine aK 18 (h:= ?_);refine aK 19 (h:= ?_);refine aK 20 (h:= ?_);refine aK 21 (h:= ?_);refine aK 22 (h:= ?_);refine aK 23 (h:= ?_);refine aK 24 (h:= ?_);(try simp only [rl]);refine wpAnyH_done (by kernel_rfl) ?_ _;go_wp2_with fail;go_ret;exact⟨dn (Ao hlt (fun h=>h.2.2.1 gS.out)).symm,Xt⟩
      ·have hpi:(((l[m+1]).paths.length:Int)==0)=false:=by have:=List.length_pos_iff.2 hpe;simp;omega
       have JJ:=ae hpe;clear hpe;have au:∀w',Ext wa w'-> (w'.cell? ⟨wo.heap.size,0,none⟩=some (.string (l[m+1]).name)/\w'.cell? ⟨wo.heap.size,1,none⟩=some (.slice pa (l[m+1]).paths.length pc)/\w'.cell? ⟨b,o+m*2,none⟩=some (.string (l[m]).name)):=fun w' e=>⟨e.cell (hB.cells 0),e.cell (hB.cells 1),e.cell (d0)⟩;refine pk au (by kernel_rfl) (au _ Xt) (fun hHeld=> ?_);refine aK 0 (h:= ?_);refine aK 1 (h:= ?_);(try simp only [rl]);refine kv 2 (h:=fun K hK=> ?_);(try simp only [rl]);(try go_simp);(refine(qy _ _ (by omega)).mono ?_);rw [jf.out];rintro e w4 ⟨rfl,rfl⟩;(try go_simp);refine hK.out _ _ (au _ Xt) (fun hHeld=> ?_);clear hK K;(try simp only [rl]);refine aK 3 (h:= ?_);refine aK 4 (h:= ?_);refine aK 5 (h:= ?_);refine aK 6 (h:= ?_);refine aK 7 (h:= ?_);refine aK 8 (h:= ?_);refine aK 9 (h:= ?_);refine aK 10 (h:= ?_);refine aK 11 (h:= ?_);refine aK 12 (h:= ?_);refine aK 13 (h:= ?_);refine aK 14 (h:= ?_);refine aK 15 (h:= ?_);refine aK 16 (h:= ?_);refine aK 17 (h:= ?_);refine aK 18 (h:= ?_);refine aK 19 (h:= ?_);refine aK 20 (h:= ?_);refine aK 21 (h:= ?_);refine aK 22 (h:= ?_);refine aK 23 (h:= ?_);refine aK 24 (h:= ?_);(try simp only [rl]);refine wpAnyH_done (by kernel_rfl) ?_ _;go_wp2_with fail
       go_loopg [44] (l[m+1]).paths.length (fun g i wr=>∃j:Nat,j<= (l[m+1]).paths.length/\i= .int .i64 j/\g=(l[m+1]).paths.length-j/\ (∀i (h:i<(l[m+1]).paths.length),i<j->Ap (l[m+1]).paths i h)/\af wr wo.heap.size #[.string (l[m+1]).name, .slice pa (l[m+1]).paths.length pc] 69/\Ext wo wr)
       case atStart=>exact⟨0,Nat.zero_le _,rfl,rfl,fun i h h0=>absurd h0 (Nat.not_lt_zero _),aj,Xt⟩
       case round=>
        obtain⟨j,hj,rfl,rfl,Cq,jq,jr⟩:=hrel;have Cr:=ae Cq;clear Cq;have hx2:Ext w wr:=hx.trans jr;obtain⟨lO,hfi,gW⟩:=jq.see;by_cases hjl:j<(l[m+1]).paths.length
        ·obtain⟨pb,po,rfl,uP,hC⟩:=aQ.out.resolve_left (by intro h;rw [h] at hjl;simp at hjl)
         have e0:=jr.cell (hC j hjl);have yn:j=0\/∃mj,j=mj+1/\∃(h:mj<(l[m+1]).paths.length),wr.cell? ⟨pb,po+mj,none⟩=some (.string ((l[m+1]).paths[mj])):=by
          cases j with
          |zero=>exact .inl rfl
          |succ mj=>exact .inr ⟨mj,rfl,by omega,jr.cell (hC mj (by omega))⟩
         have hps:=rG.out j hjl;clear hC;have hbad:¬Ap (l[m+1]).paths j hjl->iK l=false:=fun h=>Ao hlt (fun hw=>by have:=hw.2.2.2;rw [Pb hjl h] at this;cases this);have rB:=ae hbad;clear hbad;go_wp2_with fail;(refine(Ct _ _ (by omega) (hm.ext Xt)).mono ?_);rintro e w5 ⟨na,nc,rfl,wD,pn,h5⟩;have hx3:Ext w w5:=Xt;have jq:=af.ext h5 jq;have Cu:=ae pn;have hns:=Fs (l[m+1]).paths[j];have e0:=h5.cell e0;have gS:=ae (Pc (l[m+1]).paths[j]);have Xz:Ext wo w5:=jr.trans h5;clear lO hfi gW pn;have yn:j=0\/∃mj,j=mj+1/\∃(h:mj<(l[m+1]).paths.length),w5.cell? ⟨pb,po+mj,none⟩=some (.string ((l[m+1]).paths[mj])):=by
          rcases yn with h|⟨mj,h1,h2,h3⟩
          ·exact .inl h
          ·exact .inr ⟨mj,h1,h2,h5.cell h3⟩
         clear h5 jr;obtain⟨lO,hfi,gW⟩:=jq.see
         cases hsm:(cM (l[m+1]).paths[j]).isSome with
         |false=>
          rw [hsm] at gS;go_wp2_with fail;go_ret;exact⟨dn (rB.out (fun h=>by have:=h.1;rw [gS.out] at this;cases this)).symm,Xt⟩
         |true=>
          rw [hsm] at gS;have aV:=ae (Pd hsm);clear hsm;by_cases h0:(bQ (l[m+1]).paths[j]).length=0
          ·rw [decide_eq_true h0] at gS
           have Ca:(((bQ (l[m+1]).paths[j]).length:Int)==0)=true:=by rw [h0];rfl
           clear h0;go_wp2_with fail;go_ret;exact⟨dn (rB.out (fun h=>by have:=h.1;rw [gS.out] at this;cases this)).symm,Xt⟩
          ·rw [decide_eq_false h0] at gS
           have Ca:(((bQ (l[m+1]).paths[j]).length:Int)==0)=false:=beq_eq_false_iff_ne.2 (by omega);clear h0;have Cv:((l[m+1]).paths[j].toList==(l[m+1]).paths[j].toList)=true:=by simp
           rcases yn with rfl|⟨mj,rfl,XA,e1⟩
           ·go_wp2_with fail
            (refine(Cw na nc _ _ _ (Cu.out.ext Xt) (fun q hq=>by have:=hns.2 q hq;omega) (by omega) (hm.ext Xt)).mono ?_);rw [aV.out];rintro e w6 ⟨rfl,h6⟩;have jq:=af.ext (w':=w6) Xt jq;clear lO hfi gW;go_wp2_with fail;go_roundg ((l[m+1]).paths.length-(0+1))
            case measure=>omega
            case rel=>exact⟨0+1,by omega,by go_num,rfl,fun i h hi=>by
             have ei:i=0:=by omega
             subst ei
             exact⟨by rw [gS.out];rfl,fun h=>absurd h (Nat.lt_irrefl _)⟩,aj,Xt⟩
           ·have XB:(((mj+1:Nat):Int)-1)=(mj:Int):=by omega
            have XC:IntKind.i64.wrap (mj:Int)=(mj:Int):=JK (by omega);have XD:(0:Int)<= (mj:Int):=by omega
            have XE:(mj:Int)<((l[m+1]).paths.length:Int):=by omega
            cases dH:bB (l[m+1]).paths[mj] (l[m+1]).paths[mj+1] with
            |false=>
             have hb:=Aq dH;have uQ:=ae dH;clear dH;go_wp2_with fail;go_ret;exact⟨dn (rB.out (fun h=>by have:bB (l[m+1]).paths[mj] (l[m+1]).paths[mj+1]=true:=h.2 (by omega);rw [uQ.out] at this;cases this)).symm,Xt⟩
            |true=>
             have hb:=Aq dH;have uQ:=ae dH;clear dH;go_wp2_with fail;(refine(Cw na nc _ _ _ (Cu.out.ext Xt) (fun q hq=>by have:=hns.2 q hq;omega) (by omega) (hm.ext Xt)).mono ?_);rw [aV.out];rintro e w6 ⟨rfl,h6⟩;have jq:=af.ext (w':=w6) Xt jq;clear lO hfi gW;go_wp2_with fail;go_roundg ((l[m+1]).paths.length-(mj+1+1))
             case measure=>omega
             case rel=>exact⟨mj+1+1,by omega,by go_num,rfl,fun i h hi=>by
              by_cases hij:i=mj+1
              ·subst hij
               exact⟨by rw [gS.out];rfl,fun _=>uQ.out⟩
              ·exact Cr.out i h (by omega),aj,Xt⟩
        ·have nW:qz (l[m+1]).paths=true:=Pe (fun i h=>Cr.out i h (by omega))
         have vU:=ae nW;clear nW;go_wp2_with fail;go_roundg (l.length-(m+1+1))
         case measure=>omega
         case rel=>exact⟨m+1+1,by omega,by go_num,rfl,fun i h hi=>by
          by_cases hik:i=m+1
          ·subst hik
           exact⟨jf.out,JI.out,JJ.out,vU.out⟩
          ·exact dv.out i h (by omega),Xt⟩
  ·have He:=ae (XF (l:=l) (fun i h=>dv.out i h (by omega)))
   go_wp2_with fail;go_ret;refine⟨dn ?_,Xt⟩;rw [He.out];exact decide_eq_decide.2 (by omega)
end Go.Proofs.YtlcebdaghmdkeaaGreatDoor
