import Derived.Test.YtlcebdaghmdkeaaGreatDoorZ13
set_option linter.all false
set_option maxRecDepth 100000
set_option maxHeartbeats 64000000
namespace Go.Proofs.YtlcebdaghmdkeaaGreatDoor
open Go.RowKit
theorem bytes_inj {a b:ah} (h:a.toList=b.toList):a=b:=by
 rw [ByteArray.toList_eq,ByteArray.toList_eq] at h;exact ByteArray.ext (Array.toList_inj.1 h)
def Bt (xs:List (Int×Int)):Prop:=∀x∈xs,x.1= -1->x.2≠0/\x.2<=1073741824
def Onto (im:ah) (xs:List (Int×Int)) (now:Int) (j:Nat) (t:St):Prop:=
 gD t=true/\t.cm.toList=im.toList/\ ((t=mH t.cm)\/ (t.ph=3/\∃k:Nat,t.sp=k/\j<=k/\k<xs.length/\t.si<=now))
theorem ad8 {im:ah} {xs:List (Int×Int)} {s:St} {now:Int} {r:St} (h:eI im xs s now 0=(r,0)) (hp:Bt xs) (cP:s.si<=now) (hab:¬(s.ph=4/\im.toList=s.cm.toList)):Onto im xs now 0 r:=by
 have hg:=Ef h;obtain⟨hG,hT,h0,h1,ho0,p5,hc⟩:=Bu h;have hT':=hT;simp only [gD,decide_eq_true_eq] at hT';have hcm:(bC im s).cm.toList=im.toList:=by simp only [bC];split<;>grind
 rcases hc with⟨ha,hb,rfl⟩|⟨ha,⟨hp2,mI,rfl⟩|⟨hp',⟨ho,rfl⟩|⟨ho,rfl⟩|⟨ho,hr⟩⟩⟩
 ·exact⟨hg,hb.symm, .inl rfl⟩
 ·refine⟨hg,hcm, .inl ?_⟩
  have e:im.toList=s.cm.toList:=by
   by_cases e:im.toList=s.cm.toList
   ·exact e
   ·simp only [bC,if_neg e] at hp2;exact absurd trivial (by simpa using hp2)
  have ec:bC im s=s:=by rw [bC,if_pos e]
  rw [ec] at hp2 mI⊢;obtain⟨sb,cm,ph,sp,wt,si⟩:=s;have h1:ph=1:=by simp only at*;grind
  subst h1;simp only at hT' hp2 mI;have:sb=cm:=bytes_inj (by grind);subst this;simp only [mH,St.mk.injEq]
  grind
 ·omega
 ·omega
 ·have hsp:0<= (bC im s).sp:=by simp only [bC];split<;>grind
  obtain⟨k,hk⟩:=Int.eq_ofNat_of_zero_le hsp;have hk':(bC im s).sp.toNat=k:=by omega
  rw [hk'] at hr;have he:=zy xs now _ k (bC im s) 0 (Nat.le_refl _) hk;rw [<-hr] at he;rcases he with hd|⟨j,hj,wt,si,hkj,hx,kW,hw,ad9⟩
  ·refine⟨hg,?_, .inl ?_⟩
   ·rw [hd];exact hcm
   ·rw [hd];rfl
  ·refine⟨hg,by rw [kW];exact hcm, .inr ⟨by rw [kW],j,by rw [kW],Nat.zero_le _,hj,?_⟩⟩
   rw [kW];rcases ad9 with h|h
   ·simp only;omega
   ·have hc:(bC im s).si<=now:=by
     simp only [bC]
     split
     ·exact cP
     ·exact h0
    have:=h.2.2.2.1;simp only;omega
theorem aea {im:ah} {xs:List (Int×Int)} {t:St} {now:Int} {j:Nat} (hG:jX im xs=true) (hp:Bt xs) (h:Onto im xs now j t) (h0:0<=now) (h1:now+1073741824<=1099511627776):
 ∃r,eI im xs t (now+1073741824) 0=(r,0)/\Onto im xs (now+1073741824) (j+1) r:=by
 obtain⟨hg,hcm,hc⟩:=h;have hfit:=Iq (o:=0) hG hg (by omega:0<=now+1073741824) h1 (by omega) (by omega);obtain⟨r,e,hr⟩:∃r e,eI im xs t (now+1073741824) 0=(r,e):=⟨_,_,rfl⟩;rw [hr] at hfit;simp only at hfit;subst hfit;refine⟨r,hr,Ef hr,?_⟩;have ec:bC im t=t:=by rw [bC,if_pos hcm.symm]
 obtain⟨-,hT,-,-,-,-,hcc⟩:=Bu hr;rw [ec] at hcc;obtain⟨g1,g2,g3,g4⟩:=Ir hG;rcases hc with hd|⟨h3,k,hk,hjk,hkl,cP⟩
 ·rcases hcc with⟨ha,hb,rfl⟩|⟨ha,⟨hp2,mI,rfl⟩|⟨hp',_⟩⟩
  ·exact absurd hcm.symm ha
  ·exact⟨hcm, .inl hd⟩
  ·rw [hd] at hp';simp [mH] at hp'
 ·rcases hcc with⟨ha,hb,rfl⟩|⟨ha,⟨hp2,mI,rfl⟩|⟨hp',⟨ho,rfl⟩|⟨ho,rfl⟩|⟨ho,kW⟩⟩⟩
  ·exact absurd hcm.symm ha
  ·exact absurd h3 mI
  ·omega
  ·omega
  ·have hk':t.sp.toNat=k:=by omega
   have zz:=g4 xs[k] (List.getElem_mem hkl);have hpk:=hp xs[k] (List.getElem_mem hkl);simp only [l9,decide_eq_true_eq] at zz;have hstep:∃s':St,s'.cm=t.cm/\s'.sb=t.sb/\s'.ph=2/\s'.sp=(k:Int)+1/\r=pI (now+1073741824) (xs.drop (k+1)) s' 0:=by
    rw [hk',List.drop_eq_getElem_cons hkl,pI] at kW
    split at kW
    ·exact⟨⟨t.sb,t.cm,2,t.sp+1,xs[k].1,0⟩,rfl,rfl,rfl,by simp only;omega,kW⟩
    ·rename_i hneg
     have yo:xs[k].1= -1:=by omega
     obtain⟨q1,q2⟩:=hpk yo;rw [if_neg (by simp [h3]),if_neg (by omega),if_neg (by omega)] at kW;exact⟨⟨t.sb,t.cm,2,t.sp+1,t.wt,0⟩,rfl,rfl,rfl,by simp only;omega,kW⟩
   obtain⟨s',e1,e2,e3,e4,e5⟩:=hstep;have he:=zy xs (now+1073741824) _ (k+1) s' 0 (Nat.le_refl _) (by rw [e4];omega);rw [<-e5] at he;rcases he with hd|⟨m,hm,wt,si,hkm,hx,hq,hw,hs2⟩
   ·rw [hd];exact⟨by simp only [mH,e1];exact hcm, .inl rfl⟩
   ·rw [hq]
    refine⟨by simp only [e1];exact hcm, .inr ⟨rfl,m,rfl,by omega,hm,?_⟩⟩;rcases hs2 with h|h
    ·simp only;omega
    ·exact absurd h.2.1 (by omega)
end Go.Proofs.YtlcebdaghmdkeaaGreatDoor
