import Derived.Test.YtlcebdaghmdkeaaGreatDoorZ17
set_option linter.all false
set_option maxRecDepth 100000
set_option maxHeartbeats 64000000
namespace Go.Proofs.YtlcebdaghmdkeaaGreatDoor
open Go.Proofs.Tryz
open Go.RowKit
attribute [local go_sem↓] Go.wp_at_zero Go.wp_at_succ
def uj (r:Nat) (w:World):Prop:=∀w',Below r w w'->cZ w'
theorem uj.on {r:Nat} {w w':World} (h:uj r w) (b:Below r w w'):uj r w':=fun w'' k=>h w'' (b.trans k)
theorem uj.here {r:Nat} {w:World} (h:uj r w):cZ w:=h w (Below.refl _ _)
def ab3 (r:Nat) (l:Bytes) (w:World) (e:Ending) (w':World):Prop:=
 Rd r w w'/\∃(k:Int) (s':ah) (gy:Bool),e= .returned (.int .i64 k)/\Sr w' r s' gy/\ ((gy=false/\eu l=some (k,s'.data.toList))\/ (gy=true/\s'.data.toList= []/\eu l=none))
theorem Be (s:ah) (n:Nat):(s.extract 0 n).data.toList=s.data.toList.take n:=by
 rw [Lib.extract_data,List.drop_zero,Nat.sub_zero]
theorem ab4 (l:Bytes) (c:UInt8) (t:Bytes) (hl:l=c::t):jw l=(if c=45 then 1 else 0)+((l.drop (if c=45 then 1 else 0)).takeWhile eB).length:=by
 subst hl;by_cases h:c=45
 ·subst h;simp [jw];omega
 ·rw [if_neg h]
  unfold jw
  split
  ·rename_i he;simp only [List.cons.injEq] at he;exact absurd he.1 h
  ·simp
theorem SN {l:Bytes} {k n:Nat} (hk:k<l.length) (h:n=k+((l.drop k).takeWhile eB).length) (hd:eB l[k]=true):n=(k+1)+((l.drop (k+1)).takeWhile eB).length:=by
 rw [List.drop_eq_getElem_cons hk,List.takeWhile_cons,if_pos hd,List.length_cons] at h;omega
theorem Bf {l:Bytes} {k n:Nat} (h:n=k+((l.drop k).takeWhile eB).length) (hd:∀hk:k<l.length,eB l[k]=false):n=k:=by
 by_cases hk:k<l.length
 ·rw [List.drop_eq_getElem_cons hk,List.takeWhile_cons,if_neg (by simp [hd hk])] at h
  simpa using h
 ·rw [List.drop_eq_nil_of_le (by omega)] at h
  simpa using h
theorem vA (c:UInt8):eB c=(decide ((48:Int)<= (c.toNat:Int))&&decide ((c.toNat:Int)<=57)):=by
 unfold eB;rw [Bool.eq_iff_iff];simp;omega
theorem Bg {l:Bytes} (h:17<jw l):eu l=none:=by unfold eu;rw [if_pos h]
theorem Bh {l:Bytes} (h:¬17<jw l) (hb:∀v,Lib.atoiAll (l.take (jw l))≠ .ok v):eu l=none:=by
 unfold eu;rw [if_neg h]
 split
 ·rename_i k hk;exact absurd hk (hb k)
 ·rfl
theorem Bi {l:Bytes} {v:Int} (h:¬17<jw l) (hb:Lib.atoiAll (l.take (jw l))= .ok v):eu l=if Lib.itoa v=l.take (jw l)/\ -9007199254740992<=v/\v<=9007199254740992 then some (v,l.drop (jw l)) else none:=by
 unfold eu;rw [if_neg h,hb]
theorem Bj {a b:ah} (h:¬a.data.toList=b.data.toList):(a.toList !=b.toList)=true:=by
 rw [ByteArray.toList_eq,ByteArray.toList_eq];simpa using h
theorem Bk {a b:ah} (h:a.data.toList=b.data.toList):(a.toList !=b.toList)=false:=by
 rw [ByteArray.toList_eq,ByteArray.toList_eq];simpa using h
theorem SP (r:Nat) (s:ah) (c:UInt8) (t:Bytes) (hs:s.data.toList=c::t) (hsz:s.size<=1048576) (w:World) (hr:Sr w r s false) (hl:uj r w):
 Calls prog 108 #[.pointer (some ⟨r,0,none⟩)] w (ab3 r s.data.toList w):=by
 have hlt:=hr.lt;have hlen:s.data.toList.length=s.size:=Array.length_toList;have hst:=ab4 s.data.toList c t hs;have hhead:gw s.data.toList=c:=by rw [hs];rfl
 have hpos:0<s.size:=by rw [<-hlen,hs];simp
 have jK:=ae hlen;have SQ:=ae hhead;obtain⟨n0,hn0,lY⟩:∃n0:Nat,n0=(if c=45 then 1 else 0)/\jw s.data.toList=n0+((s.data.toList.drop n0).takeWhile eB).length:=⟨_,rfl,hst⟩;have ahj:n0<=1:=by rw [hn0];split<;>omega
 have aQ:=ae lY;have Hs:=ae hs;clear hs hst lY hlen hhead;by_cases hc:c=45
 ·have hcb:((c.toNat:Int)==45)=true:=by rw [hc];rfl
  obtain rfl:n0=1:=by rw [hn0,if_pos hc]
  clear hn0 hc;go_enter func108,ntmps108;go_wp2_with fail;(refine(lX r s false _ hr).mono ?_);rintro e w1 ⟨rfl,rfl⟩;rw [SQ.out];have hcr:=hr.cells;have ov:=hr.free;go_wp2_with fail
  go_loopg [3] (s.size-1) (fun g t3 wr=>∃k:Nat,t3= .int .i64 k/\k<=s.size/\g=s.size-k/\jw s.data.toList=k+((s.data.toList.drop k).takeWhile eB).length/\wr=w1)
  case atStart=>exact⟨1,rfl,by omega,rfl,aQ.out,rfl⟩
  case round=>
   obtain⟨k,rfl,hk,rfl,vo,rfl⟩:=hrel;have Hn:=ae vo;clear vo;by_cases hk1:k<s.size
   ·have hk2:k<s.data.toList.length:=by rw [jK.out];exact hk1
    have hget:s.data.toList[k]=s[k]:=rfl;by_cases ha:(48:Int)<= (s[k].toNat:Int)
    ·have ha1:decide ((48:Int)<= (s[k].toNat:Int))=true:=by simpa using ha
     by_cases hb:(s[k].toNat:Int)<=57
     ·have hb1:decide ((s[k].toNat:Int)<=57)=true:=by simpa using hb
      have Hd:=ae (show eB s.data.toList[k]=true by rw [hget,vA,ha1,hb1];rfl);clear hget;go_wp2_with fail;go_roundg (s.size-(k+1))
      case measure=>omega
      case rel=>exact⟨k+1,by go_num,by omega,rfl,SN hk2 Hn.out Hd.out,rfl⟩
     ·have hb1:decide ((s[k].toNat:Int)<=57)=false:=by simpa using hb
      have mB:=Bf Hn.out (fun h=>by rw [hget,vA,ha1,hb1];rfl);have cW:=ae mB;clear mB Hn;have hx0:(s.extract 0 k).data.toList=s.data.toList.take k:=Be s k;have br:(s.extract 0 k).size<=1073741824:=by have e:(s.extract 0 k).data.toList.length=(s.extract 0 k).size:=Array.length_toList;rw [hx0,List.length_take] at e;omega
      have zk:=ae hx0;obtain⟨q0,hq0⟩:∃q0,s.extract 0 k=q0:=⟨_,rfl⟩;obtain⟨q1,hq1⟩:∃q1,s.extract k s.size=q1:=⟨_,rfl⟩;have sf:=ae (show q1.data.toList=s.data.toList.drop k by rw [<-hq1];exact se s k);have gA:=ae (show q0.data.toList=s.data.toList.take k by rw [<-hq0];exact hx0);rw [hq0] at br;clear hx0;by_cases jA:17<k
      ·have bp:=ae (Bg (l:=s.data.toList) (by rw [cW.out];exact jA))
       go_wp2_with fail;(refine(dG r q1 false _ aj).mono ?_);rintro e w2 ⟨rfl,hr2,h2⟩;have h3:Rd r wr w2:=((Rd.refl _ _).set _ _).trans h2;go_wp2_with fail;refine aG (h:= ?_);exact⟨h3,0,⟨#[]⟩,true,rfl,hr2, .inr ⟨rfl,rfl,bp.out⟩⟩
      ·have hR:Rd r wr (wr.setCell ⟨r,0,none⟩ (.string q1)):=(Rd.refl _ _).set _ _
       have hl2:cZ (wr.setCell ⟨r,0,none⟩ (.string q1)):=hl.on hR.below|>.here
       have mC:Sr (wr.setCell ⟨r,0,none⟩ (.string q1)) r q1 false:=aj;by_cases hat:∃v,Lib.atoiAll q0.data.toList= .ok v
       ·obtain⟨v,hv⟩:=hat
        have hrg:=x9 hv;obtain⟨hv0,hv1⟩:=hrg;have gB:=ae (Bi (l:=s.data.toList) (v:=v) (by rw [cW.out];exact jA) (by rw [cW.out,<-gA.out];exact hv));obtain⟨q2,hq2⟩:∃q2:ah,Lib.itoa v=q2.data.toList:=⟨⟨(Lib.itoa v).toArray⟩,by simp⟩;have dS:=ae hq2;have Hv:=ae hv;clear hv hq2;go_wp2_with fail;(refine(tG q0 br v Hv.out _).mono ?_);rintro e w2 ⟨rfl,h2⟩;have hr2:=mC.ext h2;have bY:Rd r wr w2:=hR.ext hlt h2;have aS:=hl2.ext h2;by_cases hne:q2.data.toList=q0.data.toList
        ·have sj:=Bk hne
         have sk:q2.toList=q0.toList:=by rw [ByteArray.toList_eq,ByteArray.toList_eq,hne]
         by_cases hlo:v< -9007199254740992
         ·have bp:=ae (show eu s.data.toList=none by rw [gB.out,if_neg (fun h=>by omega)])
          have su:decide (v< -9007199254740992)=true:=by simpa using hlo
          (try clear hne);go_wp2_with fail;(refine(ie v hv0 hv1 q2 dS.out _ aS).mono ?_);rintro e w3 ⟨rfl,h3⟩;have hr3:=hr2.ext h3;have bV:Rd r wr w3:=bY.ext hlt h3;go_wp2_with fail;(refine(dG r q1 false _ hr3).mono ?_);rintro e w4 ⟨rfl,hr4,h4⟩;have h5:Rd r wr w4:=bV.trans h4;go_wp2_with fail;refine aG (h:= ?_);exact⟨h5,0,⟨#[]⟩,true,rfl,hr4, .inr ⟨rfl,rfl,bp.out⟩⟩
         ·have su:decide (v< -9007199254740992)=false:=by simpa using hlo
          by_cases hhi:9007199254740992<v
          ·have bp:=ae (show eu s.data.toList=none by rw [gB.out,if_neg (fun h=>by omega)])
           have sw:decide (9007199254740992<v)=true:=by simpa using hhi
           (try clear hne);go_wp2_with fail;(refine(ie v hv0 hv1 q2 dS.out _ aS).mono ?_);rintro e w3 ⟨rfl,h3⟩;have hr3:=hr2.ext h3;have bV:Rd r wr w3:=bY.ext hlt h3;go_wp2_with fail;(refine(dG r q1 false _ hr3).mono ?_);rintro e w4 ⟨rfl,hr4,h4⟩;have h5:Rd r wr w4:=bV.trans h4;go_wp2_with fail;refine aG (h:= ?_);exact⟨h5,0,⟨#[]⟩,true,rfl,hr4, .inr ⟨rfl,rfl,bp.out⟩⟩
          ·have lF:=ae (show eu s.data.toList=some (v,q1.data.toList) by rw [gB.out,if_pos ⟨by rw [dS.out,hne,gA.out,cW.out],by omega,by omega⟩,sf.out,cW.out])
           have sw:decide (9007199254740992<v)=false:=by simpa using hhi
           clear hne;go_wp2_with fail;(refine(ie v hv0 hv1 q2 dS.out _ aS).mono ?_);rintro e w3 ⟨rfl,h3⟩;have hr3:=hr2.ext h3;have bV:Rd r wr w3:=bY.ext hlt h3;go_wp2_with fail;refine aG (h:= ?_);exact⟨bV,v,q1,false,rfl,hr3, .inl ⟨rfl,lF.out⟩⟩
        ·have sj:=Bj hne
         have sk:¬q2.toList=q0.toList:=by rw [ByteArray.toList_eq,ByteArray.toList_eq];exact hne
         have bp:=ae (show eu s.data.toList=none by rw [gB.out,if_neg (fun h=>hne (by rw [<-dS.out,h.1,gA.out,cW.out]))]);(try clear hne);go_wp2_with fail;(refine(ie v hv0 hv1 q2 dS.out _ aS).mono ?_);rintro e w3 ⟨rfl,h3⟩;have hr3:=hr2.ext h3;have bV:Rd r wr w3:=bY.ext hlt h3;go_wp2_with fail;(refine(dG r q1 false _ hr3).mono ?_);rintro e w4 ⟨rfl,hr4,h4⟩;have h5:Rd r wr w4:=bV.trans h4;go_wp2_with fail;refine aG (h:= ?_);exact⟨h5,0,⟨#[]⟩,true,rfl,hr4, .inr ⟨rfl,rfl,bp.out⟩⟩
       ·have bp:=ae (Bh (l:=s.data.toList) (by rw [cW.out];exact jA) (fun v hv=>hat ⟨v,by rw [gA.out];rw [cW.out] at hv;exact hv⟩))
        have fS:=ae hat;clear hat;go_wp2_with fail;(refine(ya q0 br (fun v hv=>fS.out ⟨v,hv⟩) _ hl2).mono ?_);rintro e w2 ⟨m2,N2,rfl,h2⟩;have hr2:=mC.ext h2;have bY:Rd r wr w2:=hR.ext hlt h2;go_wp2_with fail;(refine(dG r q1 false _ hr2).mono ?_);rintro e w4 ⟨rfl,hr4,h4⟩;have h5:Rd r wr w4:=bY.trans h4;go_wp2_with fail;refine aG (h:= ?_);exact⟨h5,0,⟨#[]⟩,true,rfl,hr4, .inr ⟨rfl,rfl,bp.out⟩⟩
    ·have ha1:decide ((48:Int)<= (s[k].toNat:Int))=false:=by simpa using ha
     have mB:=Bf Hn.out (fun h=>by rw [hget,vA,ha1];rfl);have cW:=ae mB;clear mB Hn;have hx0:(s.extract 0 k).data.toList=s.data.toList.take k:=Be s k;have br:(s.extract 0 k).size<=1073741824:=by have e:(s.extract 0 k).data.toList.length=(s.extract 0 k).size:=Array.length_toList;rw [hx0,List.length_take] at e;omega
     have zk:=ae hx0;obtain⟨q0,hq0⟩:∃q0,s.extract 0 k=q0:=⟨_,rfl⟩;obtain⟨q1,hq1⟩:∃q1,s.extract k s.size=q1:=⟨_,rfl⟩;have sf:=ae (show q1.data.toList=s.data.toList.drop k by rw [<-hq1];exact se s k);have gA:=ae (show q0.data.toList=s.data.toList.take k by rw [<-hq0];exact hx0);rw [hq0] at br;clear hx0;by_cases jA:17<k
     ·have bp:=ae (Bg (l:=s.data.toList) (by rw [cW.out];exact jA))
      go_wp2_with fail;(refine(dG r q1 false _ aj).mono ?_);rintro e w2 ⟨rfl,hr2,h2⟩;have h3:Rd r wr w2:=((Rd.refl _ _).set _ _).trans h2;go_wp2_with fail;refine aG (h:= ?_);exact⟨h3,0,⟨#[]⟩,true,rfl,hr2, .inr ⟨rfl,rfl,bp.out⟩⟩
     ·have hR:Rd r wr (wr.setCell ⟨r,0,none⟩ (.string q1)):=(Rd.refl _ _).set _ _
      have hl2:cZ (wr.setCell ⟨r,0,none⟩ (.string q1)):=hl.on hR.below|>.here
      have mC:Sr (wr.setCell ⟨r,0,none⟩ (.string q1)) r q1 false:=aj;by_cases hat:∃v,Lib.atoiAll q0.data.toList= .ok v
      ·obtain⟨v,hv⟩:=hat
       have hrg:=x9 hv;obtain⟨hv0,hv1⟩:=hrg;have gB:=ae (Bi (l:=s.data.toList) (v:=v) (by rw [cW.out];exact jA) (by rw [cW.out,<-gA.out];exact hv));obtain⟨q2,hq2⟩:∃q2:ah,Lib.itoa v=q2.data.toList:=⟨⟨(Lib.itoa v).toArray⟩,by simp⟩;have dS:=ae hq2;have Hv:=ae hv;clear hv hq2;go_wp2_with fail;(refine(tG q0 br v Hv.out _).mono ?_);rintro e w2 ⟨rfl,h2⟩;have hr2:=mC.ext h2;have bY:Rd r wr w2:=hR.ext hlt h2;have aS:=hl2.ext h2;by_cases hne:q2.data.toList=q0.data.toList
       ·have sj:=Bk hne
        have sk:q2.toList=q0.toList:=by rw [ByteArray.toList_eq,ByteArray.toList_eq,hne]
        by_cases hlo:v< -9007199254740992
        ·have bp:=ae (show eu s.data.toList=none by rw [gB.out,if_neg (fun h=>by omega)])
         have su:decide (v< -9007199254740992)=true:=by simpa using hlo
         (try clear hne);go_wp2_with fail;(refine(ie v hv0 hv1 q2 dS.out _ aS).mono ?_);rintro e w3 ⟨rfl,h3⟩;have hr3:=hr2.ext h3;have bV:Rd r wr w3:=bY.ext hlt h3;go_wp2_with fail;(refine(dG r q1 false _ hr3).mono ?_);rintro e w4 ⟨rfl,hr4,h4⟩;have h5:Rd r wr w4:=bV.trans h4;go_wp2_with fail;refine aG (h:= ?_);exact⟨h5,0,⟨#[]⟩,true,rfl,hr4, .inr ⟨rfl,rfl,bp.out⟩⟩
        ·have su:decide (v< -9007199254740992)=false:=by simpa using hlo
         by_cases hhi:9007199254740992<v
         ·have bp:=ae (show eu s.data.toList=none by rw [gB.out,if_neg (fun h=>by omega)])
          have sw:decide (9007199254740992<v)=true:=by simpa using hhi
          (try clear hne);go_wp2_with fail;(refine(ie v hv0 hv1 q2 dS.out _ aS).mono ?_);rintro e w3 ⟨rfl,h3⟩;have hr3:=hr2.ext h3;have bV:Rd r wr w3:=bY.ext hlt h3;go_wp2_with fail;(refine(dG r q1 false _ hr3).mono ?_);rintro e w4 ⟨rfl,hr4,h4⟩;have h5:Rd r wr w4:=bV.trans h4;go_wp2_with fail;refine aG (h:= ?_);exact⟨h5,0,⟨#[]⟩,true,rfl,hr4, .inr ⟨rfl,rfl,bp.out⟩⟩
         ·have lF:=ae (show eu s.data.toList=some (v,q1.data.toList) by rw [gB.out,if_pos ⟨by rw [dS.out,hne,gA.out,cW.out],by omega,by omega⟩,sf.out,cW.out])
          have sw:decide (9007199254740992<v)=false:=by simpa using hhi
          clear hne;go_wp2_with fail;(refine(ie v hv0 hv1 q2 dS.out _ aS).mono ?_);rintro e w3 ⟨rfl,h3⟩;have hr3:=hr2.ext h3;have bV:Rd r wr w3:=bY.ext hlt h3;go_wp2_with fail;refine aG (h:= ?_);exact⟨bV,v,q1,false,rfl,hr3, .inl ⟨rfl,lF.out⟩⟩
       ·have sj:=Bj hne
        have sk:¬q2.toList=q0.toList:=by rw [ByteArray.toList_eq,ByteArray.toList_eq];exact hne
        have bp:=ae (show eu s.data.toList=none by rw [gB.out,if_neg (fun h=>hne (by rw [<-dS.out,h.1,gA.out,cW.out]))]);(try clear hne);go_wp2_with fail;(refine(ie v hv0 hv1 q2 dS.out _ aS).mono ?_);rintro e w3 ⟨rfl,h3⟩;have hr3:=hr2.ext h3;have bV:Rd r wr w3:=bY.ext hlt h3;go_wp2_with fail;(refine(dG r q1 false _ hr3).mono ?_);rintro e w4 ⟨rfl,hr4,h4⟩;have h5:Rd r wr w4:=bV.trans h4;go_wp2_with fail;refine aG (h:= ?_);exact⟨h5,0,⟨#[]⟩,true,rfl,hr4, .inr ⟨rfl,rfl,bp.out⟩⟩
      ·have bp:=ae (Bh (l:=s.data.toList) (by rw [cW.out];exact jA) (fun v hv=>hat ⟨v,by rw [gA.out];rw [cW.out] at hv;exact hv⟩))
       have fS:=ae hat;clear hat;go_wp2_with fail;(refine(ya q0 br (fun v hv=>fS.out ⟨v,hv⟩) _ hl2).mono ?_);rintro e w2 ⟨m2,N2,rfl,h2⟩;have hr2:=mC.ext h2;have bY:Rd r wr w2:=hR.ext hlt h2;go_wp2_with fail;(refine(dG r q1 false _ hr2).mono ?_);rintro e w4 ⟨rfl,hr4,h4⟩;have h5:Rd r wr w4:=bY.trans h4;go_wp2_with fail;refine aG (h:= ?_);exact⟨h5,0,⟨#[]⟩,true,rfl,hr4, .inr ⟨rfl,rfl,bp.out⟩⟩
   ·have mB:=Bf Hn.out (fun h=>by rw [jK.out] at h;exact absurd h hk1)
    have cW:=ae mB;clear mB Hn;have hx0:(s.extract 0 k).data.toList=s.data.toList.take k:=Be s k;have br:(s.extract 0 k).size<=1073741824:=by have e:(s.extract 0 k).data.toList.length=(s.extract 0 k).size:=Array.length_toList;rw [hx0,List.length_take] at e;omega
    have zk:=ae hx0;obtain⟨q0,hq0⟩:∃q0,s.extract 0 k=q0:=⟨_,rfl⟩;obtain⟨q1,hq1⟩:∃q1,s.extract k s.size=q1:=⟨_,rfl⟩;have sf:=ae (show q1.data.toList=s.data.toList.drop k by rw [<-hq1];exact se s k);have gA:=ae (show q0.data.toList=s.data.toList.take k by rw [<-hq0];exact hx0);rw [hq0] at br;clear hx0;by_cases jA:17<k
    ·have bp:=ae (Bg (l:=s.data.toList) (by rw [cW.out];exact jA))
     go_wp2_with fail;(refine(dG r q1 false _ aj).mono ?_);rintro e w2 ⟨rfl,hr2,h2⟩;have h3:Rd r wr w2:=((Rd.refl _ _).set _ _).trans h2;go_wp2_with fail;refine aG (h:= ?_);exact⟨h3,0,⟨#[]⟩,true,rfl,hr2, .inr ⟨rfl,rfl,bp.out⟩⟩
    ·have hR:Rd r wr (wr.setCell ⟨r,0,none⟩ (.string q1)):=(Rd.refl _ _).set _ _
     have hl2:cZ (wr.setCell ⟨r,0,none⟩ (.string q1)):=hl.on hR.below|>.here
     have mC:Sr (wr.setCell ⟨r,0,none⟩ (.string q1)) r q1 false:=aj;by_cases hat:∃v,Lib.atoiAll q0.data.toList= .ok v
     ·obtain⟨v,hv⟩:=hat
      have hrg:=x9 hv;obtain⟨hv0,hv1⟩:=hrg;have gB:=ae (Bi (l:=s.data.toList) (v:=v) (by rw [cW.out];exact jA) (by rw [cW.out,<-gA.out];exact hv));obtain⟨q2,hq2⟩:∃q2:ah,Lib.itoa v=q2.data.toList:=⟨⟨(Lib.itoa v).toArray⟩,by simp⟩;have dS:=ae hq2;have Hv:=ae hv;clear hv hq2;go_wp2_with fail;(refine(tG q0 br v Hv.out _).mono ?_);rintro e w2 ⟨rfl,h2⟩;have hr2:=mC.ext h2;have bY:Rd r wr w2:=hR.ext hlt h2;have aS:=hl2.ext h2;by_cases hne:q2.data.toList=q0.data.toList
      ·have sj:=Bk hne
       have sk:q2.toList=q0.toList:=by rw [ByteArray.toList_eq,ByteArray.toList_eq,hne]
       by_cases hlo:v< -9007199254740992
       ·have bp:=ae (show eu s.data.toList=none by rw [gB.out,if_neg (fun h=>by omega)])
        have su:decide (v< -9007199254740992)=true:=by simpa using hlo
        (try clear hne);go_wp2_with fail;(refine(ie v hv0 hv1 q2 dS.out _ aS).mono ?_);rintro e w3 ⟨rfl,h3⟩;have hr3:=hr2.ext h3;have bV:Rd r wr w3:=bY.ext hlt h3;go_wp2_with fail;(refine(dG r q1 false _ hr3).mono ?_);rintro e w4 ⟨rfl,hr4,h4⟩;have h5:Rd r wr w4:=bV.trans h4;go_wp2_with fail;refine aG (h:= ?_);exact⟨h5,0,⟨#[]⟩,true,rfl,hr4, .inr ⟨rfl,rfl,bp.out⟩⟩
       ·have su:decide (v< -9007199254740992)=false:=by simpa using hlo
        by_cases hhi:9007199254740992<v
        ·have bp:=ae (show eu s.data.toList=none by rw [gB.out,if_neg (fun h=>by omega)])
         have sw:decide (9007199254740992<v)=true:=by simpa using hhi
         (try clear hne);go_wp2_with fail;(refine(ie v hv0 hv1 q2 dS.out _ aS).mono ?_);rintro e w3 ⟨rfl,h3⟩;have hr3:=hr2.ext h3;have bV:Rd r wr w3:=bY.ext hlt h3;go_wp2_with fail;(refine(dG r q1 false _ hr3).mono ?_);rintro e w4 ⟨rfl,hr4,h4⟩;have h5:Rd r wr w4:=bV.trans h4;go_wp2_with fail;refine aG (h:= ?_);exact⟨h5,0,⟨#[]⟩,true,rfl,hr4, .inr ⟨rfl,rfl,bp.out⟩⟩
        ·have lF:=ae (show eu s.data.toList=some (v,q1.data.toList) by rw [gB.out,if_pos ⟨by rw [dS.out,hne,gA.out,cW.out],by omega,by omega⟩,sf.out,cW.out])
         have sw:decide (9007199254740992<v)=false:=by simpa using hhi
         clear hne;go_wp2_with fail;(refine(ie v hv0 hv1 q2 dS.out _ aS).mono ?_);rintro e w3 ⟨rfl,h3⟩;have hr3:=hr2.ext h3;have bV:Rd r wr w3:=bY.ext hlt h3;go_wp2_with fail;refine aG (h:= ?_);exact⟨bV,v,q1,false,rfl,hr3, .inl ⟨rfl,lF.out⟩⟩
      ·have sj:=Bj hne
       have sk:¬q2.toList=q0.toList:=by rw [ByteArray.toList_eq,ByteArray.toList_eq];exact hne
       have bp:=ae (show eu s.data.toList=none by rw [gB.out,if_neg (fun h=>hne (by rw [<-dS.out,h.1,gA.out,cW.out]))]);(try clear hne);go_wp2_with fail;(refine(ie v hv0 hv1 q2 dS.out _ aS).mono ?_);rintro e w3 ⟨rfl,h3⟩;have hr3:=hr2.ext h3;have bV:Rd r wr w3:=bY.ext hlt h3;go_wp2_with fail;(refine(dG r q1 false _ hr3).mono ?_);rintro e w4 ⟨rfl,hr4,h4⟩;have h5:Rd r wr w4:=bV.trans h4;go_wp2_with fail;refine aG (h:= ?_);exact⟨h5,0,⟨#[]⟩,true,rfl,hr4, .inr ⟨rfl,rfl,bp.out⟩⟩
     ·have bp:=ae (Bh (l:=s.data.toList) (by rw [cW.out];exact jA) (fun v hv=>hat ⟨v,by rw [gA.out];rw [cW.out] at hv;exact hv⟩))
      have fS:=ae hat;clear hat;go_wp2_with fail;(refine(ya q0 br (fun v hv=>fS.out ⟨v,hv⟩) _ hl2).mono ?_);rintro e w2 ⟨m2,N2,rfl,h2⟩;have hr2:=mC.ext h2;have bY:Rd r wr w2:=hR.ext hlt h2;go_wp2_with fail;(refine(dG r q1 false _ hr2).mono ?_);rintro e w4 ⟨rfl,hr4,h4⟩;have h5:Rd r wr w4:=bY.trans h4;go_wp2_with fail;refine aG (h:= ?_);exact⟨h5,0,⟨#[]⟩,true,rfl,hr4, .inr ⟨rfl,rfl,bp.out⟩⟩
 ·have hcb:((c.toNat:Int)==45)=false:=by simpa using fun h=>hc (by apply UInt8.toNat_inj.1;simpa using (by omega:c.toNat=45))
  obtain rfl:n0=0:=by rw [hn0,if_neg hc]
  clear hn0 hc;go_enter func108,ntmps108;go_wp2_with fail;(refine(lX r s false _ hr).mono ?_);rintro e w1 ⟨rfl,rfl⟩;rw [SQ.out];have hcr:=hr.cells;have ov:=hr.free;go_wp2_with fail
  go_loopg [3] (s.size-0) (fun g t3 wr=>∃k:Nat,t3= .int .i64 k/\k<=s.size/\g=s.size-k/\jw s.data.toList=k+((s.data.toList.drop k).takeWhile eB).length/\wr=w1)
  case atStart=>exact⟨0,rfl,by omega,rfl,aQ.out,rfl⟩
  case round=>
   obtain⟨k,rfl,hk,rfl,vo,rfl⟩:=hrel;have Hn:=ae vo;clear vo;by_cases hk1:k<s.size
   ·have hk2:k<s.data.toList.length:=by rw [jK.out];exact hk1
    have hget:s.data.toList[k]=s[k]:=rfl;by_cases ha:(48:Int)<= (s[k].toNat:Int)
    ·have ha1:decide ((48:Int)<= (s[k].toNat:Int))=true:=by simpa using ha
     by_cases hb:(s[k].toNat:Int)<=57
     ·have hb1:decide ((s[k].toNat:Int)<=57)=true:=by simpa using hb
      have Hd:=ae (show eB s.data.toList[k]=true by rw [hget,vA,ha1,hb1];rfl);clear hget;go_wp2_with fail;go_roundg (s.size-(k+1))
      case measure=>omega
      case rel=>exact⟨k+1,by go_num,by omega,rfl,SN hk2 Hn.out Hd.out,rfl⟩
     ·have hb1:decide ((s[k].toNat:Int)<=57)=false:=by simpa using hb
      have mB:=Bf Hn.out (fun h=>by rw [hget,vA,ha1,hb1];rfl);have cW:=ae mB;clear mB Hn;have hx0:(s.extract 0 k).data.toList=s.data.toList.take k:=Be s k;have br:(s.extract 0 k).size<=1073741824:=by have e:(s.extract 0 k).data.toList.length=(s.extract 0 k).size:=Array.length_toList;rw [hx0,List.length_take] at e;omega
      have zk:=ae hx0;obtain⟨q0,hq0⟩:∃q0,s.extract 0 k=q0:=⟨_,rfl⟩;obtain⟨q1,hq1⟩:∃q1,s.extract k s.size=q1:=⟨_,rfl⟩;have sf:=ae (show q1.data.toList=s.data.toList.drop k by rw [<-hq1];exact se s k);have gA:=ae (show q0.data.toList=s.data.toList.take k by rw [<-hq0];exact hx0);rw [hq0] at br;clear hx0;by_cases jA:17<k
      ·have bp:=ae (Bg (l:=s.data.toList) (by rw [cW.out];exact jA))
       go_wp2_with fail;(refine(dG r q1 false _ aj).mono ?_);rintro e w2 ⟨rfl,hr2,h2⟩;have h3:Rd r wr w2:=((Rd.refl _ _).set _ _).trans h2;go_wp2_with fail;refine aG (h:= ?_);exact⟨h3,0,⟨#[]⟩,true,rfl,hr2, .inr ⟨rfl,rfl,bp.out⟩⟩
      ·have hR:Rd r wr (wr.setCell ⟨r,0,none⟩ (.string q1)):=(Rd.refl _ _).set _ _
       have hl2:cZ (wr.setCell ⟨r,0,none⟩ (.string q1)):=hl.on hR.below|>.here
       have mC:Sr (wr.setCell ⟨r,0,none⟩ (.string q1)) r q1 false:=aj;by_cases hat:∃v,Lib.atoiAll q0.data.toList= .ok v
       ·obtain⟨v,hv⟩:=hat
        have hrg:=x9 hv;obtain⟨hv0,hv1⟩:=hrg;have gB:=ae (Bi (l:=s.data.toList) (v:=v) (by rw [cW.out];exact jA) (by rw [cW.out,<-gA.out];exact hv));obtain⟨q2,hq2⟩:∃q2:ah,Lib.itoa v=q2.data.toList:=⟨⟨(Lib.itoa v).toArray⟩,by simp⟩;have dS:=ae hq2;have Hv:=ae hv;clear hv hq2;go_wp2_with fail;(refine(tG q0 br v Hv.out _).mono ?_);rintro e w2 ⟨rfl,h2⟩;have hr2:=mC.ext h2;have bY:Rd r wr w2:=hR.ext hlt h2;have aS:=hl2.ext h2;by_cases hne:q2.data.toList=q0.data.toList
        ·have sj:=Bk hne
         have sk:q2.toList=q0.toList:=by rw [ByteArray.toList_eq,ByteArray.toList_eq,hne]
         by_cases hlo:v< -9007199254740992
         ·have bp:=ae (show eu s.data.toList=none by rw [gB.out,if_neg (fun h=>by omega)])
          have su:decide (v< -9007199254740992)=true:=by simpa using hlo
          (try clear hne);go_wp2_with fail;(refine(ie v hv0 hv1 q2 dS.out _ aS).mono ?_);rintro e w3 ⟨rfl,h3⟩;have hr3:=hr2.ext h3;have bV:Rd r wr w3:=bY.ext hlt h3;go_wp2_with fail;(refine(dG r q1 false _ hr3).mono ?_);rintro e w4 ⟨rfl,hr4,h4⟩;have h5:Rd r wr w4:=bV.trans h4;go_wp2_with fail;refine aG (h:= ?_);exact⟨h5,0,⟨#[]⟩,true,rfl,hr4, .inr ⟨rfl,rfl,bp.out⟩⟩
         ·have su:decide (v< -9007199254740992)=false:=by simpa using hlo
          by_cases hhi:9007199254740992<v
          ·have bp:=ae (show eu s.data.toList=none by rw [gB.out,if_neg (fun h=>by omega)])
           have sw:decide (9007199254740992<v)=true:=by simpa using hhi
           (try clear hne);go_wp2_with fail;(refine(ie v hv0 hv1 q2 dS.out _ aS).mono ?_);rintro e w3 ⟨rfl,h3⟩;have hr3:=hr2.ext h3;have bV:Rd r wr w3:=bY.ext hlt h3;go_wp2_with fail;(refine(dG r q1 false _ hr3).mono ?_);rintro e w4 ⟨rfl,hr4,h4⟩;have h5:Rd r wr w4:=bV.trans h4;go_wp2_with fail;refine aG (h:= ?_);exact⟨h5,0,⟨#[]⟩,true,rfl,hr4, .inr ⟨rfl,rfl,bp.out⟩⟩
          ·have lF:=ae (show eu s.data.toList=some (v,q1.data.toList) by rw [gB.out,if_pos ⟨by rw [dS.out,hne,gA.out,cW.out],by omega,by omega⟩,sf.out,cW.out])
           have sw:decide (9007199254740992<v)=false:=by simpa using hhi
           clear hne;go_wp2_with fail;(refine(ie v hv0 hv1 q2 dS.out _ aS).mono ?_);rintro e w3 ⟨rfl,h3⟩;have hr3:=hr2.ext h3;have bV:Rd r wr w3:=bY.ext hlt h3;go_wp2_with fail;refine aG (h:= ?_);exact⟨bV,v,q1,false,rfl,hr3, .inl ⟨rfl,lF.out⟩⟩
        ·have sj:=Bj hne
         have sk:¬q2.toList=q0.toList:=by rw [ByteArray.toList_eq,ByteArray.toList_eq];exact hne
         have bp:=ae (show eu s.data.toList=none by rw [gB.out,if_neg (fun h=>hne (by rw [<-dS.out,h.1,gA.out,cW.out]))]);(try clear hne);go_wp2_with fail;(refine(ie v hv0 hv1 q2 dS.out _ aS).mono ?_);rintro e w3 ⟨rfl,h3⟩;have hr3:=hr2.ext h3;have bV:Rd r wr w3:=bY.ext hlt h3;go_wp2_with fail;(refine(dG r q1 false _ hr3).mono ?_);rintro e w4 ⟨rfl,hr4,h4⟩;have h5:Rd r wr w4:=bV.trans h4;go_wp2_with fail;refine aG (h:= ?_);exact⟨h5,0,⟨#[]⟩,true,rfl,hr4, .inr ⟨rfl,rfl,bp.out⟩⟩
       ·have bp:=ae (Bh (l:=s.data.toList) (by rw [cW.out];exact jA) (fun v hv=>hat ⟨v,by rw [gA.out];rw [cW.out] at hv;exact hv⟩))
        have fS:=ae hat;clear hat;go_wp2_with fail;(refine(ya q0 br (fun v hv=>fS.out ⟨v,hv⟩) _ hl2).mono ?_);rintro e w2 ⟨m2,N2,rfl,h2⟩;have hr2:=mC.ext h2;have bY:Rd r wr w2:=hR.ext hlt h2;go_wp2_with fail;(refine(dG r q1 false _ hr2).mono ?_);rintro e w4 ⟨rfl,hr4,h4⟩;have h5:Rd r wr w4:=bY.trans h4;go_wp2_with fail;refine aG (h:= ?_);exact⟨h5,0,⟨#[]⟩,true,rfl,hr4, .inr ⟨rfl,rfl,bp.out⟩⟩
    ·have ha1:decide ((48:Int)<= (s[k].toNat:Int))=false:=by simpa using ha
     have mB:=Bf Hn.out (fun h=>by rw [hget,vA,ha1];rfl);have cW:=ae mB;clear mB Hn;have hx0:(s.extract 0 k).data.toList=s.data.toList.take k:=Be s k;have br:(s.extract 0 k).size<=1073741824:=by have e:(s.extract 0 k).data.toList.length=(s.extract 0 k).size:=Array.length_toList;rw [hx0,List.length_take] at e;omega
     have zk:=ae hx0;obtain⟨q0,hq0⟩:∃q0,s.extract 0 k=q0:=⟨_,rfl⟩;obtain⟨q1,hq1⟩:∃q1,s.extract k s.size=q1:=⟨_,rfl⟩;have sf:=ae (show q1.data.toList=s.data.toList.drop k by rw [<-hq1];exact se s k);have gA:=ae (show q0.data.toList=s.data.toList.take k by rw [<-hq0];exact hx0);rw [hq0] at br;clear hx0;by_cases jA:17<k
     ·have bp:=ae (Bg (l:=s.data.toList) (by rw [cW.out];exact jA))
      go_wp2_with fail;(refine(dG r q1 false _ aj).mono ?_);rintro e w2 ⟨rfl,hr2,h2⟩;have h3:Rd r wr w2:=((Rd.refl _ _).set _ _).trans h2;go_wp2_with fail;refine aG (h:= ?_);exact⟨h3,0,⟨#[]⟩,true,rfl,hr2, .inr ⟨rfl,rfl,bp.out⟩⟩
     ·have hR:Rd r wr (wr.setCell ⟨r,0,none⟩ (.string q1)):=(Rd.refl _ _).set _ _
      have hl2:cZ (wr.setCell ⟨r,0,none⟩ (.string q1)):=hl.on hR.below|>.here
      have mC:Sr (wr.setCell ⟨r,0,none⟩ (.string q1)) r q1 false:=aj;by_cases hat:∃v,Lib.atoiAll q0.data.toList= .ok v
      ·obtain⟨v,hv⟩:=hat
       have hrg:=x9 hv;obtain⟨hv0,hv1⟩:=hrg;have gB:=ae (Bi (l:=s.data.toList) (v:=v) (by rw [cW.out];exact jA) (by rw [cW.out,<-gA.out];exact hv));obtain⟨q2,hq2⟩:∃q2:ah,Lib.itoa v=q2.data.toList:=⟨⟨(Lib.itoa v).toArray⟩,by simp⟩;have dS:=ae hq2;have Hv:=ae hv;clear hv hq2;go_wp2_with fail;(refine(tG q0 br v Hv.out _).mono ?_);rintro e w2 ⟨rfl,h2⟩;have hr2:=mC.ext h2;have bY:Rd r wr w2:=hR.ext hlt h2;have aS:=hl2.ext h2;by_cases hne:q2.data.toList=q0.data.toList
       ·have sj:=Bk hne
        have sk:q2.toList=q0.toList:=by rw [ByteArray.toList_eq,ByteArray.toList_eq,hne]
        by_cases hlo:v< -9007199254740992
        ·have bp:=ae (show eu s.data.toList=none by rw [gB.out,if_neg (fun h=>by omega)])
         have su:decide (v< -9007199254740992)=true:=by simpa using hlo
         (try clear hne);go_wp2_with fail;(refine(ie v hv0 hv1 q2 dS.out _ aS).mono ?_);rintro e w3 ⟨rfl,h3⟩;have hr3:=hr2.ext h3;have bV:Rd r wr w3:=bY.ext hlt h3;go_wp2_with fail;(refine(dG r q1 false _ hr3).mono ?_);rintro e w4 ⟨rfl,hr4,h4⟩;have h5:Rd r wr w4:=bV.trans h4;go_wp2_with fail;refine aG (h:= ?_);exact⟨h5,0,⟨#[]⟩,true,rfl,hr4, .inr ⟨rfl,rfl,bp.out⟩⟩
        ·have su:decide (v< -9007199254740992)=false:=by simpa using hlo
         by_cases hhi:9007199254740992<v
         ·have bp:=ae (show eu s.data.toList=none by rw [gB.out,if_neg (fun h=>by omega)])
          have sw:decide (9007199254740992<v)=true:=by simpa using hhi
          (try clear hne);go_wp2_with fail;(refine(ie v hv0 hv1 q2 dS.out _ aS).mono ?_);rintro e w3 ⟨rfl,h3⟩;have hr3:=hr2.ext h3;have bV:Rd r wr w3:=bY.ext hlt h3;go_wp2_with fail;(refine(dG r q1 false _ hr3).mono ?_);rintro e w4 ⟨rfl,hr4,h4⟩;have h5:Rd r wr w4:=bV.trans h4;go_wp2_with fail;refine aG (h:= ?_);exact⟨h5,0,⟨#[]⟩,true,rfl,hr4, .inr ⟨rfl,rfl,bp.out⟩⟩
         ·have lF:=ae (show eu s.data.toList=some (v,q1.data.toList) by rw [gB.out,if_pos ⟨by rw [dS.out,hne,gA.out,cW.out],by omega,by omega⟩,sf.out,cW.out])
          have sw:decide (9007199254740992<v)=false:=by simpa using hhi
          clear hne;go_wp2_with fail;(refine(ie v hv0 hv1 q2 dS.out _ aS).mono ?_);rintro e w3 ⟨rfl,h3⟩;have hr3:=hr2.ext h3;have bV:Rd r wr w3:=bY.ext hlt h3;go_wp2_with fail;refine aG (h:= ?_);exact⟨bV,v,q1,false,rfl,hr3, .inl ⟨rfl,lF.out⟩⟩
       ·have sj:=Bj hne
        have sk:¬q2.toList=q0.toList:=by rw [ByteArray.toList_eq,ByteArray.toList_eq];exact hne
        have bp:=ae (show eu s.data.toList=none by rw [gB.out,if_neg (fun h=>hne (by rw [<-dS.out,h.1,gA.out,cW.out]))]);(try clear hne);go_wp2_with fail;(refine(ie v hv0 hv1 q2 dS.out _ aS).mono ?_);rintro e w3 ⟨rfl,h3⟩;have hr3:=hr2.ext h3;have bV:Rd r wr w3:=bY.ext hlt h3;go_wp2_with fail;(refine(dG r q1 false _ hr3).mono ?_);rintro e w4 ⟨rfl,hr4,h4⟩;have h5:Rd r wr w4:=bV.trans h4;go_wp2_with fail;refine aG (h:= ?_);exact⟨h5,0,⟨#[]⟩,true,rfl,hr4, .inr ⟨rfl,rfl,bp.out⟩⟩
      ·have bp:=ae (Bh (l:=s.data.toList) (by rw [cW.out];exact jA) (fun v hv=>hat ⟨v,by rw [gA.out];rw [cW.out] at hv;exact hv⟩))
       have fS:=ae hat;clear hat;go_wp2_with fail;(refine(ya q0 br (fun v hv=>fS.out ⟨v,hv⟩) _ hl2).mono ?_);rintro e w2 ⟨m2,N2,rfl,h2⟩;have hr2:=mC.ext h2;have bY:Rd r wr w2:=hR.ext hlt h2;go_wp2_with fail;(refine(dG r q1 false _ hr2).mono ?_);rintro e w4 ⟨rfl,hr4,h4⟩;have h5:Rd r wr w4:=bY.trans h4;go_wp2_with fail;refine aG (h:= ?_);exact⟨h5,0,⟨#[]⟩,true,rfl,hr4, .inr ⟨rfl,rfl,bp.out⟩⟩
   ·have mB:=Bf Hn.out (fun h=>by rw [jK.out] at h;exact absurd h hk1)
    have cW:=ae mB;clear mB Hn;have hx0:(s.extract 0 k).data.toList=s.data.toList.take k:=Be s k;have br:(s.extract 0 k).size<=1073741824:=by have e:(s.extract 0 k).data.toList.length=(s.extract 0 k).size:=Array.length_toList;rw [hx0,List.length_take] at e;omega
    have zk:=ae hx0;obtain⟨q0,hq0⟩:∃q0,s.extract 0 k=q0:=⟨_,rfl⟩;obtain⟨q1,hq1⟩:∃q1,s.extract k s.size=q1:=⟨_,rfl⟩;have sf:=ae (show q1.data.toList=s.data.toList.drop k by rw [<-hq1];exact se s k);have gA:=ae (show q0.data.toList=s.data.toList.take k by rw [<-hq0];exact hx0);rw [hq0] at br;clear hx0;by_cases jA:17<k
    ·have bp:=ae (Bg (l:=s.data.toList) (by rw [cW.out];exact jA))
     go_wp2_with fail;(refine(dG r q1 false _ aj).mono ?_);rintro e w2 ⟨rfl,hr2,h2⟩;have h3:Rd r wr w2:=((Rd.refl _ _).set _ _).trans h2;go_wp2_with fail;refine aG (h:= ?_);exact⟨h3,0,⟨#[]⟩,true,rfl,hr2, .inr ⟨rfl,rfl,bp.out⟩⟩
    ·have hR:Rd r wr (wr.setCell ⟨r,0,none⟩ (.string q1)):=(Rd.refl _ _).set _ _
     have hl2:cZ (wr.setCell ⟨r,0,none⟩ (.string q1)):=hl.on hR.below|>.here
     have mC:Sr (wr.setCell ⟨r,0,none⟩ (.string q1)) r q1 false:=aj;by_cases hat:∃v,Lib.atoiAll q0.data.toList= .ok v
     ·obtain⟨v,hv⟩:=hat
      have hrg:=x9 hv;obtain⟨hv0,hv1⟩:=hrg;have gB:=ae (Bi (l:=s.data.toList) (v:=v) (by rw [cW.out];exact jA) (by rw [cW.out,<-gA.out];exact hv));obtain⟨q2,hq2⟩:∃q2:ah,Lib.itoa v=q2.data.toList:=⟨⟨(Lib.itoa v).toArray⟩,by simp⟩;have dS:=ae hq2;have Hv:=ae hv;clear hv hq2;go_wp2_with fail;(refine(tG q0 br v Hv.out _).mono ?_);rintro e w2 ⟨rfl,h2⟩;have hr2:=mC.ext h2;have bY:Rd r wr w2:=hR.ext hlt h2;have aS:=hl2.ext h2;by_cases hne:q2.data.toList=q0.data.toList
      ·have sj:=Bk hne
       have sk:q2.toList=q0.toList:=by rw [ByteArray.toList_eq,ByteArray.toList_eq,hne]
       by_cases hlo:v< -9007199254740992
       ·have bp:=ae (show eu s.data.toList=none by rw [gB.out,if_neg (fun h=>by omega)])
        have su:decide (v< -9007199254740992)=true:=by simpa using hlo
        (try clear hne);go_wp2_with fail;(refine(ie v hv0 hv1 q2 dS.out _ aS).mono ?_);rintro e w3 ⟨rfl,h3⟩;have hr3:=hr2.ext h3;have bV:Rd r wr w3:=bY.ext hlt h3;go_wp2_with fail;(refine(dG r q1 false _ hr3).mono ?_);rintro e w4 ⟨rfl,hr4,h4⟩;have h5:Rd r wr w4:=bV.trans h4;go_wp2_with fail;refine aG (h:= ?_);exact⟨h5,0,⟨#[]⟩,true,rfl,hr4, .inr ⟨rfl,rfl,bp.out⟩⟩
       ·have su:decide (v< -9007199254740992)=false:=by simpa using hlo
        by_cases hhi:9007199254740992<v
        ·have bp:=ae (show eu s.data.toList=none by rw [gB.out,if_neg (fun h=>by omega)])
         have sw:decide (9007199254740992<v)=true:=by simpa using hhi
         (try clear hne);go_wp2_with fail;(refine(ie v hv0 hv1 q2 dS.out _ aS).mono ?_);rintro e w3 ⟨rfl,h3⟩;have hr3:=hr2.ext h3;have bV:Rd r wr w3:=bY.ext hlt h3;go_wp2_with fail;(refine(dG r q1 false _ hr3).mono ?_);rintro e w4 ⟨rfl,hr4,h4⟩;have h5:Rd r wr w4:=bV.trans h4;go_wp2_with fail;refine aG (h:= ?_);exact⟨h5,0,⟨#[]⟩,true,rfl,hr4, .inr ⟨rfl,rfl,bp.out⟩⟩
        ·have lF:=ae (show eu s.data.toList=some (v,q1.data.toList) by rw [gB.out,if_pos ⟨by rw [dS.out,hne,gA.out,cW.out],by omega,by omega⟩,sf.out,cW.out])
         have sw:decide (9007199254740992<v)=false:=by simpa using hhi
         clear hne;go_wp2_with fail;(refine(ie v hv0 hv1 q2 dS.out _ aS).mono ?_);rintro e w3 ⟨rfl,h3⟩;have hr3:=hr2.ext h3;have bV:Rd r wr w3:=bY.ext hlt h3;go_wp2_with fail;refine aG (h:= ?_);exact⟨bV,v,q1,false,rfl,hr3, .inl ⟨rfl,lF.out⟩⟩
      ·have sj:=Bj hne
       have sk:¬q2.toList=q0.toList:=by rw [ByteArray.toList_eq,ByteArray.toList_eq];exact hne
       have bp:=ae (show eu s.data.toList=none by rw [gB.out,if_neg (fun h=>hne (by rw [<-dS.out,h.1,gA.out,cW.out]))]);(try clear hne);go_wp2_with fail;(refine(ie v hv0 hv1 q2 dS.out _ aS).mono ?_);rintro e w3 ⟨rfl,h3⟩;have hr3:=hr2.ext h3;have bV:Rd r wr w3:=bY.ext hlt h3;go_wp2_with fail;(refine(dG r q1 false _ hr3).mono ?_);rintro e w4 ⟨rfl,hr4,h4⟩;have h5:Rd r wr w4:=bV.trans h4;go_wp2_with fail;refine aG (h:= ?_);exact⟨h5,0,⟨#[]⟩,true,rfl,hr4, .inr ⟨rfl,rfl,bp.out⟩⟩
     ·have bp:=ae (Bh (l:=s.data.toList) (by rw [cW.out];exact jA) (fun v hv=>hat ⟨v,by rw [gA.out];rw [cW.out] at hv;exact hv⟩))
      have fS:=ae hat;clear hat;go_wp2_with fail;(refine(ya q0 br (fun v hv=>fS.out ⟨v,hv⟩) _ hl2).mono ?_);rintro e w2 ⟨m2,N2,rfl,h2⟩;have hr2:=mC.ext h2;have bY:Rd r wr w2:=hR.ext hlt h2;go_wp2_with fail;(refine(dG r q1 false _ hr2).mono ?_);rintro e w4 ⟨rfl,hr4,h4⟩;have h5:Rd r wr w4:=bY.trans h4;go_wp2_with fail;refine aG (h:= ?_);exact⟨h5,0,⟨#[]⟩,true,rfl,hr4, .inr ⟨rfl,rfl,bp.out⟩⟩
end Go.Proofs.YtlcebdaghmdkeaaGreatDoor
