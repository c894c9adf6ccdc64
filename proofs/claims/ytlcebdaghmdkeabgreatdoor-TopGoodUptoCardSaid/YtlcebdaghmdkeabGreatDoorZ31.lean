import Derived.Test.YtlcebdaghmdkeabGreatDoorZ28
set_option linter.all false
set_option maxRecDepth 100000
set_option maxHeartbeats 64000000
namespace Go.Proofs.YtlcebdaghmdkeabGreatDoor
open Go.Proofs.Tryz
open Go.RowKit
attribute [local go_sem↓] Go.wp_at_zero Go.wp_at_succ
def uu (r:Nat) (w:World):Prop:=∀w',Below r w w'->cM w'
theorem uu.on {r:Nat} {w w':World} (h:uu r w) (b:Below r w w'):uu r w':=fun w'' k=>h w'' (b.trans k)
theorem uu.here {r:Nat} {w:World} (h:uu r w):cM w:=h w (Below.refl _ _)
def ab5 (r:Nat) (l:Bytes) (w:World) (e:Ending) (w':World):Prop:=
 Rd r w w'/\∃(k:Int) (s':ah) (gB:Bool),e= .returned (.int .i64 k)/\Sr w' r s' gB/\ ((gB=false/\eG l=some (k,s'.data.toList))\/ (gB=true/\s'.data.toList= []/\eG l=none))
theorem Bo (s:ah) (n:Nat):(s.extract 0 n).data.toList=s.data.toList.take n:=by
 rw [Lib.extract_data,List.drop_zero,Nat.sub_zero]
theorem ab6 (l:Bytes) (c:UInt8) (t:Bytes) (hl:l=c::t):kL l=(if c=45 then 1 else 0)+((l.drop (if c=45 then 1 else 0)).takeWhile gP).length:=by
 subst hl;by_cases h:c=45
 ·subst h;simp [kL];omega
 ·rw [if_neg h]
  unfold kL
  split
  ·rename_i he;simp only [List.cons.injEq] at he;exact absurd he.1 h
  ·simp
theorem SP {l:Bytes} {k n:Nat} (hk:k<l.length) (h:n=k+((l.drop k).takeWhile gP).length) (hd:gP l[k]=true):n=(k+1)+((l.drop (k+1)).takeWhile gP).length:=by
 rw [List.drop_eq_getElem_cons hk,List.takeWhile_cons,if_pos hd,List.length_cons] at h;omega
theorem Bp {l:Bytes} {k n:Nat} (h:n=k+((l.drop k).takeWhile gP).length) (hd:∀hk:k<l.length,gP l[k]=false):n=k:=by
 by_cases hk:k<l.length
 ·rw [List.drop_eq_getElem_cons hk,List.takeWhile_cons,if_neg (by simp [hd hk])] at h
  simpa using h
 ·rw [List.drop_eq_nil_of_le (by omega)] at h
  simpa using h
theorem vH (c:UInt8):gP c=(decide ((48:Int)<= (c.toNat:Int))&&decide ((c.toNat:Int)<=57)):=by
 unfold gP;rw [Bool.eq_iff_iff];simp;omega
theorem Bq {l:Bytes} (h:17<kL l):eG l=none:=by unfold eG;rw [if_pos h]
theorem Br {l:Bytes} (h:¬17<kL l) (hb:∀v,Lib.atoiAll (l.take (kL l))≠ .ok v):eG l=none:=by
 unfold eG;rw [if_neg h]
 split
 ·rename_i k hk;exact absurd hk (hb k)
 ·rfl
theorem Bt {l:Bytes} {v:Int} (h:¬17<kL l) (hb:Lib.atoiAll (l.take (kL l))= .ok v):eG l=if Lib.itoa v=l.take (kL l)/\ -9007199254740992<=v/\v<=9007199254740992 then some (v,l.drop (kL l)) else none:=by
 unfold eG;rw [if_neg h,hb]
theorem Bu {a b:ah} (h:¬a.data.toList=b.data.toList):(a.toList !=b.toList)=true:=by
 rw [ByteArray.toList_eq,ByteArray.toList_eq];simpa using h
theorem Bv {a b:ah} (h:a.data.toList=b.data.toList):(a.toList !=b.toList)=false:=by
 rw [ByteArray.toList_eq,ByteArray.toList_eq];simpa using h
theorem SQ (r:Nat) (s:ah) (c:UInt8) (t:Bytes) (hs:s.data.toList=c::t) (hsz:s.size<=1048576) (w:World) (hr:Sr w r s false) (hl:uu r w):
 Calls prog 74 #[.pointer (some ⟨r,0,none⟩)] w (ab5 r s.data.toList w):=by
 have hlt:=hr.lt;have hlen:s.data.toList.length=s.size:=Array.length_toList;have hst:=ab6 s.data.toList c t hs;have hhead:gA s.data.toList=c:=by rw [hs];rfl
 have hpos:0<s.size:=by rw [<-hlen,hs];simp
 have jG:=ae hlen;have SR:=ae hhead;obtain⟨n0,hn0,pC⟩:∃n0:Nat,n0=(if c=45 then 1 else 0)/\kL s.data.toList=n0+((s.data.toList.drop n0).takeWhile gP).length:=⟨_,rfl,hst⟩;have ahg:n0<=1:=by rw [hn0];split<;>omega
 have aP:=ae pC;have Hs:=ae hs;clear hs hst pC hlen hhead;by_cases hc:c=45
 ·have hcb:((c.toNat:Int)==45)=true:=by rw [hc];rfl
  obtain rfl:n0=1:=by rw [hn0,if_pos hc]
  clear hn0 hc;go_enter func74,ntmps74;go_wp2_with fail;(refine(lX r s false _ hr).mono ?_);rintro e w1 ⟨rfl,rfl⟩;rw [SR.out];have hcr:=hr.cells;have vI:=hr.free;go_wp2_with fail
  go_loopg [3] (s.size-1) (fun g t3 wr=>∃k:Nat,t3= .int .i64 k/\k<=s.size/\g=s.size-k/\kL s.data.toList=k+((s.data.toList.drop k).takeWhile gP).length/\wr=w1)
  case atStart=>exact⟨1,rfl,by omega,rfl,aP.out,rfl⟩
  case round=>
   obtain⟨k,rfl,hk,rfl,D7,rfl⟩:=hrel;have Hn:=ae D7;clear D7;by_cases hk1:k<s.size
   ·have hk2:k<s.data.toList.length:=by rw [jG.out];exact hk1
    have hget:s.data.toList[k]=s[k]:=rfl;by_cases ha:(48:Int)<= (s[k].toNat:Int)
    ·have ha1:decide ((48:Int)<= (s[k].toNat:Int))=true:=by simpa using ha
     by_cases hb:(s[k].toNat:Int)<=57
     ·have hb1:decide ((s[k].toNat:Int)<=57)=true:=by simpa using hb
      have Hd:=ae (show gP s.data.toList[k]=true by rw [hget,vH,ha1,hb1];rfl);clear hget;go_wp2_with fail;go_roundg (s.size-(k+1))
      case measure=>omega
      case rel=>exact⟨k+1,by go_num,by omega,rfl,SP hk2 Hn.out Hd.out,rfl⟩
     ·have hb1:decide ((s[k].toNat:Int)<=57)=false:=by simpa using hb
      have mq:=Bp Hn.out (fun h=>by rw [hget,vH,ha1,hb1];rfl);have cR:=ae mq;clear mq Hn;have hx0:(s.extract 0 k).data.toList=s.data.toList.take k:=Bo s k;have bL:(s.extract 0 k).size<=1073741824:=by have e:(s.extract 0 k).data.toList.length=(s.extract 0 k).size:=Array.length_toList;rw [hx0,List.length_take] at e;omega
      have zC:=ae hx0;obtain⟨q0,hq0⟩:∃q0,s.extract 0 k=q0:=⟨_,rfl⟩;obtain⟨q1,hq1⟩:∃q1,s.extract k s.size=q1:=⟨_,rfl⟩;have sD:=ae (show q1.data.toList=s.data.toList.drop k by rw [<-hq1];exact sB s k);have gD:=ae (show q0.data.toList=s.data.toList.take k by rw [<-hq0];exact hx0);rw [hq0] at bL;clear hx0;by_cases jw:17<k
      ·have bw:=ae (Bq (l:=s.data.toList) (by rw [cR.out];exact jw))
       go_wp2_with fail;(refine(dE r q1 false _ aj).mono ?_);rintro e w2 ⟨rfl,hr2,h2⟩;have h3:Rd r wr w2:=((Rd.refl _ _).set _ _).trans h2;go_wp2_with fail;refine aF (h:= ?_);exact⟨h3,0,⟨#[]⟩,true,rfl,hr2, .inr ⟨rfl,rfl,bw.out⟩⟩
      ·have hR:Rd r wr (wr.setCell ⟨r,0,none⟩ (.string q1)):=(Rd.refl _ _).set _ _
       have hl2:cM (wr.setCell ⟨r,0,none⟩ (.string q1)):=hl.on hR.below|>.here
       have mr:Sr (wr.setCell ⟨r,0,none⟩ (.string q1)) r q1 false:=aj;by_cases hat:∃v,Lib.atoiAll q0.data.toList= .ok v
       ·obtain⟨v,hv⟩:=hat
        have hrg:=yu hv;obtain⟨hv0,hv1⟩:=hrg;have gF:=ae (Bt (l:=s.data.toList) (v:=v) (by rw [cR.out];exact jw) (by rw [cR.out,<-gD.out];exact hv));obtain⟨q2,hq2⟩:∃q2:ah,Lib.itoa v=q2.data.toList:=⟨⟨(Lib.itoa v).toArray⟩,by simp⟩;have dS:=ae hq2;have Hv:=ae hv;clear hv hq2;go_wp2_with fail;(refine(tL q0 bL v Hv.out _).mono ?_);rintro e w2 ⟨rfl,h2⟩;have hr2:=mr.ext h2;have bW:Rd r wr w2:=hR.ext hlt h2;have aR:=hl2.ext h2;by_cases hne:q2.data.toList=q0.data.toList
        ·have sF:=Bv hne
         have sG:q2.toList=q0.toList:=by rw [ByteArray.toList_eq,ByteArray.toList_eq,hne]
         by_cases hlo:v< -9007199254740992
         ·have bw:=ae (show eG s.data.toList=none by rw [gF.out,if_neg (fun h=>by omega)])
          have sH:decide (v< -9007199254740992)=true:=by simpa using hlo
          (try clear hne);go_wp2_with fail;(refine(ie v hv0 hv1 q2 dS.out _ aR).mono ?_);rintro e w3 ⟨rfl,h3⟩;have hr3:=hr2.ext h3;have bT:Rd r wr w3:=bW.ext hlt h3;go_wp2_with fail;(refine(dE r q1 false _ hr3).mono ?_);rintro e w4 ⟨rfl,hr4,h4⟩;have h5:Rd r wr w4:=bT.trans h4;go_wp2_with fail;refine aF (h:= ?_);exact⟨h5,0,⟨#[]⟩,true,rfl,hr4, .inr ⟨rfl,rfl,bw.out⟩⟩
         ·have sH:decide (v< -9007199254740992)=false:=by simpa using hlo
          by_cases hhi:9007199254740992<v
          ·have bw:=ae (show eG s.data.toList=none by rw [gF.out,if_neg (fun h=>by omega)])
           have sI:decide (9007199254740992<v)=true:=by simpa using hhi
           (try clear hne);go_wp2_with fail;(refine(ie v hv0 hv1 q2 dS.out _ aR).mono ?_);rintro e w3 ⟨rfl,h3⟩;have hr3:=hr2.ext h3;have bT:Rd r wr w3:=bW.ext hlt h3;go_wp2_with fail;(refine(dE r q1 false _ hr3).mono ?_);rintro e w4 ⟨rfl,hr4,h4⟩;have h5:Rd r wr w4:=bT.trans h4;go_wp2_with fail;refine aF (h:= ?_);exact⟨h5,0,⟨#[]⟩,true,rfl,hr4, .inr ⟨rfl,rfl,bw.out⟩⟩
          ·have lB:=ae (show eG s.data.toList=some (v,q1.data.toList) by rw [gF.out,if_pos ⟨by rw [dS.out,hne,gD.out,cR.out],by omega,by omega⟩,sD.out,cR.out])
           have sI:decide (9007199254740992<v)=false:=by simpa using hhi
           clear hne;go_wp2_with fail;(refine(ie v hv0 hv1 q2 dS.out _ aR).mono ?_);rintro e w3 ⟨rfl,h3⟩;have hr3:=hr2.ext h3;have bT:Rd r wr w3:=bW.ext hlt h3;go_wp2_with fail;refine aF (h:= ?_);exact⟨bT,v,q1,false,rfl,hr3, .inl ⟨rfl,lB.out⟩⟩
        ·have sF:=Bu hne
         have sG:¬q2.toList=q0.toList:=by rw [ByteArray.toList_eq,ByteArray.toList_eq];exact hne
         have bw:=ae (show eG s.data.toList=none by rw [gF.out,if_neg (fun h=>hne (by rw [<-dS.out,h.1,gD.out,cR.out]))]);(try clear hne);go_wp2_with fail;(refine(ie v hv0 hv1 q2 dS.out _ aR).mono ?_);rintro e w3 ⟨rfl,h3⟩;have hr3:=hr2.ext h3;have bT:Rd r wr w3:=bW.ext hlt h3;go_wp2_with fail;(refine(dE r q1 false _ hr3).mono ?_);rintro e w4 ⟨rfl,hr4,h4⟩;have h5:Rd r wr w4:=bT.trans h4;go_wp2_with fail;refine aF (h:= ?_);exact⟨h5,0,⟨#[]⟩,true,rfl,hr4, .inr ⟨rfl,rfl,bw.out⟩⟩
       ·have bw:=ae (Br (l:=s.data.toList) (by rw [cR.out];exact jw) (fun v hv=>hat ⟨v,by rw [gD.out];rw [cR.out] at hv;exact hv⟩))
        have fC:=ae hat;clear hat;go_wp2_with fail;(refine(yw q0 bL (fun v hv=>fC.out ⟨v,hv⟩) _ hl2).mono ?_);rintro e w2 ⟨m2,N2,rfl,h2⟩;have hr2:=mr.ext h2;have bW:Rd r wr w2:=hR.ext hlt h2;go_wp2_with fail;(refine(dE r q1 false _ hr2).mono ?_);rintro e w4 ⟨rfl,hr4,h4⟩;have h5:Rd r wr w4:=bW.trans h4;go_wp2_with fail;refine aF (h:= ?_);exact⟨h5,0,⟨#[]⟩,true,rfl,hr4, .inr ⟨rfl,rfl,bw.out⟩⟩
    ·have ha1:decide ((48:Int)<= (s[k].toNat:Int))=false:=by simpa using ha
     have mq:=Bp Hn.out (fun h=>by rw [hget,vH,ha1];rfl);have cR:=ae mq;clear mq Hn;have hx0:(s.extract 0 k).data.toList=s.data.toList.take k:=Bo s k;have bL:(s.extract 0 k).size<=1073741824:=by have e:(s.extract 0 k).data.toList.length=(s.extract 0 k).size:=Array.length_toList;rw [hx0,List.length_take] at e;omega
     have zC:=ae hx0;obtain⟨q0,hq0⟩:∃q0,s.extract 0 k=q0:=⟨_,rfl⟩;obtain⟨q1,hq1⟩:∃q1,s.extract k s.size=q1:=⟨_,rfl⟩;have sD:=ae (show q1.data.toList=s.data.toList.drop k by rw [<-hq1];exact sB s k);have gD:=ae (show q0.data.toList=s.data.toList.take k by rw [<-hq0];exact hx0);rw [hq0] at bL;clear hx0;by_cases jw:17<k
     ·have bw:=ae (Bq (l:=s.data.toList) (by rw [cR.out];exact jw))
      go_wp2_with fail;(refine(dE r q1 false _ aj).mono ?_);rintro e w2 ⟨rfl,hr2,h2⟩;have h3:Rd r wr w2:=((Rd.refl _ _).set _ _).trans h2;go_wp2_with fail;refine aF (h:= ?_);exact⟨h3,0,⟨#[]⟩,true,rfl,hr2, .inr ⟨rfl,rfl,bw.out⟩⟩
     ·have hR:Rd r wr (wr.setCell ⟨r,0,none⟩ (.string q1)):=(Rd.refl _ _).set _ _
      have hl2:cM (wr.setCell ⟨r,0,none⟩ (.string q1)):=hl.on hR.below|>.here
      have mr:Sr (wr.setCell ⟨r,0,none⟩ (.string q1)) r q1 false:=aj;by_cases hat:∃v,Lib.atoiAll q0.data.toList= .ok v
      ·obtain⟨v,hv⟩:=hat
       have hrg:=yu hv;obtain⟨hv0,hv1⟩:=hrg;have gF:=ae (Bt (l:=s.data.toList) (v:=v) (by rw [cR.out];exact jw) (by rw [cR.out,<-gD.out];exact hv));obtain⟨q2,hq2⟩:∃q2:ah,Lib.itoa v=q2.data.toList:=⟨⟨(Lib.itoa v).toArray⟩,by simp⟩;have dS:=ae hq2;have Hv:=ae hv;clear hv hq2;go_wp2_with fail;(refine(tL q0 bL v Hv.out _).mono ?_);rintro e w2 ⟨rfl,h2⟩;have hr2:=mr.ext h2;have bW:Rd r wr w2:=hR.ext hlt h2;have aR:=hl2.ext h2;by_cases hne:q2.data.toList=q0.data.toList
       ·have sF:=Bv hne
        have sG:q2.toList=q0.toList:=by rw [ByteArray.toList_eq,ByteArray.toList_eq,hne]
        by_cases hlo:v< -9007199254740992
        ·have bw:=ae (show eG s.data.toList=none by rw [gF.out,if_neg (fun h=>by omega)])
         have sH:decide (v< -9007199254740992)=true:=by simpa using hlo
         (try clear hne);go_wp2_with fail;(refine(ie v hv0 hv1 q2 dS.out _ aR).mono ?_);rintro e w3 ⟨rfl,h3⟩;have hr3:=hr2.ext h3;have bT:Rd r wr w3:=bW.ext hlt h3;go_wp2_with fail;(refine(dE r q1 false _ hr3).mono ?_);rintro e w4 ⟨rfl,hr4,h4⟩;have h5:Rd r wr w4:=bT.trans h4;go_wp2_with fail;refine aF (h:= ?_);exact⟨h5,0,⟨#[]⟩,true,rfl,hr4, .inr ⟨rfl,rfl,bw.out⟩⟩
        ·have sH:decide (v< -9007199254740992)=false:=by simpa using hlo
         by_cases hhi:9007199254740992<v
         ·have bw:=ae (show eG s.data.toList=none by rw [gF.out,if_neg (fun h=>by omega)])
          have sI:decide (9007199254740992<v)=true:=by simpa using hhi
          (try clear hne);go_wp2_with fail;(refine(ie v hv0 hv1 q2 dS.out _ aR).mono ?_);rintro e w3 ⟨rfl,h3⟩;have hr3:=hr2.ext h3;have bT:Rd r wr w3:=bW.ext hlt h3;go_wp2_with fail;(refine(dE r q1 false _ hr3).mono ?_);rintro e w4 ⟨rfl,hr4,h4⟩;have h5:Rd r wr w4:=bT.trans h4;go_wp2_with fail;refine aF (h:= ?_);exact⟨h5,0,⟨#[]⟩,true,rfl,hr4, .inr ⟨rfl,rfl,bw.out⟩⟩
         ·have lB:=ae (show eG s.data.toList=some (v,q1.data.toList) by rw [gF.out,if_pos ⟨by rw [dS.out,hne,gD.out,cR.out],by omega,by omega⟩,sD.out,cR.out])
          have sI:decide (9007199254740992<v)=false:=by simpa using hhi
          clear hne;go_wp2_with fail;(refine(ie v hv0 hv1 q2 dS.out _ aR).mono ?_);rintro e w3 ⟨rfl,h3⟩;have hr3:=hr2.ext h3;have bT:Rd r wr w3:=bW.ext hlt h3;go_wp2_with fail;refine aF (h:= ?_);exact⟨bT,v,q1,false,rfl,hr3, .inl ⟨rfl,lB.out⟩⟩
       ·have sF:=Bu hne
        have sG:¬q2.toList=q0.toList:=by rw [ByteArray.toList_eq,ByteArray.toList_eq];exact hne
        have bw:=ae (show eG s.data.toList=none by rw [gF.out,if_neg (fun h=>hne (by rw [<-dS.out,h.1,gD.out,cR.out]))]);(try clear hne);go_wp2_with fail;(refine(ie v hv0 hv1 q2 dS.out _ aR).mono ?_);rintro e w3 ⟨rfl,h3⟩;have hr3:=hr2.ext h3;have bT:Rd r wr w3:=bW.ext hlt h3;go_wp2_with fail;(refine(dE r q1 false _ hr3).mono ?_);rintro e w4 ⟨rfl,hr4,h4⟩;have h5:Rd r wr w4:=bT.trans h4;go_wp2_with fail;refine aF (h:= ?_);exact⟨h5,0,⟨#[]⟩,true,rfl,hr4, .inr ⟨rfl,rfl,bw.out⟩⟩
      ·have bw:=ae (Br (l:=s.data.toList) (by rw [cR.out];exact jw) (fun v hv=>hat ⟨v,by rw [gD.out];rw [cR.out] at hv;exact hv⟩))
       have fC:=ae hat;clear hat;go_wp2_with fail;(refine(yw q0 bL (fun v hv=>fC.out ⟨v,hv⟩) _ hl2).mono ?_);rintro e w2 ⟨m2,N2,rfl,h2⟩;have hr2:=mr.ext h2;have bW:Rd r wr w2:=hR.ext hlt h2;go_wp2_with fail;(refine(dE r q1 false _ hr2).mono ?_);rintro e w4 ⟨rfl,hr4,h4⟩;have h5:Rd r wr w4:=bW.trans h4;go_wp2_with fail;refine aF (h:= ?_);exact⟨h5,0,⟨#[]⟩,true,rfl,hr4, .inr ⟨rfl,rfl,bw.out⟩⟩
   ·have mq:=Bp Hn.out (fun h=>by rw [jG.out] at h;exact absurd h hk1)
    have cR:=ae mq;clear mq Hn;have hx0:(s.extract 0 k).data.toList=s.data.toList.take k:=Bo s k;have bL:(s.extract 0 k).size<=1073741824:=by have e:(s.extract 0 k).data.toList.length=(s.extract 0 k).size:=Array.length_toList;rw [hx0,List.length_take] at e;omega
    have zC:=ae hx0;obtain⟨q0,hq0⟩:∃q0,s.extract 0 k=q0:=⟨_,rfl⟩;obtain⟨q1,hq1⟩:∃q1,s.extract k s.size=q1:=⟨_,rfl⟩;have sD:=ae (show q1.data.toList=s.data.toList.drop k by rw [<-hq1];exact sB s k);have gD:=ae (show q0.data.toList=s.data.toList.take k by rw [<-hq0];exact hx0);rw [hq0] at bL;clear hx0;by_cases jw:17<k
    ·have bw:=ae (Bq (l:=s.data.toList) (by rw [cR.out];exact jw))
     go_wp2_with fail;(refine(dE r q1 false _ aj).mono ?_);rintro e w2 ⟨rfl,hr2,h2⟩;have h3:Rd r wr w2:=((Rd.refl _ _).set _ _).trans h2;go_wp2_with fail;refine aF (h:= ?_);exact⟨h3,0,⟨#[]⟩,true,rfl,hr2, .inr ⟨rfl,rfl,bw.out⟩⟩
    ·have hR:Rd r wr (wr.setCell ⟨r,0,none⟩ (.string q1)):=(Rd.refl _ _).set _ _
     have hl2:cM (wr.setCell ⟨r,0,none⟩ (.string q1)):=hl.on hR.below|>.here
     have mr:Sr (wr.setCell ⟨r,0,none⟩ (.string q1)) r q1 false:=aj;by_cases hat:∃v,Lib.atoiAll q0.data.toList= .ok v
     ·obtain⟨v,hv⟩:=hat
      have hrg:=yu hv;obtain⟨hv0,hv1⟩:=hrg;have gF:=ae (Bt (l:=s.data.toList) (v:=v) (by rw [cR.out];exact jw) (by rw [cR.out,<-gD.out];exact hv));obtain⟨q2,hq2⟩:∃q2:ah,Lib.itoa v=q2.data.toList:=⟨⟨(Lib.itoa v).toArray⟩,by simp⟩;have dS:=ae hq2;have Hv:=ae hv;clear hv hq2;go_wp2_with fail;(refine(tL q0 bL v Hv.out _).mono ?_);rintro e w2 ⟨rfl,h2⟩;have hr2:=mr.ext h2;have bW:Rd r wr w2:=hR.ext hlt h2;have aR:=hl2.ext h2;by_cases hne:q2.data.toList=q0.data.toList
      ·have sF:=Bv hne
       have sG:q2.toList=q0.toList:=by rw [ByteArray.toList_eq,ByteArray.toList_eq,hne]
       by_cases hlo:v< -9007199254740992
       ·have bw:=ae (show eG s.data.toList=none by rw [gF.out,if_neg (fun h=>by omega)])
        have sH:decide (v< -9007199254740992)=true:=by simpa using hlo
        (try clear hne);go_wp2_with fail;(refine(ie v hv0 hv1 q2 dS.out _ aR).mono ?_);rintro e w3 ⟨rfl,h3⟩;have hr3:=hr2.ext h3;have bT:Rd r wr w3:=bW.ext hlt h3;go_wp2_with fail;(refine(dE r q1 false _ hr3).mono ?_);rintro e w4 ⟨rfl,hr4,h4⟩;have h5:Rd r wr w4:=bT.trans h4;go_wp2_with fail;refine aF (h:= ?_);exact⟨h5,0,⟨#[]⟩,true,rfl,hr4, .inr ⟨rfl,rfl,bw.out⟩⟩
       ·have sH:decide (v< -9007199254740992)=false:=by simpa using hlo
        by_cases hhi:9007199254740992<v
        ·have bw:=ae (show eG s.data.toList=none by rw [gF.out,if_neg (fun h=>by omega)])
         have sI:decide (9007199254740992<v)=true:=by simpa using hhi
         (try clear hne);go_wp2_with fail;(refine(ie v hv0 hv1 q2 dS.out _ aR).mono ?_);rintro e w3 ⟨rfl,h3⟩;have hr3:=hr2.ext h3;have bT:Rd r wr w3:=bW.ext hlt h3;go_wp2_with fail;(refine(dE r q1 false _ hr3).mono ?_);rintro e w4 ⟨rfl,hr4,h4⟩;have h5:Rd r wr w4:=bT.trans h4;go_wp2_with fail;refine aF (h:= ?_);exact⟨h5,0,⟨#[]⟩,true,rfl,hr4, .inr ⟨rfl,rfl,bw.out⟩⟩
        ·have lB:=ae (show eG s.data.toList=some (v,q1.data.toList) by rw [gF.out,if_pos ⟨by rw [dS.out,hne,gD.out,cR.out],by omega,by omega⟩,sD.out,cR.out])
         have sI:decide (9007199254740992<v)=false:=by simpa using hhi
         clear hne;go_wp2_with fail;(refine(ie v hv0 hv1 q2 dS.out _ aR).mono ?_);rintro e w3 ⟨rfl,h3⟩;have hr3:=hr2.ext h3;have bT:Rd r wr w3:=bW.ext hlt h3;go_wp2_with fail;refine aF (h:= ?_);exact⟨bT,v,q1,false,rfl,hr3, .inl ⟨rfl,lB.out⟩⟩
      ·have sF:=Bu hne
       have sG:¬q2.toList=q0.toList:=by rw [ByteArray.toList_eq,ByteArray.toList_eq];exact hne
       have bw:=ae (show eG s.data.toList=none by rw [gF.out,if_neg (fun h=>hne (by rw [<-dS.out,h.1,gD.out,cR.out]))]);(try clear hne);go_wp2_with fail;(refine(ie v hv0 hv1 q2 dS.out _ aR).mono ?_);rintro e w3 ⟨rfl,h3⟩;have hr3:=hr2.ext h3;have bT:Rd r wr w3:=bW.ext hlt h3;go_wp2_with fail;(refine(dE r q1 false _ hr3).mono ?_);rintro e w4 ⟨rfl,hr4,h4⟩;have h5:Rd r wr w4:=bT.trans h4;go_wp2_with fail;refine aF (h:= ?_);exact⟨h5,0,⟨#[]⟩,true,rfl,hr4, .inr ⟨rfl,rfl,bw.out⟩⟩
     ·have bw:=ae (Br (l:=s.data.toList) (by rw [cR.out];exact jw) (fun v hv=>hat ⟨v,by rw [gD.out];rw [cR.out] at hv;exact hv⟩))
      have fC:=ae hat;clear hat;go_wp2_with fail;(refine(yw q0 bL (fun v hv=>fC.out ⟨v,hv⟩) _ hl2).mono ?_);rintro e w2 ⟨m2,N2,rfl,h2⟩;have hr2:=mr.ext h2;have bW:Rd r wr w2:=hR.ext hlt h2;go_wp2_with fail;(refine(dE r q1 false _ hr2).mono ?_);rintro e w4 ⟨rfl,hr4,h4⟩;have h5:Rd r wr w4:=bW.trans h4;go_wp2_with fail;refine aF (h:= ?_);exact⟨h5,0,⟨#[]⟩,true,rfl,hr4, .inr ⟨rfl,rfl,bw.out⟩⟩
 ·have hcb:((c.toNat:Int)==45)=false:=by simpa using fun h=>hc (by apply UInt8.toNat_inj.1;simpa using (by omega:c.toNat=45))
  obtain rfl:n0=0:=by rw [hn0,if_neg hc]
  clear hn0 hc;go_enter func74,ntmps74;go_wp2_with fail;(refine(lX r s false _ hr).mono ?_);rintro e w1 ⟨rfl,rfl⟩;rw [SR.out];have hcr:=hr.cells;have vI:=hr.free;go_wp2_with fail
  go_loopg [3] (s.size-0) (fun g t3 wr=>∃k:Nat,t3= .int .i64 k/\k<=s.size/\g=s.size-k/\kL s.data.toList=k+((s.data.toList.drop k).takeWhile gP).length/\wr=w1)
  case atStart=>exact⟨0,rfl,by omega,rfl,aP.out,rfl⟩
  case round=>
   obtain⟨k,rfl,hk,rfl,D7,rfl⟩:=hrel;have Hn:=ae D7;clear D7;by_cases hk1:k<s.size
   ·have hk2:k<s.data.toList.length:=by rw [jG.out];exact hk1
    have hget:s.data.toList[k]=s[k]:=rfl;by_cases ha:(48:Int)<= (s[k].toNat:Int)
    ·have ha1:decide ((48:Int)<= (s[k].toNat:Int))=true:=by simpa using ha
     by_cases hb:(s[k].toNat:Int)<=57
     ·have hb1:decide ((s[k].toNat:Int)<=57)=true:=by simpa using hb
      have Hd:=ae (show gP s.data.toList[k]=true by rw [hget,vH,ha1,hb1];rfl);clear hget;go_wp2_with fail;go_roundg (s.size-(k+1))
      case measure=>omega
      case rel=>exact⟨k+1,by go_num,by omega,rfl,SP hk2 Hn.out Hd.out,rfl⟩
     ·have hb1:decide ((s[k].toNat:Int)<=57)=false:=by simpa using hb
      have mq:=Bp Hn.out (fun h=>by rw [hget,vH,ha1,hb1];rfl);have cR:=ae mq;clear mq Hn;have hx0:(s.extract 0 k).data.toList=s.data.toList.take k:=Bo s k;have bL:(s.extract 0 k).size<=1073741824:=by have e:(s.extract 0 k).data.toList.length=(s.extract 0 k).size:=Array.length_toList;rw [hx0,List.length_take] at e;omega
      have zC:=ae hx0;obtain⟨q0,hq0⟩:∃q0,s.extract 0 k=q0:=⟨_,rfl⟩;obtain⟨q1,hq1⟩:∃q1,s.extract k s.size=q1:=⟨_,rfl⟩;have sD:=ae (show q1.data.toList=s.data.toList.drop k by rw [<-hq1];exact sB s k);have gD:=ae (show q0.data.toList=s.data.toList.take k by rw [<-hq0];exact hx0);rw [hq0] at bL;clear hx0;by_cases jw:17<k
      ·have bw:=ae (Bq (l:=s.data.toList) (by rw [cR.out];exact jw))
       go_wp2_with fail;(refine(dE r q1 false _ aj).mono ?_);rintro e w2 ⟨rfl,hr2,h2⟩;have h3:Rd r wr w2:=((Rd.refl _ _).set _ _).trans h2;go_wp2_with fail;refine aF (h:= ?_);exact⟨h3,0,⟨#[]⟩,true,rfl,hr2, .inr ⟨rfl,rfl,bw.out⟩⟩
      ·have hR:Rd r wr (wr.setCell ⟨r,0,none⟩ (.string q1)):=(Rd.refl _ _).set _ _
       have hl2:cM (wr.setCell ⟨r,0,none⟩ (.string q1)):=hl.on hR.below|>.here
       have mr:Sr (wr.setCell ⟨r,0,none⟩ (.string q1)) r q1 false:=aj;by_cases hat:∃v,Lib.atoiAll q0.data.toList= .ok v
       ·obtain⟨v,hv⟩:=hat
        have hrg:=yu hv;obtain⟨hv0,hv1⟩:=hrg;have gF:=ae (Bt (l:=s.data.toList) (v:=v) (by rw [cR.out];exact jw) (by rw [cR.out,<-gD.out];exact hv));obtain⟨q2,hq2⟩:∃q2:ah,Lib.itoa v=q2.data.toList:=⟨⟨(Lib.itoa v).toArray⟩,by simp⟩;have dS:=ae hq2;have Hv:=ae hv;clear hv hq2;go_wp2_with fail;(refine(tL q0 bL v Hv.out _).mono ?_);rintro e w2 ⟨rfl,h2⟩;have hr2:=mr.ext h2;have bW:Rd r wr w2:=hR.ext hlt h2;have aR:=hl2.ext h2;by_cases hne:q2.data.toList=q0.data.toList
        ·have sF:=Bv hne
         have sG:q2.toList=q0.toList:=by rw [ByteArray.toList_eq,ByteArray.toList_eq,hne]
         by_cases hlo:v< -9007199254740992
         ·have bw:=ae (show eG s.data.toList=none by rw [gF.out,if_neg (fun h=>by omega)])
          have sH:decide (v< -9007199254740992)=true:=by simpa using hlo
          (try clear hne);go_wp2_with fail;(refine(ie v hv0 hv1 q2 dS.out _ aR).mono ?_);rintro e w3 ⟨rfl,h3⟩;have hr3:=hr2.ext h3;have bT:Rd r wr w3:=bW.ext hlt h3;go_wp2_with fail;(refine(dE r q1 false _ hr3).mono ?_);rintro e w4 ⟨rfl,hr4,h4⟩;have h5:Rd r wr w4:=bT.trans h4;go_wp2_with fail;refine aF (h:= ?_);exact⟨h5,0,⟨#[]⟩,true,rfl,hr4, .inr ⟨rfl,rfl,bw.out⟩⟩
         ·have sH:decide (v< -9007199254740992)=false:=by simpa using hlo
          by_cases hhi:9007199254740992<v
          ·have bw:=ae (show eG s.data.toList=none by rw [gF.out,if_neg (fun h=>by omega)])
           have sI:decide (9007199254740992<v)=true:=by simpa using hhi
           (try clear hne);go_wp2_with fail;(refine(ie v hv0 hv1 q2 dS.out _ aR).mono ?_);rintro e w3 ⟨rfl,h3⟩;have hr3:=hr2.ext h3;have bT:Rd r wr w3:=bW.ext hlt h3;go_wp2_with fail;(refine(dE r q1 false _ hr3).mono ?_);rintro e w4 ⟨rfl,hr4,h4⟩;have h5:Rd r wr w4:=bT.trans h4;go_wp2_with fail;refine aF (h:= ?_);exact⟨h5,0,⟨#[]⟩,true,rfl,hr4, .inr ⟨rfl,rfl,bw.out⟩⟩
          ·have lB:=ae (show eG s.data.toList=some (v,q1.data.toList) by rw [gF.out,if_pos ⟨by rw [dS.out,hne,gD.out,cR.out],by omega,by omega⟩,sD.out,cR.out])
           have sI:decide (9007199254740992<v)=false:=by simpa using hhi
           clear hne;go_wp2_with fail;(refine(ie v hv0 hv1 q2 dS.out _ aR).mono ?_);rintro e w3 ⟨rfl,h3⟩;have hr3:=hr2.ext h3;have bT:Rd r wr w3:=bW.ext hlt h3;go_wp2_with fail;refine aF (h:= ?_);exact⟨bT,v,q1,false,rfl,hr3, .inl ⟨rfl,lB.out⟩⟩
        ·have sF:=Bu hne
         have sG:¬q2.toList=q0.toList:=by rw [ByteArray.toList_eq,ByteArray.toList_eq];exact hne
         have bw:=ae (show eG s.data.toList=none by rw [gF.out,if_neg (fun h=>hne (by rw [<-dS.out,h.1,gD.out,cR.out]))]);(try clear hne);go_wp2_with fail;(refine(ie v hv0 hv1 q2 dS.out _ aR).mono ?_);rintro e w3 ⟨rfl,h3⟩;have hr3:=hr2.ext h3;have bT:Rd r wr w3:=bW.ext hlt h3;go_wp2_with fail;(refine(dE r q1 false _ hr3).mono ?_);rintro e w4 ⟨rfl,hr4,h4⟩;have h5:Rd r wr w4:=bT.trans h4;go_wp2_with fail;refine aF (h:= ?_);exact⟨h5,0,⟨#[]⟩,true,rfl,hr4, .inr ⟨rfl,rfl,bw.out⟩⟩
       ·have bw:=ae (Br (l:=s.data.toList) (by rw [cR.out];exact jw) (fun v hv=>hat ⟨v,by rw [gD.out];rw [cR.out] at hv;exact hv⟩))
        have fC:=ae hat;clear hat;go_wp2_with fail;(refine(yw q0 bL (fun v hv=>fC.out ⟨v,hv⟩) _ hl2).mono ?_);rintro e w2 ⟨m2,N2,rfl,h2⟩;have hr2:=mr.ext h2;have bW:Rd r wr w2:=hR.ext hlt h2;go_wp2_with fail;(refine(dE r q1 false _ hr2).mono ?_);rintro e w4 ⟨rfl,hr4,h4⟩;have h5:Rd r wr w4:=bW.trans h4;go_wp2_with fail;refine aF (h:= ?_);exact⟨h5,0,⟨#[]⟩,true,rfl,hr4, .inr ⟨rfl,rfl,bw.out⟩⟩
    ·have ha1:decide ((48:Int)<= (s[k].toNat:Int))=false:=by simpa using ha
     have mq:=Bp Hn.out (fun h=>by rw [hget,vH,ha1];rfl);have cR:=ae mq;clear mq Hn;have hx0:(s.extract 0 k).data.toList=s.data.toList.take k:=Bo s k;have bL:(s.extract 0 k).size<=1073741824:=by have e:(s.extract 0 k).data.toList.length=(s.extract 0 k).size:=Array.length_toList;rw [hx0,List.length_take] at e;omega
     have zC:=ae hx0;obtain⟨q0,hq0⟩:∃q0,s.extract 0 k=q0:=⟨_,rfl⟩;obtain⟨q1,hq1⟩:∃q1,s.extract k s.size=q1:=⟨_,rfl⟩;have sD:=ae (show q1.data.toList=s.data.toList.drop k by rw [<-hq1];exact sB s k);have gD:=ae (show q0.data.toList=s.data.toList.take k by rw [<-hq0];exact hx0);rw [hq0] at bL;clear hx0;by_cases jw:17<k
     ·have bw:=ae (Bq (l:=s.data.toList) (by rw [cR.out];exact jw))
      go_wp2_with fail;(refine(dE r q1 false _ aj).mono ?_);rintro e w2 ⟨rfl,hr2,h2⟩;have h3:Rd r wr w2:=((Rd.refl _ _).set _ _).trans h2;go_wp2_with fail;refine aF (h:= ?_);exact⟨h3,0,⟨#[]⟩,true,rfl,hr2, .inr ⟨rfl,rfl,bw.out⟩⟩
     ·have hR:Rd r wr (wr.setCell ⟨r,0,none⟩ (.string q1)):=(Rd.refl _ _).set _ _
      have hl2:cM (wr.setCell ⟨r,0,none⟩ (.string q1)):=hl.on hR.below|>.here
      have mr:Sr (wr.setCell ⟨r,0,none⟩ (.string q1)) r q1 false:=aj;by_cases hat:∃v,Lib.atoiAll q0.data.toList= .ok v
      ·obtain⟨v,hv⟩:=hat
       have hrg:=yu hv;obtain⟨hv0,hv1⟩:=hrg;have gF:=ae (Bt (l:=s.data.toList) (v:=v) (by rw [cR.out];exact jw) (by rw [cR.out,<-gD.out];exact hv));obtain⟨q2,hq2⟩:∃q2:ah,Lib.itoa v=q2.data.toList:=⟨⟨(Lib.itoa v).toArray⟩,by simp⟩;have dS:=ae hq2;have Hv:=ae hv;clear hv hq2;go_wp2_with fail;(refine(tL q0 bL v Hv.out _).mono ?_);rintro e w2 ⟨rfl,h2⟩;have hr2:=mr.ext h2;have bW:Rd r wr w2:=hR.ext hlt h2;have aR:=hl2.ext h2;by_cases hne:q2.data.toList=q0.data.toList
       ·have sF:=Bv hne
        have sG:q2.toList=q0.toList:=by rw [ByteArray.toList_eq,ByteArray.toList_eq,hne]
        by_cases hlo:v< -9007199254740992
        ·have bw:=ae (show eG s.data.toList=none by rw [gF.out,if_neg (fun h=>by omega)])
         have sH:decide (v< -9007199254740992)=true:=by simpa using hlo
         (try clear hne);go_wp2_with fail;(refine(ie v hv0 hv1 q2 dS.out _ aR).mono ?_);rintro e w3 ⟨rfl,h3⟩;have hr3:=hr2.ext h3;have bT:Rd r wr w3:=bW.ext hlt h3;go_wp2_with fail;(refine(dE r q1 false _ hr3).mono ?_);rintro e w4 ⟨rfl,hr4,h4⟩;have h5:Rd r wr w4:=bT.trans h4;go_wp2_with fail;refine aF (h:= ?_);exact⟨h5,0,⟨#[]⟩,true,rfl,hr4, .inr ⟨rfl,rfl,bw.out⟩⟩
        ·have sH:decide (v< -9007199254740992)=false:=by simpa using hlo
         by_cases hhi:9007199254740992<v
         ·have bw:=ae (show eG s.data.toList=none by rw [gF.out,if_neg (fun h=>by omega)])
          have sI:decide (9007199254740992<v)=true:=by simpa using hhi
          (try clear hne);go_wp2_with fail;(refine(ie v hv0 hv1 q2 dS.out _ aR).mono ?_);rintro e w3 ⟨rfl,h3⟩;have hr3:=hr2.ext h3;have bT:Rd r wr w3:=bW.ext hlt h3;go_wp2_with fail;(refine(dE r q1 false _ hr3).mono ?_);rintro e w4 ⟨rfl,hr4,h4⟩;have h5:Rd r wr w4:=bT.trans h4;go_wp2_with fail;refine aF (h:= ?_);exact⟨h5,0,⟨#[]⟩,true,rfl,hr4, .inr ⟨rfl,rfl,bw.out⟩⟩
         ·have lB:=ae (show eG s.data.toList=some (v,q1.data.toList) by rw [gF.out,if_pos ⟨by rw [dS.out,hne,gD.out,cR.out],by omega,by omega⟩,sD.out,cR.out])
          have sI:decide (9007199254740992<v)=false:=by simpa using hhi
          clear hne;go_wp2_with fail;(refine(ie v hv0 hv1 q2 dS.out _ aR).mono ?_);rintro e w3 ⟨rfl,h3⟩;have hr3:=hr2.ext h3;have bT:Rd r wr w3:=bW.ext hlt h3;go_wp2_with fail;refine aF (h:= ?_);exact⟨bT,v,q1,false,rfl,hr3, .inl ⟨rfl,lB.out⟩⟩
       ·have sF:=Bu hne
        have sG:¬q2.toList=q0.toList:=by rw [ByteArray.toList_eq,ByteArray.toList_eq];exact hne
        have bw:=ae (show eG s.data.toList=none by rw [gF.out,if_neg (fun h=>hne (by rw [<-dS.out,h.1,gD.out,cR.out]))]);(try clear hne);go_wp2_with fail;(refine(ie v hv0 hv1 q2 dS.out _ aR).mono ?_);rintro e w3 ⟨rfl,h3⟩;have hr3:=hr2.ext h3;have bT:Rd r wr w3:=bW.ext hlt h3;go_wp2_with fail;(refine(dE r q1 false _ hr3).mono ?_);rintro e w4 ⟨rfl,hr4,h4⟩;have h5:Rd r wr w4:=bT.trans h4;go_wp2_with fail;refine aF (h:= ?_);exact⟨h5,0,⟨#[]⟩,true,rfl,hr4, .inr ⟨rfl,rfl,bw.out⟩⟩
      ·have bw:=ae (Br (l:=s.data.toList) (by rw [cR.out];exact jw) (fun v hv=>hat ⟨v,by rw [gD.out];rw [cR.out] at hv;exact hv⟩))
       have fC:=ae hat;clear hat;go_wp2_with fail;(refine(yw q0 bL (fun v hv=>fC.out ⟨v,hv⟩) _ hl2).mono ?_);rintro e w2 ⟨m2,N2,rfl,h2⟩;have hr2:=mr.ext h2;have bW:Rd r wr w2:=hR.ext hlt h2;go_wp2_with fail;(refine(dE r q1 false _ hr2).mono ?_);rintro e w4 ⟨rfl,hr4,h4⟩;have h5:Rd r wr w4:=bW.trans h4;go_wp2_with fail;refine aF (h:= ?_);exact⟨h5,0,⟨#[]⟩,true,rfl,hr4, .inr ⟨rfl,rfl,bw.out⟩⟩
   ·have mq:=Bp Hn.out (fun h=>by rw [jG.out] at h;exact absurd h hk1)
    have cR:=ae mq;clear mq Hn;have hx0:(s.extract 0 k).data.toList=s.data.toList.take k:=Bo s k;have bL:(s.extract 0 k).size<=1073741824:=by have e:(s.extract 0 k).data.toList.length=(s.extract 0 k).size:=Array.length_toList;rw [hx0,List.length_take] at e;omega
    have zC:=ae hx0;obtain⟨q0,hq0⟩:∃q0,s.extract 0 k=q0:=⟨_,rfl⟩;obtain⟨q1,hq1⟩:∃q1,s.extract k s.size=q1:=⟨_,rfl⟩;have sD:=ae (show q1.data.toList=s.data.toList.drop k by rw [<-hq1];exact sB s k);have gD:=ae (show q0.data.toList=s.data.toList.take k by rw [<-hq0];exact hx0);rw [hq0] at bL;clear hx0;by_cases jw:17<k
    ·have bw:=ae (Bq (l:=s.data.toList) (by rw [cR.out];exact jw))
     go_wp2_with fail;(refine(dE r q1 false _ aj).mono ?_);rintro e w2 ⟨rfl,hr2,h2⟩;have h3:Rd r wr w2:=((Rd.refl _ _).set _ _).trans h2;go_wp2_with fail;refine aF (h:= ?_);exact⟨h3,0,⟨#[]⟩,true,rfl,hr2, .inr ⟨rfl,rfl,bw.out⟩⟩
    ·have hR:Rd r wr (wr.setCell ⟨r,0,none⟩ (.string q1)):=(Rd.refl _ _).set _ _
     have hl2:cM (wr.setCell ⟨r,0,none⟩ (.string q1)):=hl.on hR.below|>.here
     have mr:Sr (wr.setCell ⟨r,0,none⟩ (.string q1)) r q1 false:=aj;by_cases hat:∃v,Lib.atoiAll q0.data.toList= .ok v
     ·obtain⟨v,hv⟩:=hat
      have hrg:=yu hv;obtain⟨hv0,hv1⟩:=hrg;have gF:=ae (Bt (l:=s.data.toList) (v:=v) (by rw [cR.out];exact jw) (by rw [cR.out,<-gD.out];exact hv));obtain⟨q2,hq2⟩:∃q2:ah,Lib.itoa v=q2.data.toList:=⟨⟨(Lib.itoa v).toArray⟩,by simp⟩;have dS:=ae hq2;have Hv:=ae hv;clear hv hq2;go_wp2_with fail;(refine(tL q0 bL v Hv.out _).mono ?_);rintro e w2 ⟨rfl,h2⟩;have hr2:=mr.ext h2;have bW:Rd r wr w2:=hR.ext hlt h2;have aR:=hl2.ext h2;by_cases hne:q2.data.toList=q0.data.toList
      ·have sF:=Bv hne
       have sG:q2.toList=q0.toList:=by rw [ByteArray.toList_eq,ByteArray.toList_eq,hne]
       by_cases hlo:v< -9007199254740992
       ·have bw:=ae (show eG s.data.toList=none by rw [gF.out,if_neg (fun h=>by omega)])
        have sH:decide (v< -9007199254740992)=true:=by simpa using hlo
        (try clear hne);go_wp2_with fail;(refine(ie v hv0 hv1 q2 dS.out _ aR).mono ?_);rintro e w3 ⟨rfl,h3⟩;have hr3:=hr2.ext h3;have bT:Rd r wr w3:=bW.ext hlt h3;go_wp2_with fail;(refine(dE r q1 false _ hr3).mono ?_);rintro e w4 ⟨rfl,hr4,h4⟩;have h5:Rd r wr w4:=bT.trans h4;go_wp2_with fail;refine aF (h:= ?_);exact⟨h5,0,⟨#[]⟩,true,rfl,hr4, .inr ⟨rfl,rfl,bw.out⟩⟩
       ·have sH:decide (v< -9007199254740992)=false:=by simpa using hlo
        by_cases hhi:9007199254740992<v
        ·have bw:=ae (show eG s.data.toList=none by rw [gF.out,if_neg (fun h=>by omega)])
         have sI:decide (9007199254740992<v)=true:=by simpa using hhi
         (try clear hne);go_wp2_with fail;(refine(ie v hv0 hv1 q2 dS.out _ aR).mono ?_);rintro e w3 ⟨rfl,h3⟩;have hr3:=hr2.ext h3;have bT:Rd r wr w3:=bW.ext hlt h3;go_wp2_with fail;(refine(dE r q1 false _ hr3).mono ?_);rintro e w4 ⟨rfl,hr4,h4⟩;have h5:Rd r wr w4:=bT.trans h4;go_wp2_with fail;refine aF (h:= ?_);exact⟨h5,0,⟨#[]⟩,true,rfl,hr4, .inr ⟨rfl,rfl,bw.out⟩⟩
        ·have lB:=ae (show eG s.data.toList=some (v,q1.data.toList) by rw [gF.out,if_pos ⟨by rw [dS.out,hne,gD.out,cR.out],by omega,by omega⟩,sD.out,cR.out])
         have sI:decide (9007199254740992<v)=false:=by simpa using hhi
         clear hne;go_wp2_with fail;(refine(ie v hv0 hv1 q2 dS.out _ aR).mono ?_);rintro e w3 ⟨rfl,h3⟩;have hr3:=hr2.ext h3;have bT:Rd r wr w3:=bW.ext hlt h3;go_wp2_with fail;refine aF (h:= ?_);exact⟨bT,v,q1,false,rfl,hr3, .inl ⟨rfl,lB.out⟩⟩
      ·have sF:=Bu hne
       have sG:¬q2.toList=q0.toList:=by rw [ByteArray.toList_eq,ByteArray.toList_eq];exact hne
       have bw:=ae (show eG s.data.toList=none by rw [gF.out,if_neg (fun h=>hne (by rw [<-dS.out,h.1,gD.out,cR.out]))]);(try clear hne);go_wp2_with fail;(refine(ie v hv0 hv1 q2 dS.out _ aR).mono ?_);rintro e w3 ⟨rfl,h3⟩;have hr3:=hr2.ext h3;have bT:Rd r wr w3:=bW.ext hlt h3;go_wp2_with fail;(refine(dE r q1 false _ hr3).mono ?_);rintro e w4 ⟨rfl,hr4,h4⟩;have h5:Rd r wr w4:=bT.trans h4;go_wp2_with fail;refine aF (h:= ?_);exact⟨h5,0,⟨#[]⟩,true,rfl,hr4, .inr ⟨rfl,rfl,bw.out⟩⟩
     ·have bw:=ae (Br (l:=s.data.toList) (by rw [cR.out];exact jw) (fun v hv=>hat ⟨v,by rw [gD.out];rw [cR.out] at hv;exact hv⟩))
      have fC:=ae hat;clear hat;go_wp2_with fail;(refine(yw q0 bL (fun v hv=>fC.out ⟨v,hv⟩) _ hl2).mono ?_);rintro e w2 ⟨m2,N2,rfl,h2⟩;have hr2:=mr.ext h2;have bW:Rd r wr w2:=hR.ext hlt h2;go_wp2_with fail;(refine(dE r q1 false _ hr2).mono ?_);rintro e w4 ⟨rfl,hr4,h4⟩;have h5:Rd r wr w4:=bW.trans h4;go_wp2_with fail;refine aF (h:= ?_);exact⟨h5,0,⟨#[]⟩,true,rfl,hr4, .inr ⟨rfl,rfl,bw.out⟩⟩
end Go.Proofs.YtlcebdaghmdkeabGreatDoor
