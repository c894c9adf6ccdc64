import Derived.Test.YtlcebdaghmdkeabGreatDoorM4
set_option linter.all false
set_option maxRecDepth 100000
set_option maxHeartbeats 64000000
namespace Go.Proofs.YtlcebdaghmdkeabGreatDoor
open Go.Proofs.Tryz
open Go.RowKit
attribute [local go_sem↓] Go.wp_at_zero Go.wp_at_succ
def tA (r:Nat) (w:World):Prop:=∀w',Below r w w'->cS w'
theorem tA.on {r:Nat} {w w':World} (h:tA r w) (b:Below r w w'):tA r w':=fun w'' k=>h w'' (b.trans k)
theorem tA.here {r:Nat} {w:World} (h:tA r w):cS w:=h w (Below.refl _ _)
def aaU (r:Nat) (l:Bytes) (w:World) (e:Ending) (w':World):Prop:=
 Rd r w w'/\∃(k:Int) (s':ah) (gb:Bool),e= .returned (.int .i64 k)/\Sr w' r s' gb/\ ((gb=false/\ej l=some (k,s'.data.toList))\/ (gb=true/\s'.data.toList= []/\ej l=none))
theorem Am (s:ah) (n:Nat):(s.extract 0 n).data.toList=s.data.toList.take n:=by
 rw [Lib.extract_data,List.drop_zero,Nat.sub_zero]
theorem aaV (l:Bytes) (c:UInt8) (t:Bytes) (hl:l=c::t):kC l=(if c=45 then 1 else 0)+((l.drop (if c=45 then 1 else 0)).takeWhile gy).length:=by
 subst hl;by_cases h:c=45
 ·subst h;simp [kC];omega
 ·rw [if_neg h]
  unfold kC
  split
  ·rename_i he;simp only [List.cons.injEq] at he;exact absurd he.1 h
  ·simp
theorem QX {l:Bytes} {k n:Nat} (hk:k<l.length) (h:n=k+((l.drop k).takeWhile gy).length) (hd:gy l[k]=true):n=(k+1)+((l.drop (k+1)).takeWhile gy).length:=by
 rw [List.drop_eq_getElem_cons hk,List.takeWhile_cons,if_pos hd,List.length_cons] at h;omega
theorem Ao {l:Bytes} {k n:Nat} (h:n=k+((l.drop k).takeWhile gy).length) (hd:∀hk:k<l.length,gy l[k]=false):n=k:=by
 by_cases hk:k<l.length
 ·rw [List.drop_eq_getElem_cons hk,List.takeWhile_cons,if_neg (by simp [hd hk])] at h
  simpa using h
 ·rw [List.drop_eq_nil_of_le (by omega)] at h
  simpa using h
theorem uz (c:UInt8):gy c=(decide ((48:Int)<= (c.toNat:Int))&&decide ((c.toNat:Int)<=57)):=by
 unfold gy;rw [Bool.eq_iff_iff];simp;omega
theorem Ap {l:Bytes} (h:17<kC l):ej l=none:=by unfold ej;rw [if_pos h]
theorem Aq {l:Bytes} (h:¬17<kC l) (hb:∀v,Lib.atoiAll (l.take (kC l))≠ .ok v):ej l=none:=by
 unfold ej;rw [if_neg h]
 split
 ·rename_i k hk;exact absurd hk (hb k)
 ·rfl
theorem Ar {l:Bytes} {v:Int} (h:¬17<kC l) (hb:Lib.atoiAll (l.take (kC l))= .ok v):ej l=if Lib.itoa v=l.take (kC l)/\ -9007199254740992<=v/\v<=9007199254740992 then some (v,l.drop (kC l)) else none:=by
 unfold ej;rw [if_neg h,hb]
theorem Au {a b:ah} (h:¬a.data.toList=b.data.toList):(a.toList !=b.toList)=true:=by
 rw [ByteArray.toList_eq,ByteArray.toList_eq];simpa using h
theorem Av {a b:ah} (h:a.data.toList=b.data.toList):(a.toList !=b.toList)=false:=by
 rw [ByteArray.toList_eq,ByteArray.toList_eq];simpa using h
theorem QY (r:Nat) (s:ah) (c:UInt8) (t:Bytes) (hs:s.data.toList=c::t) (hsz:s.size<=1048576) (w:World) (hr:Sr w r s false) (hl:tA r w):
 Calls prog 74 #[.pointer (some ⟨r,0,none⟩)] w (aaU r s.data.toList w):=by
 have hlt:=hr.lt;have hlen:s.data.toList.length=s.size:=Array.length_toList;have hst:=aaV s.data.toList c t hs;have hhead:fZ s.data.toList=c:=by rw [hs];rfl
 have hpos:0<s.size:=by rw [<-hlen,hs];simp
 have jr:=ae hlen;have QZ:=ae hhead;obtain⟨n0,hn0,oK⟩:∃n0:Nat,n0=(if c=45 then 1 else 0)/\kC s.data.toList=n0+((s.data.toList.drop n0).takeWhile gy).length:=⟨_,rfl,hst⟩;have afW:n0<=1:=by rw [hn0];split<;>omega
 have aP:=ae oK;have Hs:=ae hs;clear hs hst oK hlen hhead;by_cases hc:c=45
 ·have hcb:((c.toNat:Int)==45)=true:=by rw [hc];rfl
  obtain rfl:n0=1:=by rw [hn0,if_pos hc]
  clear hn0 hc;go_enter func74,ntmps74;go_wp2_with fail;(refine(lC r s false _ hr).mono ?_);rintro e w1 ⟨rfl,rfl⟩;rw [QZ.out];have hcr:=hr.cells;have uA:=hr.free;go_wp2_with fail
  go_loopg [3] (s.size-1) (fun g t3 wr=>∃k:Nat,t3= .int .i64 k/\k<=s.size/\g=s.size-k/\kC s.data.toList=k+((s.data.toList.drop k).takeWhile gy).length/\wr=w1)
  case atStart=>exact⟨1,rfl,by omega,rfl,aP.out,rfl⟩
  case round=>
   obtain⟨k,rfl,hk,rfl,CR,rfl⟩:=hrel;have Hn:=ae CR;clear CR;by_cases hk1:k<s.size
   ·have hk2:k<s.data.toList.length:=by rw [jr.out];exact hk1
    have hget:s.data.toList[k]=s[k]:=rfl;by_cases ha:(48:Int)<= (s[k].toNat:Int)
    ·have ha1:decide ((48:Int)<= (s[k].toNat:Int))=true:=by simpa using ha
     by_cases hb:(s[k].toNat:Int)<=57
     ·have hb1:decide ((s[k].toNat:Int)<=57)=true:=by simpa using hb
      have Hd:=ae (show gy s.data.toList[k]=true by rw [hget,uz,ha1,hb1];rfl);clear hget;go_wp2_with fail;go_roundg (s.size-(k+1))
      case measure=>omega
      case rel=>exact⟨k+1,by go_num,by omega,rfl,QX hk2 Hn.out Hd.out,rfl⟩
     ·have hb1:decide ((s[k].toNat:Int)<=57)=false:=by simpa using hb
      have lO:=Ao Hn.out (fun h=>by rw [hget,uz,ha1,hb1];rfl);have cN:=ae lO;clear lO Hn;have hx0:(s.extract 0 k).data.toList=s.data.toList.take k:=Am s k;have bF:(s.extract 0 k).size<=1073741824:=by have e:(s.extract 0 k).data.toList.length=(s.extract 0 k).size:=Array.length_toList;rw [hx0,List.length_take] at e;omega
      have yG:=ae hx0;obtain⟨q0,hq0⟩:∃q0,s.extract 0 k=q0:=⟨_,rfl⟩;obtain⟨q1,hq1⟩:∃q1,s.extract k s.size=q1:=⟨_,rfl⟩;have rE:=ae (show q1.data.toList=s.data.toList.drop k by rw [<-hq1];exact rD s k);have gf:=ae (show q0.data.toList=s.data.toList.take k by rw [<-hq0];exact hx0);rw [hq0] at bF;clear hx0;by_cases jf:17<k
      ·have bj:=ae (Ap (l:=s.data.toList) (by rw [cN.out];exact jf))
       go_wp2_with fail;(refine(dz r q1 false _ aj).mono ?_);rintro e w2 ⟨rfl,hr2,h2⟩;have h3:Rd r wr w2:=((Rd.refl _ _).set _ _).trans h2;go_wp2_with fail;refine aF (h:= ?_);exact⟨h3,0,⟨#[]⟩,true,rfl,hr2, .inr ⟨rfl,rfl,bj.out⟩⟩
      ·have hR:Rd r wr (wr.setCell ⟨r,0,none⟩ (.string q1)):=(Rd.refl _ _).set _ _
       have hl2:cS (wr.setCell ⟨r,0,none⟩ (.string q1)):=hl.on hR.below|>.here
       have lQ:Sr (wr.setCell ⟨r,0,none⟩ (.string q1)) r q1 false:=aj;by_cases hat:∃v,Lib.atoiAll q0.data.toList= .ok v
       ·obtain⟨v,hv⟩:=hat
        have hrg:=xm hv;obtain⟨hv0,hv1⟩:=hrg;have gh:=ae (Ar (l:=s.data.toList) (v:=v) (by rw [cN.out];exact jf) (by rw [cN.out,<-gf.out];exact hv));obtain⟨q2,hq2⟩:∃q2:ah,Lib.itoa v=q2.data.toList:=⟨⟨(Lib.itoa v).toArray⟩,by simp⟩;have dN:=ae hq2;have Hv:=ae hv;clear hv hq2;go_wp2_with fail;(refine(sy q0 bF v Hv.out _).mono ?_);rintro e w2 ⟨rfl,h2⟩;have hr2:=lQ.ext h2;have bQ:Rd r wr w2:=hR.ext hlt h2;have aS:=hl2.ext h2;by_cases hne:q2.data.toList=q0.data.toList
        ·have rF:=Av hne
         have rG:q2.toList=q0.toList:=by rw [ByteArray.toList_eq,ByteArray.toList_eq,hne]
         by_cases hlo:v< -9007199254740992
         ·have bj:=ae (show ej s.data.toList=none by rw [gh.out,if_neg (fun h=>by omega)])
          have rH:decide (v< -9007199254740992)=true:=by simpa using hlo
          (try clear hne);go_wp2_with fail;(refine(gS v hv0 hv1 q2 dN.out _ aS).mono ?_);rintro e w3 ⟨rfl,h3⟩;have hr3:=hr2.ext h3;have bN:Rd r wr w3:=bQ.ext hlt h3;go_wp2_with fail;(refine(dz r q1 false _ hr3).mono ?_);rintro e w4 ⟨rfl,hr4,h4⟩;have h5:Rd r wr w4:=bN.trans h4;go_wp2_with fail;refine aF (h:= ?_);exact⟨h5,0,⟨#[]⟩,true,rfl,hr4, .inr ⟨rfl,rfl,bj.out⟩⟩
         ·have rH:decide (v< -9007199254740992)=false:=by simpa using hlo
          by_cases hhi:9007199254740992<v
          ·have bj:=ae (show ej s.data.toList=none by rw [gh.out,if_neg (fun h=>by omega)])
           have rI:decide (9007199254740992<v)=true:=by simpa using hhi
           (try clear hne);go_wp2_with fail;(refine(gS v hv0 hv1 q2 dN.out _ aS).mono ?_);rintro e w3 ⟨rfl,h3⟩;have hr3:=hr2.ext h3;have bN:Rd r wr w3:=bQ.ext hlt h3;go_wp2_with fail;(refine(dz r q1 false _ hr3).mono ?_);rintro e w4 ⟨rfl,hr4,h4⟩;have h5:Rd r wr w4:=bN.trans h4;go_wp2_with fail;refine aF (h:= ?_);exact⟨h5,0,⟨#[]⟩,true,rfl,hr4, .inr ⟨rfl,rfl,bj.out⟩⟩
          ·have kU:=ae (show ej s.data.toList=some (v,q1.data.toList) by rw [gh.out,if_pos ⟨by rw [dN.out,hne,gf.out,cN.out],by omega,by omega⟩,rE.out,cN.out])
           have rI:decide (9007199254740992<v)=false:=by simpa using hhi
           clear hne;go_wp2_with fail;(refine(gS v hv0 hv1 q2 dN.out _ aS).mono ?_);rintro e w3 ⟨rfl,h3⟩;have hr3:=hr2.ext h3;have bN:Rd r wr w3:=bQ.ext hlt h3;go_wp2_with fail;refine aF (h:= ?_);exact⟨bN,v,q1,false,rfl,hr3, .inl ⟨rfl,kU.out⟩⟩
        ·have rF:=Au hne
         have rG:¬q2.toList=q0.toList:=by rw [ByteArray.toList_eq,ByteArray.toList_eq];exact hne
         have bj:=ae (show ej s.data.toList=none by rw [gh.out,if_neg (fun h=>hne (by rw [<-dN.out,h.1,gf.out,cN.out]))]);(try clear hne);go_wp2_with fail;(refine(gS v hv0 hv1 q2 dN.out _ aS).mono ?_);rintro e w3 ⟨rfl,h3⟩;have hr3:=hr2.ext h3;have bN:Rd r wr w3:=bQ.ext hlt h3;go_wp2_with fail;(refine(dz r q1 false _ hr3).mono ?_);rintro e w4 ⟨rfl,hr4,h4⟩;have h5:Rd r wr w4:=bN.trans h4;go_wp2_with fail;refine aF (h:= ?_);exact⟨h5,0,⟨#[]⟩,true,rfl,hr4, .inr ⟨rfl,rfl,bj.out⟩⟩
       ·have bj:=ae (Aq (l:=s.data.toList) (by rw [cN.out];exact jf) (fun v hv=>hat ⟨v,by rw [gf.out];rw [cN.out] at hv;exact hv⟩))
        have fF:=ae hat;clear hat;go_wp2_with fail;(refine(xn q0 bF (fun v hv=>fF.out ⟨v,hv⟩) _ hl2).mono ?_);rintro e w2 ⟨m2,N2,rfl,h2⟩;have hr2:=lQ.ext h2;have bQ:Rd r wr w2:=hR.ext hlt h2;go_wp2_with fail;(refine(dz r q1 false _ hr2).mono ?_);rintro e w4 ⟨rfl,hr4,h4⟩;have h5:Rd r wr w4:=bQ.trans h4;go_wp2_with fail;refine aF (h:= ?_);exact⟨h5,0,⟨#[]⟩,true,rfl,hr4, .inr ⟨rfl,rfl,bj.out⟩⟩
    ·have ha1:decide ((48:Int)<= (s[k].toNat:Int))=false:=by simpa using ha
     have lO:=Ao Hn.out (fun h=>by rw [hget,uz,ha1];rfl);have cN:=ae lO;clear lO Hn;have hx0:(s.extract 0 k).data.toList=s.data.toList.take k:=Am s k;have bF:(s.extract 0 k).size<=1073741824:=by have e:(s.extract 0 k).data.toList.length=(s.extract 0 k).size:=Array.length_toList;rw [hx0,List.length_take] at e;omega
     have yG:=ae hx0;obtain⟨q0,hq0⟩:∃q0,s.extract 0 k=q0:=⟨_,rfl⟩;obtain⟨q1,hq1⟩:∃q1,s.extract k s.size=q1:=⟨_,rfl⟩;have rE:=ae (show q1.data.toList=s.data.toList.drop k by rw [<-hq1];exact rD s k);have gf:=ae (show q0.data.toList=s.data.toList.take k by rw [<-hq0];exact hx0);rw [hq0] at bF;clear hx0;by_cases jf:17<k
     ·have bj:=ae (Ap (l:=s.data.toList) (by rw [cN.out];exact jf))
      go_wp2_with fail;(refine(dz r q1 false _ aj).mono ?_);rintro e w2 ⟨rfl,hr2,h2⟩;have h3:Rd r wr w2:=((Rd.refl _ _).set _ _).trans h2;go_wp2_with fail;refine aF (h:= ?_);exact⟨h3,0,⟨#[]⟩,true,rfl,hr2, .inr ⟨rfl,rfl,bj.out⟩⟩
     ·have hR:Rd r wr (wr.setCell ⟨r,0,none⟩ (.string q1)):=(Rd.refl _ _).set _ _
      have hl2:cS (wr.setCell ⟨r,0,none⟩ (.string q1)):=hl.on hR.below|>.here
      have lQ:Sr (wr.setCell ⟨r,0,none⟩ (.string q1)) r q1 false:=aj;by_cases hat:∃v,Lib.atoiAll q0.data.toList= .ok v
      ·obtain⟨v,hv⟩:=hat
       have hrg:=xm hv;obtain⟨hv0,hv1⟩:=hrg;have gh:=ae (Ar (l:=s.data.toList) (v:=v) (by rw [cN.out];exact jf) (by rw [cN.out,<-gf.out];exact hv));obtain⟨q2,hq2⟩:∃q2:ah,Lib.itoa v=q2.data.toList:=⟨⟨(Lib.itoa v).toArray⟩,by simp⟩;have dN:=ae hq2;have Hv:=ae hv;clear hv hq2;go_wp2_with fail;(refine(sy q0 bF v Hv.out _).mono ?_);rintro e w2 ⟨rfl,h2⟩;have hr2:=lQ.ext h2;have bQ:Rd r wr w2:=hR.ext hlt h2;have aS:=hl2.ext h2;by_cases hne:q2.data.toList=q0.data.toList
       ·have rF:=Av hne
        have rG:q2.toList=q0.toList:=by rw [ByteArray.toList_eq,ByteArray.toList_eq,hne]
        by_cases hlo:v< -9007199254740992
        ·have bj:=ae (show ej s.data.toList=none by rw [gh.out,if_neg (fun h=>by omega)])
         have rH:decide (v< -9007199254740992)=true:=by simpa using hlo
         (try clear hne);go_wp2_with fail;(refine(gS v hv0 hv1 q2 dN.out _ aS).mono ?_);rintro e w3 ⟨rfl,h3⟩;have hr3:=hr2.ext h3;have bN:Rd r wr w3:=bQ.ext hlt h3;go_wp2_with fail;(refine(dz r q1 false _ hr3).mono ?_);rintro e w4 ⟨rfl,hr4,h4⟩;have h5:Rd r wr w4:=bN.trans h4;go_wp2_with fail;refine aF (h:= ?_);exact⟨h5,0,⟨#[]⟩,true,rfl,hr4, .inr ⟨rfl,rfl,bj.out⟩⟩
        ·have rH:decide (v< -9007199254740992)=false:=by simpa using hlo
         by_cases hhi:9007199254740992<v
         ·have bj:=ae (show ej s.data.toList=none by rw [gh.out,if_neg (fun h=>by omega)])
          have rI:decide (9007199254740992<v)=true:=by simpa using hhi
          (try clear hne);go_wp2_with fail;(refine(gS v hv0 hv1 q2 dN.out _ aS).mono ?_);rintro e w3 ⟨rfl,h3⟩;have hr3:=hr2.ext h3;have bN:Rd r wr w3:=bQ.ext hlt h3;go_wp2_with fail;(refine(dz r q1 false _ hr3).mono ?_);rintro e w4 ⟨rfl,hr4,h4⟩;have h5:Rd r wr w4:=bN.trans h4;go_wp2_with fail;refine aF (h:= ?_);exact⟨h5,0,⟨#[]⟩,true,rfl,hr4, .inr ⟨rfl,rfl,bj.out⟩⟩
         ·have kU:=ae (show ej s.data.toList=some (v,q1.data.toList) by rw [gh.out,if_pos ⟨by rw [dN.out,hne,gf.out,cN.out],by omega,by omega⟩,rE.out,cN.out])
          have rI:decide (9007199254740992<v)=false:=by simpa using hhi
          clear hne;go_wp2_with fail;(refine(gS v hv0 hv1 q2 dN.out _ aS).mono ?_);rintro e w3 ⟨rfl,h3⟩;have hr3:=hr2.ext h3;have bN:Rd r wr w3:=bQ.ext hlt h3;go_wp2_with fail;refine aF (h:= ?_);exact⟨bN,v,q1,false,rfl,hr3, .inl ⟨rfl,kU.out⟩⟩
       ·have rF:=Au hne
        have rG:¬q2.toList=q0.toList:=by rw [ByteArray.toList_eq,ByteArray.toList_eq];exact hne
        have bj:=ae (show ej s.data.toList=none by rw [gh.out,if_neg (fun h=>hne (by rw [<-dN.out,h.1,gf.out,cN.out]))]);(try clear hne);go_wp2_with fail;(refine(gS v hv0 hv1 q2 dN.out _ aS).mono ?_);rintro e w3 ⟨rfl,h3⟩;have hr3:=hr2.ext h3;have bN:Rd r wr w3:=bQ.ext hlt h3;go_wp2_with fail;(refine(dz r q1 false _ hr3).mono ?_);rintro e w4 ⟨rfl,hr4,h4⟩;have h5:Rd r wr w4:=bN.trans h4;go_wp2_with fail;refine aF (h:= ?_);exact⟨h5,0,⟨#[]⟩,true,rfl,hr4, .inr ⟨rfl,rfl,bj.out⟩⟩
      ·have bj:=ae (Aq (l:=s.data.toList) (by rw [cN.out];exact jf) (fun v hv=>hat ⟨v,by rw [gf.out];rw [cN.out] at hv;exact hv⟩))
       have fF:=ae hat;clear hat;go_wp2_with fail;(refine(xn q0 bF (fun v hv=>fF.out ⟨v,hv⟩) _ hl2).mono ?_);rintro e w2 ⟨m2,N2,rfl,h2⟩;have hr2:=lQ.ext h2;have bQ:Rd r wr w2:=hR.ext hlt h2;go_wp2_with fail;(refine(dz r q1 false _ hr2).mono ?_);rintro e w4 ⟨rfl,hr4,h4⟩;have h5:Rd r wr w4:=bQ.trans h4;go_wp2_with fail;refine aF (h:= ?_);exact⟨h5,0,⟨#[]⟩,true,rfl,hr4, .inr ⟨rfl,rfl,bj.out⟩⟩
   ·have lO:=Ao Hn.out (fun h=>by rw [jr.out] at h;exact absurd h hk1)
    have cN:=ae lO;clear lO Hn;have hx0:(s.extract 0 k).data.toList=s.data.toList.take k:=Am s k;have bF:(s.extract 0 k).size<=1073741824:=by have e:(s.extract 0 k).data.toList.length=(s.extract 0 k).size:=Array.length_toList;rw [hx0,List.length_take] at e;omega
    have yG:=ae hx0;obtain⟨q0,hq0⟩:∃q0,s.extract 0 k=q0:=⟨_,rfl⟩;obtain⟨q1,hq1⟩:∃q1,s.extract k s.size=q1:=⟨_,rfl⟩;have rE:=ae (show q1.data.toList=s.data.toList.drop k by rw [<-hq1];exact rD s k);have gf:=ae (show q0.data.toList=s.data.toList.take k by rw [<-hq0];exact hx0);rw [hq0] at bF;clear hx0;by_cases jf:17<k
    ·have bj:=ae (Ap (l:=s.data.toList) (by rw [cN.out];exact jf))
     go_wp2_with fail;(refine(dz r q1 false _ aj).mono ?_);rintro e w2 ⟨rfl,hr2,h2⟩;have h3:Rd r wr w2:=((Rd.refl _ _).set _ _).trans h2;go_wp2_with fail;refine aF (h:= ?_);exact⟨h3,0,⟨#[]⟩,true,rfl,hr2, .inr ⟨rfl,rfl,bj.out⟩⟩
    ·have hR:Rd r wr (wr.setCell ⟨r,0,none⟩ (.string q1)):=(Rd.refl _ _).set _ _
     have hl2:cS (wr.setCell ⟨r,0,none⟩ (.string q1)):=hl.on hR.below|>.here
     have lQ:Sr (wr.setCell ⟨r,0,none⟩ (.string q1)) r q1 false:=aj;by_cases hat:∃v,Lib.atoiAll q0.data.toList= .ok v
     ·obtain⟨v,hv⟩:=hat
      have hrg:=xm hv;obtain⟨hv0,hv1⟩:=hrg;have gh:=ae (Ar (l:=s.data.toList) (v:=v) (by rw [cN.out];exact jf) (by rw [cN.out,<-gf.out];exact hv));obtain⟨q2,hq2⟩:∃q2:ah,Lib.itoa v=q2.data.toList:=⟨⟨(Lib.itoa v).toArray⟩,by simp⟩;have dN:=ae hq2;have Hv:=ae hv;clear hv hq2;go_wp2_with fail;(refine(sy q0 bF v Hv.out _).mono ?_);rintro e w2 ⟨rfl,h2⟩;have hr2:=lQ.ext h2;have bQ:Rd r wr w2:=hR.ext hlt h2;have aS:=hl2.ext h2;by_cases hne:q2.data.toList=q0.data.toList
      ·have rF:=Av hne
       have rG:q2.toList=q0.toList:=by rw [ByteArray.toList_eq,ByteArray.toList_eq,hne]
       by_cases hlo:v< -9007199254740992
       ·have bj:=ae (show ej s.data.toList=none by rw [gh.out,if_neg (fun h=>by omega)])
        have rH:decide (v< -9007199254740992)=true:=by simpa using hlo
        (try clear hne);go_wp2_with fail;(refine(gS v hv0 hv1 q2 dN.out _ aS).mono ?_);rintro e w3 ⟨rfl,h3⟩;have hr3:=hr2.ext h3;have bN:Rd r wr w3:=bQ.ext hlt h3;go_wp2_with fail;(refine(dz r q1 false _ hr3).mono ?_);rintro e w4 ⟨rfl,hr4,h4⟩;have h5:Rd r wr w4:=bN.trans h4;go_wp2_with fail;refine aF (h:= ?_);exact⟨h5,0,⟨#[]⟩,true,rfl,hr4, .inr ⟨rfl,rfl,bj.out⟩⟩
       ·have rH:decide (v< -9007199254740992)=false:=by simpa using hlo
        by_cases hhi:9007199254740992<v
        ·have bj:=ae (show ej s.data.toList=none by rw [gh.out,if_neg (fun h=>by omega)])
         have rI:decide (9007199254740992<v)=true:=by simpa using hhi
         (try clear hne);go_wp2_with fail;(refine(gS v hv0 hv1 q2 dN.out _ aS).mono ?_);rintro e w3 ⟨rfl,h3⟩;have hr3:=hr2.ext h3;have bN:Rd r wr w3:=bQ.ext hlt h3;go_wp2_with fail;(refine(dz r q1 false _ hr3).mono ?_);rintro e w4 ⟨rfl,hr4,h4⟩;have h5:Rd r wr w4:=bN.trans h4;go_wp2_with fail;refine aF (h:= ?_);exact⟨h5,0,⟨#[]⟩,true,rfl,hr4, .inr ⟨rfl,rfl,bj.out⟩⟩
        ·have kU:=ae (show ej s.data.toList=some (v,q1.data.toList) by rw [gh.out,if_pos ⟨by rw [dN.out,hne,gf.out,cN.out],by omega,by omega⟩,rE.out,cN.out])
         have rI:decide (9007199254740992<v)=false:=by simpa using hhi
         clear hne;go_wp2_with fail;(refine(gS v hv0 hv1 q2 dN.out _ aS).mono ?_);rintro e w3 ⟨rfl,h3⟩;have hr3:=hr2.ext h3;have bN:Rd r wr w3:=bQ.ext hlt h3;go_wp2_with fail;refine aF (h:= ?_);exact⟨bN,v,q1,false,rfl,hr3, .inl ⟨rfl,kU.out⟩⟩
      ·have rF:=Au hne
       have rG:¬q2.toList=q0.toList:=by rw [ByteArray.toList_eq,ByteArray.toList_eq];exact hne
       have bj:=ae (show ej s.data.toList=none by rw [gh.out,if_neg (fun h=>hne (by rw [<-dN.out,h.1,gf.out,cN.out]))]);(try clear hne);go_wp2_with fail;(refine(gS v hv0 hv1 q2 dN.out _ aS).mono ?_);rintro e w3 ⟨rfl,h3⟩;have hr3:=hr2.ext h3;have bN:Rd r wr w3:=bQ.ext hlt h3;go_wp2_with fail;(refine(dz r q1 false _ hr3).mono ?_);rintro e w4 ⟨rfl,hr4,h4⟩;have h5:Rd r wr w4:=bN.trans h4;go_wp2_with fail;refine aF (h:= ?_);exact⟨h5,0,⟨#[]⟩,true,rfl,hr4, .inr ⟨rfl,rfl,bj.out⟩⟩
     ·have bj:=ae (Aq (l:=s.data.toList) (by rw [cN.out];exact jf) (fun v hv=>hat ⟨v,by rw [gf.out];rw [cN.out] at hv;exact hv⟩))
      have fF:=ae hat;clear hat;go_wp2_with fail;(refine(xn q0 bF (fun v hv=>fF.out ⟨v,hv⟩) _ hl2).mono ?_);rintro e w2 ⟨m2,N2,rfl,h2⟩;have hr2:=lQ.ext h2;have bQ:Rd r wr w2:=hR.ext hlt h2;go_wp2_with fail;(refine(dz r q1 false _ hr2).mono ?_);rintro e w4 ⟨rfl,hr4,h4⟩;have h5:Rd r wr w4:=bQ.trans h4;go_wp2_with fail;refine aF (h:= ?_);exact⟨h5,0,⟨#[]⟩,true,rfl,hr4, .inr ⟨rfl,rfl,bj.out⟩⟩
 ·have hcb:((c.toNat:Int)==45)=false:=by simpa using fun h=>hc (by apply UInt8.toNat_inj.1;simpa using (by omega:c.toNat=45))
  obtain rfl:n0=0:=by rw [hn0,if_neg hc]
  clear hn0 hc;go_enter func74,ntmps74;go_wp2_with fail;(refine(lC r s false _ hr).mono ?_);rintro e w1 ⟨rfl,rfl⟩;rw [QZ.out];have hcr:=hr.cells;have uA:=hr.free;go_wp2_with fail
  go_loopg [3] (s.size-0) (fun g t3 wr=>∃k:Nat,t3= .int .i64 k/\k<=s.size/\g=s.size-k/\kC s.data.toList=k+((s.data.toList.drop k).takeWhile gy).length/\wr=w1)
  case atStart=>exact⟨0,rfl,by omega,rfl,aP.out,rfl⟩
  case round=>
   obtain⟨k,rfl,hk,rfl,CR,rfl⟩:=hrel;have Hn:=ae CR;clear CR;by_cases hk1:k<s.size
   ·have hk2:k<s.data.toList.length:=by rw [jr.out];exact hk1
    have hget:s.data.toList[k]=s[k]:=rfl;by_cases ha:(48:Int)<= (s[k].toNat:Int)
    ·have ha1:decide ((48:Int)<= (s[k].toNat:Int))=true:=by simpa using ha
     by_cases hb:(s[k].toNat:Int)<=57
     ·have hb1:decide ((s[k].toNat:Int)<=57)=true:=by simpa using hb
      have Hd:=ae (show gy s.data.toList[k]=true by rw [hget,uz,ha1,hb1];rfl);clear hget;go_wp2_with fail;go_roundg (s.size-(k+1))
      case measure=>omega
      case rel=>exact⟨k+1,by go_num,by omega,rfl,QX hk2 Hn.out Hd.out,rfl⟩
     ·have hb1:decide ((s[k].toNat:Int)<=57)=false:=by simpa using hb
      have lO:=Ao Hn.out (fun h=>by rw [hget,uz,ha1,hb1];rfl);have cN:=ae lO;clear lO Hn;have hx0:(s.extract 0 k).data.toList=s.data.toList.take k:=Am s k;have bF:(s.extract 0 k).size<=1073741824:=by have e:(s.extract 0 k).data.toList.length=(s.extract 0 k).size:=Array.length_toList;rw [hx0,List.length_take] at e;omega
      have yG:=ae hx0;obtain⟨q0,hq0⟩:∃q0,s.extract 0 k=q0:=⟨_,rfl⟩;obtain⟨q1,hq1⟩:∃q1,s.extract k s.size=q1:=⟨_,rfl⟩;have rE:=ae (show q1.data.toList=s.data.toList.drop k by rw [<-hq1];exact rD s k);have gf:=ae (show q0.data.toList=s.data.toList.take k by rw [<-hq0];exact hx0);rw [hq0] at bF;clear hx0;by_cases jf:17<k
      ·have bj:=ae (Ap (l:=s.data.toList) (by rw [cN.out];exact jf))
       go_wp2_with fail;(refine(dz r q1 false _ aj).mono ?_);rintro e w2 ⟨rfl,hr2,h2⟩;have h3:Rd r wr w2:=((Rd.refl _ _).set _ _).trans h2;go_wp2_with fail;refine aF (h:= ?_);exact⟨h3,0,⟨#[]⟩,true,rfl,hr2, .inr ⟨rfl,rfl,bj.out⟩⟩
      ·have hR:Rd r wr (wr.setCell ⟨r,0,none⟩ (.string q1)):=(Rd.refl _ _).set _ _
       have hl2:cS (wr.setCell ⟨r,0,none⟩ (.string q1)):=hl.on hR.below|>.here
       have lQ:Sr (wr.setCell ⟨r,0,none⟩ (.string q1)) r q1 false:=aj;by_cases hat:∃v,Lib.atoiAll q0.data.toList= .ok v
       ·obtain⟨v,hv⟩:=hat
        have hrg:=xm hv;obtain⟨hv0,hv1⟩:=hrg;have gh:=ae (Ar (l:=s.data.toList) (v:=v) (by rw [cN.out];exact jf) (by rw [cN.out,<-gf.out];exact hv));obtain⟨q2,hq2⟩:∃q2:ah,Lib.itoa v=q2.data.toList:=⟨⟨(Lib.itoa v).toArray⟩,by simp⟩;have dN:=ae hq2;have Hv:=ae hv;clear hv hq2;go_wp2_with fail;(refine(sy q0 bF v Hv.out _).mono ?_);rintro e w2 ⟨rfl,h2⟩;have hr2:=lQ.ext h2;have bQ:Rd r wr w2:=hR.ext hlt h2;have aS:=hl2.ext h2;by_cases hne:q2.data.toList=q0.data.toList
        ·have rF:=Av hne
         have rG:q2.toList=q0.toList:=by rw [ByteArray.toList_eq,ByteArray.toList_eq,hne]
         by_cases hlo:v< -9007199254740992
         ·have bj:=ae (show ej s.data.toList=none by rw [gh.out,if_neg (fun h=>by omega)])
          have rH:decide (v< -9007199254740992)=true:=by simpa using hlo
          (try clear hne);go_wp2_with fail;(refine(gS v hv0 hv1 q2 dN.out _ aS).mono ?_);rintro e w3 ⟨rfl,h3⟩;have hr3:=hr2.ext h3;have bN:Rd r wr w3:=bQ.ext hlt h3;go_wp2_with fail;(refine(dz r q1 false _ hr3).mono ?_);rintro e w4 ⟨rfl,hr4,h4⟩;have h5:Rd r wr w4:=bN.trans h4;go_wp2_with fail;refine aF (h:= ?_);exact⟨h5,0,⟨#[]⟩,true,rfl,hr4, .inr ⟨rfl,rfl,bj.out⟩⟩
         ·have rH:decide (v< -9007199254740992)=false:=by simpa using hlo
          by_cases hhi:9007199254740992<v
          ·have bj:=ae (show ej s.data.toList=none by rw [gh.out,if_neg (fun h=>by omega)])
           have rI:decide (9007199254740992<v)=true:=by simpa using hhi
           (try clear hne);go_wp2_with fail;(refine(gS v hv0 hv1 q2 dN.out _ aS).mono ?_);rintro e w3 ⟨rfl,h3⟩;have hr3:=hr2.ext h3;have bN:Rd r wr w3:=bQ.ext hlt h3;go_wp2_with fail;(refine(dz r q1 false _ hr3).mono ?_);rintro e w4 ⟨rfl,hr4,h4⟩;have h5:Rd r wr w4:=bN.trans h4;go_wp2_with fail;refine aF (h:= ?_);exact⟨h5,0,⟨#[]⟩,true,rfl,hr4, .inr ⟨rfl,rfl,bj.out⟩⟩
          ·have kU:=ae (show ej s.data.toList=some (v,q1.data.toList) by rw [gh.out,if_pos ⟨by rw [dN.out,hne,gf.out,cN.out],by omega,by omega⟩,rE.out,cN.out])
           have rI:decide (9007199254740992<v)=false:=by simpa using hhi
           clear hne;go_wp2_with fail;(refine(gS v hv0 hv1 q2 dN.out _ aS).mono ?_);rintro e w3 ⟨rfl,h3⟩;have hr3:=hr2.ext h3;have bN:Rd r wr w3:=bQ.ext hlt h3;go_wp2_with fail;refine aF (h:= ?_);exact⟨bN,v,q1,false,rfl,hr3, .inl ⟨rfl,kU.out⟩⟩
        ·have rF:=Au hne
         have rG:¬q2.toList=q0.toList:=by rw [ByteArray.toList_eq,ByteArray.toList_eq];exact hne
         have bj:=ae (show ej s.data.toList=none by rw [gh.out,if_neg (fun h=>hne (by rw [<-dN.out,h.1,gf.out,cN.out]))]);(try clear hne);go_wp2_with fail;(refine(gS v hv0 hv1 q2 dN.out _ aS).mono ?_);rintro e w3 ⟨rfl,h3⟩;have hr3:=hr2.ext h3;have bN:Rd r wr w3:=bQ.ext hlt h3;go_wp2_with fail;(refine(dz r q1 false _ hr3).mono ?_);rintro e w4 ⟨rfl,hr4,h4⟩;have h5:Rd r wr w4:=bN.trans h4;go_wp2_with fail;refine aF (h:= ?_);exact⟨h5,0,⟨#[]⟩,true,rfl,hr4, .inr ⟨rfl,rfl,bj.out⟩⟩
       ·have bj:=ae (Aq (l:=s.data.toList) (by rw [cN.out];exact jf) (fun v hv=>hat ⟨v,by rw [gf.out];rw [cN.out] at hv;exact hv⟩))
        have fF:=ae hat;clear hat;go_wp2_with fail;(refine(xn q0 bF (fun v hv=>fF.out ⟨v,hv⟩) _ hl2).mono ?_);rintro e w2 ⟨m2,N2,rfl,h2⟩;have hr2:=lQ.ext h2;have bQ:Rd r wr w2:=hR.ext hlt h2;go_wp2_with fail;(refine(dz r q1 false _ hr2).mono ?_);rintro e w4 ⟨rfl,hr4,h4⟩;have h5:Rd r wr w4:=bQ.trans h4;go_wp2_with fail;refine aF (h:= ?_);exact⟨h5,0,⟨#[]⟩,true,rfl,hr4, .inr ⟨rfl,rfl,bj.out⟩⟩
    ·have ha1:decide ((48:Int)<= (s[k].toNat:Int))=false:=by simpa using ha
     have lO:=Ao Hn.out (fun h=>by rw [hget,uz,ha1];rfl);have cN:=ae lO;clear lO Hn;have hx0:(s.extract 0 k).data.toList=s.data.toList.take k:=Am s k;have bF:(s.extract 0 k).size<=1073741824:=by have e:(s.extract 0 k).data.toList.length=(s.extract 0 k).size:=Array.length_toList;rw [hx0,List.length_take] at e;omega
     have yG:=ae hx0;obtain⟨q0,hq0⟩:∃q0,s.extract 0 k=q0:=⟨_,rfl⟩;obtain⟨q1,hq1⟩:∃q1,s.extract k s.size=q1:=⟨_,rfl⟩;have rE:=ae (show q1.data.toList=s.data.toList.drop k by rw [<-hq1];exact rD s k);have gf:=ae (show q0.data.toList=s.data.toList.take k by rw [<-hq0];exact hx0);rw [hq0] at bF;clear hx0;by_cases jf:17<k
     ·have bj:=ae (Ap (l:=s.data.toList) (by rw [cN.out];exact jf))
      go_wp2_with fail;(refine(dz r q1 false _ aj).mono ?_);rintro e w2 ⟨rfl,hr2,h2⟩;have h3:Rd r wr w2:=((Rd.refl _ _).set _ _).trans h2;go_wp2_with fail;refine aF (h:= ?_);exact⟨h3,0,⟨#[]⟩,true,rfl,hr2, .inr ⟨rfl,rfl,bj.out⟩⟩
     ·have hR:Rd r wr (wr.setCell ⟨r,0,none⟩ (.string q1)):=(Rd.refl _ _).set _ _
      have hl2:cS (wr.setCell ⟨r,0,none⟩ (.string q1)):=hl.on hR.below|>.here
      have lQ:Sr (wr.setCell ⟨r,0,none⟩ (.string q1)) r q1 false:=aj;by_cases hat:∃v,Lib.atoiAll q0.data.toList= .ok v
      ·obtain⟨v,hv⟩:=hat
       have hrg:=xm hv;obtain⟨hv0,hv1⟩:=hrg;have gh:=ae (Ar (l:=s.data.toList) (v:=v) (by rw [cN.out];exact jf) (by rw [cN.out,<-gf.out];exact hv));obtain⟨q2,hq2⟩:∃q2:ah,Lib.itoa v=q2.data.toList:=⟨⟨(Lib.itoa v).toArray⟩,by simp⟩;have dN:=ae hq2;have Hv:=ae hv;clear hv hq2;go_wp2_with fail;(refine(sy q0 bF v Hv.out _).mono ?_);rintro e w2 ⟨rfl,h2⟩;have hr2:=lQ.ext h2;have bQ:Rd r wr w2:=hR.ext hlt h2;have aS:=hl2.ext h2;by_cases hne:q2.data.toList=q0.data.toList
       ·have rF:=Av hne
        have rG:q2.toList=q0.toList:=by rw [ByteArray.toList_eq,ByteArray.toList_eq,hne]
        by_cases hlo:v< -9007199254740992
        ·have bj:=ae (show ej s.data.toList=none by rw [gh.out,if_neg (fun h=>by omega)])
         have rH:decide (v< -9007199254740992)=true:=by simpa using hlo
         (try clear hne);go_wp2_with fail;(refine(gS v hv0 hv1 q2 dN.out _ aS).mono ?_);rintro e w3 ⟨rfl,h3⟩;have hr3:=hr2.ext h3;have bN:Rd r wr w3:=bQ.ext hlt h3;go_wp2_with fail;(refine(dz r q1 false _ hr3).mono ?_);rintro e w4 ⟨rfl,hr4,h4⟩;have h5:Rd r wr w4:=bN.trans h4;go_wp2_with fail;refine aF (h:= ?_);exact⟨h5,0,⟨#[]⟩,true,rfl,hr4, .inr ⟨rfl,rfl,bj.out⟩⟩
        ·have rH:decide (v< -9007199254740992)=false:=by simpa using hlo
         by_cases hhi:9007199254740992<v
         ·have bj:=ae (show ej s.data.toList=none by rw [gh.out,if_neg (fun h=>by omega)])
          have rI:decide (9007199254740992<v)=true:=by simpa using hhi
          (try clear hne);go_wp2_with fail;(refine(gS v hv0 hv1 q2 dN.out _ aS).mono ?_);rintro e w3 ⟨rfl,h3⟩;have hr3:=hr2.ext h3;have bN:Rd r wr w3:=bQ.ext hlt h3;go_wp2_with fail;(refine(dz r q1 false _ hr3).mono ?_);rintro e w4 ⟨rfl,hr4,h4⟩;have h5:Rd r wr w4:=bN.trans h4;go_wp2_with fail;refine aF (h:= ?_);exact⟨h5,0,⟨#[]⟩,true,rfl,hr4, .inr ⟨rfl,rfl,bj.out⟩⟩
         ·have kU:=ae (show ej s.data.toList=some (v,q1.data.toList) by rw [gh.out,if_pos ⟨by rw [dN.out,hne,gf.out,cN.out],by omega,by omega⟩,rE.out,cN.out])
          have rI:decide (9007199254740992<v)=false:=by simpa using hhi
          clear hne;go_wp2_with fail;(refine(gS v hv0 hv1 q2 dN.out _ aS).mono ?_);rintro e w3 ⟨rfl,h3⟩;have hr3:=hr2.ext h3;have bN:Rd r wr w3:=bQ.ext hlt h3;go_wp2_with fail;refine aF (h:= ?_);exact⟨bN,v,q1,false,rfl,hr3, .inl ⟨rfl,kU.out⟩⟩
       ·have rF:=Au hne
        have rG:¬q2.toList=q0.toList:=by rw [ByteArray.toList_eq,ByteArray.toList_eq];exact hne
        have bj:=ae (show ej s.data.toList=none by rw [gh.out,if_neg (fun h=>hne (by rw [<-dN.out,h.1,gf.out,cN.out]))]);(try clear hne);go_wp2_with fail;(refine(gS v hv0 hv1 q2 dN.out _ aS).mono ?_);rintro e w3 ⟨rfl,h3⟩;have hr3:=hr2.ext h3;have bN:Rd r wr w3:=bQ.ext hlt h3;go_wp2_with fail;(refine(dz r q1 false _ hr3).mono ?_);rintro e w4 ⟨rfl,hr4,h4⟩;have h5:Rd r wr w4:=bN.trans h4;go_wp2_with fail;refine aF (h:= ?_);exact⟨h5,0,⟨#[]⟩,true,rfl,hr4, .inr ⟨rfl,rfl,bj.out⟩⟩
      ·have bj:=ae (Aq (l:=s.data.toList) (by rw [cN.out];exact jf) (fun v hv=>hat ⟨v,by rw [gf.out];rw [cN.out] at hv;exact hv⟩))
       have fF:=ae hat;clear hat;go_wp2_with fail;(refine(xn q0 bF (fun v hv=>fF.out ⟨v,hv⟩) _ hl2).mono ?_);rintro e w2 ⟨m2,N2,rfl,h2⟩;have hr2:=lQ.ext h2;have bQ:Rd r wr w2:=hR.ext hlt h2;go_wp2_with fail;(refine(dz r q1 false _ hr2).mono ?_);rintro e w4 ⟨rfl,hr4,h4⟩;have h5:Rd r wr w4:=bQ.trans h4;go_wp2_with fail;refine aF (h:= ?_);exact⟨h5,0,⟨#[]⟩,true,rfl,hr4, .inr ⟨rfl,rfl,bj.out⟩⟩
   ·have lO:=Ao Hn.out (fun h=>by rw [jr.out] at h;exact absurd h hk1)
    have cN:=ae lO;clear lO Hn;have hx0:(s.extract 0 k).data.toList=s.data.toList.take k:=Am s k;have bF:(s.extract 0 k).size<=1073741824:=by have e:(s.extract 0 k).data.toList.length=(s.extract 0 k).size:=Array.length_toList;rw [hx0,List.length_take] at e;omega
    have yG:=ae hx0;obtain⟨q0,hq0⟩:∃q0,s.extract 0 k=q0:=⟨_,rfl⟩;obtain⟨q1,hq1⟩:∃q1,s.extract k s.size=q1:=⟨_,rfl⟩;have rE:=ae (show q1.data.toList=s.data.toList.drop k by rw [<-hq1];exact rD s k);have gf:=ae (show q0.data.toList=s.data.toList.take k by rw [<-hq0];exact hx0);rw [hq0] at bF;clear hx0;by_cases jf:17<k
    ·have bj:=ae (Ap (l:=s.data.toList) (by rw [cN.out];exact jf))
     go_wp2_with fail;(refine(dz r q1 false _ aj).mono ?_);rintro e w2 ⟨rfl,hr2,h2⟩;have h3:Rd r wr w2:=((Rd.refl _ _).set _ _).trans h2;go_wp2_with fail;refine aF (h:= ?_);exact⟨h3,0,⟨#[]⟩,true,rfl,hr2, .inr ⟨rfl,rfl,bj.out⟩⟩
    ·have hR:Rd r wr (wr.setCell ⟨r,0,none⟩ (.string q1)):=(Rd.refl _ _).set _ _
     have hl2:cS (wr.setCell ⟨r,0,none⟩ (.string q1)):=hl.on hR.below|>.here
     have lQ:Sr (wr.setCell ⟨r,0,none⟩ (.string q1)) r q1 false:=aj;by_cases hat:∃v,Lib.atoiAll q0.data.toList= .ok v
     ·obtain⟨v,hv⟩:=hat
      have hrg:=xm hv;obtain⟨hv0,hv1⟩:=hrg;have gh:=ae (Ar (l:=s.data.toList) (v:=v) (by rw [cN.out];exact jf) (by rw [cN.out,<-gf.out];exact hv));obtain⟨q2,hq2⟩:∃q2:ah,Lib.itoa v=q2.data.toList:=⟨⟨(Lib.itoa v).toArray⟩,by simp⟩;have dN:=ae hq2;have Hv:=ae hv;clear hv hq2;go_wp2_with fail;(refine(sy q0 bF v Hv.out _).mono ?_);rintro e w2 ⟨rfl,h2⟩;have hr2:=lQ.ext h2;have bQ:Rd r wr w2:=hR.ext hlt h2;have aS:=hl2.ext h2;by_cases hne:q2.data.toList=q0.data.toList
      ·have rF:=Av hne
       have rG:q2.toList=q0.toList:=by rw [ByteArray.toList_eq,ByteArray.toList_eq,hne]
       by_cases hlo:v< -9007199254740992
       ·have bj:=ae (show ej s.data.toList=none by rw [gh.out,if_neg (fun h=>by omega)])
        have rH:decide (v< -9007199254740992)=true:=by simpa using hlo
        (try clear hne);go_wp2_with fail;(refine(gS v hv0 hv1 q2 dN.out _ aS).mono ?_);rintro e w3 ⟨rfl,h3⟩;have hr3:=hr2.ext h3;have bN:Rd r wr w3:=bQ.ext hlt h3;go_wp2_with fail;(refine(dz r q1 false _ hr3).mono ?_);rintro e w4 ⟨rfl,hr4,h4⟩;have h5:Rd r wr w4:=bN.trans h4;go_wp2_with fail;refine aF (h:= ?_);exact⟨h5,0,⟨#[]⟩,true,rfl,hr4, .inr ⟨rfl,rfl,bj.out⟩⟩
       ·have rH:decide (v< -9007199254740992)=false:=by simpa using hlo
        by_cases hhi:9007199254740992<v
        ·have bj:=ae (show ej s.data.toList=none by rw [gh.out,if_neg (fun h=>by omega)])
         have rI:decide (9007199254740992<v)=true:=by simpa using hhi
         (try clear hne);go_wp2_with fail;(refine(gS v hv0 hv1 q2 dN.out _ aS).mono ?_);rintro e w3 ⟨rfl,h3⟩;have hr3:=hr2.ext h3;have bN:Rd r wr w3:=bQ.ext hlt h3;go_wp2_with fail;(refine(dz r q1 false _ hr3).mono ?_);rintro e w4 ⟨rfl,hr4,h4⟩;have h5:Rd r wr w4:=bN.trans h4;go_wp2_with fail;refine aF (h:= ?_);exact⟨h5,0,⟨#[]⟩,true,rfl,hr4, .inr ⟨rfl,rfl,bj.out⟩⟩
        ·have kU:=ae (show ej s.data.toList=some (v,q1.data.toList) by rw [gh.out,if_pos ⟨by rw [dN.out,hne,gf.out,cN.out],by omega,by omega⟩,rE.out,cN.out])
         have rI:decide (9007199254740992<v)=false:=by simpa using hhi
         clear hne;go_wp2_with fail;(refine(gS v hv0 hv1 q2 dN.out _ aS).mono ?_);rintro e w3 ⟨rfl,h3⟩;have hr3:=hr2.ext h3;have bN:Rd r wr w3:=bQ.ext hlt h3;go_wp2_with fail;refine aF (h:= ?_);exact⟨bN,v,q1,false,rfl,hr3, .inl ⟨rfl,kU.out⟩⟩
      ·have rF:=Au hne
       have rG:¬q2.toList=q0.toList:=by rw [ByteArray.toList_eq,ByteArray.toList_eq];exact hne
       have bj:=ae (show ej s.data.toList=none by rw [gh.out,if_neg (fun h=>hne (by rw [<-dN.out,h.1,gf.out,cN.out]))]);(try clear hne);go_wp2_with fail;(refine(gS v hv0 hv1 q2 dN.out _ aS).mono ?_);rintro e w3 ⟨rfl,h3⟩;have hr3:=hr2.ext h3;have bN:Rd r wr w3:=bQ.ext hlt h3;go_wp2_with fail;(refine(dz r q1 false _ hr3).mono ?_);rintro e w4 ⟨rfl,hr4,h4⟩;have h5:Rd r wr w4:=bN.trans h4;go_wp2_with fail;refine aF (h:= ?_);exact⟨h5,0,⟨#[]⟩,true,rfl,hr4, .inr ⟨rfl,rfl,bj.out⟩⟩
     ·have bj:=ae (Aq (l:=s.data.toList) (by rw [cN.out];exact jf) (fun v hv=>hat ⟨v,by rw [gf.out];rw [cN.out] at hv;exact hv⟩))
      have fF:=ae hat;clear hat;go_wp2_with fail;(refine(xn q0 bF (fun v hv=>fF.out ⟨v,hv⟩) _ hl2).mono ?_);rintro e w2 ⟨m2,N2,rfl,h2⟩;have hr2:=lQ.ext h2;have bQ:Rd r wr w2:=hR.ext hlt h2;go_wp2_with fail;(refine(dz r q1 false _ hr2).mono ?_);rintro e w4 ⟨rfl,hr4,h4⟩;have h5:Rd r wr w4:=bQ.trans h4;go_wp2_with fail;refine aF (h:= ?_);exact⟨h5,0,⟨#[]⟩,true,rfl,hr4, .inr ⟨rfl,rfl,bj.out⟩⟩
end Go.Proofs.YtlcebdaghmdkeabGreatDoor
