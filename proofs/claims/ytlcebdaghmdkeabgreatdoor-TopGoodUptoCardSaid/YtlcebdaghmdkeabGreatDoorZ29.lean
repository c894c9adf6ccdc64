import Derived.Test.YtlcebdaghmdkeabGreatDoorZ28
set_option linter.all false
set_option maxRecDepth 100000
set_option maxHeartbeats 64000000
namespace Go.Proofs.YtlcebdaghmdkeabGreatDoor
open Go.Proofs.Tryz
open Go.RowKit
attribute [local go_sem↓] Go.wp_at_zero Go.wp_at_succ
def ab7 (r:Nat) (l:Bytes) (w:World) (e:Ending) (w':World):Prop:=
 Rd r w w'/\∃(c:UInt8) (s':ah) (gB:Bool),e= .returned (.int .u8 c.toNat)/\Sr w' r s' gB/\ ((gB=false/\ki l=some (c,s'.data.toList))\/ (gB=true/\s'.data.toList= []/\ki l=none))
def GU:Bytes:= [34,92,47,98,102,110,114,116]
def vJ:Bytes:= [34,92,47,8,12,10,13,9]
def SU:Bytes:= [48,49,50,51,52,53,54,55,56,57,97,98,99,100,101,102]
def SV:Bytes:= [48,49,50,51,52,53,54,55,56,57]
theorem ab8:∀n:Nat,n<256-> (Lib.indexByte GU (Int.ofNat n).toNat.toUInt8<0/\A8 (UInt8.ofNat n)=none)\/ (0<=Lib.indexByte GU (Int.ofNat n).toNat.toUInt8/\Lib.indexByte GU (Int.ofNat n).toNat.toUInt8<8/\A8 (UInt8.ofNat n)=vJ[(Lib.indexByte GU (Int.ofNat n).toNat.toUInt8).toNat]?):=by decide+kernel
theorem ab9:∀n:Nat,n<65-> (gX (UInt8.ofNat n)).map Int.ofNat=if Lib.indexByte SV (Int.ofNat n).toNat.toUInt8<0 then none else some (Lib.indexByte SV (Int.ofNat n).toNat.toUInt8):=by decide+kernel
theorem aca:∀n:Nat,n<256->65<=n-> (gX (UInt8.ofNat n)).map Int.ofNat=if Lib.indexByte SU (bits BinOp.or IntKind.u8 (Int.ofNat n) 32).toNat.toUInt8<0 then none else some (Lib.indexByte SU (bits BinOp.or IntKind.u8 (Int.ofNat n) 32).toNat.toUInt8):=by decide+kernel
theorem Md {c:UInt8} {v:Nat} (h:gX c=some v):v<16:=by
 unfold gX at h
 split at h
 ·cases h;omega
 ·split at h
  ·cases h;omega
  ·split at h
   ·cases h;omega
   ·cases h
def oo (u:Bytes):Nat->Option Nat
 |0=>some 0
 |k+1=>(oo u k).bind fun n=>(gX (u.getD k 0)).map fun d=>n*16+d
theorem SX {u:Bytes} {k:Nat} (h:oo u k=none):∀j,oo u (k+j)=none
 |0=>h
 |j+1=>by rw [<-Nat.add_assoc,oo,SX h j];rfl
theorem SY {u:Bytes}:∀ {k n:Nat},oo u k=some n->n<16^k
 |0,n,h=>by cases h;decide
 |k+1,n,h=>by
  rw [oo] at h
  cases h1:oo u k with
  |none=>rw [h1] at h;cases h
  |some m=>
   cases h2:gX (u.getD k 0) with
   |none=>rw [h1,h2] at h;cases h
   |some d=>
    rw [h1,h2] at h;simp only [Option.bind_some,Option.map_some,Option.some.injEq] at h;have:=SY h1;have:=Md h2;rw [Nat.pow_succ];omega
theorem acb {u:Bytes} (h:4<=u.length):za u=(oo u 4).map fun n=>(n,u.drop 4):=by
 rcases u with _|⟨a,_|⟨b,_|⟨c,_|⟨d,t⟩⟩⟩⟩
 ·simp at h
 ·simp at h
 ·simp at h
 ·simp at h
 ·simp only [za,oo,List.getD_cons_zero,List.getD_cons_succ,Option.bind_some]
  cases gX a with
  |none=>rfl
  |some a=>cases gX b with
   |none=>rfl
   |some b=>cases gX c with
    |none=>rfl
    |some c=>cases gX d with
     |none=>rfl
     |some d=>simp
theorem acd {u:Bytes} (h:u.length<4):za u=none:=by
 rcases u with _|⟨a,_|⟨b,_|⟨c,_|⟨d,t⟩⟩⟩⟩
 ·rfl
 ·rfl
 ·rfl
 ·rfl
 ·simp at h;omega
theorem ace (r:Nat) (s:ah) (hsz:s.size<=1048576) (w:World) (hr:Sr w r s false):
 Calls prog 102 #[.pointer (some ⟨r,0,none⟩)] w (ab7 r s.data.toList w):=by
 have hlt:=hr.lt;have hlen:s.data.toList.length=s.size:=Array.length_toList;have jG:=ae hlen;clear hlen;obtain⟨c,hc⟩:∃c,gA s.data.toList=c:=⟨_,rfl⟩;have Hc:=ae hc;have hc256:c.toNat<256:=c.toNat_lt;have acf:UInt8.ofNat c.toNat=c:=KS c;clear hc;by_cases hz:(c.toNat:Int)=0
 ·have hzb:((c.toNat:Int)==0)=true:=by simpa using hz
  have bw:=ae (show ki s.data.toList=none by
   have h0:c=0:=by apply UInt8.toNat_inj.1;simpa using (by omega:c.toNat=0)
   have:=Hc.out
   cases hq:s.data.toList with
   |nil=>rfl
   |cons d t=>rw [hq,h0] at this;simp only [gA,List.headD_cons] at this;rw [this];rfl)
  go_enter func102,ntmps102;go_wp2_with fail;(refine(lX r s false _ hr).mono ?_);rintro e w1 ⟨rfl,rfl⟩;rw [Hc.out];go_wp2_with fail;(refine(dE r s false _ hr).mono ?_);rintro e w2 ⟨rfl,hr2,h2⟩;go_wp2_with fail;refine aF (h:= ?_);exact⟨h2,0,⟨#[]⟩,true,rfl,hr2, .inr ⟨rfl,rfl,bw.out⟩⟩
 ·have hzb:((c.toNat:Int)==0)=false:=by simpa using hz
  have hne:s.data.toList≠ []:=fun h=>by have:=Hc.out;rw [h] at this;rw [<-this] at hz;exact hz rfl
  have hpos:1<=s.size:=by rw [<-jG.out];exact List.length_pos_iff.2 hne
  have acg:(1:Int)<= (s.size:Int):=by omega
  obtain⟨u,hu⟩:∃u,s.extract 1 s.size=u:=⟨_,rfl⟩;have Bw:u.data.toList=s.data.toList.drop 1:=by rw [<-hu];exact sB s 1
  have qV:s.data.toList=c::u.data.toList:=by
   rw [Bw];have:=Hc.out
   cases hq:s.data.toList with
   |nil=>exact absurd hq hne
   |cons d t=>rw [hq] at this;simp only [gA,List.headD_cons] at this;rw [this];rfl
  have Me:u.size<=1048576:=by have e:u.data.toList.length=u.size:=Array.length_toList;rw [Bw,List.length_drop,jG.out] at e;omega
  have pB:=ae qV;have hcr:=hr.cells;have vI:=hr.free;obtain⟨ix,Mf⟩:∃ix,Lib.indexByte (⟨#[34,92,47,98,102,110,114,116]⟩:ah).data.toList ((c.toNat:Int)).toNat.toUInt8=ix:=⟨_,rfl⟩;have GV:=ae Mf;have fM:=ab8 c.toNat hc256;rw [acf] at fM;have fM:(ix<0/\A8 c=none)\/ (0<=ix/\ix<8/\A8 c=vJ[ix.toNat]?):=by rw [<-Mf];exact fM
  clear hne qV Bw Mf;have hR:Rd r w (w.setCell ⟨r,0,none⟩ (.string u)):=(Rd.refl _ _).set _ _;have pD:Sr (w.setCell ⟨r,0,none⟩ (.string u)) r u false:=aj;rcases fM with⟨hx0,D8⟩|⟨hx0,Mg,D8⟩
  ·have GX:=ae D8
   have hx1:¬0<=ix:=by omega
   have hx2:decide (0<=ix)=false:=by simpa using hx1
   clear D8;have SZ:u.data.toList.length=u.size:=Array.length_toList;have S3:=ae SZ;clear SZ;by_cases xD:(c.toNat:Int)=117
   ·have tN:c=117:=by apply UInt8.toNat_inj.1;simpa using (by omega:c.toNat=117)
    have ach:((c.toNat:Int) !=117)=false:=by simpa using xD
    have aci:((c.toNat:Int)==117)=true:=by simpa using xD
    have S4:ki s.data.toList=(za u.data.toList).bind fun p=>if p.1<128 then some (UInt8.ofNat p.1,p.2) else none:=by rw [pB.out];simp only [ki,GX.out,if_pos tN]
    have GY:=ae S4;have ahh:=ae xD;clear S4 tN xD;by_cases h4:u.size<4
    ·have D9:decide ((u.size:Int)<4)=true:=by simp;omega
     have h4c:(u.size:Int)<4:=by omega
     have bw:=ae (show ki s.data.toList=none by rw [GY.out,acd (by rw [S3.out];exact h4)];rfl);go_enter func102,ntmps102;go_wp2_with fail;(refine(lX r s false _ hr).mono ?_);rintro e w1 ⟨rfl,rfl⟩;rw [Hc.out];go_wp2_with fail;(refine(Tryz.strings_IndexByte _ _ _).mono ?_);rintro e w1 ⟨rfl,rfl⟩;rw [GV.out];go_wp2_with fail;(refine(dE r u false _ pD).mono ?_);rintro e w2 ⟨rfl,hr2,h2⟩;go_wp2_with fail;refine aF (h:= ?_);exact⟨hR.trans h2,0,⟨#[]⟩,true,rfl,hr2, .inr ⟨rfl,rfl,bw.out⟩⟩
    ·have D9:decide ((u.size:Int)<4)=false:=by simp;omega
     have h4c:(4:Int)<= (u.size:Int):=by omega
     have h4d:¬(u.size:Int)<4:=by omega
     have Hk:=ae (show za u.data.toList=(oo u.data.toList 4).map fun n=>(n,u.data.toList.drop 4) from acb (by rw [S3.out];omega));go_enter func102,ntmps102;go_wp2_with fail;(refine(lX r s false _ hr).mono ?_);rintro e w1 ⟨rfl,rfl⟩;rw [Hc.out];go_wp2_with fail;(refine(Tryz.strings_IndexByte _ _ _).mono ?_);rintro e w1 ⟨rfl,rfl⟩;rw [GV.out];go_wp2_with fail;refine aI (R:=fun wx=>Sr wx r u false/\Rd r w1 wx) ⟨pD,hR⟩ ?_;clear pD hR hcr vI;rintro wy ⟨pD,hR⟩;have hcr:=pD.cells;have vI:=pD.free
     go_loopg [5,6,7,40] 4 (fun g t5 _ _ i wr=>∃k n:Nat,i= .int .i64 k/\k<=4/\g=4-k/\t5= .int .i64 n/\n<=65535/\oo u.data.toList k=some n/\wr=wy)
     case atStart=>exact⟨0,0,rfl,by omega,rfl,rfl,by omega,rfl,rfl⟩
     case round=>
      obtain⟨k,n,rfl,hk,rfl,rfl,hn,hK,rfl⟩:=hrel;have HK:=ae hK;clear hK;by_cases hk4:k<4
      ·have hku:k<u.size:=by omega
       have hget:u.data.toList.getD k 0=u[k]:=by rw [List.getD_eq_getElem?_getD,K0 hku];rfl
       have S5:=ae hget;have acj:u[k].toNat<256:=u[k].toNat_lt;have ahi:(k:Int)<4:=by omega
       obtain⟨xE,GZ⟩:∃xE,Lib.indexByte (⟨#[48,49,50,51,52,53,54,55,56,57,97,98,99,100,101,102]⟩:ah).data.toList (bits BinOp.or IntKind.u8 (u[k].toNat:Int) 32).toNat.toUInt8=xE:=⟨_,rfl⟩;obtain⟨xG,G0⟩:∃xG,Lib.indexByte (⟨#[48,49,50,51,52,53,54,55,56,57]⟩:ah).data.toList ((u[k].toNat:Int)).toNat.toUInt8=xG:=⟨_,rfl⟩;have G3:=ae GZ;have S6:=ae G0;have hstep:∀d,gX u[k]=some d->oo u.data.toList (k+1)=some (n*16+d):=fun d hd=>by rw [oo,HK.out,S5.out,hd];rfl
       have S7:gX u[k]=none->ki s.data.toList=none:=fun hd=>by
        have e:oo u.data.toList (k+1)=none:=by rw [oo,HK.out,S5.out,hd];rfl
        have e4:=SX e (3-k);rw [show k+1+(3-k)=4 from by omega] at e4;rw [GY.out,Hk.out,e4];rfl
       have pV:=ae hstep;have S8:=ae S7;have hmx:∀d,gX u[k]=some d->n*16+d<=65535:=fun d hd=>by have h1:=SY (pV.out d hd);have:16^ (k+1)<=16^4:=Nat.pow_le_pow_right (by omega) (by omega);omega
       have S9:=ae hmx;clear hstep S7 hget hmx;by_cases S':(u[k].toNat:Int)<65
       ·have ack:decide ((u[k].toNat:Int)<65)=true:=by simpa using S'
        have hd:=ab9 u[k].toNat (by omega);rw [KS] at hd;have hd:(gX u[k]).map Int.ofNat=if xG<0 then none else some xG:=by rw [hd,<-G0];rfl
        have Hd:=ae hd;clear hd GZ G0;by_cases hneg:xG<0
        ·have Mh:decide (xG<0)=true:=by simpa using hneg
         have bw:=ae (S8.out (by have:=Hd.out;rw [if_pos hneg] at this;exact Option.map_eq_none_iff.1 this));go_wp2_with fail;(refine(Tryz.strings_IndexByte _ _ _).mono ?_);rintro e w2 ⟨rfl,rfl⟩;rw [G3.out]
         skip;(go_wp2_with fail);(refine(Tryz.strings_IndexByte _ _ _).mono ?_);(rintro e w2 ⟨rfl,rfl⟩);(rw [S6.out])
         go_wp2_with fail;(refine(dE r u false _ pD).mono ?_);rintro e w4 ⟨rfl,hr4,h4'⟩;have h5:=hR.trans h4';go_wp2_with fail;refine aF (h:= ?_);exact⟨h5,0,⟨#[]⟩,true,rfl,hr4, .inr ⟨rfl,rfl,bw.out⟩⟩
        ·have Mh:decide (xG<0)=false:=by simpa using hneg
         obtain⟨d,hd1,hd2⟩:∃d:Nat,gX u[k]=some d/\xG=(d:Int):=by
          have:=Hd.out;rw [if_neg hneg] at this
          cases hq:gX u[k] with
          |none=>rw [hq] at this;cases this
          |some d=>rw [hq] at this;exact⟨d,rfl,(Option.some.inj this).symm⟩
         have acm:=Md hd1;have hmx:=S9.out d hd1;have Mi:=ae hd1;subst hd2;clear hd1;go_wp2_with fail;(refine(Tryz.strings_IndexByte _ _ _).mono ?_);rintro e w2 ⟨rfl,rfl⟩;rw [G3.out]
         skip;(go_wp2_with fail);(refine(Tryz.strings_IndexByte _ _ _).mono ?_);(rintro e w2 ⟨rfl,rfl⟩);(rw [S6.out])
         go_wp2_with fail;go_roundg (4-(k+1))
         case measure=>omega
         case rel=>exact⟨k+1,n*16+d,by go_num,by omega,rfl,by go_num,hmx,pV.out d Mi.out,rfl⟩
       ·have ack:decide ((u[k].toNat:Int)<65)=false:=by simpa using S'
        have hd:=aca u[k].toNat acj (by omega);rw [KS] at hd;have hd:(gX u[k]).map Int.ofNat=if xE<0 then none else some xE:=by rw [hd,<-GZ];rfl
        have Hd:=ae hd;clear hd GZ G0;by_cases hneg:xE<0
        ·have Mh:decide (xE<0)=true:=by simpa using hneg
         have bw:=ae (S8.out (by have:=Hd.out;rw [if_pos hneg] at this;exact Option.map_eq_none_iff.1 this));go_wp2_with fail;(refine(Tryz.strings_IndexByte _ _ _).mono ?_);rintro e w2 ⟨rfl,rfl⟩;rw [G3.out]
         skip;skip
         go_wp2_with fail;(refine(dE r u false _ pD).mono ?_);rintro e w4 ⟨rfl,hr4,h4'⟩;have h5:=hR.trans h4';go_wp2_with fail;refine aF (h:= ?_);exact⟨h5,0,⟨#[]⟩,true,rfl,hr4, .inr ⟨rfl,rfl,bw.out⟩⟩
        ·have Mh:decide (xE<0)=false:=by simpa using hneg
         obtain⟨d,hd1,hd2⟩:∃d:Nat,gX u[k]=some d/\xE=(d:Int):=by
          have:=Hd.out;rw [if_neg hneg] at this
          cases hq:gX u[k] with
          |none=>rw [hq] at this;cases this
          |some d=>rw [hq] at this;exact⟨d,rfl,(Option.some.inj this).symm⟩
         have acm:=Md hd1;have hmx:=S9.out d hd1;have Mi:=ae hd1;subst hd2;clear hd1;go_wp2_with fail;(refine(Tryz.strings_IndexByte _ _ _).mono ?_);rintro e w2 ⟨rfl,rfl⟩;rw [G3.out]
         skip;skip
         go_wp2_with fail;go_roundg (4-(k+1))
         case measure=>omega
         case rel=>exact⟨k+1,n*16+d,by go_num,by omega,rfl,by go_num,hmx,pV.out d Mi.out,rfl⟩
      ·obtain rfl:k=4:=by omega
       obtain⟨z,gJ⟩:∃z,u.extract 4 u.size=z:=⟨_,rfl⟩;have hzl:z.data.toList=u.data.toList.drop 4:=by rw [<-gJ];exact sB u 4
       have Hzl:=ae hzl;clear hzl;by_cases Ta:n<128
       ·have acn:decide ((128:Int)<= (n:Int))=false:=by simp;omega
        have aco:¬(128:Int)<= (n:Int):=by omega
        have lB:=ae (show ki s.data.toList=some (UInt8.ofNat n,z.data.toList) by
         rw [GY.out,Hk.out,HK.out];simp only [Option.map_some,Option.bind_some,if_pos Ta,Hzl.out])
        go_wp2_with fail;refine aF (h:= ?_);refine⟨hR.set _ _,UInt8.ofNat n,z,false,?_,aj, .inl ⟨rfl,lB.out⟩⟩;have e:(UInt8.ofNat n).toNat=n:=by simp;omega
        rw [e]
       ·have acn:decide ((128:Int)<= (n:Int))=true:=by simp;omega
        have aco:(128:Int)<= (n:Int):=by omega
        have bw:=ae (show ki s.data.toList=none by
         rw [GY.out,Hk.out,HK.out];simp only [Option.map_some,Option.bind_some,if_neg Ta])
        go_wp2_with fail;(refine(dE r z false _ aj).mono ?_);rintro e w2 ⟨rfl,hr2,h2⟩;have h3:Rd r w1 w2:=(hR.set _ _).trans h2;go_wp2_with fail;refine aF (h:= ?_);exact⟨h3,0,⟨#[]⟩,true,rfl,hr2, .inr ⟨rfl,rfl,bw.out⟩⟩
   ·have ach:((c.toNat:Int) !=117)=true:=by simpa using xD
    have aci:((c.toNat:Int)==117)=false:=by simpa using xD
    have bw:=ae (show ki s.data.toList=none by
     rw [pB.out];have tN:c≠117:=fun h=>xD (by rw [h];rfl)
     simp only [ki,GX.out,if_neg tN])
    clear xD;go_enter func102,ntmps102;go_wp2_with fail;(refine(lX r s false _ hr).mono ?_);rintro e w1 ⟨rfl,rfl⟩;rw [Hc.out];go_wp2_with fail;(refine(Tryz.strings_IndexByte _ _ _).mono ?_);rintro e w1 ⟨rfl,rfl⟩;rw [GV.out];go_wp2_with fail;(refine(dE r u false _ pD).mono ?_);rintro e w2 ⟨rfl,hr2,h2⟩;go_wp2_with fail;refine aF (h:= ?_);exact⟨hR.trans h2,0,⟨#[]⟩,true,rfl,hr2, .inr ⟨rfl,rfl,bw.out⟩⟩
  ·have GX:=ae D8
   have hx2:decide (0<=ix)=true:=by simpa using hx0
   obtain⟨m,rfl⟩:=Int.eq_ofNat_of_zero_le hx0;have G5:m<8:=by omega
   have lB:=ae (show ki s.data.toList=some (vJ[m]'(by simpa [vJ] using G5),u.data.toList) by
    rw [pB.out];have e:A8 c=some (vJ[m]'(by simpa [vJ] using G5)):=by rw [GX.out];simp [vJ,G5]
    simp only [ki,e])
   clear D8;go_enter func102,ntmps102;go_wp2_with fail;(refine(lX r s false _ hr).mono ?_);rintro e w1 ⟨rfl,rfl⟩;rw [Hc.out];go_wp2_with fail;(refine(Tryz.strings_IndexByte _ _ _).mono ?_);rintro e w1 ⟨rfl,rfl⟩;rw [GV.out];go_wp2_with fail;refine aF (h:= ?_);refine⟨hR,vJ[m]'(by simpa [vJ] using G5),u,false,?_,pD, .inl ⟨rfl,lB.out⟩⟩;rfl
end Go.Proofs.YtlcebdaghmdkeabGreatDoor
