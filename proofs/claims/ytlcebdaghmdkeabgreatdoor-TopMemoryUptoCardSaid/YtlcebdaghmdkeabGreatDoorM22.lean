import Derived.Test.YtlcebdaghmdkeabGreatDoorM4
set_option linter.all false
set_option maxRecDepth 100000
set_option maxHeartbeats 64000000
namespace Go.Proofs.YtlcebdaghmdkeabGreatDoor
open Go.Proofs.Tryz
open Go.RowKit
attribute [local go_sem↓] Go.wp_at_zero Go.wp_at_succ
def aaW (r:Nat) (l:Bytes) (w:World) (e:Ending) (w':World):Prop:=
 Rd r w w'/\∃(c:UInt8) (s':ah) (gb:Bool),e= .returned (.int .u8 c.toNat)/\Sr w' r s' gb/\ ((gb=false/\jY l=some (c,s'.data.toList))\/ (gb=true/\s'.data.toList= []/\jY l=none))
def FL:Bytes:= [34,92,47,98,102,110,114,116]
def uB:Bytes:= [34,92,47,8,12,10,13,9]
def Q0:Bytes:= [48,49,50,51,52,53,54,55,56,57,97,98,99,100,101,102]
def Q5:Bytes:= [48,49,50,51,52,53,54,55,56,57]
theorem aaX:∀n:Nat,n<256-> (Lib.indexByte FL (Int.ofNat n).toNat.toUInt8<0/\z6 (UInt8.ofNat n)=none)\/ (0<=Lib.indexByte FL (Int.ofNat n).toNat.toUInt8/\Lib.indexByte FL (Int.ofNat n).toNat.toUInt8<8/\z6 (UInt8.ofNat n)=uB[(Lib.indexByte FL (Int.ofNat n).toNat.toUInt8).toNat]?):=by decide+kernel
theorem aaY:∀n:Nat,n<65-> (gK (UInt8.ofNat n)).map Int.ofNat=if Lib.indexByte Q5 (Int.ofNat n).toNat.toUInt8<0 then none else some (Lib.indexByte Q5 (Int.ofNat n).toNat.toUInt8):=by decide+kernel
theorem aaZ:∀n:Nat,n<256->65<=n-> (gK (UInt8.ofNat n)).map Int.ofNat=if Lib.indexByte Q0 (bits BinOp.or IntKind.u8 (Int.ofNat n) 32).toNat.toUInt8<0 then none else some (Lib.indexByte Q0 (bits BinOp.or IntKind.u8 (Int.ofNat n) 32).toNat.toUInt8):=by decide+kernel
theorem KQ {c:UInt8} {v:Nat} (h:gK c=some v):v<16:=by
 unfold gK at h
 split at h
 ·cases h;omega
 ·split at h
  ·cases h;omega
  ·split at h
   ·cases h;omega
   ·cases h
def nL (u:Bytes):Nat->Option Nat
 |0=>some 0
 |k+1=>(nL u k).bind fun n=>(gK (u.getD k 0)).map fun d=>n*16+d
theorem Q6 {u:Bytes} {k:Nat} (h:nL u k=none):∀j,nL u (k+j)=none
 |0=>h
 |j+1=>by rw [<-Nat.add_assoc,nL,Q6 h j];rfl
theorem Q7 {u:Bytes}:∀ {k n:Nat},nL u k=some n->n<16^k
 |0,n,h=>by cases h;decide
 |k+1,n,h=>by
  rw [nL] at h
  cases h1:nL u k with
  |none=>rw [h1] at h;cases h
  |some m=>
   cases h2:gK (u.getD k 0) with
   |none=>rw [h1,h2] at h;cases h
   |some d=>
    rw [h1,h2] at h;simp only [Option.bind_some,Option.map_some,Option.some.injEq] at h;have:=Q7 h1;have:=KQ h2;rw [Nat.pow_succ];omega
theorem aa0 {u:Bytes} (h:4<=u.length):yf u=(nL u 4).map fun n=>(n,u.drop 4):=by
 rcases u with _|⟨a,_|⟨b,_|⟨c,_|⟨d,t⟩⟩⟩⟩
 ·simp at h
 ·simp at h
 ·simp at h
 ·simp at h
 ·simp only [yf,nL,List.getD_cons_zero,List.getD_cons_succ,Option.bind_some]
  cases gK a with
  |none=>rfl
  |some a=>cases gK b with
   |none=>rfl
   |some b=>cases gK c with
    |none=>rfl
    |some c=>cases gK d with
     |none=>rfl
     |some d=>simp
theorem aa1 {u:Bytes} (h:u.length<4):yf u=none:=by
 rcases u with _|⟨a,_|⟨b,_|⟨c,_|⟨d,t⟩⟩⟩⟩
 ·rfl
 ·rfl
 ·rfl
 ·rfl
 ·simp at h;omega
theorem aa2 (r:Nat) (s:ah) (hsz:s.size<=1048576) (w:World) (hr:Sr w r s false):
 Calls prog 102 #[.pointer (some ⟨r,0,none⟩)] w (aaW r s.data.toList w):=by
 have hlt:=hr.lt;have hlen:s.data.toList.length=s.size:=Array.length_toList;have jr:=ae hlen;clear hlen;obtain⟨c,hc⟩:∃c,fZ s.data.toList=c:=⟨_,rfl⟩;have Hc:=ae hc;have hc256:c.toNat<256:=c.toNat_lt;have aa3:UInt8.ofNat c.toNat=c:=JG c;clear hc;by_cases hz:(c.toNat:Int)=0
 ·have hzb:((c.toNat:Int)==0)=true:=by simpa using hz
  have bj:=ae (show jY s.data.toList=none by
   have h0:c=0:=by apply UInt8.toNat_inj.1;simpa using (by omega:c.toNat=0)
   have:=Hc.out
   cases hq:s.data.toList with
   |nil=>rfl
   |cons d t=>rw [hq,h0] at this;simp only [fZ,List.headD_cons] at this;rw [this];rfl)
  go_enter func102,ntmps102;go_wp2_with fail;(refine(lC r s false _ hr).mono ?_);rintro e w1 ⟨rfl,rfl⟩;rw [Hc.out];go_wp2_with fail;(refine(dz r s false _ hr).mono ?_);rintro e w2 ⟨rfl,hr2,h2⟩;go_wp2_with fail;refine aF (h:= ?_);exact⟨h2,0,⟨#[]⟩,true,rfl,hr2, .inr ⟨rfl,rfl,bj.out⟩⟩
 ·have hzb:((c.toNat:Int)==0)=false:=by simpa using hz
  have hne:s.data.toList≠ []:=fun h=>by have:=Hc.out;rw [h] at this;rw [<-this] at hz;exact hz rfl
  have hpos:1<=s.size:=by rw [<-jr.out];exact List.length_pos_iff.2 hne
  have aa4:(1:Int)<= (s.size:Int):=by omega
  obtain⟨u,hu⟩:∃u,s.extract 1 s.size=u:=⟨_,rfl⟩;have Aw:u.data.toList=s.data.toList.drop 1:=by rw [<-hu];exact rD s 1
  have p7:s.data.toList=c::u.data.toList:=by
   rw [Aw];have:=Hc.out
   cases hq:s.data.toList with
   |nil=>exact absurd hq hne
   |cons d t=>rw [hq] at this;simp only [fZ,List.headD_cons] at this;rw [this];rfl
  have KR:u.size<=1048576:=by have e:u.data.toList.length=u.size:=Array.length_toList;rw [Aw,List.length_drop,jr.out] at e;omega
  have oJ:=ae p7;have hcr:=hr.cells;have uA:=hr.free;obtain⟨ix,KS⟩:∃ix,Lib.indexByte (⟨#[34,92,47,98,102,110,114,116]⟩:ah).data.toList ((c.toNat:Int)).toNat.toUInt8=ix:=⟨_,rfl⟩;have FM:=ae KS;have fq:=aaX c.toNat hc256;rw [aa3] at fq;have fq:(ix<0/\z6 c=none)\/ (0<=ix/\ix<8/\z6 c=uB[ix.toNat]?):=by rw [<-KS];exact fq
  clear hne p7 Aw KS;have hR:Rd r w (w.setCell ⟨r,0,none⟩ (.string u)):=(Rd.refl _ _).set _ _;have oL:Sr (w.setCell ⟨r,0,none⟩ (.string u)) r u false:=aj;rcases fq with⟨hx0,CS⟩|⟨hx0,KT,CS⟩
  ·have FN:=ae CS
   have hx1:¬0<=ix:=by omega
   have hx2:decide (0<=ix)=false:=by simpa using hx1
   clear CS;have Q8:u.data.toList.length=u.size:=Array.length_toList;have Q9:=ae Q8;clear Q8;by_cases wB:(c.toNat:Int)=117
   ·have sB:c=117:=by apply UInt8.toNat_inj.1;simpa using (by omega:c.toNat=117)
    have aa5:((c.toNat:Int) !=117)=false:=by simpa using wB
    have aa6:((c.toNat:Int)==117)=true:=by simpa using wB
    have Ra:jY s.data.toList=(yf u.data.toList).bind fun p=>if p.1<128 then some (UInt8.ofNat p.1,p.2) else none:=by rw [oJ.out];simp only [jY,FN.out,if_pos sB]
    have FO:=ae Ra;have afX:=ae wB;clear Ra sB wB;by_cases h4:u.size<4
    ·have CT:decide ((u.size:Int)<4)=true:=by simp;omega
     have h4c:(u.size:Int)<4:=by omega
     have bj:=ae (show jY s.data.toList=none by rw [FO.out,aa1 (by rw [Q9.out];exact h4)];rfl);go_enter func102,ntmps102;go_wp2_with fail;(refine(lC r s false _ hr).mono ?_);rintro e w1 ⟨rfl,rfl⟩;rw [Hc.out];go_wp2_with fail;(refine(Tryz.strings_IndexByte _ _ _).mono ?_);rintro e w1 ⟨rfl,rfl⟩;rw [FM.out];go_wp2_with fail;(refine(dz r u false _ oL).mono ?_);rintro e w2 ⟨rfl,hr2,h2⟩;go_wp2_with fail;refine aF (h:= ?_);exact⟨hR.trans h2,0,⟨#[]⟩,true,rfl,hr2, .inr ⟨rfl,rfl,bj.out⟩⟩
    ·have CT:decide ((u.size:Int)<4)=false:=by simp;omega
     have h4c:(4:Int)<= (u.size:Int):=by omega
     have h4d:¬(u.size:Int)<4:=by omega
     have Hk:=ae (show yf u.data.toList=(nL u.data.toList 4).map fun n=>(n,u.data.toList.drop 4) from aa0 (by rw [Q9.out];omega));go_enter func102,ntmps102;go_wp2_with fail;(refine(lC r s false _ hr).mono ?_);rintro e w1 ⟨rfl,rfl⟩;rw [Hc.out];go_wp2_with fail;(refine(Tryz.strings_IndexByte _ _ _).mono ?_);rintro e w1 ⟨rfl,rfl⟩;rw [FM.out];go_wp2_with fail;refine aI (R:=fun wx=>Sr wx r u false/\Rd r w1 wx) ⟨oL,hR⟩ ?_;clear oL hR hcr uA;rintro wy ⟨oL,hR⟩;have hcr:=oL.cells;have uA:=oL.free
     go_loopg [5,6,7,40] 4 (fun g t5 _ _ i wr=>∃k n:Nat,i= .int .i64 k/\k<=4/\g=4-k/\t5= .int .i64 n/\n<=65535/\nL u.data.toList k=some n/\wr=wy)
     case atStart=>exact⟨0,0,rfl,by omega,rfl,rfl,by omega,rfl,rfl⟩
     case round=>
      obtain⟨k,n,rfl,hk,rfl,rfl,hn,hK,rfl⟩:=hrel;have HK:=ae hK;clear hK;by_cases hk4:k<4
      ·have hku:k<u.size:=by omega
       have hget:u.data.toList.getD k 0=u[k]:=by rw [List.getD_eq_getElem?_getD,JO hku];rfl
       have Rb:=ae hget;have aa7:u[k].toNat<256:=u[k].toNat_lt;have afY:(k:Int)<4:=by omega
       obtain⟨wC,FP⟩:∃wC,Lib.indexByte (⟨#[48,49,50,51,52,53,54,55,56,57,97,98,99,100,101,102]⟩:ah).data.toList (bits BinOp.or IntKind.u8 (u[k].toNat:Int) 32).toNat.toUInt8=wC:=⟨_,rfl⟩;obtain⟨wD,FQ⟩:∃wD,Lib.indexByte (⟨#[48,49,50,51,52,53,54,55,56,57]⟩:ah).data.toList ((u[k].toNat:Int)).toNat.toUInt8=wD:=⟨_,rfl⟩;have FR:=ae FP;have Rc:=ae FQ;have hstep:∀d,gK u[k]=some d->nL u.data.toList (k+1)=some (n*16+d):=fun d hd=>by rw [nL,HK.out,Rb.out,hd];rfl
       have Re:gK u[k]=none->jY s.data.toList=none:=fun hd=>by
        have e:nL u.data.toList (k+1)=none:=by rw [nL,HK.out,Rb.out,hd];rfl
        have e4:=Q6 e (3-k);rw [show k+1+(3-k)=4 from by omega] at e4;rw [FO.out,Hk.out,e4];rfl
       have o8:=ae hstep;have Rf:=ae Re;have hmx:∀d,gK u[k]=some d->n*16+d<=65535:=fun d hd=>by have h1:=Q7 (o8.out d hd);have:16^ (k+1)<=16^4:=Nat.pow_le_pow_right (by omega) (by omega);omega
       have Rg:=ae hmx;clear hstep Re hget hmx;by_cases Rh:(u[k].toNat:Int)<65
       ·have aa8:decide ((u[k].toNat:Int)<65)=true:=by simpa using Rh
        have hd:=aaY u[k].toNat (by omega);rw [JG] at hd;have hd:(gK u[k]).map Int.ofNat=if wD<0 then none else some wD:=by rw [hd,<-FQ];rfl
        have Hd:=ae hd;clear hd FP FQ;by_cases hneg:wD<0
        ·have KU:decide (wD<0)=true:=by simpa using hneg
         have bj:=ae (Rf.out (by have:=Hd.out;rw [if_pos hneg] at this;exact Option.map_eq_none_iff.1 this));go_wp2_with fail;(refine(Tryz.strings_IndexByte _ _ _).mono ?_);rintro e w2 ⟨rfl,rfl⟩;rw [FR.out]
         skip;(go_wp2_with fail);(refine(Tryz.strings_IndexByte _ _ _).mono ?_);(rintro e w2 ⟨rfl,rfl⟩);(rw [Rc.out])
         go_wp2_with fail;(refine(dz r u false _ oL).mono ?_);rintro e w4 ⟨rfl,hr4,h4'⟩;have h5:=hR.trans h4';go_wp2_with fail;refine aF (h:= ?_);exact⟨h5,0,⟨#[]⟩,true,rfl,hr4, .inr ⟨rfl,rfl,bj.out⟩⟩
        ·have KU:decide (wD<0)=false:=by simpa using hneg
         obtain⟨d,hd1,hd2⟩:∃d:Nat,gK u[k]=some d/\wD=(d:Int):=by
          have:=Hd.out;rw [if_neg hneg] at this
          cases hq:gK u[k] with
          |none=>rw [hq] at this;cases this
          |some d=>rw [hq] at this;exact⟨d,rfl,(Option.some.inj this).symm⟩
         have aa9:=KQ hd1;have hmx:=Rg.out d hd1;have KV:=ae hd1;subst hd2;clear hd1;go_wp2_with fail;(refine(Tryz.strings_IndexByte _ _ _).mono ?_);rintro e w2 ⟨rfl,rfl⟩;rw [FR.out]
         skip;(go_wp2_with fail);(refine(Tryz.strings_IndexByte _ _ _).mono ?_);(rintro e w2 ⟨rfl,rfl⟩);(rw [Rc.out])
         go_wp2_with fail;go_roundg (4-(k+1))
         case measure=>omega
         case rel=>exact⟨k+1,n*16+d,by go_num,by omega,rfl,by go_num,hmx,o8.out d KV.out,rfl⟩
       ·have aa8:decide ((u[k].toNat:Int)<65)=false:=by simpa using Rh
        have hd:=aaZ u[k].toNat aa7 (by omega);rw [JG] at hd;have hd:(gK u[k]).map Int.ofNat=if wC<0 then none else some wC:=by rw [hd,<-FP];rfl
        have Hd:=ae hd;clear hd FP FQ;by_cases hneg:wC<0
        ·have KU:decide (wC<0)=true:=by simpa using hneg
         have bj:=ae (Rf.out (by have:=Hd.out;rw [if_pos hneg] at this;exact Option.map_eq_none_iff.1 this));go_wp2_with fail;(refine(Tryz.strings_IndexByte _ _ _).mono ?_);rintro e w2 ⟨rfl,rfl⟩;rw [FR.out]
         skip;skip
         go_wp2_with fail;(refine(dz r u false _ oL).mono ?_);rintro e w4 ⟨rfl,hr4,h4'⟩;have h5:=hR.trans h4';go_wp2_with fail;refine aF (h:= ?_);exact⟨h5,0,⟨#[]⟩,true,rfl,hr4, .inr ⟨rfl,rfl,bj.out⟩⟩
        ·have KU:decide (wC<0)=false:=by simpa using hneg
         obtain⟨d,hd1,hd2⟩:∃d:Nat,gK u[k]=some d/\wC=(d:Int):=by
          have:=Hd.out;rw [if_neg hneg] at this
          cases hq:gK u[k] with
          |none=>rw [hq] at this;cases this
          |some d=>rw [hq] at this;exact⟨d,rfl,(Option.some.inj this).symm⟩
         have aa9:=KQ hd1;have hmx:=Rg.out d hd1;have KV:=ae hd1;subst hd2;clear hd1;go_wp2_with fail;(refine(Tryz.strings_IndexByte _ _ _).mono ?_);rintro e w2 ⟨rfl,rfl⟩;rw [FR.out]
         skip;skip
         go_wp2_with fail;go_roundg (4-(k+1))
         case measure=>omega
         case rel=>exact⟨k+1,n*16+d,by go_num,by omega,rfl,by go_num,hmx,o8.out d KV.out,rfl⟩
      ·obtain rfl:k=4:=by omega
       obtain⟨z,iu⟩:∃z,u.extract 4 u.size=z:=⟨_,rfl⟩;have hzl:z.data.toList=u.data.toList.drop 4:=by rw [<-iu];exact rD u 4
       have Hzl:=ae hzl;clear hzl;by_cases Ri:n<128
       ·have abb:decide ((128:Int)<= (n:Int))=false:=by simp;omega
        have abd:¬(128:Int)<= (n:Int):=by omega
        have kU:=ae (show jY s.data.toList=some (UInt8.ofNat n,z.data.toList) by
         rw [FO.out,Hk.out,HK.out];simp only [Option.map_some,Option.bind_some,if_pos Ri,Hzl.out])
        go_wp2_with fail;refine aF (h:= ?_);refine⟨hR.set _ _,UInt8.ofNat n,z,false,?_,aj, .inl ⟨rfl,kU.out⟩⟩;have e:(UInt8.ofNat n).toNat=n:=by simp;omega
        rw [e]
       ·have abb:decide ((128:Int)<= (n:Int))=true:=by simp;omega
        have abd:(128:Int)<= (n:Int):=by omega
        have bj:=ae (show jY s.data.toList=none by
         rw [FO.out,Hk.out,HK.out];simp only [Option.map_some,Option.bind_some,if_neg Ri])
        go_wp2_with fail;(refine(dz r z false _ aj).mono ?_);rintro e w2 ⟨rfl,hr2,h2⟩;have h3:Rd r w1 w2:=(hR.set _ _).trans h2;go_wp2_with fail;refine aF (h:= ?_);exact⟨h3,0,⟨#[]⟩,true,rfl,hr2, .inr ⟨rfl,rfl,bj.out⟩⟩
   ·have aa5:((c.toNat:Int) !=117)=true:=by simpa using wB
    have aa6:((c.toNat:Int)==117)=false:=by simpa using wB
    have bj:=ae (show jY s.data.toList=none by
     rw [oJ.out];have sB:c≠117:=fun h=>wB (by rw [h];rfl)
     simp only [jY,FN.out,if_neg sB])
    clear wB;go_enter func102,ntmps102;go_wp2_with fail;(refine(lC r s false _ hr).mono ?_);rintro e w1 ⟨rfl,rfl⟩;rw [Hc.out];go_wp2_with fail;(refine(Tryz.strings_IndexByte _ _ _).mono ?_);rintro e w1 ⟨rfl,rfl⟩;rw [FM.out];go_wp2_with fail;(refine(dz r u false _ oL).mono ?_);rintro e w2 ⟨rfl,hr2,h2⟩;go_wp2_with fail;refine aF (h:= ?_);exact⟨hR.trans h2,0,⟨#[]⟩,true,rfl,hr2, .inr ⟨rfl,rfl,bj.out⟩⟩
  ·have FN:=ae CS
   have hx2:decide (0<=ix)=true:=by simpa using hx0
   obtain⟨m,rfl⟩:=Int.eq_ofNat_of_zero_le hx0;have FT:m<8:=by omega
   have kU:=ae (show jY s.data.toList=some (uB[m]'(by simpa [uB] using FT),u.data.toList) by
    rw [oJ.out];have e:z6 c=some (uB[m]'(by simpa [uB] using FT)):=by rw [FN.out];simp [uB,FT]
    simp only [jY,e])
   clear CS;go_enter func102,ntmps102;go_wp2_with fail;(refine(lC r s false _ hr).mono ?_);rintro e w1 ⟨rfl,rfl⟩;rw [Hc.out];go_wp2_with fail;(refine(Tryz.strings_IndexByte _ _ _).mono ?_);rintro e w1 ⟨rfl,rfl⟩;rw [FM.out];go_wp2_with fail;refine aF (h:= ?_);refine⟨hR,uB[m]'(by simpa [uB] using FT),u,false,?_,oL, .inl ⟨rfl,kU.out⟩⟩;rfl
theorem aaJ (c:UInt8):(nA c).length<=6:=by
 unfold nA
 repeat (split<;>try(simp;done))
 all_goals simp
theorem aaO (s:ah) (k:Nat) (h:k<s.size):(s.data.toList.drop k).flatMap nA=nA s[k]++(s.data.toList.drop (k+1)).flatMap nA:=by
 have h':k<s.data.toList.length:=by rw [Array.length_toList];exact h
 rw [List.drop_eq_getElem_cons h',List.flatMap_cons];rfl
theorem QV:∀n:Nat,n<256->bits BinOp.and IntKind.u8 (n:Int) 15=((n%16:Nat):Int):=by decide+kernel
theorem FK:∀n:Nat,n<16->∀h:n<(⟨#[48,49,50,51,52,53,54,55,56,57,97,98,99,100,101,102]⟩:ah).size,(⟨#[48,49,50,51,52,53,54,55,56,57,97,98,99,100,101,102]⟩:ah)[n]'h=lL n:=by decide+kernel
theorem tv {s:ah} {k:Nat} (h:k<s.size) {acc T E:Bytes} (ha:acc++((s.data.toList.drop k).flatMap nA++ [34])=T) (hE:nA s[k]=E):acc++E++((s.data.toList.drop (k+1)).flatMap nA++ [34])=T:=by
 rw [<-ha,aaO s k h,hE];simp
theorem Kq (B:Nat) (v:Value) (l:Bytes) (s:ah) (w:World) (hs:s.size<=1073741824) (hn:l.length<=1099511627776) (hB:B<=w.heap.size) (hown:cW w B v l):
 Calls prog 127 #[v, .string s] w fun e w'=>∃v',e= .returned v'/\cW w' B v' (l++nB s.data.toList)/\Wrote B w w':=by
 have bW:=ae hown;clear hown;go_enter func127,ntmps127;go_wp2_with (at_builtin;refine mV (by rfl) _ _ _ (by rfl) (by rfl) B v l (by rfl) (bW.out.ext Xt) ⟨w.heap.size,0,none⟩ 1 1 [34] (by rfl) (by rfl) (World.news_of_block (cs:= #[.int .u8 34]) (t:=5) (fr:=(0,0)) (heap_alloc_new w _)) (by omega) (by simp;omega) ?_;intro v1 w1 hown1 hgrow1;have h1:Wrote B w w1:=Wrote.grown (w:=w.alloc _) ((Wrote.refl B w).ext hB Xt) hB (bW.out.ext Xt) hgrow1;obtain⟨a1,c1,rfl,-⟩:=hown1.form;have nI:=ae hown1;clear hown1 hgrow1)
 go_loopg [0,5,6,12] s.size (fun g t0 _ _ i wr=>∃(k:Nat) (acc:Bytes) (a0:aq) (c0:Nat),k<=s.size/\i= .int .i64 k/\g=s.size-k/\t0= .slice a0 acc.length c0/\cW wr B (.slice a0 acc.length c0) acc/\acc++((s.data.toList.drop k).flatMap nA++ [34])=l++nB s.data.toList/\acc.length<=l.length+1+k*6/\Wrote B w wr)
 case atStart=>exact⟨0,l++ [34],a1,c1,by omega,rfl,rfl,by simp,nI.out,by simp [nB],by simp,h1⟩
 case round=>
  obtain⟨k,acc,a0,c0,hk,rfl,rfl,rfl,hO,hacc,hal,hx⟩:=hrel;have HO:=ae hO;have fh:=ae hacc;have hBr:=hx.size;clear hO hacc;by_cases hlt:k<s.size
  ·have QW:s[k].toNat<256:=s[k].toNat_lt
   by_cases lB:(s[k].toNat:Int)=34
   ·have KF:((s[k].toNat:Int)==34)=true:=by simpa using lB
    go_wp2_with (at_builtin;refine mV (by rfl) _ _ _ (by rfl) (by rfl) B (.slice a0 acc.length c0) acc (by rfl) (HO.out.ext Xt) ⟨wr.heap.size,0,none⟩ 2 2 [92,34] (by rfl) (by rfl) (World.news_of_block (cs:= #[.int .u8 92, .int .u8 34]) (t:=5) (fr:=(0,0)) (heap_alloc_new wr _)) (by omega) (by simp;omega) ?_;intro v2 w2 hown2 hgrow2;have h2:Wrote B w w2:=Wrote.grown (w:=wr.alloc _) (hx.ext hB Xt) hB (HO.out.ext Xt) hgrow2;obtain⟨a2,c2,rfl,-⟩:=hown2.form;have dC:=ae hown2;clear hown2 hgrow2);go_roundg (s.size-(k+1))
    case measure=>omega
    case rel=>exact⟨k+1,acc++ [92,34],a2,c2,by omega,by go_num,rfl,by simp,dC.out,tv hlt fh.out (by rw [ra (n:=34) (by omega) lB];rfl),by simp;omega,h2⟩
   have KF:((s[k].toNat:Int)==34)=false:=by simpa using lB
   by_cases rC:(s[k].toNat:Int)=92
   ·have b92:((s[k].toNat:Int)==92)=true:=by simpa using rC
    go_wp2_with (at_builtin;refine mV (by rfl) _ _ _ (by rfl) (by rfl) B (.slice a0 acc.length c0) acc (by rfl) (HO.out.ext Xt) ⟨wr.heap.size,0,none⟩ 2 2 [92,92] (by rfl) (by rfl) (World.news_of_block (cs:= #[.int .u8 92, .int .u8 92]) (t:=5) (fr:=(0,0)) (heap_alloc_new wr _)) (by omega) (by simp;omega) ?_;intro v2 w2 hown2 hgrow2;have h2:Wrote B w w2:=Wrote.grown (w:=wr.alloc _) (hx.ext hB Xt) hB (HO.out.ext Xt) hgrow2;obtain⟨a2,c2,rfl,-⟩:=hown2.form;have dC:=ae hown2;clear hown2 hgrow2);go_roundg (s.size-(k+1))
    case measure=>omega
    case rel=>exact⟨k+1,acc++ [92,92],a2,c2,by omega,by go_num,rfl,by simp,dC.out,tv hlt fh.out (by rw [ra (n:=92) (by omega) rC];rfl),by simp;omega,h2⟩
   have b92:((s[k].toNat:Int)==92)=false:=by simpa using rC
   by_cases c8:(s[k].toNat:Int)=8
   ·have b8:((s[k].toNat:Int)==8)=true:=by simpa using c8
    go_wp2_with (at_builtin;refine sw (by rfl) _ _ _ _ (by rfl) (by rfl) (by rfl) B (.slice a0 acc.length c0) acc (by rfl) (HO.out.ext Xt) ⟨#[92,98]⟩ (by rfl) (by simp [ByteArray.size];omega) (by omega) ?_;intro v2 w2 hown2 hgrow2;have h2:Wrote B w w2:=Wrote.grown (w:=wr) hx hB (HO.out.ext Xt) hgrow2;obtain⟨a2,c2,rfl,-⟩:=hown2.form;have dC:=ae hown2;clear hown2 hgrow2);go_roundg (s.size-(k+1))
    case measure=>omega
    case rel=>exact⟨k+1,acc++ [92,98],a2,c2,by omega,by go_num,rfl,by simp,dC.out,tv hlt fh.out (by rw [ra (n:=8) (by omega) c8];rfl),by simp;omega,h2⟩
   have b8:((s[k].toNat:Int)==8)=false:=by simpa using c8
   by_cases c12:(s[k].toNat:Int)=12
   ·have b12:((s[k].toNat:Int)==12)=true:=by simpa using c12
    go_wp2_with (at_builtin;refine sw (by rfl) _ _ _ _ (by rfl) (by rfl) (by rfl) B (.slice a0 acc.length c0) acc (by rfl) (HO.out.ext Xt) ⟨#[92,102]⟩ (by rfl) (by simp [ByteArray.size];omega) (by omega) ?_;intro v2 w2 hown2 hgrow2;have h2:Wrote B w w2:=Wrote.grown (w:=wr) hx hB (HO.out.ext Xt) hgrow2;obtain⟨a2,c2,rfl,-⟩:=hown2.form;have dC:=ae hown2;clear hown2 hgrow2);go_roundg (s.size-(k+1))
    case measure=>omega
    case rel=>exact⟨k+1,acc++ [92,102],a2,c2,by omega,by go_num,rfl,by simp,dC.out,tv hlt fh.out (by rw [ra (n:=12) (by omega) c12];rfl),by simp;omega,h2⟩
   have b12:((s[k].toNat:Int)==12)=false:=by simpa using c12
   by_cases c10:(s[k].toNat:Int)=10
   ·have b10:((s[k].toNat:Int)==10)=true:=by simpa using c10
    go_wp2_with (at_builtin;refine sw (by rfl) _ _ _ _ (by rfl) (by rfl) (by rfl) B (.slice a0 acc.length c0) acc (by rfl) (HO.out.ext Xt) ⟨#[92,110]⟩ (by rfl) (by simp [ByteArray.size];omega) (by omega) ?_;intro v2 w2 hown2 hgrow2;have h2:Wrote B w w2:=Wrote.grown (w:=wr) hx hB (HO.out.ext Xt) hgrow2;obtain⟨a2,c2,rfl,-⟩:=hown2.form;have dC:=ae hown2;clear hown2 hgrow2);go_roundg (s.size-(k+1))
    case measure=>omega
    case rel=>exact⟨k+1,acc++ [92,110],a2,c2,by omega,by go_num,rfl,by simp,dC.out,tv hlt fh.out (by rw [ra (n:=10) (by omega) c10];rfl),by simp;omega,h2⟩
   have b10:((s[k].toNat:Int)==10)=false:=by simpa using c10
   by_cases c13:(s[k].toNat:Int)=13
   ·have b13:((s[k].toNat:Int)==13)=true:=by simpa using c13
    go_wp2_with (at_builtin;refine sw (by rfl) _ _ _ _ (by rfl) (by rfl) (by rfl) B (.slice a0 acc.length c0) acc (by rfl) (HO.out.ext Xt) ⟨#[92,114]⟩ (by rfl) (by simp [ByteArray.size];omega) (by omega) ?_;intro v2 w2 hown2 hgrow2;have h2:Wrote B w w2:=Wrote.grown (w:=wr) hx hB (HO.out.ext Xt) hgrow2;obtain⟨a2,c2,rfl,-⟩:=hown2.form;have dC:=ae hown2;clear hown2 hgrow2);go_roundg (s.size-(k+1))
    case measure=>omega
    case rel=>exact⟨k+1,acc++ [92,114],a2,c2,by omega,by go_num,rfl,by simp,dC.out,tv hlt fh.out (by rw [ra (n:=13) (by omega) c13];rfl),by simp;omega,h2⟩
   have b13:((s[k].toNat:Int)==13)=false:=by simpa using c13
   by_cases c9:(s[k].toNat:Int)=9
   ·have b9:((s[k].toNat:Int)==9)=true:=by simpa using c9
    go_wp2_with (at_builtin;refine sw (by rfl) _ _ _ _ (by rfl) (by rfl) (by rfl) B (.slice a0 acc.length c0) acc (by rfl) (HO.out.ext Xt) ⟨#[92,116]⟩ (by rfl) (by simp [ByteArray.size];omega) (by omega) ?_;intro v2 w2 hown2 hgrow2;have h2:Wrote B w w2:=Wrote.grown (w:=wr) hx hB (HO.out.ext Xt) hgrow2;obtain⟨a2,c2,rfl,-⟩:=hown2.form;have dC:=ae hown2;clear hown2 hgrow2);go_roundg (s.size-(k+1))
    case measure=>omega
    case rel=>exact⟨k+1,acc++ [92,116],a2,c2,by omega,by go_num,rfl,by simp,dC.out,tv hlt fh.out (by rw [ra (n:=9) (by omega) c9];rfl),by simp;omega,h2⟩
   have b9:((s[k].toNat:Int)==9)=false:=by simpa using c9
   by_cases hlo:(s[k].toNat:Int)<32\/ (s[k].toNat:Int)=127
   ·obtain⟨n1,ou⟩:∃n1:Nat,s[k].toNat/16=n1:=⟨_,rfl⟩
    obtain⟨n2,kx⟩:∃n2:Nat,s[k].toNat%16=n2:=⟨_,rfl⟩
    have HE:=ae (show nA s[k]= [92,117,48,48,lL n1,lL n2] by
     have e:∀n:Nat,n<256-> (s[k].toNat:Int)≠n->s[k]≠UInt8.ofNat n:=fun n hn h h'=>h (by rw [h'];simp;omega);have KG:s[k]≠34:=e 34 (by omega) lB;have KH:s[k]≠92:=e 92 (by omega) rC;have e8:s[k]≠8:=e 8 (by omega) c8;have e12:s[k]≠12:=e 12 (by omega) c12;have e10:s[k]≠10:=e 10 (by omega) c10;have KI:s[k]≠13:=e 13 (by omega) c13;have e9:s[k]≠9:=e 9 (by omega) c9;have KJ:s[k].toNat<32\/s[k]=127:=by
      rcases hlo with h|h
      ·exact .inl (by omega)
      ·exact .inr (ra (n:=127) (by omega) h)
     unfold nA
     simp only [KG,KH,e8,e12,e10,KI,e9,KJ,or_self,if_false,if_true,ou,kx])
    have l0:s[k].toNat<128:=by omega
    by_cases hl:(s[k].toNat:Int)<32
    ·have b32:decide ((s[k].toNat:Int)<32)=true:=by simpa using hl
     clear hlo;go_wp2_with (at_builtin;refine sw (by rfl) _ _ _ _ (by rfl) (by rfl) (by rfl) B (.slice a0 acc.length c0) acc (by rfl) (HO.out.ext Xt) ⟨#[92,117,48,48]⟩ (by rfl) (by simp [ByteArray.size];omega) (by omega) ?_;intro v2 w2 hown2 hgrow2;have h2:Wrote B w w2:=Wrote.grown (w:=wr) hx hB (HO.out.ext Xt) hgrow2;obtain⟨a2,c2,rfl,-⟩:=hown2.form;have dC:=ae hown2;clear hown2 hgrow2);have e1:(s[k].toNat:Int)/16=(n1:Int):=by omega
     have l1:n1<16:=by omega
     have l1':(n1:Int)<16:=by omega
     have e2:bits BinOp.and IntKind.u8 (s[k].toNat:Int) 15=(n2:Int):=by rw [QV _ QW,kx]
     have l2:n2<16:=by omega
     have l2':(n2:Int)<16:=by omega
     have g1:=FK n1 l1;have g2:=FK n2 l2;have dC:Hid (cW w2 B (.slice a2 (acc.length+4) c2) (acc++ [92,117,48,48])):=ae (by have:=dC.out;simpa using this);have hz2:=h2.size
     go_region_law (refine MS (by rfl) _ _ _ (by rfl) (by rfl) B (.slice a2 (acc.length+4) c2) (acc++ [92,117,48,48]) (by rfl) (dC.out.ext Xt) ⟨_,0,none⟩ 2 2 [lL n1,lL n2] (by rfl) (by rfl) (by decide) (World.news_of_block (cs:= #[.int .u8 (lL n1).toNat, .int .u8 (lL n2).toNat]) (t:=5) (fr:=(0,0)) (heap_alloc_new _ _)) (by simp;omega) (by simp;omega) ?_;intro g3 Aj w3 eo jC;have h3:Wrote B w w3:=Wrote.grown (h2.ext hB Xt) hB (dC.out.ext Xt) jC;have pC:=ae eo;clear eo jC)
     all_goals
      go_wp2_with fail;go_roundg (s.size-(k+1))
      case measure=>omega
      case rel=>exact⟨k+1,acc++ [92,117,48,48,lL n1,lL n2],some ⟨g3,0,none⟩,Aj,by omega,by go_num,rfl,by simp,by have:=pC.out;simpa using this,tv hlt fh.out HE.out,by simp;omega,h3⟩
    ·have b32:decide ((s[k].toNat:Int)<32)=false:=by simpa using hl
     have aaP:((s[k].toNat:Int)==127)=true:=by simpa using hlo.resolve_left hl
     clear hlo;go_wp2_with (at_builtin;refine sw (by rfl) _ _ _ _ (by rfl) (by rfl) (by rfl) B (.slice a0 acc.length c0) acc (by rfl) (HO.out.ext Xt) ⟨#[92,117,48,48]⟩ (by rfl) (by simp [ByteArray.size];omega) (by omega) ?_;intro v2 w2 hown2 hgrow2;have h2:Wrote B w w2:=Wrote.grown (w:=wr) hx hB (HO.out.ext Xt) hgrow2;obtain⟨a2,c2,rfl,-⟩:=hown2.form;have dC:=ae hown2;clear hown2 hgrow2);have e1:(s[k].toNat:Int)/16=(n1:Int):=by omega
     have l1:n1<16:=by omega
     have l1':(n1:Int)<16:=by omega
     have e2:bits BinOp.and IntKind.u8 (s[k].toNat:Int) 15=(n2:Int):=by rw [QV _ QW,kx]
     have l2:n2<16:=by omega
     have l2':(n2:Int)<16:=by omega
     have g1:=FK n1 l1;have g2:=FK n2 l2;have dC:Hid (cW w2 B (.slice a2 (acc.length+4) c2) (acc++ [92,117,48,48])):=ae (by have:=dC.out;simpa using this);have hz2:=h2.size
     go_region_law (refine MS (by rfl) _ _ _ (by rfl) (by rfl) B (.slice a2 (acc.length+4) c2) (acc++ [92,117,48,48]) (by rfl) (dC.out.ext Xt) ⟨_,0,none⟩ 2 2 [lL n1,lL n2] (by rfl) (by rfl) (by decide) (World.news_of_block (cs:= #[.int .u8 (lL n1).toNat, .int .u8 (lL n2).toNat]) (t:=5) (fr:=(0,0)) (heap_alloc_new _ _)) (by simp;omega) (by simp;omega) ?_;intro g3 Aj w3 eo jC;have h3:Wrote B w w3:=Wrote.grown (h2.ext hB Xt) hB (dC.out.ext Xt) jC;have pC:=ae eo;clear eo jC)
     all_goals
      go_wp2_with fail;go_roundg (s.size-(k+1))
      case measure=>omega
      case rel=>exact⟨k+1,acc++ [92,117,48,48,lL n1,lL n2],some ⟨g3,0,none⟩,Aj,by omega,by go_num,rfl,by simp,by have:=pC.out;simpa using this,tv hlt fh.out HE.out,by simp;omega,h3⟩
   have c32:¬(s[k].toNat:Int)<32:=fun h=>hlo (.inl h);have c127:¬(s[k].toNat:Int)=127:=fun h=>hlo (.inr h);have aaP:((s[k].toNat:Int)==127)=false:=by simpa using c127
   have b32:decide ((s[k].toNat:Int)<32)=false:=by simpa using c32
   clear hlo;have hE:nA s[k]= [s[k]]:=by
    have e:∀n:Nat,n<256-> (s[k].toNat:Int)≠n->s[k]≠UInt8.ofNat n:=fun n hn h h'=>h (by rw [h'];simp;omega);have KG:s[k]≠34:=e 34 (by omega) lB;have KH:s[k]≠92:=e 92 (by omega) rC;have e8:s[k]≠8:=e 8 (by omega) c8;have e12:s[k]≠12:=e 12 (by omega) c12;have e10:s[k]≠10:=e 10 (by omega) c10;have KI:s[k]≠13:=e 13 (by omega) c13;have e9:s[k]≠9:=e 9 (by omega) c9;have aaQ:s[k]≠127:=e 127 (by omega) c127;have KJ:¬s[k].toNat<32:=by omega
    unfold nA;simp only [KG,KH,e8,e12,e10,KI,e9,aaQ,KJ,or_self,if_false]
   have HE:=ae hE;clear hE;go_wp2_with (at_builtin;refine mV (by rfl) _ _ _ (by rfl) (by rfl) B (.slice a0 acc.length c0) acc (by rfl) (HO.out.ext Xt) ⟨wr.heap.size,0,none⟩ 1 1 [s[k]] (by rfl) (by rfl) (World.news_of_block (cs:= #[.int .u8 s[k].toNat]) (t:=5) (fr:=(0,0)) (heap_alloc_new wr _)) (by omega) (by simp;omega) ?_;intro v2 w2 hown2 hgrow2;have h2:Wrote B w w2:=Wrote.grown (w:=wr.alloc _) (hx.ext hB Xt) hB (HO.out.ext Xt) hgrow2;obtain⟨a2,c2,rfl,-⟩:=hown2.form;have dC:=ae hown2;clear hown2 hgrow2);go_roundg (s.size-(k+1))
   case measure=>omega
   case rel=>exact⟨k+1,acc++ [s[k]],a2,c2,by omega,by go_num,rfl,by simp,dC.out,tv hlt fh.out HE.out,by simp;omega,h2⟩
  ·obtain rfl:k=s.size:=by omega
   go_wp2_with (at_builtin;refine mV (by rfl) _ _ _ (by rfl) (by rfl) B (.slice a0 acc.length c0) acc (by rfl) (HO.out.ext Xt) ⟨wr.heap.size,0,none⟩ 1 1 [34] (by rfl) (by rfl) (World.news_of_block (cs:= #[.int .u8 34]) (t:=5) (fr:=(0,0)) (heap_alloc_new wr _)) (by omega) (by simp;omega) ?_;intro v2 w2 hown2 hgrow2;have h2:Wrote B w w2:=Wrote.grown (w:=wr.alloc _) (hx.ext hB Xt) hB (HO.out.ext Xt) hgrow2;obtain⟨a2,c2,rfl,-⟩:=hown2.form;have dC:=ae hown2;clear hown2 hgrow2);refine aF (h:= ?_);refine⟨_,rfl,?_,h2⟩;have e:=fh.out;rw [List.drop_eq_nil_of_le (by rw [Array.length_toList];exact Nat.le_refl _),List.flatMap_nil,List.nil_append] at e;rw [<-e];simpa using dC.out
end Go.Proofs.YtlcebdaghmdkeabGreatDoor
