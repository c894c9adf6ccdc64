import Derived.Test.YtlcebdaghmdkeaaGreatDoorZ8
import Derived.Test.YtlcebdaghmdkeaaGreatDoorZ9
import Derived.Test.YtlcebdaghmdkeaaGreatDoorZ10
import Derived.Test.YtlcebdaghmdkeaaGreatDoorZ16
import Derived.Test.YtlcebdaghmdkeaaGreatDoorZ17
set_option linter.all false
set_option maxRecDepth 100000
set_option maxHeartbeats 64000000
namespace Go.Proofs.YtlcebdaghmdkeaaGreatDoor
open Go.Proofs.Tryz
open Go.RowKit
attribute [local go_sem↓] Go.wp_at_zero Go.wp_at_succ
def ab5 (r:Nat) (l:Bytes) (w:World) (e:Ending) (w':World):Prop:=
 Rd r w w'/\∃(c:UInt8) (s':ah) (gy:Bool),e= .returned (.int .u8 c.toNat)/\Sr w' r s' gy/\ ((gy=false/\jv l=some (c,s'.data.toList))\/ (gy=true/\s'.data.toList= []/\jv l=none))
def G6:Bytes:= [34,92,47,98,102,110,114,116]
def vB:Bytes:= [34,92,47,8,12,10,13,9]
def SR:Bytes:= [48,49,50,51,52,53,54,55,56,57,97,98,99,100,101,102]
def SU:Bytes:= [48,49,50,51,52,53,54,55,56,57]
theorem ab6:∀n:Nat,n<256-> (Lib.indexByte G6 (Int.ofNat n).toNat.toUInt8<0/\vg (UInt8.ofNat n)=none)\/ (0<=Lib.indexByte G6 (Int.ofNat n).toNat.toUInt8/\Lib.indexByte G6 (Int.ofNat n).toNat.toUInt8<8/\vg (UInt8.ofNat n)=vB[(Lib.indexByte G6 (Int.ofNat n).toNat.toUInt8).toNat]?):=by decide+kernel
theorem ab7:∀n:Nat,n<65-> (gu (UInt8.ofNat n)).map Int.ofNat=if Lib.indexByte SU (Int.ofNat n).toNat.toUInt8<0 then none else some (Lib.indexByte SU (Int.ofNat n).toNat.toUInt8):=by decide+kernel
theorem ab8:∀n:Nat,n<256->65<=n-> (gu (UInt8.ofNat n)).map Int.ofNat=if Lib.indexByte SR (bits BinOp.or IntKind.u8 (Int.ofNat n) 32).toNat.toUInt8<0 then none else some (Lib.indexByte SR (bits BinOp.or IntKind.u8 (Int.ofNat n) 32).toNat.toUInt8):=by decide+kernel
theorem Ml {c:UInt8} {v:Nat} (h:gu c=some v):v<16:=by
 unfold gu at h
 split at h
 ·cases h;omega
 ·split at h
  ·cases h;omega
  ·split at h
   ·cases h;omega
   ·cases h
def oM (u:Bytes):Nat->Option Nat
 |0=>some 0
 |k+1=>(oM u k).bind fun n=>(gu (u.getD k 0)).map fun d=>n*16+d
theorem SV {u:Bytes} {k:Nat} (h:oM u k=none):∀j,oM u (k+j)=none
 |0=>h
 |j+1=>by rw [<-Nat.add_assoc,oM,SV h j];rfl
theorem SX {u:Bytes}:∀ {k n:Nat},oM u k=some n->n<16^k
 |0,n,h=>by cases h;decide
 |k+1,n,h=>by
  rw [oM] at h
  cases h1:oM u k with
  |none=>rw [h1] at h;cases h
  |some m=>
   cases h2:gu (u.getD k 0) with
   |none=>rw [h1,h2] at h;cases h
   |some d=>
    rw [h1,h2] at h;simp only [Option.bind_some,Option.map_some,Option.some.injEq] at h;have:=SX h1;have:=Ml h2;rw [Nat.pow_succ];omega
theorem ab9 {u:Bytes} (h:4<=u.length):wR u=(oM u 4).map fun n=>(n,u.drop 4):=by
 rcases u with _|⟨a,_|⟨b,_|⟨c,_|⟨d,t⟩⟩⟩⟩
 ·simp at h
 ·simp at h
 ·simp at h
 ·simp at h
 ·simp only [wR,oM,List.getD_cons_zero,List.getD_cons_succ,Option.bind_some]
  cases gu a with
  |none=>rfl
  |some a=>cases gu b with
   |none=>rfl
   |some b=>cases gu c with
    |none=>rfl
    |some c=>cases gu d with
     |none=>rfl
     |some d=>simp
theorem aca {u:Bytes} (h:u.length<4):wR u=none:=by
 rcases u with _|⟨a,_|⟨b,_|⟨c,_|⟨d,t⟩⟩⟩⟩
 ·rfl
 ·rfl
 ·rfl
 ·rfl
 ·simp at h;omega
theorem acb (r:Nat) (s:ah) (hsz:s.size<=1048576) (w:World) (hr:Sr w r s false):
 Calls prog 136 #[.pointer (some ⟨r,0,none⟩)] w (ab5 r s.data.toList w):=by
 have hlt:=hr.lt;have hlen:s.data.toList.length=s.size:=Array.length_toList;have jK:=ae hlen;clear hlen;obtain⟨c,hc⟩:∃c,gw s.data.toList=c:=⟨_,rfl⟩;have Hc:=ae hc;have hc256:c.toNat<256:=c.toNat_lt;have acd:UInt8.ofNat c.toNat=c:=Gi c;clear hc;by_cases hz:(c.toNat:Int)=0
 ·have hzb:((c.toNat:Int)==0)=true:=by simpa using hz
  have bp:=ae (show jv s.data.toList=none by
   have h0:c=0:=by apply UInt8.toNat_inj.1;simpa using (by omega:c.toNat=0)
   have:=Hc.out
   cases hq:s.data.toList with
   |nil=>rfl
   |cons d t=>rw [hq,h0] at this;simp only [gw,List.headD_cons] at this;rw [this];rfl)
  go_enter func136,ntmps136;go_wp2_with fail;(refine(lX r s false _ hr).mono ?_);rintro e w1 ⟨rfl,rfl⟩;rw [Hc.out];go_wp2_with fail;(refine(dG r s false _ hr).mono ?_);rintro e w2 ⟨rfl,hr2,h2⟩;go_wp2_with fail;refine aG (h:= ?_);exact⟨h2,0,⟨#[]⟩,true,rfl,hr2, .inr ⟨rfl,rfl,bp.out⟩⟩
 ·have hzb:((c.toNat:Int)==0)=false:=by simpa using hz
  have hne:s.data.toList≠ []:=fun h=>by have:=Hc.out;rw [h] at this;rw [<-this] at hz;exact hz rfl
  have hpos:1<=s.size:=by rw [<-jK.out];exact List.length_pos_iff.2 hne
  have ace:(1:Int)<= (s.size:Int):=by omega
  obtain⟨u,hu⟩:∃u,s.extract 1 s.size=u:=⟨_,rfl⟩;have Bl:u.data.toList=s.data.toList.drop 1:=by rw [<-hu];exact se s 1
  have qK:s.data.toList=c::u.data.toList:=by
   rw [Bl];have:=Hc.out
   cases hq:s.data.toList with
   |nil=>exact absurd hq hne
   |cons d t=>rw [hq] at this;simp only [gw,List.headD_cons] at this;rw [this];rfl
  have Mm:u.size<=1048576:=by have e:u.data.toList.length=u.size:=Array.length_toList;rw [Bl,List.length_drop,jK.out] at e;omega
  have pD:=ae qK;have hcr:=hr.cells;have ov:=hr.free;obtain⟨ix,Mn⟩:∃ix,Lib.indexByte (⟨#[34,92,47,98,102,110,114,116]⟩:ah).data.toList ((c.toNat:Int)).toNat.toUInt8=ix:=⟨_,rfl⟩;have G7:=ae Mn;have fF:=ab6 c.toNat hc256;rw [acd] at fF;have fF:(ix<0/\vg c=none)\/ (0<=ix/\ix<8/\vg c=vB[ix.toNat]?):=by rw [<-Mn];exact fF
  clear hne qK Bl Mn;have hR:Rd r w (w.setCell ⟨r,0,none⟩ (.string u)):=(Rd.refl _ _).set _ _;have pE:Sr (w.setCell ⟨r,0,none⟩ (.string u)) r u false:=aj;rcases fF with⟨hx0,DT⟩|⟨hx0,G8,DT⟩
  ·have G9:=ae DT
   have hx1:¬0<=ix:=by omega
   have hx2:decide (0<=ix)=false:=by simpa using hx1
   clear DT;have SY:u.data.toList.length=u.size:=Array.length_toList;have SZ:=ae SY;clear SY;by_cases xh:(c.toNat:Int)=117
   ·have tI:c=117:=by apply UInt8.toNat_inj.1;simpa using (by omega:c.toNat=117)
    have acf:((c.toNat:Int) !=117)=false:=by simpa using xh
    have acg:((c.toNat:Int)==117)=true:=by simpa using xh
    have S3:jv s.data.toList=(wR u.data.toList).bind fun p=>if p.1<128 then some (UInt8.ofNat p.1,p.2) else none:=by rw [pD.out];simp only [jv,G9.out,if_pos tI]
    have G':=ae S3;have ahk:=ae xh;clear S3 tI xh;by_cases h4:u.size<4
    ·have DU:decide ((u.size:Int)<4)=true:=by simp;omega
     have h4c:(u.size:Int)<4:=by omega
     have bp:=ae (show jv s.data.toList=none by rw [G'.out,aca (by rw [SZ.out];exact h4)];rfl);go_enter func136,ntmps136;go_wp2_with fail;(refine(lX r s false _ hr).mono ?_);rintro e w1 ⟨rfl,rfl⟩;rw [Hc.out];go_wp2_with fail;(refine(Tryz.strings_IndexByte _ _ _).mono ?_);rintro e w1 ⟨rfl,rfl⟩;rw [G7.out];go_wp2_with fail;(refine(dG r u false _ pE).mono ?_);rintro e w2 ⟨rfl,hr2,h2⟩;go_wp2_with fail;refine aG (h:= ?_);exact⟨hR.trans h2,0,⟨#[]⟩,true,rfl,hr2, .inr ⟨rfl,rfl,bp.out⟩⟩
    ·have DU:decide ((u.size:Int)<4)=false:=by simp;omega
     have h4c:(4:Int)<= (u.size:Int):=by omega
     have h4d:¬(u.size:Int)<4:=by omega
     have Hk:=ae (show wR u.data.toList=(oM u.data.toList 4).map fun n=>(n,u.data.toList.drop 4) from ab9 (by rw [SZ.out];omega));go_enter func136,ntmps136;go_wp2_with fail;(refine(lX r s false _ hr).mono ?_);rintro e w1 ⟨rfl,rfl⟩;rw [Hc.out];go_wp2_with fail;(refine(Tryz.strings_IndexByte _ _ _).mono ?_);rintro e w1 ⟨rfl,rfl⟩;rw [G7.out];go_wp2_with fail;refine aI (R:=fun wx=>Sr wx r u false/\Rd r w1 wx) ⟨pE,hR⟩ ?_;clear pE hR hcr ov;rintro wy ⟨pE,hR⟩;have hcr:=pE.cells;have ov:=pE.free
     go_loopg [5,6,7,40] 4 (fun g t5 _ _ i wr=>∃k n:Nat,i= .int .i64 k/\k<=4/\g=4-k/\t5= .int .i64 n/\n<=65535/\oM u.data.toList k=some n/\wr=wy)
     case atStart=>exact⟨0,0,rfl,by omega,rfl,rfl,by omega,rfl,rfl⟩
     case round=>
      obtain⟨k,n,rfl,hk,rfl,rfl,hn,hK,rfl⟩:=hrel;have HK:=ae hK;clear hK;by_cases hk4:k<4
      ·have hku:k<u.size:=by omega
       have hget:u.data.toList.getD k 0=u[k]:=by rw [List.getD_eq_getElem?_getD,K5 hku];rfl
       have S4:=ae hget;have ach:u[k].toNat<256:=u[k].toNat_lt;have ahl:(k:Int)<4:=by omega
       obtain⟨xj,HA⟩:∃xj,Lib.indexByte (⟨#[48,49,50,51,52,53,54,55,56,57,97,98,99,100,101,102]⟩:ah).data.toList (bits BinOp.or IntKind.u8 (u[k].toNat:Int) 32).toNat.toUInt8=xj:=⟨_,rfl⟩;obtain⟨xk,HB⟩:∃xk,Lib.indexByte (⟨#[48,49,50,51,52,53,54,55,56,57]⟩:ah).data.toList ((u[k].toNat:Int)).toNat.toUInt8=xk:=⟨_,rfl⟩;have HJ:=ae HA;have S5:=ae HB;have hstep:∀d,gu u[k]=some d->oM u.data.toList (k+1)=some (n*16+d):=fun d hd=>by rw [oM,HK.out,S4.out,hd];rfl
       have S6:gu u[k]=none->jv s.data.toList=none:=fun hd=>by
        have e:oM u.data.toList (k+1)=none:=by rw [oM,HK.out,S4.out,hd];rfl
        have e4:=SV e (3-k);rw [show k+1+(3-k)=4 from by omega] at e4;rw [G'.out,Hk.out,e4];rfl
       have pR:=ae hstep;have S7:=ae S6;have hmx:∀d,gu u[k]=some d->n*16+d<=65535:=fun d hd=>by have h1:=SX (pR.out d hd);have:16^ (k+1)<=16^4:=Nat.pow_le_pow_right (by omega) (by omega);omega
       have S8:=ae hmx;clear hstep S6 hget hmx;by_cases S9:(u[k].toNat:Int)<65
       ·have aci:decide ((u[k].toNat:Int)<65)=true:=by simpa using S9
        have hd:=ab7 u[k].toNat (by omega);rw [Gi] at hd;have hd:(gu u[k]).map Int.ofNat=if xk<0 then none else some xk:=by rw [hd,<-HB];rfl
        have Hd:=ae hd;clear hd HA HB;by_cases hneg:xk<0
        ·have Mp:decide (xk<0)=true:=by simpa using hneg
         have bp:=ae (S7.out (by have:=Hd.out;rw [if_pos hneg] at this;exact Option.map_eq_none_iff.1 this));go_wp2_with fail;(refine(Tryz.strings_IndexByte _ _ _).mono ?_);rintro e w2 ⟨rfl,rfl⟩;rw [HJ.out]
         skip;(go_wp2_with fail);(refine(Tryz.strings_IndexByte _ _ _).mono ?_);(rintro e w2 ⟨rfl,rfl⟩);(rw [S5.out])
         go_wp2_with fail;(refine(dG r u false _ pE).mono ?_);rintro e w4 ⟨rfl,hr4,h4'⟩;have h5:=hR.trans h4';go_wp2_with fail;refine aG (h:= ?_);exact⟨h5,0,⟨#[]⟩,true,rfl,hr4, .inr ⟨rfl,rfl,bp.out⟩⟩
        ·have Mp:decide (xk<0)=false:=by simpa using hneg
         obtain⟨d,hd1,hd2⟩:∃d:Nat,gu u[k]=some d/\xk=(d:Int):=by
          have:=Hd.out;rw [if_neg hneg] at this
          cases hq:gu u[k] with
          |none=>rw [hq] at this;cases this
          |some d=>rw [hq] at this;exact⟨d,rfl,(Option.some.inj this).symm⟩
         have acj:=Ml hd1;have hmx:=S8.out d hd1;have Mq:=ae hd1;subst hd2;clear hd1;go_wp2_with fail;(refine(Tryz.strings_IndexByte _ _ _).mono ?_);rintro e w2 ⟨rfl,rfl⟩;rw [HJ.out]
         skip;(go_wp2_with fail);(refine(Tryz.strings_IndexByte _ _ _).mono ?_);(rintro e w2 ⟨rfl,rfl⟩);(rw [S5.out])
         go_wp2_with fail;go_roundg (4-(k+1))
         case measure=>omega
         case rel=>exact⟨k+1,n*16+d,by go_num,by omega,rfl,by go_num,hmx,pR.out d Mq.out,rfl⟩
       ·have aci:decide ((u[k].toNat:Int)<65)=false:=by simpa using S9
        have hd:=ab8 u[k].toNat ach (by omega);rw [Gi] at hd;have hd:(gu u[k]).map Int.ofNat=if xj<0 then none else some xj:=by rw [hd,<-HA];rfl
        have Hd:=ae hd;clear hd HA HB;by_cases hneg:xj<0
        ·have Mp:decide (xj<0)=true:=by simpa using hneg
         have bp:=ae (S7.out (by have:=Hd.out;rw [if_pos hneg] at this;exact Option.map_eq_none_iff.1 this));go_wp2_with fail;(refine(Tryz.strings_IndexByte _ _ _).mono ?_);rintro e w2 ⟨rfl,rfl⟩;rw [HJ.out]
         skip;skip
         go_wp2_with fail;(refine(dG r u false _ pE).mono ?_);rintro e w4 ⟨rfl,hr4,h4'⟩;have h5:=hR.trans h4';go_wp2_with fail;refine aG (h:= ?_);exact⟨h5,0,⟨#[]⟩,true,rfl,hr4, .inr ⟨rfl,rfl,bp.out⟩⟩
        ·have Mp:decide (xj<0)=false:=by simpa using hneg
         obtain⟨d,hd1,hd2⟩:∃d:Nat,gu u[k]=some d/\xj=(d:Int):=by
          have:=Hd.out;rw [if_neg hneg] at this
          cases hq:gu u[k] with
          |none=>rw [hq] at this;cases this
          |some d=>rw [hq] at this;exact⟨d,rfl,(Option.some.inj this).symm⟩
         have acj:=Ml hd1;have hmx:=S8.out d hd1;have Mq:=ae hd1;subst hd2;clear hd1;go_wp2_with fail;(refine(Tryz.strings_IndexByte _ _ _).mono ?_);rintro e w2 ⟨rfl,rfl⟩;rw [HJ.out]
         skip;skip
         go_wp2_with fail;go_roundg (4-(k+1))
         case measure=>omega
         case rel=>exact⟨k+1,n*16+d,by go_num,by omega,rfl,by go_num,hmx,pR.out d Mq.out,rfl⟩
      ·obtain rfl:k=4:=by omega
       obtain⟨z,ij⟩:∃z,u.extract 4 u.size=z:=⟨_,rfl⟩;have hzl:z.data.toList=u.data.toList.drop 4:=by rw [<-ij];exact se u 4
       have Hzl:=ae hzl;clear hzl;by_cases S':n<128
       ·have ack:decide ((128:Int)<= (n:Int))=false:=by simp;omega
        have acm:¬(128:Int)<= (n:Int):=by omega
        have lF:=ae (show jv s.data.toList=some (UInt8.ofNat n,z.data.toList) by
         rw [G'.out,Hk.out,HK.out];simp only [Option.map_some,Option.bind_some,if_pos S',Hzl.out])
        go_wp2_with fail;refine aG (h:= ?_);refine⟨hR.set _ _,UInt8.ofNat n,z,false,?_,aj, .inl ⟨rfl,lF.out⟩⟩;have e:(UInt8.ofNat n).toNat=n:=by simp;omega
        rw [e]
       ·have ack:decide ((128:Int)<= (n:Int))=true:=by simp;omega
        have acm:(128:Int)<= (n:Int):=by omega
        have bp:=ae (show jv s.data.toList=none by
         rw [G'.out,Hk.out,HK.out];simp only [Option.map_some,Option.bind_some,if_neg S'])
        go_wp2_with fail;(refine(dG r z false _ aj).mono ?_);rintro e w2 ⟨rfl,hr2,h2⟩;have h3:Rd r w1 w2:=(hR.set _ _).trans h2;go_wp2_with fail;refine aG (h:= ?_);exact⟨h3,0,⟨#[]⟩,true,rfl,hr2, .inr ⟨rfl,rfl,bp.out⟩⟩
   ·have acf:((c.toNat:Int) !=117)=true:=by simpa using xh
    have acg:((c.toNat:Int)==117)=false:=by simpa using xh
    have bp:=ae (show jv s.data.toList=none by
     rw [pD.out];have tI:c≠117:=fun h=>xh (by rw [h];rfl)
     simp only [jv,G9.out,if_neg tI])
    clear xh;go_enter func136,ntmps136;go_wp2_with fail;(refine(lX r s false _ hr).mono ?_);rintro e w1 ⟨rfl,rfl⟩;rw [Hc.out];go_wp2_with fail;(refine(Tryz.strings_IndexByte _ _ _).mono ?_);rintro e w1 ⟨rfl,rfl⟩;rw [G7.out];go_wp2_with fail;(refine(dG r u false _ pE).mono ?_);rintro e w2 ⟨rfl,hr2,h2⟩;go_wp2_with fail;refine aG (h:= ?_);exact⟨hR.trans h2,0,⟨#[]⟩,true,rfl,hr2, .inr ⟨rfl,rfl,bp.out⟩⟩
  ·have G9:=ae DT
   have hx2:decide (0<=ix)=true:=by simpa using hx0
   obtain⟨m,rfl⟩:=Int.eq_ofNat_of_zero_le hx0;have HV:m<8:=by omega
   have lF:=ae (show jv s.data.toList=some (vB[m]'(by simpa [vB] using HV),u.data.toList) by
    rw [pD.out];have e:vg c=some (vB[m]'(by simpa [vB] using HV)):=by rw [G9.out];simp [vB,HV]
    simp only [jv,e])
   clear DT;go_enter func136,ntmps136;go_wp2_with fail;(refine(lX r s false _ hr).mono ?_);rintro e w1 ⟨rfl,rfl⟩;rw [Hc.out];go_wp2_with fail;(refine(Tryz.strings_IndexByte _ _ _).mono ?_);rintro e w1 ⟨rfl,rfl⟩;rw [G7.out];go_wp2_with fail;refine aG (h:= ?_);refine⟨hR,vB[m]'(by simpa [vB] using HV),u,false,?_,pE, .inl ⟨rfl,lF.out⟩⟩;rfl
theorem adt (x:V) (ka:aq) (kc:Nat) (la:aq) (lc:Nat) (name:ah) (S:aA) (w:World) (hl:cZ w) (cS:x.sound) (hsz:x.size<=1073741824) (hn:name.size<=8000) (hin:x.In w S ka kc la lc) (hc:Hid (x.child name=none)):
 Calls prog 160 #[x.val ka kc la lc, .string name] w (eY S x (.int .i64 3) w):=by
 have aJ:=ae hin;clear hin;go_enter func160,ntmps160;go_upto_region 1 with fail
 refine aI (R:=fun wx=>aD wx w.heap.size x ka kc la lc/\aN wx (w.heap.size+1)/\Ext w wx) ⟨aj,aj,Xt⟩ ?_;rintro wa ⟨ag,ai,aF⟩;obtain⟨hc0,aw,hl0⟩:=ag.see;go_wp2_with fail;(refine(uG x ka kc la lc _ name _ cS hsz (by omega) (aJ.out.ext Xt) (hl.ext Xt)).mono ?_);rintro e w1 ⟨q,rfl,-,h1⟩;rw [hc.out];have ag:=af.ext h1 ag;have ai:=af.ext h1 ai;have hx1:Ext w w1:=Xt;clear h1 aF hc0 aw hl0;obtain⟨hc0,aw,hl0⟩:=ag.see;obtain⟨hc1,aB,az⟩:=ai.see;go_wp2_with fail;refine aG (h:= ?_);exact⟨ka,kc,la,lc,rfl,(aJ.out.ext Xt).mono (fun b h _=> .inl h),Xt⟩
theorem adu (x:V) (ka:aq) (kc:Nat) (la:aq) (lc:Nat) (name:ah) (S:aA) (w:World) (fM:Hid (∀b,S b->b<w.heap.size)) (hl:cZ w) (cS:x.sound) (hsz:x.size<=1073741824) (hn:name.size<=8000) (hin:x.In w S ka kc la lc) (i:Nat) (hc:Hid (x.child name=some i)) (h5:x.k=5):
 Calls prog 160 #[x.val ka kc la lc, .string name] w (eY S (x.del name) (.int .i64 0) w):=by
 have aJ:=ae hin;have Hr:=ae cS.flat.dO;have mP:(x.k==5)=true:=by simpa using h5
 clear hin h5;go_enter func160,ntmps160;go_upto_region 1 with fail
 refine aI (R:=fun wx=>aD wx w.heap.size x ka kc la lc/\aN wx (w.heap.size+1)/\Ext w wx) ⟨aj,aj,Xt⟩ ?_;rintro wa ⟨ag,ai,aF⟩;obtain⟨hc0,aw,hl0⟩:=ag.see;go_wp2_with fail;(refine(uG x ka kc la lc _ name _ cS hsz (by omega) (aJ.out.ext Xt) (hl.ext Xt)).mono ?_);rintro e w1 ⟨q,rfl,-,h1⟩;rw [hc.out];have ag:=af.ext h1 ag;have ai:=af.ext h1 ai;have hx1:Ext w w1:=Xt;clear h1 aF hc0 aw hl0;obtain⟨hc0,aw,hl0⟩:=ag.see;go_wp2_with fail;(refine(Ci x ka kc la lc name S _ hsz Hr.out (aJ.out.ext Xt)).mono ?_);rintro e w2 ⟨iW,iX,iY,iZ,rfl,fA,h2⟩;have az:=ai.lt;have bZ:(x.del name).In w2 (fun b=>S b\/w.heap.size+2<=b) iW iX iY iZ:=fA.mono (fun b h _=>by rcases h with h|h;exact .inl h;exact .inr (by(try simp at h);omega));have ai:=af.ext (w:=w1) (w':=w2) Xt ai;have hx2:Ext w w2:=Xt;have cE:=ae bZ;clear h2 hx1 hc0 aw hl0 fA bZ ag;obtain⟨hc1,aB,az⟩:=ai.see;go_wp2_with fail;refine aG (h:= ?_);exact⟨iW,iX,iY,iZ,rfl,cE.out.keep (Held.kept (Held.mono (S:=fun b=>b≠w.heap.size+1) (a:=w2) aC (fun b h=>by rcases h with h|h;(have:=fM.out b h;simp;omega);(simp;omega)))) (fun b h _=>by rcases h with h|h;exact .inl h;exact .inr (by omega)),Xt⟩
theorem adv (x:V) (ka:aq) (kc:Nat) (la:aq) (lc:Nat) (name:ah) (S:aA) (w:World) (fM:Hid (∀b,S b->b<w.heap.size)) (hl:cZ w) (cS:x.sound) (hsz:x.size<=1073741824) (hn:name.size<=8000) (hin:x.In w S ka kc la lc) (i m:Nat) (hc:Hid (x.child name=some i)) (hm:Hid (x.l.length=m+1)) (him:i<=m) (h5:x.k≠5):
 Calls prog 160 #[.agg #[.int .i64 x.k, .int .i64 x.n, .string x.s, .slice ka x.keys.length kc, .slice la (m+1) lc], .string name] w (eY S (x.BU i) (.int .i64 0) w):=by
 have mP:(x.k==5)=false:=by simpa using h5
 have ahr:m+1<=1073741824:=by have:=x.kI;have:=hm.out;omega
 obtain⟨ib,gj,hst,ic⟩:=(V.dD ..).1 hin;obtain⟨news,hnl,lM,jG⟩:=zW ic;rw [hm.out] at hnl lM gj;have h1c:=jG.one;have cl:∀w',Ext w w'->Calls prog 41 #[.slice la (m+1) lc] w' fun e w''=>∃a' c',e= .returned (.slice a' (m+1) c')/\aO a' (m+1) c'/\w''.ownsRow w'.heap.size 41 5 (.slice a' (m+1) c') (m+1) news/\Ext w' w'':=fun w' e=>
  zX la (m+1) lc news w' gj (by omega) hnl (by rcases lM with h|⟨ad,h,h'⟩;exact .inl h;exact .inr ⟨ad,h,fun j u hj=>e.cell (h' j u hj)⟩) h1c
 have T7:∀w',Ext w w'->Calls prog 161 #[.agg #[.int .i64 x.k, .int .i64 x.n, .string x.s, .slice ka x.keys.length kc, .slice la (m+1) lc], .string name] w' (OC (x.child name) w'):=fun w' e=>by have:=uG x ka kc la lc _ name w' cS hsz (by omega) (hin.ext e) (hl.ext e);rw [V.val,hm.out] at this;exact this
 have Cl:=ae cl;have Chd:=ae T7;have lh:=ae h1c;have kJ:=ae jG;have aQ:=ae hst;clear cl T7 h1c jG hst hin hnl lM ic h5;have hi0:(0:Int)<= (i:Int):=by omega
 have hw1:IntKind.i64.wrap ((i:Int)+1)=(i:Int)+1:=by rw [IntKind.wrap_i64];omega
 go_enter func160,ntmps160;go_upto_region 1 with fail
 refine aI (R:=fun wx=>af wx w.heap.size #[.int .i64 x.k, .int .i64 x.n, .string x.s, .slice ka x.keys.length kc, .slice la (m+1) lc] 41/\aN wx (w.heap.size+1)/\Ext w wx) ⟨aj,aj,Xt⟩ ?_;rintro wa ⟨ag,ai,aF⟩;obtain⟨hc0,aw,hl0⟩:=ag.see;go_wp2_with fail;(refine(Chd.out _ Xt).mono ?_);rintro e w1 ⟨q,rfl,hq,h1⟩;obtain rfl:=hq i hc.out;rw [hc.out];have ag:=af.ext h1 ag;have ai:=af.ext h1 ai;have adw:w.heap.size+2<=w1.heap.size:=ai.lt;have hx1:Ext w w1:=Xt;clear h1 aF hc0 aw hl0 hq;obtain⟨hc0,aw,hl0⟩:=ag.see;go_wp2_with fail;(refine(Cl.out _ Xt).mono ?_);rintro e w2 ⟨a2,c2,rfl,gK,hown2,h2⟩;have hx2:Ext w w2:=Xt;have hb2:Ext w1 w2:=Xt;have ag:=af.ext hb2 ag;have ai:=af.ext hb2 ai;have az:=ai.lt;have dV:Hid (∀g,(Value.slice a2 (m+1) c2).ownBlock=some g->w1.heap.size<=g):=fun g hg=>(hown2.lt g hg).1;have lj:=ae (qd (b0:=w.heap.size+2) hown2 adw);clear h2 hx1 hc0 aw hl0 hown2;go_wp2_with fail;(refine(T8 _ q m c2 a2 news _ lj.out him lh.out).mono ?_);rintro e w3 ⟨rfl,eH,jU⟩;have hx3:Ext w w3:=Ext.grown hx2 jU (fun g hg=>by have:=dV.out g hg;omega);have ag:=af.grown ag jU (fun e=>by have:=dV.out _ e.symm;omega);have ai:=af.grown ai jU (fun e=>by have:=dV.out _ e.symm;omega);have gT:aO a2 m c2:=by obtain⟨a4,c4,cU,h⟩:=gU eH;simp only [Value.slice.injEq,true_and] at cU;obtain⟨rfl,rfl⟩:=cU;exact h
 have hrows:Rows w3 (fun b=>S b\/w.heap.size+2<=b) (x.l.take q++x.l.drop (q+1)) a2:=by
  have hcc:=(kJ.out.keep (hx3.kept _) (fun b h _=>h)).del q;by_cases hm0:m=0
  ·refine .inl (List.eq_nil_of_length_eq_zero ?_)
   simp [hm.out];omega
  ·obtain⟨g7,cur,kK,hgb,hBg,hcz,hits⟩:=qg (by omega) (by simp [hm.out];omega) eH hcc
   exact .inr ⟨g7,0,kK, .inr (by omega),fun i hi=>by rw [Nat.zero_add];exact(hits i hi).mono (fun b h=> .inl h)⟩
 have zo:=ae hrows;clear eH jU hrows dV lj hb2 hx2;obtain⟨hc0,aw,hl0⟩:=ag.see;go_upto_region 7 with fail
 refine aI (R:=fun wy=>af wy w.heap.size #[.int .i64 x.k, .int .i64 x.n, .string x.s, .slice ka x.keys.length kc, .slice a2 m c2] 41/\aN wy (w.heap.size+1)/\Held (fun b=>b≠w.heap.size) w3 wy/\Ext w wy) ⟨aj,aj,aC,Xt⟩ ?_;clear ag ai hc0 aw hl0;rintro wy ⟨ag,ai,mf,hxy⟩;obtain⟨hc0,aw,hl0⟩:=ag.see;obtain⟨hc1,aB,az⟩:=ai.see;go_wp2_with fail;refine aG (h:= ?_);have e2:(x.l.take q++x.l.drop (q+1)).length=m:=by simp [hm.out];omega
 refine⟨ka,kc,a2,c2,?_,(V.dD ..).2 ⟨ib,?_,aQ.out.keep (Ext.kept Xt _) (fun b h _=> .inl h),?_⟩,Xt⟩
 ·simp only [V.val,V.BU,V.gi,V.ej,V.uE,V.uF,V.kH,e2]
 ·simp only [V.BU,V.ej,e2];exact gT
 ·have h1:Held (fun b=>b≠w.heap.size/\b≠w.heap.size+1) w3 wy:=mf.mono (fun b h=>h.1)
  exact zo.out.keep (Held.kept (Held.mono (S:=fun b=>b≠w.heap.size/\b≠w.heap.size+1) (a:=w3) aC (fun b h=>by rcases h with h|h;(have:=fM.out b h;simp;omega);(simp;omega)))) (fun b h _=>by rcases h with h|h;exact .inl h;exact .inr (by omega))
theorem WI (S:aA) (w0:World) (hS:∀b,S b->b<w0.heap.size) (hl:cZ w0):Does pN S 160 #[] w0:=by
 intro x ka kc la lc name w' hw cS hsz hn hin;have fM:∀b,S b->b<w'.heap.size:=fun b h=>Nat.lt_of_lt_of_le (hS b h) hw.size;show Calls prog 160 #[x.val ka kc la lc, .string name] w' (eY S (pN x name).1 (.int .i64 (pN x name).2) w');unfold pN
 cases hc:x.child name with
 |none=>exact adt x ka kc la lc name S w' (hl.ext hw) cS hsz hn hin hc
 |some i=>
  have hi:=vV cS hc;by_cases h5:x.k=5
  ·simp only [if_pos h5]
   exact adu x ka kc la lc name S w' fM (hl.ext hw) cS hsz hn hin i hc h5
  ·simp only [if_neg h5]
   obtain⟨m,hm⟩:∃m,x.l.length=m+1:=⟨x.l.length-1,by omega⟩;have:=adv x ka kc la lc name S w' fM (hl.ext hw) cS hsz hn hin i m hc hm (by omega) h5;rw [V.val,hm];exact this
theorem WH (args:Array Value) (w:World):(callFunc 160 args).run prog w= .ok (.enter 160 args) w:=enters func160 (by kernel_rfl) (by rfl) args w
theorem WJ (y:V) (kb:aq) (kd:Nat) (lb:aq) (ld:Nat) (bx:Nat) (x:V) (ka:aq) (kc:Nat) (la:aq) (lc:Nat) (name:ah) (S:aA) (w:World) (fM:Hid (∀b,S b->b<w.heap.size)) (dN:aD w bx y kb kd lb ld) (hjn:y.In w S kb kd lb ld)
 (cS:x.sound) (hsz:x.size<=1073741824) (hn:name.size<=8000) (hin:x.In w S ka kc la lc) (h5:x.k=5):
 Calls prog 158 #[x.val ka kc la lc, .string name, .pointer (some ⟨bx,0,none⟩)] w (eY S (x.put name y) (.int .i64 0) w):=by
 have Ov:=dN.lt;have mP:(x.k==5)=true:=by simpa using h5
 have Hr:=ae cS.flat.dO;have aJ:=ae hin;have aV:=ae hjn;clear hin hjn h5;go_enter func158,ntmps158;go_upto_region 3 with fail
 refine aI (R:=fun wx=>aD wx w.heap.size x ka kc la lc/\aN wx (w.heap.size+1)/\Ext w wx) ⟨aj,aj,Xt⟩ ?_;rintro wa ⟨ag,ai,aF⟩;have dU:=af.ext aF dN;obtain⟨hc0,aw,hl0⟩:=ag.see;obtain⟨tE,jo,qb⟩:=dU.see;go_wp2_with fail;(refine(uD x ka kc la lc name y kb kd lb ld S _ hsz Hr.out (aJ.out.ext Xt) (aV.out.ext Xt)).mono ?_);rintro e w1 ⟨iW,iX,iY,iZ,rfl,fA,h1⟩;have az:=ai.lt;have bZ:(x.put name y).In w1 (fun b=>S b\/w.heap.size+2<=b) iW iX iY iZ:=fA.mono (fun b h _=>by rcases h with h|h;exact .inl h;exact .inr (by(try simp at h);omega));have ai:=af.ext (w:=wa) (w':=w1) Xt ai;have hx1:Ext w w1:=Xt;have cE:=ae bZ;clear h1 aF hc0 aw hl0 fA bZ;obtain⟨hc1,aB,az⟩:=ai.see;go_wp2_with fail;refine aG (h:= ?_);exact⟨iW,iX,iY,iZ,rfl,cE.out.keep (Held.kept (Held.mono (S:=fun b=>b≠w.heap.size+1) (a:=w1) aC (fun b h=>by rcases h with h|h;(have:=fM.out b h;simp;omega);(simp;omega)))) (fun b h _=>by rcases h with h|h;exact .inl h;exact .inr (by omega)),Xt⟩
theorem Je (bx:Nat) (x:V) (ka:aq) (kc:Nat) (la:aq) (lc:Nat) (name:ah) (S:aA) (w:World) (hl:cZ w) (hsz:x.size<=1073741824) (hn:name.size<=8000) (hin:x.In w S ka kc la lc) (h5:x.k≠5)
 (hno:x.k≠4\/ (∀i,jF name x.l.length=some i->x.l.length<i)):
 Calls prog 158 #[x.val ka kc la lc, .string name, .pointer (some ⟨bx,0,none⟩)] w (eY S x (.int .i64 3) w):=by
 have mP:(x.k==5)=false:=by simpa using h5
 have aJ:=ae hin;have hll:=x.kI;clear hin h5;by_cases h4:x.k=4
 ·have hk4:(x.k==4)=true:=by simpa using h4
  have Jf:=ae (hno.resolve_left (fun h=>h h4));clear hno h4
  cases hi:jF name x.l.length with
  |none=>
   have Hi:=ae hi;clear hi;go_enter func158,ntmps158;go_upto_region 5 with fail
   refine aI (R:=fun wx=>aD wx w.heap.size x ka kc la lc/\aN wx (w.heap.size+1)/\Ext w wx) ⟨aj,aj,Xt⟩ ?_;rintro wa ⟨ag,ai,aF⟩;obtain⟨hc0,aw,hl0⟩:=ag.see;go_wp2_with fail;(refine(BW name x.l.length (by omega) (by omega) _ (hl.ext Xt)).mono ?_);rintro e w1 ⟨rfl,h1⟩;rw [Hi.out];have ag:=af.ext (w:=wa) (w':=w1) Xt ag;have ai:=af.ext (w:=wa) (w':=w1) Xt ai;have hx1:Ext w w1:=Xt;clear h1 aF hc0 aw hl0;obtain⟨hc0,aw,hl0⟩:=ag.see;obtain⟨hc1,aB,az⟩:=ai.see;go_wp2_with fail;refine aG (h:= ?_);exact⟨ka,kc,la,lc,rfl,(aJ.out.ext Xt).mono (fun b h _=> .inl h),Xt⟩
  |some i=>
   have hlt:=Jf.out i hi;have Hi:=ae hi;clear hi;have hle:¬(i:Int)<= (x.l.length:Int):=by omega
   have WK:(x.l.length:Int)<(i:Int):=by omega
   go_enter func158,ntmps158;go_upto_region 5 with fail
   refine aI (R:=fun wx=>aD wx w.heap.size x ka kc la lc/\aN wx (w.heap.size+1)/\Ext w wx) ⟨aj,aj,Xt⟩ ?_;rintro wa ⟨ag,ai,aF⟩;obtain⟨hc0,aw,hl0⟩:=ag.see;go_wp2_with fail;(refine(BW name x.l.length (by omega) (by omega) _ (hl.ext Xt)).mono ?_);rintro e w1 ⟨rfl,h1⟩;rw [Hi.out];have ag:=af.ext (w:=wa) (w':=w1) Xt ag;have ai:=af.ext (w:=wa) (w':=w1) Xt ai;have hx1:Ext w w1:=Xt;clear h1 aF hc0 aw hl0;obtain⟨hc0,aw,hl0⟩:=ag.see;obtain⟨hc1,aB,az⟩:=ai.see;go_wp2_with fail;refine aG (h:= ?_);exact⟨ka,kc,la,lc,rfl,(aJ.out.ext Xt).mono (fun b h _=> .inl h),Xt⟩
 ·have hk4:(x.k==4)=false:=by simpa using h4
  clear hno h4;go_enter func158,ntmps158;go_wp2_with fail;refine aG (h:= ?_);exact⟨ka,kc,la,lc,rfl,(aJ.out.ext Xt).mono (fun b h _=> .inl h),Xt⟩
end Go.Proofs.YtlcebdaghmdkeaaGreatDoor
namespace Go.Proofs.YtlcebdaghmdkeaaGreatDoor
open Go.RowKit
theorem EY {a b:ah} (h:a.toList=b.toList):a=b:=by
 rw [ByteArray.toList_eq,ByteArray.toList_eq] at h;exact ByteArray.ext (Array.toList_inj.1 h)
theorem N6 {im:ah} {xs:List (Int×Int)} {s:St} {now o:Int} {r:St} (h:eI im xs s now o=(r,0)):
 (r.sb=s.sb\/ (r.ph=1/\r.sb=im))/\r.cm=im/\ (im=s.cm-> (r.ph=2\/r.ph=3)->s.sp<=r.sp)/\ (r.ph=1->r.wt=100)/\ (r.ph=4->r.wt=0)/\ (r.ph=1↔r.sb=r.cm):=by
 have hr:=Ef h;simp only [gD,decide_eq_true_eq] at hr;obtain⟨hG,hT,h0,h1,ho0,p5,hc⟩:=Bu h;have hT':=hT;simp only [gD,decide_eq_true_eq] at hT';have Br:(bC im s).sb=s.sb:=by simp only [bC];split<;>rfl
 have hcm:(bC im s).cm=im:=by
  simp only [bC]
  split
  ·rename_i e;exact(EY e).symm
  ·rfl
 have hsp:0<= (bC im s).sp:=by simp only [bC];split<;>grind
 have xQ:im=s.cm->bC im s=s:=fun e=>by rw [bC,if_pos (by rw [e])]
 have agu:r.ph=1↔r.sb=r.cm:=by
  have e:r.sb=r.cm↔r.sb.toList=r.cm.toList:=⟨fun e=>by rw [e],EY⟩;rw [e];obtain⟨-,-,-,-,-,-,-,-,-,h⟩:=hr;rcases h with h|h|h
  ·exact⟨fun _=>h.2.1,fun _=>h.1⟩
  ·exact⟨fun q=>by omega,fun q=>absurd q h.2.2.2⟩
  ·exact⟨fun q=>by omega,fun q=>absurd q h.2⟩
 have hw1:r.ph=1->r.wt=100:=fun q=>by
  obtain⟨-,-,-,-,-,-,-,-,-,h⟩:=hr;rcases h with h|h|h
  ·exact h.2.2.1
  ·omega
  ·omega
 have hw4:r.ph=4->r.wt=0:=fun q=>by obtain⟨-,-,-,-,-,-,-,-,-,h⟩:=hr;rcases h with h|h|h<;>omega
 refine⟨?_,?_,?_,hw1,hw4,agu⟩
 ·rcases hc with⟨ha,hb,rfl⟩|⟨ha,⟨hp2,mI,rfl⟩|⟨hp,⟨rfl,rfl⟩|⟨rfl,rfl⟩|⟨ho,hr⟩⟩⟩
  ·exact .inl rfl
  ·exact .inl Br
  ·exact .inr ⟨rfl,hcm⟩
  ·exact .inl Br
  ·obtain⟨k,hk⟩:=Int.eq_ofNat_of_zero_le hsp
   have hk':(bC im s).sp.toNat=k:=by omega
   rw [hk'] at hr;have he:=zy xs now _ k (bC im s) o (Nat.le_refl _) hk;rw [<-hr] at he;rcases he with hd|⟨j,hj,wt,si,hkj,hx,kW,hw,cP⟩
   ·rw [hd];exact .inr ⟨rfl,hcm⟩
   ·rw [kW];exact .inl Br
 ·rcases hc with⟨ha,hb,rfl⟩|⟨ha,⟨hp2,mI,rfl⟩|⟨hp,⟨rfl,rfl⟩|⟨rfl,rfl⟩|⟨ho,hr⟩⟩⟩
  ·exact(EY hb).symm
  ·exact hcm
  ·exact hcm
  ·exact hcm
  ·obtain⟨k,hk⟩:=Int.eq_ofNat_of_zero_le hsp
   have hk':(bC im s).sp.toNat=k:=by omega
   rw [hk'] at hr;have he:=zy xs now _ k (bC im s) o (Nat.le_refl _) hk;rw [<-hr] at he;rcases he with hd|⟨j,hj,wt,si,hkj,hx,kW,hw,cP⟩
   ·rw [hd];exact hcm
   ·rw [kW];exact hcm
 ·intro hi I2
  have e:=xQ hi;rw [e] at hc;rcases hc with⟨ha,hb,rfl⟩|⟨ha,⟨hp2,mI,rfl⟩|⟨hp,⟨rfl,rfl⟩|⟨rfl,rfl⟩|⟨ho,hr⟩⟩⟩
  ·exact absurd (by rw [hi]) ha
  ·exact Int.le_refl _
  ·simp [mH] at I2
  ·simp at I2
  ·obtain⟨k,hk⟩:=Int.eq_ofNat_of_zero_le hT'.2.2.1
   have hk':s.sp.toNat=k:=by omega
   rw [hk'] at hr;have he:=zy xs now _ k s o (Nat.le_refl _) hk;rw [<-hr] at he;rcases he with hd|⟨j,hj,wt,si,hkj,hx,kW,hw,cP⟩
   ·rw [hd] at I2;simp [mH] at I2
   ·rw [kW];simp only;omega
theorem Wq:∀ {l:List V} {xs:List (Int×Int)},nN l=some xs->xs.length=l.length/\pJ xs=true
 | [],xs,h=>by simp only [nN,Option.some.injEq] at h;subst h;exact⟨rfl,rfl⟩
 |x::r,xs,h=>by
  simp only [nN] at h
  cases hs:stepOf x with
  |none=>rw [hs] at h;cases h
  |some p=>
   cases hr:nN r with
   |none=>rw [hs,hr] at h;cases h
   |some l=>
    rw [hs,hr] at h;simp only [Option.some.injEq] at h;subst h;obtain⟨h1,h2⟩:=Wq hr;refine⟨by simp [h1],?_⟩;have hp:l9 p.1 p.2=true:=by
     unfold stepOf at hs
     split at hs
     ·split at hs
      ·split at hs
       ·rename_i h;simp only [Option.some.injEq] at hs;subst hs;exact h.2.2
       ·cases hs
      ·cases hs
     ·split at hs
      ·rename_i h;simp only [Option.some.injEq] at hs;subst hs;exact h.2.2
      ·cases hs
    unfold pJ at h2⊢;rw [List.all_cons,h2,hp];rfl
theorem vS {x:V} (h:cy x≠none):jX (kC (cy x)) (fK (cy x))=true/\x.fine=true/\x.k=5:=by
 cases hs:cy x with
 |none=>exact absurd hs h
 |some p=>
  unfold cy at hs
  split at hs
  ·rename_i hf
   split at hs
   ·cases hs
   ·rename_i i hi
    have hk:x.k=5:=Classical.byContradiction fun hk=>by rw [Qy hk] at hi;cases hi
    split at hs
    ·rename_i h3
     have hsz:i.s.size<=60:=by obtain⟨d,hd⟩:=gV hf;rw [V.rR,Bool.and_eq_true,List.all_eq_true] at hd;have hg:=hd.2 i (yc hi);rw [V.rR,Bool.and_eq_true] at hg;have hfl:=hg.1;unfold V.flat at hfl;simp only [g3,Bool.and_eq_true,Bool.not_eq_true',Bool.or_eq_false_iff,Bool.not_eq_false'] at hfl;exact yx (by simp_all)
     split at hs
     ·simp only [Option.some.injEq] at hs
      subst hs;refine⟨?_,hf,hk⟩;simp [jX,kC,fK,pJ,h3.2,hsz]
     ·rename_i t ht
      split at hs
      ·rename_i h4
       split at hs
       ·rename_i xs hxs
        simp only [Option.some.injEq] at hs;subst hs;obtain⟨h5,h6⟩:=Wq hxs;refine⟨?_,hf,hk⟩;simp [jX,kC,fK,h3.2,hsz,h6,h5,h4.2]
       ·cases hs
      ·cases hs
    ·cases hs
  ·cases hs
theorem VN {im:ah} {xs:List (Int×Int)} (h:jX im xs=true):gD (vJ im xs)=true/\ (vJ im xs).cm=im:=by
 obtain⟨g1,g2,g3,g4⟩:=Ir h;unfold vJ;rw [if_pos h];refine⟨?_,rfl⟩;simp [gD,g1]
end Go.Proofs.YtlcebdaghmdkeaaGreatDoor
