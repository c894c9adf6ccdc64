import Derived.Test.YtlcebdaghmdkeaaGreatDoorCards
import Derived.Test.YtlcebdaghmdkeaaGreatDoorTie
import Derived.Deep.DeepHandedRow
import Derived.Deep.DeepWitnessRowRef
import Derived.Lib.LaidIn
import Derived.Lib.SmallJoins
import Derived.Deep.Strs
import Derived.Deep.Slices
import Derived.ChangeArms
import Derived.Test.YtlcebdaghmdkeaaGreatDoorZ2
set_option linter.all false
set_option maxRecDepth 100000
set_option maxHeartbeats 64000000
namespace Go.Proofs.YtlcebdaghmdkeaaGreatDoor
open Go.Proofs.Tryz
open Go.RowKit
theorem uv {r:St×Int} {a b:ah} {c d e f k:Int} (h:r=(⟨a,b,c,d,e,f⟩,k)):
 Ending.returned (.tuple #[.agg #[.string a, .string b, .int .i64 c, .int .i64 d, .int .i64 e, .int .i64 f], .int .i64 k])= .returned (.tuple #[r.1.val, .int .i64 r.2]):=by subst h;rfl
def o6 (xs:List (Int×Int)) (now:Int) (s:St) (o:Int) (r:St):Prop:=0<=s.sp/\pI now (xs.drop s.sp.toNat) s o=r
theorem o6.out {xs:List (Int×Int)} {now:Int} {s:St} {o:Int} {r:St} (h:o6 xs now s o r) (hk:¬s.sp.toNat<xs.length):r=mH s.cm:=by
 obtain⟨_,h⟩:=h;rw [List.drop_of_length_le (by omega)] at h;exact h.symm
theorem o6.step {xs:List (Int×Int)} {now:Int} {s:St} {o:Int} {r:St} (h:o6 xs now s o r) (k:Nat) (hs:s.sp=k) (hk:k<xs.length):
 (0<=xs[k].1->o6 xs now {s with wt:=xs[k].1,ph:=2,si:=0,sp:=(k:Int)+1} o r)/\
 (xs[k].1<0->s.ph≠3->r= {s with ph:=3,si:=now})/\
 (xs[k].1<0->s.ph=3->o=1->o6 xs now {s with ph:=2,si:=0,sp:=(k:Int)+1} 0 r)/\
 (xs[k].1<0->s.ph=3->o≠1-> (xs[k].2=0\/now<s.si\/now-s.si<xs[k].2)->r=s)/\
 (xs[k].1<0->s.ph=3->o≠1->¬(xs[k].2=0\/now<s.si\/now-s.si<xs[k].2)->o6 xs now {s with ph:=2,si:=0,sp:=(k:Int)+1} o r):=by
 obtain⟨h0,h⟩:=h;have e1:s.sp.toNat=k:=by omega
 have e2:((k:Int)+1).toNat=k+1:=by omega
 rw [e1,List.drop_eq_getElem_cons hk,pI] at h;unfold o6;simp only [e2,hs] at h⊢;refine⟨?_,?_,?_,?_,?_⟩
 ·intro a;rw [if_pos a] at h;exact⟨by omega,h⟩
 ·intro a b;rw [if_neg (by omega),if_pos b] at h;rw [<-h]
 ·intro a b c;rw [if_neg (by omega),if_neg (by simp [b]),if_pos c] at h;exact⟨by omega,h⟩
 ·intro a b c d;rw [if_neg (by omega),if_neg (by simp [b]),if_neg c,if_pos d] at h;exact h.symm
 ·intro a b c d;rw [if_neg (by omega),if_neg (by simp [b]),if_neg c,if_neg d] at h;exact⟨by omega,h⟩
def Nl (im:ah) (xs:List (Int×Int)) (s:St) (now order:Int):Prop:=
 jX im xs=true/\gD s=true/\0<=now/\now<=1099511627776/\0<=order/\order<=1/\¬(im.toList≠s.cm.toList/\im.toList=s.sb.toList)/\ ((bC im s).ph=2\/ (bC im s).ph=3)
theorem aeE (im:ah) (a:aq) (cap:Nat) (xs:List (Int×Int)) (s:St) (now order:Int) (w:World) (hl:xs.length<=9223372036854775807) (hs:StepsIn w a xs) (hL:¬Nl im xs s now order):
 Calls prog 47 #[.agg #[.string im, .slice a xs.length cap], .agg #[.string s.sb, .string s.cm, .int .i64 s.ph, .int .i64 s.sp, .int .i64 s.wt, .int .i64 s.si], .int .i64 now, .int .i64 order] w fun e w'=>e= .returned (.tuple #[(eI im xs s now order).1.val, .int .i64 (eI im xs s now order).2])/\Ext w w':=by
 obtain⟨sb,cm,ph,sp,wt,si⟩:=s;have HL:=ae hL;clear hL;go_enter func47,ntmps47;go_wp2_with (first|(go_at_call 65;(with_reducible refine(Eg _ _ _ _ _ hl (hs.ext Xt)).mono ?_);rintro e w1 ⟨rfl,h1⟩;obtain⟨hc1,aB,hz1⟩:=cu h1;(try simp at hz1);(try have kD:w.heap.size<w1.heap.size:=by omega);(try have jk:w.heap.size+1<w1.heap.size:=by omega);(try have kE:w.heap.size+2<w1.heap.size:=by omega);(try have kF:w.heap.size+3<w1.heap.size:=by omega))|(go_at_call 69;(with_reducible refine(IA ⟨sb,cm,ph,sp,wt,si⟩ _).mono ?_);rintro e w1 ⟨rfl,h1⟩;obtain⟨hc1,aB,hz1⟩:=cu h1;(try simp at hz1);(try have kD:w.heap.size<w1.heap.size:=by omega);(try have jk:w.heap.size+1<w1.heap.size:=by omega);(try have kE:w.heap.size+2<w1.heap.size:=by omega);(try have kF:w.heap.size+3<w1.heap.size:=by omega))|(go_at_call 66;(with_reducible refine(vK _ _).mono ?_);rintro e w1 ⟨rfl,h1⟩;obtain⟨hc1,aB,hz1⟩:=cu h1;(try simp at hz1);(try have kD:w.heap.size<w1.heap.size:=by omega);(try have jk:w.heap.size+1<w1.heap.size:=by omega);(try have kE:w.heap.size+2<w1.heap.size:=by omega);(try have kF:w.heap.size+3<w1.heap.size:=by omega)))
 all_goals first
  |(refine aG (h:= ?_)
    refine⟨uv ?_,Xt⟩;go_light;simp only [eI,bC,mH]
    grind)
  |(exfalso
    have:=HL.out;clear HL;go_light;simp only [Nl,bC] at this
    grind)
theorem aeF (im sb cm:ah) (a:aq) (cap:Nat) (xs:List (Int×Int)) (ph sp wt si:Int) (now order:Int) (w:World) (hl:xs.length<=9223372036854775807) (hs:StepsIn w a xs)
 (hG:jX im xs=true) (hT:gD ⟨sb,cm,ph,sp,wt,si⟩=true) (Uo:0<=now) (Uq:now<=1099511627776) (ho0:0<=order) (p5:order<=1)
 (h1:(im.toList==cm.toList)=false) (h2:(im.toList==sb.toList)=false) (r:St) (HR:Hid (o6 xs now ⟨sb,im,2,0,0,0⟩ order r)) (Hn:Hid (eI im xs ⟨sb,cm,ph,sp,wt,si⟩ now order=(r,0))):
 Calls prog 47 #[.agg #[.string im, .slice a xs.length cap], .agg #[.string sb, .string cm, .int .i64 ph, .int .i64 sp, .int .i64 wt, .int .i64 si], .int .i64 now, .int .i64 order] w fun e w'=>e= .returned (.tuple #[(eI im xs ⟨sb,cm,ph,sp,wt,si⟩ now order).1.val, .int .i64 (eI im xs ⟨sb,cm,ph,sp,wt,si⟩ now order).2])/\Ext w w':=by
 have cP:(0:Int)<=0/\ (0:Int)<=1099511627776:=by omega
 go_enter func47,ntmps47;have e2:(order==2)=false:=by simp;omega
 have e3:(order==3)=false:=by simp;omega
 go_wp2_with (first|(go_at_call 65;(with_reducible refine(Eg _ _ _ _ _ hl (hs.ext Xt)).mono ?_);rintro e w1 ⟨rfl,h1⟩;obtain⟨hc1,aB,hz1⟩:=cu h1;(try simp at hz1);(try have kD:w.heap.size<w1.heap.size:=by omega);(try have jk:w.heap.size+1<w1.heap.size:=by omega);(try have kE:w.heap.size+2<w1.heap.size:=by omega);(try have kF:w.heap.size+3<w1.heap.size:=by omega))|(go_at_call 69;(with_reducible refine(IA ⟨sb,cm,ph,sp,wt,si⟩ _).mono ?_);rintro e w1 ⟨rfl,h1⟩;obtain⟨hc1,aB,hz1⟩:=cu h1;(try simp at hz1);(try have kD:w.heap.size<w1.heap.size:=by omega);(try have jk:w.heap.size+1<w1.heap.size:=by omega);(try have kE:w.heap.size+2<w1.heap.size:=by omega);(try have kF:w.heap.size+3<w1.heap.size:=by omega))|(go_at_call 66;(with_reducible refine(vK _ _).mono ?_);rintro e w1 ⟨rfl,h1⟩;obtain⟨hc1,aB,hz1⟩:=cu h1;(try simp at hz1);(try have kD:w.heap.size<w1.heap.size:=by omega);(try have jk:w.heap.size+1<w1.heap.size:=by omega);(try have kE:w.heap.size+2<w1.heap.size:=by omega);(try have kF:w.heap.size+3<w1.heap.size:=by omega)))
 go_loopg [3] xs.length (fun g o wr=>∃(s':St) (jC:Int) (k:Nat),o= .int .i64 jC/\s'.sp=(k:Int)/\xs.length<=g+k/\
  af wr w.heap.size #[.string im, .slice a xs.length cap] 53/\
  af wr (w.heap.size+1) #[.string s'.sb, .string s'.cm, .int .i64 s'.ph, .int .i64 s'.sp, .int .i64 s'.wt, .int .i64 s'.si] 44/\
  af wr (w.heap.size+2) #[.string ⟨#[]⟩, .string ⟨#[]⟩, .int .i64 0, .int .i64 0, .int .i64 0, .int .i64 0] 44/\
  Ext w wr/\0<=s'.si/\s'.si<=1099511627776/\o6 xs now s' jC r)
 case atStart=>
  have Ep:=HR.out;obtain⟨h0,-⟩:=HR.out;obtain⟨k,hk⟩:=Int.eq_ofNat_of_zero_le h0;exact⟨(⟨sb,im,2,0,0,0⟩:St),order,k,rfl,hk,by omega,aj,aj,aj,Xt,cP.1,cP.2,Ep⟩
 case round=>
  obtain⟨⟨sU,sV,xx,sp',uq,nM⟩,jC,k,rfl,hsp,zz,ag,ai,ak,hx,Er,Es,hrun⟩:=hrel;obtain rfl:sp'=(k:Int):=hsp;simp only at Er Es;have Hr:=ae hrun;clear hrun hc1 aB;have hc0:=ag.cells;have aw:=ag.free;have hc1:=ai.cells;have aB:=ai.free;have hc2:=ak.cells;have hf2:=ak.free;have hl0:=ag.lt;have az:=ai.lt;have hl2:=ak.lt;by_cases hlt:k<xs.length
  ·obtain⟨b,o,rfl,hc⟩:∃b o,a=some ⟨b,o,none⟩/\∀i,i<xs.length->w.cell? ⟨b,o+i*2,none⟩=some (.int .i64 (xs.getD i (0,0)).1)/\w.cell? ⟨b,o+i*2+1,none⟩=some (.int .i64 (xs.getD i (0,0)).2):=hs.resolve_left (by intro e;subst e;simp at hlt)
   obtain⟨d0,d1⟩:=hc k hlt;have d0:=hx.cell d0;have d1:=hx.cell d1;have aQ:=ae (Hr.out.step k rfl hlt);clear hc hs;by_cases h0:0<=xs[k].1
   ·go_wp2
    go_roundg (gk-1)
    case measure=>omega
    case rel=>exact⟨⟨sU,sV,2,(k:Int)+1,xs[k].1,0⟩,jC,k+1,rfl,by simp,by omega,aj,aj,aj,Xt,by simp,by simp,(aQ.out).1 h0⟩
   ·by_cases h3:xx=3
    ·subst h3
     by_cases ho:jC=1
     ·subst ho
      go_wp2;go_roundg (gk-1)
      case measure=>omega
      case rel=>exact⟨⟨sU,sV,2,(k:Int)+1,uq,0⟩,0,k+1,rfl,by simp,by omega,aj,aj,aj,Xt,by simp,by simp,(aQ.out).2.2.1 (by omega) (by trivial) (by trivial)⟩
     ·have ho':(jC==1)=false:=by simpa using ho
      by_cases hp:xs[k].2=0\/now<nM\/now-nM<xs[k].2
      ·have Hp:=ae hp
       clear hp;go_wp2
       all_goals first
        |(refine aG (h:= ?_)
          refine⟨uv ?_,Xt⟩
          rw [Hn.out,(aQ.out).2.2.2.1 (by omega) (by trivial) ho Hp.out])
        |(exfalso
          have:=Hp.out;go_light
          grind)
      ·obtain⟨hp1,hp2,mI⟩:xs[k].2≠0/\nM<=now/\xs[k].2<=now-nM:=by omega
       have Ur:(xs[k].2==0)=false:=by simpa using hp1
       go_wp2;go_roundg (gk-1)
       case measure=>omega
       case rel=>exact⟨⟨sU,sV,2,(k:Int)+1,uq,0⟩,jC,k+1,rfl,by simp,by omega,aj,aj,aj,Xt,by simp,by simp,(aQ.out).2.2.2.2 (by omega) (by trivial) ho hp⟩
    ·have h3':(xx !=3)=true:=by simpa using h3
     go_wp2;refine aG (h:= ?_);refine⟨uv ?_,Xt⟩;rw [Hn.out,(aQ.out).2.1 (by omega) h3]
  ·go_wp2_with (go_at_call 66;(with_reducible refine(vK _ _).mono ?_);rintro e w1 ⟨rfl,h1⟩;obtain⟨hc1,aB,hz1⟩:=cu h1;(try simp at hz1);(try have kD:w.heap.size<w1.heap.size:=by omega);(try have jk:w.heap.size+1<w1.heap.size:=by omega);(try have kE:w.heap.size+2<w1.heap.size:=by omega);(try have kF:w.heap.size+3<w1.heap.size:=by omega))
   refine aG (h:= ?_);refine⟨uv ?_,Xt⟩;rw [Hn.out,Hr.out.out (by simpa using hlt)];rfl
theorem aeG (im sb:ah) (a:aq) (cap:Nat) (xs:List (Int×Int)) (sp wt si:Int) (now order:Int) (w:World) (hl:xs.length<=9223372036854775807) (hs:StepsIn w a xs)
 (hG:jX im xs=true) (hT:gD ⟨sb,im,2,sp,wt,si⟩=true) (Uo:0<=now) (Uq:now<=1099511627776) (ho0:0<=order) (p5:order<=1) (cP:0<=si/\si<=1099511627776)
 (r:St) (HR:Hid (o6 xs now ⟨sb,im,2,sp,wt,si⟩ order r)) (Hn:Hid (eI im xs ⟨sb,im,2,sp,wt,si⟩ now order=(r,0))):
 Calls prog 47 #[.agg #[.string im, .slice a xs.length cap], .agg #[.string sb, .string im, .int .i64 2, .int .i64 sp, .int .i64 wt, .int .i64 si], .int .i64 now, .int .i64 order] w fun e w'=>e= .returned (.tuple #[(eI im xs ⟨sb,im,2,sp,wt,si⟩ now order).1.val, .int .i64 (eI im xs ⟨sb,im,2,sp,wt,si⟩ now order).2])/\Ext w w':=by
 go_enter func47,ntmps47;have e2:(order==2)=false:=by simp;omega
 have e3:(order==3)=false:=by simp;omega
 go_wp2_with (first|(go_at_call 65;(with_reducible refine(Eg _ _ _ _ _ hl (hs.ext Xt)).mono ?_);rintro e w1 ⟨rfl,h1⟩;obtain⟨hc1,aB,hz1⟩:=cu h1;(try simp at hz1);(try have kD:w.heap.size<w1.heap.size:=by omega);(try have jk:w.heap.size+1<w1.heap.size:=by omega);(try have kE:w.heap.size+2<w1.heap.size:=by omega);(try have kF:w.heap.size+3<w1.heap.size:=by omega))|(go_at_call 69;(with_reducible refine(IA ⟨sb,im,2,sp,wt,si⟩ _).mono ?_);rintro e w1 ⟨rfl,h1⟩;obtain⟨hc1,aB,hz1⟩:=cu h1;(try simp at hz1);(try have kD:w.heap.size<w1.heap.size:=by omega);(try have jk:w.heap.size+1<w1.heap.size:=by omega);(try have kE:w.heap.size+2<w1.heap.size:=by omega);(try have kF:w.heap.size+3<w1.heap.size:=by omega))|(go_at_call 66;(with_reducible refine(vK _ _).mono ?_);rintro e w1 ⟨rfl,h1⟩;obtain⟨hc1,aB,hz1⟩:=cu h1;(try simp at hz1);(try have kD:w.heap.size<w1.heap.size:=by omega);(try have jk:w.heap.size+1<w1.heap.size:=by omega);(try have kE:w.heap.size+2<w1.heap.size:=by omega);(try have kF:w.heap.size+3<w1.heap.size:=by omega)))
 go_loopg [3] xs.length (fun g o wr=>∃(s':St) (jC:Int) (k:Nat),o= .int .i64 jC/\s'.sp=(k:Int)/\xs.length<=g+k/\
  af wr w.heap.size #[.string im, .slice a xs.length cap] 53/\
  af wr (w.heap.size+1) #[.string s'.sb, .string s'.cm, .int .i64 s'.ph, .int .i64 s'.sp, .int .i64 s'.wt, .int .i64 s'.si] 44/\
  af wr (w.heap.size+2) #[.string ⟨#[]⟩, .string ⟨#[]⟩, .int .i64 0, .int .i64 0, .int .i64 0, .int .i64 0] 44/\
  Ext w wr/\0<=s'.si/\s'.si<=1099511627776/\o6 xs now s' jC r)
 case atStart=>
  have Ep:=HR.out;obtain⟨h0,-⟩:=HR.out;obtain⟨k,hk⟩:=Int.eq_ofNat_of_zero_le h0;exact⟨(⟨sb,im,2,sp,wt,si⟩:St),order,k,rfl,hk,by omega,aj,aj,aj,Xt,cP.1,cP.2,Ep⟩
 case round=>
  obtain⟨⟨sU,sV,xx,sp',uq,nM⟩,jC,k,rfl,hsp,zz,ag,ai,ak,hx,Er,Es,hrun⟩:=hrel;obtain rfl:sp'=(k:Int):=hsp;simp only at Er Es;have Hr:=ae hrun;clear hrun hc1 aB;have hc0:=ag.cells;have aw:=ag.free;have hc1:=ai.cells;have aB:=ai.free;have hc2:=ak.cells;have hf2:=ak.free;have hl0:=ag.lt;have az:=ai.lt;have hl2:=ak.lt;by_cases hlt:k<xs.length
  ·obtain⟨b,o,rfl,hc⟩:∃b o,a=some ⟨b,o,none⟩/\∀i,i<xs.length->w.cell? ⟨b,o+i*2,none⟩=some (.int .i64 (xs.getD i (0,0)).1)/\w.cell? ⟨b,o+i*2+1,none⟩=some (.int .i64 (xs.getD i (0,0)).2):=hs.resolve_left (by intro e;subst e;simp at hlt)
   obtain⟨d0,d1⟩:=hc k hlt;have d0:=hx.cell d0;have d1:=hx.cell d1;have aQ:=ae (Hr.out.step k rfl hlt);clear hc hs;by_cases h0:0<=xs[k].1
   ·go_wp2
    go_roundg (gk-1)
    case measure=>omega
    case rel=>exact⟨⟨sU,sV,2,(k:Int)+1,xs[k].1,0⟩,jC,k+1,rfl,by simp,by omega,aj,aj,aj,Xt,by simp,by simp,(aQ.out).1 h0⟩
   ·by_cases h3:xx=3
    ·subst h3
     by_cases ho:jC=1
     ·subst ho
      go_wp2;go_roundg (gk-1)
      case measure=>omega
      case rel=>exact⟨⟨sU,sV,2,(k:Int)+1,uq,0⟩,0,k+1,rfl,by simp,by omega,aj,aj,aj,Xt,by simp,by simp,(aQ.out).2.2.1 (by omega) (by trivial) (by trivial)⟩
     ·have ho':(jC==1)=false:=by simpa using ho
      by_cases hp:xs[k].2=0\/now<nM\/now-nM<xs[k].2
      ·have Hp:=ae hp
       clear hp;go_wp2
       all_goals first
        |(refine aG (h:= ?_)
          refine⟨uv ?_,Xt⟩
          rw [Hn.out,(aQ.out).2.2.2.1 (by omega) (by trivial) ho Hp.out])
        |(exfalso
          have:=Hp.out;go_light
          grind)
      ·obtain⟨hp1,hp2,mI⟩:xs[k].2≠0/\nM<=now/\xs[k].2<=now-nM:=by omega
       have Ur:(xs[k].2==0)=false:=by simpa using hp1
       go_wp2;go_roundg (gk-1)
       case measure=>omega
       case rel=>exact⟨⟨sU,sV,2,(k:Int)+1,uq,0⟩,jC,k+1,rfl,by simp,by omega,aj,aj,aj,Xt,by simp,by simp,(aQ.out).2.2.2.2 (by omega) (by trivial) ho hp⟩
    ·have h3':(xx !=3)=true:=by simpa using h3
     go_wp2;refine aG (h:= ?_);refine⟨uv ?_,Xt⟩;rw [Hn.out,(aQ.out).2.1 (by omega) h3]
  ·go_wp2_with (go_at_call 66;(with_reducible refine(vK _ _).mono ?_);rintro e w1 ⟨rfl,h1⟩;obtain⟨hc1,aB,hz1⟩:=cu h1;(try simp at hz1);(try have kD:w.heap.size<w1.heap.size:=by omega);(try have jk:w.heap.size+1<w1.heap.size:=by omega);(try have kE:w.heap.size+2<w1.heap.size:=by omega);(try have kF:w.heap.size+3<w1.heap.size:=by omega))
   refine aG (h:= ?_);refine⟨uv ?_,Xt⟩;rw [Hn.out,Hr.out.out (by simpa using hlt)];rfl
theorem aeH (im sb:ah) (a:aq) (cap:Nat) (xs:List (Int×Int)) (sp wt si:Int) (now order:Int) (w:World) (hl:xs.length<=9223372036854775807) (hs:StepsIn w a xs)
 (hG:jX im xs=true) (hT:gD ⟨sb,im,3,sp,wt,si⟩=true) (Uo:0<=now) (Uq:now<=1099511627776) (ho0:0<=order) (p5:order<=1) (cP:0<=si/\si<=1099511627776)
 (r:St) (HR:Hid (o6 xs now ⟨sb,im,3,sp,wt,si⟩ order r)) (Hn:Hid (eI im xs ⟨sb,im,3,sp,wt,si⟩ now order=(r,0))):
 Calls prog 47 #[.agg #[.string im, .slice a xs.length cap], .agg #[.string sb, .string im, .int .i64 3, .int .i64 sp, .int .i64 wt, .int .i64 si], .int .i64 now, .int .i64 order] w fun e w'=>e= .returned (.tuple #[(eI im xs ⟨sb,im,3,sp,wt,si⟩ now order).1.val, .int .i64 (eI im xs ⟨sb,im,3,sp,wt,si⟩ now order).2])/\Ext w w':=by
 go_enter func47,ntmps47;have e2:(order==2)=false:=by simp;omega
 have e3:(order==3)=false:=by simp;omega
 go_wp2_with (first|(go_at_call 65;(with_reducible refine(Eg _ _ _ _ _ hl (hs.ext Xt)).mono ?_);rintro e w1 ⟨rfl,h1⟩;obtain⟨hc1,aB,hz1⟩:=cu h1;(try simp at hz1);(try have kD:w.heap.size<w1.heap.size:=by omega);(try have jk:w.heap.size+1<w1.heap.size:=by omega);(try have kE:w.heap.size+2<w1.heap.size:=by omega);(try have kF:w.heap.size+3<w1.heap.size:=by omega))|(go_at_call 69;(with_reducible refine(IA ⟨sb,im,3,sp,wt,si⟩ _).mono ?_);rintro e w1 ⟨rfl,h1⟩;obtain⟨hc1,aB,hz1⟩:=cu h1;(try simp at hz1);(try have kD:w.heap.size<w1.heap.size:=by omega);(try have jk:w.heap.size+1<w1.heap.size:=by omega);(try have kE:w.heap.size+2<w1.heap.size:=by omega);(try have kF:w.heap.size+3<w1.heap.size:=by omega))|(go_at_call 66;(with_reducible refine(vK _ _).mono ?_);rintro e w1 ⟨rfl,h1⟩;obtain⟨hc1,aB,hz1⟩:=cu h1;(try simp at hz1);(try have kD:w.heap.size<w1.heap.size:=by omega);(try have jk:w.heap.size+1<w1.heap.size:=by omega);(try have kE:w.heap.size+2<w1.heap.size:=by omega);(try have kF:w.heap.size+3<w1.heap.size:=by omega)))
 go_loopg [3] xs.length (fun g o wr=>∃(s':St) (jC:Int) (k:Nat),o= .int .i64 jC/\s'.sp=(k:Int)/\xs.length<=g+k/\
  af wr w.heap.size #[.string im, .slice a xs.length cap] 53/\
  af wr (w.heap.size+1) #[.string s'.sb, .string s'.cm, .int .i64 s'.ph, .int .i64 s'.sp, .int .i64 s'.wt, .int .i64 s'.si] 44/\
  af wr (w.heap.size+2) #[.string ⟨#[]⟩, .string ⟨#[]⟩, .int .i64 0, .int .i64 0, .int .i64 0, .int .i64 0] 44/\
  Ext w wr/\0<=s'.si/\s'.si<=1099511627776/\o6 xs now s' jC r)
 case atStart=>
  have Ep:=HR.out;obtain⟨h0,-⟩:=HR.out;obtain⟨k,hk⟩:=Int.eq_ofNat_of_zero_le h0;exact⟨(⟨sb,im,3,sp,wt,si⟩:St),order,k,rfl,hk,by omega,aj,aj,aj,Xt,cP.1,cP.2,Ep⟩
 case round=>
  obtain⟨⟨sU,sV,xx,sp',uq,nM⟩,jC,k,rfl,hsp,zz,ag,ai,ak,hx,Er,Es,hrun⟩:=hrel;obtain rfl:sp'=(k:Int):=hsp;simp only at Er Es;have Hr:=ae hrun;clear hrun hc1 aB;have hc0:=ag.cells;have aw:=ag.free;have hc1:=ai.cells;have aB:=ai.free;have hc2:=ak.cells;have hf2:=ak.free;have hl0:=ag.lt;have az:=ai.lt;have hl2:=ak.lt;by_cases hlt:k<xs.length
  ·obtain⟨b,o,rfl,hc⟩:∃b o,a=some ⟨b,o,none⟩/\∀i,i<xs.length->w.cell? ⟨b,o+i*2,none⟩=some (.int .i64 (xs.getD i (0,0)).1)/\w.cell? ⟨b,o+i*2+1,none⟩=some (.int .i64 (xs.getD i (0,0)).2):=hs.resolve_left (by intro e;subst e;simp at hlt)
   obtain⟨d0,d1⟩:=hc k hlt;have d0:=hx.cell d0;have d1:=hx.cell d1;have aQ:=ae (Hr.out.step k rfl hlt);clear hc hs;by_cases h0:0<=xs[k].1
   ·go_wp2
    go_roundg (gk-1)
    case measure=>omega
    case rel=>exact⟨⟨sU,sV,2,(k:Int)+1,xs[k].1,0⟩,jC,k+1,rfl,by simp,by omega,aj,aj,aj,Xt,by simp,by simp,(aQ.out).1 h0⟩
   ·by_cases h3:xx=3
    ·subst h3
     by_cases ho:jC=1
     ·subst ho
      go_wp2;go_roundg (gk-1)
      case measure=>omega
      case rel=>exact⟨⟨sU,sV,2,(k:Int)+1,uq,0⟩,0,k+1,rfl,by simp,by omega,aj,aj,aj,Xt,by simp,by simp,(aQ.out).2.2.1 (by omega) (by trivial) (by trivial)⟩
     ·have ho':(jC==1)=false:=by simpa using ho
      by_cases hp:xs[k].2=0\/now<nM\/now-nM<xs[k].2
      ·have Hp:=ae hp
       clear hp;go_wp2
       all_goals first
        |(refine aG (h:= ?_)
          refine⟨uv ?_,Xt⟩
          rw [Hn.out,(aQ.out).2.2.2.1 (by omega) (by trivial) ho Hp.out])
        |(exfalso
          have:=Hp.out;go_light
          grind)
      ·obtain⟨hp1,hp2,mI⟩:xs[k].2≠0/\nM<=now/\xs[k].2<=now-nM:=by omega
       have Ur:(xs[k].2==0)=false:=by simpa using hp1
       go_wp2;go_roundg (gk-1)
       case measure=>omega
       case rel=>exact⟨⟨sU,sV,2,(k:Int)+1,uq,0⟩,jC,k+1,rfl,by simp,by omega,aj,aj,aj,Xt,by simp,by simp,(aQ.out).2.2.2.2 (by omega) (by trivial) ho hp⟩
    ·have h3':(xx !=3)=true:=by simpa using h3
     go_wp2;refine aG (h:= ?_);refine⟨uv ?_,Xt⟩;rw [Hn.out,(aQ.out).2.1 (by omega) h3]
  ·go_wp2_with (go_at_call 66;(with_reducible refine(vK _ _).mono ?_);rintro e w1 ⟨rfl,h1⟩;obtain⟨hc1,aB,hz1⟩:=cu h1;(try simp at hz1);(try have kD:w.heap.size<w1.heap.size:=by omega);(try have jk:w.heap.size+1<w1.heap.size:=by omega);(try have kE:w.heap.size+2<w1.heap.size:=by omega);(try have kF:w.heap.size+3<w1.heap.size:=by omega))
   refine aG (h:= ?_);refine⟨uv ?_,Xt⟩;rw [Hn.out,Hr.out.out (by simpa using hlt)];rfl
theorem toList_inj {a b:ah} (h:a.toList=b.toList):a=b:=by
 rw [ByteArray.toList_eq,ByteArray.toList_eq] at h;exact ByteArray.ext (Array.toList_inj.1 h)
theorem aee (im:ah) (a:aq) (cap:Nat) (xs:List (Int×Int)) (s:St) (now order:Int) (w:World) (hl:xs.length<=9223372036854775807) (hs:StepsIn w a xs):
 Calls prog 47 #[.agg #[.string im, .slice a xs.length cap], .agg #[.string s.sb, .string s.cm, .int .i64 s.ph, .int .i64 s.sp, .int .i64 s.wt, .int .i64 s.si], .int .i64 now, .int .i64 order] w fun e w'=>e= .returned (.tuple #[(eI im xs s now order).1.val, .int .i64 (eI im xs s now order).2])/\Ext w w':=by
 by_cases hL:Nl im xs s now order
 ·obtain⟨hG,hT,h0,h1,ho0,p5,hd,hp⟩:=hL
  have hn:eI im xs s now order=(pI now (xs.drop (bC im s).sp.toNat) (bC im s) order,0):=by
   simp only [eI]
   grind
  have hR:o6 xs now (bC im s) order (pI now (xs.drop (bC im s).sp.toNat) (bC im s) order):=by
   refine⟨?_,rfl⟩;simp only [bC,gD] at*
   grind
  obtain⟨sb,cm,ph,sp,wt,si⟩:=s;have cP:0<=si/\si<=1099511627776:=by
   simp only [gD] at hT
   grind
  by_cases him:im.toList=cm.toList
  ·obtain rfl:=toList_inj him
   simp only [bC,if_true] at hn hR hp;rcases hp with rfl|rfl
   ·exact aeG im sb a cap xs sp wt si now order w hl hs hG hT h0 h1 ho0 p5 cP _ hR hn
   ·exact aeH im sb a cap xs sp wt si now order w hl hs hG hT h0 h1 ho0 p5 cP _ hR hn
  ·simp only [bC,if_neg him] at hn hR hp
   exact aeF im sb cm a cap xs ph sp wt si now order w hl hs hG hT h0 h1 ho0 p5 (by simpa using him) (by grind) _ hR hn
 ·exact aeE im a cap xs s now order w hl hs hL
end Go.Proofs.YtlcebdaghmdkeaaGreatDoor
namespace Go.Proofs.YtlcebdaghmdkeaaGreatDoor
open Go.RowKit
def Uh (xs:List (Int×Int)) (now:Int) (s:St) (o:Int) (k:Nat) (r:St):Prop:=
 r=mH s.cm\/∃(j:Nat) (hj:j<xs.length) (wt si:Int),k<=j/\xs[j].1<0/\r=⟨s.sb,s.cm,3,j,wt,si⟩/\ (wt=s.wt\/∃x∈xs,wt=x.1/\0<=x.1)/\
  (si=now\/ (j=k/\s.ph=3/\o≠1/\si=s.si/\wt=s.wt/\ (xs[j].2=0\/now<si\/now-si<xs[j].2)))
theorem zy (xs:List (Int×Int)) (now:Int) (n:Nat):∀(k:Nat) (s:St) (o:Int),xs.length-k<=n->s.sp=k->Uh xs now s o k (pI now (xs.drop k) s o):=by
 induction n with
 |zero=>
  intro k s o hk _;rw [List.drop_of_length_le (by omega)];exact .inl rfl
 |succ n ih=>
  intro k s o hk hs;by_cases hlt:k<xs.length
  ·have step:∀(wt:Int) (o':Int),(wt=s.wt\/∃x∈xs,wt=x.1/\0<=x.1)->Uh xs now s o k (pI now (xs.drop (k+1)) ⟨s.sb,s.cm,2,s.sp+1,wt,0⟩ o'):=by
    intro wt o' hw;rcases ih (k+1) ⟨s.sb,s.cm,2,s.sp+1,wt,0⟩ o' (by omega) (by simp [hs]) with h|⟨j,hj,uq,nM,hkj,hx,hr,hw',cP⟩
    ·exact .inl h
    ·refine .inr ⟨j,hj,uq,nM,by omega,hx,hr,?_,?_⟩
     ·rcases hw' with h|h
      ·exact h▸hw
      ·exact .inr h
     ·rcases cP with h|h
      ·exact .inl h
      ·exact absurd h.2.1 (by simp)
   rw [List.drop_eq_getElem_cons hlt,pI]
   split
   ·rename_i h0
    exact step xs[k].1 o (.inr ⟨xs[k],List.getElem_mem hlt,rfl,h0⟩)
   ·rename_i h0
    split
    ·exact .inr ⟨k,hlt,s.wt,now,Nat.le_refl _,by omega,by simp [hs], .inl rfl, .inl rfl⟩
    ·rename_i h3
     have h3:s.ph=3:=by simpa using h3
     split
     ·exact step s.wt 0 (.inl rfl)
     ·rename_i ho
      split
      ·rename_i hw
       exact .inr ⟨k,hlt,s.wt,s.si,Nat.le_refl _,by omega,by cases s;simp_all, .inl rfl, .inr ⟨rfl,h3,ho,rfl,rfl,hw⟩⟩
      ·exact step s.wt o (.inl rfl)
  ·rw [List.drop_of_length_le (by omega)]
   exact .inl rfl
theorem Ir {im:ah} {xs:List (Int×Int)} (hG:jX im xs=true):im.toList≠ []/\im.size<=60/\xs.length<=8/\∀x∈xs,l9 x.1 x.2=true:=by
 simp only [jX,pJ,Bool.and_eq_true,decide_eq_true_eq,List.all_eq_true] at hG;exact⟨hG.1.1.1,hG.1.1.2,hG.1.2,hG.2⟩
theorem Bu {im:ah} {xs:List (Int×Int)} {s:St} {now o:Int} {r:St} (h:eI im xs s now o=(r,0)):
 jX im xs=true/\gD s=true/\0<=now/\now<=1099511627776/\0<=o/\o<=3/\
 ((im.toList≠s.cm.toList/\im.toList=s.sb.toList/\r=mH s.sb)\/
  (¬(im.toList≠s.cm.toList/\im.toList=s.sb.toList)/\
   (((bC im s).ph≠2/\ (bC im s).ph≠3/\r=bC im s)\/
    (((bC im s).ph=2\/ (bC im s).ph=3)/\
     ((o=2/\r=mH (bC im s).cm)\/ (o=3/\r=⟨(bC im s).sb,(bC im s).cm,4,0,0,0⟩)\/
      (o<=1/\r=pI now (xs.drop (bC im s).sp.toNat) (bC im s) o)))))):=by
 unfold eI at h
 repeat' split at h
 all_goals simp only [Prod.mk.injEq] at h
 all_goals grind
theorem Iq {im:ah} {xs:List (Int×Int)} {s:St} {now o:Int} (hG:jX im xs=true) (hT:gD s=true) (h0:0<=now) (h1:now<=1099511627776) (ho0:0<=o) (p5:o<=3):
 (eI im xs s now o).2=0:=by
 unfold eI
 grind
theorem Ef {im:ah} {xs:List (Int×Int)} {s:St} {now o:Int} {r:St} (h:eI im xs s now o=(r,0)):gD r=true:=by
 obtain⟨hG,hT,h0,h1,ho0,p5,hc⟩:=Bu h;obtain⟨g1,g2,g3,g4⟩:=Ir hG;have hT':=hT;simp only [gD,decide_eq_true_eq] at hT';rcases hc with⟨ha,hb,rfl⟩|⟨ha,⟨hp2,mI,rfl⟩|⟨hp,⟨rfl,rfl⟩|⟨rfl,rfl⟩|⟨ho,hr⟩⟩⟩
 ·simp only [gD,mH];grind
 ·simp only [gD,bC] at*;grind
 ·simp only [gD,mH,bC] at*;grind
 ·simp only [gD,bC] at*;grind
 ·have hsp:0<= (bC im s).sp:=by simp only [bC] at*;grind
  obtain⟨k,hk⟩:=Int.eq_ofNat_of_zero_le hsp;have hk':(bC im s).sp.toNat=k:=by omega
  rw [hk'] at hr;have he:=zy xs now _ k (bC im s) o (Nat.le_refl _) hk;rw [<-hr] at he;rcases he with h|⟨j,hj,wt,si,hkj,hx,kW,hw,cP⟩
  ·rw [h];simp only [gD,mH,bC] at*;grind
  ·have hgj:=g4 xs[j] (List.getElem_mem hj)
   have hwb:0<=wt/\wt<=100:=by
    rcases hw with h|⟨x,Iu,h,h0⟩
    ·simp only [bC] at*;grind
    ·have:=g4 x Iu;simp only [l9] at this;grind
   have Br:0<=si/\si<=1099511627776:=by
    rcases cP with h|h
    ·omega
    ·simp only [bC] at*;grind
   rw [kW];simp only [gD,bC] at*;grind
end Go.Proofs.YtlcebdaghmdkeaaGreatDoor
namespace Go.Proofs.YtlcebdaghmdkeaaGreatDoor.start
open Go.Proofs.Tryz
def b32:List Int:= [0,1,28,2,29,14,24,3,30,22,20,15,25,17,4,8,31,27,13,23,21,19,16,7,26,12,18,6,11,5,10,9]
def b64:List Int:= [0,1,56,2,57,49,28,3,61,58,42,50,38,29,17,4,62,47,59,36,45,43,51,22,53,39,33,30,24,18,12,5,63,55,48,27,60,41,37,16,46,35,44,21,52,32,23,11,54,26,40,15,34,20,31,10,25,14,19,9,13,8,7,6]
def p10:List Int:= [1,10,100,1000,10000,100000,1000000,10000000,100000000,1000000000,10000000000,100000000000,1000000000000,10000000000000,100000000000000,1000000000000000,10000000000000000,100000000000000000,1000000000000000000,10000000000000000000]
def acc:List Int:= [128,191,160,191,128,159,144,191,128,143,0,0,0,0,0,0,0,0,0,0,0,0,0,0,0,0,0,0,0,0,0,0]
def aaq:List Int:=Go.Pinned.utf8FirstZ.map Int.ofNat
def nm:List (List UInt8):= [[], [97,100,100], [114,101,109,111,118,101], [114,101,112,108,97,99,101], [109,111,118,101], [99,111,112,121], [116,101,115,116]]
noncomputable def pA (os:Os):World:=
 let N:=(World.settled prog os).heap.size
 let w0:=World.holding prog os ⟨#[.cells #[.string ⟨#[118,97,108,117,101,32,111,117,116,32,111,102,32,114,97,110,103,101]⟩] 281, .cells #[.string ⟨#[105,110,118,97,108,105,100,32,115,121,110,116,97,120]⟩] 281], #[], []⟩
 let put (h:Array Obj) (g:Nat) (cs:Array Value):Array Obj:=h.modify g fun
  | .cells _ t frozen=> .cells cs t frozen
  |o=>o
 let h0:=put (put w0.heap 4 #[.iface 279 (.pointer (some ⟨N,0,none⟩))]) 3 #[.iface 279 (.pointer (some ⟨N+1,0,none⟩))]
 let h1:=put (put (put h0 2 (p10.map (Value.int .u64)).toArray) 7 (b32.map (Value.int .u8)).toArray) 8 (b64.map (Value.int .u8)).toArray
 let h2:=put (put h1 5 (aaq.map (Value.int .u8)).toArray) 6 (acc.map (Value.int .u8)).toArray
 let h3:=put h2 1 (nm.map fun s=>Value.string ⟨s.toArray⟩).toArray
 {w0 with heap:=h3}
noncomputable abbrev N0:Nat:=(World.settled prog default).heap.size
theorem aar (os:Os) (args:Array Value):LaidIn prog ((pA os).forCall (fun _ _=>0) ⟨#[],args, []⟩).memory Rows.topRefusedUptoRow.laid [7,8,2,6,4,N0,3,N0+1,1,5]:=
 LaidIn.of_run [7,8,2,6,4,N0,3,N0+1,1,5] 10 (by kernel_rfl) (by kernel_rfl) (by kernel_rfl) (by kernel_rfl)
theorem AW (os:Os) (args:Array Value):laidMet prog Rows.topRefusedUptoRow.laid ((pA os).forCall (fun _ _=>0) ⟨#[],args, []⟩).memory:=(aar os args).met
end Go.Proofs.YtlcebdaghmdkeaaGreatDoor.start
namespace Go.Proofs.YtlcebdaghmdkeaaGreatDoor
open Go.Proofs.Tryz
open Go.ChangeShapes Go.WideShapes Go.ChangeAt Go.RowKit Go.Deep Go.Joins
open Go.ChangeMaps (open_string shut_string)
def Old (w:World):aA:=fun b=>b<w.heap.size
theorem Xn {H:Type} (d:DataW H):1<=Rows.uptoBulk d:=by
 cases d with
 |lit l=>cases l<;>simp [Rows.uptoBulk]
 |nil=>simp [Rows.uptoBulk]
 |ptr d=>simp [Rows.uptoBulk]
 |slice elems spare=>simp [Rows.uptoBulk]
 |agg parts=>simp [Rows.uptoBulk]
 |iface t d=>simp [Rows.uptoBulk]
 |map entries=>simp [Rows.uptoBulk]
 |held h=>simp [Rows.uptoBulk]
theorem O4 {H:Type} (l:List (DataW H)):Rows.uptoBulkAll l=(l.map Rows.uptoBulk).sum:=by
 induction l with
 |nil=>simp [Rows.uptoBulkAll]
 |cons x r ih=>simp [Rows.uptoBulkAll,ih]
theorem Xq {α β:Type} (l:List α) (m:List β) (f:α->Nat) (g:β->Nat) (hlen:l.length=m.length) (h:∀i (hi:i<l.length) (hj:i<m.length),f l[i]<=g m[i]):(l.map f).sum<= (m.map g).sum:=by
 induction l generalizing m with
 |nil=>simp
 |cons y r ih=>
  cases m with
  |nil=>simp at hlen
  |cons z t=>
   have a0:=h 0 (by simp) (by simp);have a1:=ih t (by simpa using hlen) (fun i hi hj=>by have:=h (i+1) (by simpa using hi) (by simpa using hj);simpa using this);simp only [List.map_cons,List.sum_cons];simp only [List.getElem_cons_zero] at a0;omega
theorem Xp {α:Type} {n:Nat} {P:Nat->α->Prop} (h:∀i,i<n->∃x,P i x):∃l:List α,l.length=n/\∀i (hi:i<l.length),P i l[i]:=by
 induction n with
 |zero=>exact⟨[],rfl,fun i hi=>by simp at hi⟩
 |succ n ih=>
  obtain⟨l,h1,h2⟩:=ih (fun i hi=>h i (by omega));obtain⟨x,hx⟩:=h n (by omega);refine⟨l++ [x],by simp [h1],fun i hi=> ?_⟩;by_cases e:i<l.length
  ·rw [List.getElem_append_left e];exact h2 i e
  ·have:i=n:=by simp at hi;omega
   subst this;rw [List.getElem_append_right (by omega)];simpa [h1] using hx
end Go.Proofs.YtlcebdaghmdkeaaGreatDoor
namespace Go.Proofs.YtlcebdaghmdkeaaGreatDoor
open Go.Proofs.Tryz
open Go.RowKit
theorem Ug (im:ah) (a:aq) (n cap:Nat) (xs:List (Int×Int)) (w:World) (hl:xs.length<=9223372036854775807) (hs:StepsIn w a xs) (hn:n=xs.length):
 Calls prog 65 #[.agg #[.string im, .slice a n cap]] w fun e w'=>e= .returned (.bool (jX im xs))/\Ext w w':=by
 subst hn;exact Eg im a cap xs w hl hs
theorem M7 {im:ah} {a:aq} {n cap:Nat} {xs:List (Int×Int)} {s r:St} {now order e:Int} (hr:eI im xs s now order=(r,e)) (w:World) (hl:xs.length<=9223372036854775807) (hs:StepsIn w a xs) (hn:n=xs.length):
 Calls prog 47 #[.agg #[.string im, .slice a n cap], .agg #[.string s.sb, .string s.cm, .int .i64 s.ph, .int .i64 s.sp, .int .i64 s.wt, .int .i64 s.si], .int .i64 now, .int .i64 order] w
  fun x w'=>x= .returned (.tuple #[.agg #[.string r.sb, .string r.cm, .int .i64 r.ph, .int .i64 r.sp, .int .i64 r.wt, .int .i64 r.si], .int .i64 e])/\Ext w w':=by
 subst hn;have:=aee im a cap xs s now order w hl hs;rw [hr] at this;exact this
theorem aed (im:ah) (a:aq) (n cap:Nat) (xs:List (Int×Int)) (w:World) (hl:xs.length<=9223372036854775807) (hs:StepsIn w a xs) (hn:n=xs.length) (hG:jX im xs=true):
 Calls prog 45 #[.agg #[.string im, .slice a n cap]] w fun e w'=>e= .returned (.tuple #[.agg #[.string im, .string im, .int .i64 1, .int .i64 0, .int .i64 100, .int .i64 0], .int .i64 0])/\Ext w w':=by
 have Hn:=ae hn;clear hn;go_enter func45,ntmps45;go_wp2_with (first|(go_at_call 65;(with_reducible refine(Ug _ _ _ _ _ _ hl (hs.ext Xt) Hn.out).mono ?_);rintro e w1 ⟨rfl,h1⟩;obtain⟨hc1,aB,hz1⟩:=cu h1;(try simp at hz1);(try have kD:w.heap.size<w1.heap.size:=by omega);(try have jk:w.heap.size+1<w1.heap.size:=by omega);(try have kE:w.heap.size+2<w1.heap.size:=by omega);(try have kF:w.heap.size+3<w1.heap.size:=by omega))|(go_at_call 66;(with_reducible refine(vK _ _).mono ?_);rintro e w1 ⟨rfl,h1⟩;obtain⟨hc1,aB,hz1⟩:=cu h1;(try simp at hz1);(try have kD:w.heap.size<w1.heap.size:=by omega);(try have jk:w.heap.size+1<w1.heap.size:=by omega);(try have kE:w.heap.size+2<w1.heap.size:=by omega);(try have kF:w.heap.size+3<w1.heap.size:=by omega)));refine aG (h:= ?_);exact⟨rfl,Xt⟩
theorem aec (im:ah) (a:aq) (n cap:Nat) (xs:List (Int×Int)) (w:World) (hl:xs.length<=9223372036854775807) (hs:StepsIn w a xs) (hn:n=xs.length) (hG:jX im xs=false):
 Calls prog 45 #[.agg #[.string im, .slice a n cap]] w fun e w'=>e= .returned (.tuple #[.agg #[.string ⟨#[]⟩, .string ⟨#[]⟩, .int .i64 0, .int .i64 0, .int .i64 0, .int .i64 0], .int .i64 1])/\Ext w w':=by
 have Hn:=ae hn;clear hn;go_enter func45,ntmps45;go_wp2_with (first|(go_at_call 65;(with_reducible refine(Ug _ _ _ _ _ _ hl (hs.ext Xt) Hn.out).mono ?_);rintro e w1 ⟨rfl,h1⟩;obtain⟨hc1,aB,hz1⟩:=cu h1;(try simp at hz1);(try have kD:w.heap.size<w1.heap.size:=by omega);(try have jk:w.heap.size+1<w1.heap.size:=by omega);(try have kE:w.heap.size+2<w1.heap.size:=by omega);(try have kF:w.heap.size+3<w1.heap.size:=by omega))|(go_at_call 66;(with_reducible refine(vK _ _).mono ?_);rintro e w1 ⟨rfl,h1⟩;obtain⟨hc1,aB,hz1⟩:=cu h1;(try simp at hz1);(try have kD:w.heap.size<w1.heap.size:=by omega);(try have jk:w.heap.size+1<w1.heap.size:=by omega);(try have kE:w.heap.size+2<w1.heap.size:=by omega);(try have kF:w.heap.size+3<w1.heap.size:=by omega)));refine aG (h:= ?_);exact⟨rfl,Xt⟩
end Go.Proofs.YtlcebdaghmdkeaaGreatDoor
namespace Go.Proofs.YtlcebdaghmdkeaaGreatDoor
open Go.ChangeShapes Go.WideShapes Go.ChangeAt Go.RowKit Go.Deep Go.Joins
open Go.ChangeMaps (open_string shut_string)
def Fg (w:World) (S:aA) (b o:Nat) (x:bM):Prop:=
 w.cell? ⟨b,o,none⟩=some (.int .i64 x.k)/\w.cell? ⟨b,o+1,none⟩=some (.string x.p)/\w.cell? ⟨b,o+2,none⟩=some (.string x.f)/\V.Item w S b (o+3) x.v
def pg (w:World) (S:aA) (a:aq) (l:List bM):Prop:=
 l= []\/∃b o,a=some ⟨b,o,none⟩/\S b/\∀i (h:i<l.length),Fg w S b (o+i*8) l[i]
theorem Fg.ext {S:aA} {w w':World} {b o:Nat} {x:bM} (h:Fg w S b o x) (e:Ext w w'):Fg w' S b o x:=
 ⟨e.cell h.1,e.cell h.2.1,e.cell h.2.2.1,h.2.2.2.ext e⟩
theorem pg.ext {S:aA} {w w':World} {a:aq} {l:List bM} (h:pg w S a l) (e:Ext w w'):pg w' S a l:=by
 rcases h with h|⟨b,o,rfl,hS,hr⟩
 ·exact .inl h
 ·exact .inr ⟨b,o,rfl,hS,fun i hi=>(hr i hi).ext e⟩
theorem V.Item.mono' {S T:aA} {w:World} {b o:Nat} {x:V} (h:V.Item w S b o x) (hT:∀b,S b->T b):V.Item w T b o x:=by
 obtain⟨ka,kc,la,lc,hc,hin⟩:=h;exact⟨ka,kc,la,lc,hc,hin.mono (fun b h _=>hT b h)⟩
theorem pg.mono {S T:aA} {w:World} {a:aq} {l:List bM} (h:pg w S a l) (hT:∀b,S b->T b):pg w T a l:=by
 rcases h with h|⟨b,o,rfl,hS,hr⟩
 ·exact .inl h
 ·exact .inr ⟨b,o,rfl,hT b hS,fun i hi=>⟨(hr i hi).1,(hr i hi).2.1,(hr i hi).2.2.1,(hr i hi).2.2.2.mono' hT⟩⟩
def bM.size (x:bM):Nat:=1+x.p.size+x.f.size+x.v.size
end Go.Proofs.YtlcebdaghmdkeaaGreatDoor
namespace Go.Proofs.YtlcebdaghmdkeaaGreatDoor
open Go.Proofs.Tryz
open Go.RowKit
attribute [local go_sem↓] Go.wp_at_zero Go.wp_at_succ
theorem uo.val {r:Option (ah×List (Int×Int))} {w w':World} {e:Ending} (h:uo r w e w'):
 ∃a n c,e= .returned (.tuple #[.agg #[.string (kC r), .slice a n c], .int .i64 (xw r)])/\ (fK r).length=n/\StepsIn w' a (fK r)/\ (∀p:Addr,a=some p->w.heap.size<=p.block)/\Ext w w':=by
 rcases h with⟨im,xs,a,n,c,rfl,h1,h2,h3,h5,h4⟩|⟨rfl,h2,h4⟩
 ·exact⟨a,n,c,h2,h1,h3,h5,h4⟩
 ·exact⟨none,0,0,h2,rfl, .inl rfl,(fun _ h=>by cases h),h4⟩
def Uf (s:St) (er:Int) (w:World) (e:Ending) (w':World):Prop:=
 e= .returned (.tuple #[.agg #[.string s.sb, .string s.cm, .int .i64 s.ph, .int .i64 s.sp, .int .i64 s.wt, .int .i64 s.si], .int .i64 er])/\Ext w w'
theorem aeb (im:ah) (a:aq) (n cap:Nat) (xs:List (Int×Int)) (w:World) (hl:xs.length<=9223372036854775807) (hs:StepsIn w a xs) (hn:n=xs.length):
 Calls prog 45 #[.agg #[.string im, .slice a n cap]] w (Uf (vJ im xs) (M6 im xs) w):=by
 cases hG:jX im xs
 ·refine(aec im a n cap xs w hl hs hn hG).mono ?_
  rintro e w' ⟨rfl,h⟩;exact⟨by simp only [vJ,M6,hG];rfl,h⟩
 ·refine(aed im a n cap xs w hl hs hn hG).mono ?_
  rintro e w' ⟨rfl,h⟩;exact⟨by simp only [vJ,M6,hG];rfl,h⟩
end Go.Proofs.YtlcebdaghmdkeaaGreatDoor
