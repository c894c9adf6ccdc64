import Derived.Test.YtlcebdaghmdkeabGreatDoorZ7
set_option linter.all false
set_option maxRecDepth 100000
set_option maxHeartbeats 64000000
namespace Go.Proofs.YtlcebdaghmdkeabGreatDoor
open Go.Proofs.Tryz
open Go.RowKit
theorem uA {r:St×Int} {a b:ah} {c d e f k:Int} (h:r=(⟨a,b,c,d,e,f⟩,k)):
 Ending.returned (.tuple #[.agg #[.string a, .string b, .int .i64 c, .int .i64 d, .int .i64 e, .int .i64 f], .int .i64 k])= .returned (.tuple #[r.1.val, .int .i64 r.2]):=by subst h;rfl
def oL (xs:List (Int×Int)) (now:Int) (s:St) (o:Int) (r:St):Prop:=0<=s.sp/\rq now (xs.drop s.sp.toNat) s o=r
theorem oL.out {xs:List (Int×Int)} {now:Int} {s:St} {o:Int} {r:St} (h:oL xs now s o r) (hk:¬s.sp.toNat<xs.length):r=qo s.cm:=by
 obtain⟨_,h⟩:=h;rw [List.drop_of_length_le (by omega)] at h;exact h.symm
theorem oL.step {xs:List (Int×Int)} {now:Int} {s:St} {o:Int} {r:St} (h:oL xs now s o r) (k:Nat) (hs:s.sp=k) (hk:k<xs.length):
 (0<=xs[k].1->oL xs now {s with wt:=xs[k].1,ph:=2,si:=0,sp:=(k:Int)+1} o r)/\
 (xs[k].1<0->s.ph≠3->r= {s with ph:=3,si:=now})/\
 (xs[k].1<0->s.ph=3->o=1->oL xs now {s with ph:=2,si:=0,sp:=(k:Int)+1} 0 r)/\
 (xs[k].1<0->s.ph=3->o≠1-> (xs[k].2=0\/now<s.si\/now-s.si<xs[k].2)->r=s)/\
 (xs[k].1<0->s.ph=3->o≠1->¬(xs[k].2=0\/now<s.si\/now-s.si<xs[k].2)->oL xs now {s with ph:=2,si:=0,sp:=(k:Int)+1} o r):=by
 obtain⟨h0,h⟩:=h;have e1:s.sp.toNat=k:=by omega
 have e2:((k:Int)+1).toNat=k+1:=by omega
 rw [e1,List.drop_eq_getElem_cons hk,rq] at h;unfold oL;simp only [e2,hs] at h⊢;refine⟨?_,?_,?_,?_,?_⟩
 ·intro a;rw [if_pos a] at h;exact⟨by omega,h⟩
 ·intro a b;rw [if_neg (by omega),if_pos b] at h;rw [<-h]
 ·intro a b c;rw [if_neg (by omega),if_neg (by simp [b]),if_pos c] at h;exact⟨by omega,h⟩
 ·intro a b c d;rw [if_neg (by omega),if_neg (by simp [b]),if_neg c,if_pos d] at h;exact h.symm
 ·intro a b c d;rw [if_neg (by omega),if_neg (by simp [b]),if_neg c,if_neg d] at h;exact⟨by omega,h⟩
def Ni (im:ah) (xs:List (Int×Int)) (s:St) (now order:Int):Prop:=
 kq im xs=true/\iy s=true/\0<=now/\now<=1099511627776/\0<=order/\order<=1/\¬(im.toList≠s.cm.toList/\im.toList=s.sb.toList)/\ ((cS im s).ph=2\/ (cS im s).ph=3)
theorem aeC (im:ah) (a:au) (cap:Nat) (xs:List (Int×Int)) (s:St) (now order:Int) (w:World) (hl:xs.length<=9223372036854775807) (hs:StepsIn w a xs) (hL:¬Ni im xs s now order):
 Calls prog 86 #[.agg #[.string im, .slice a xs.length cap], .agg #[.string s.sb, .string s.cm, .int .i64 s.ph, .int .i64 s.sp, .int .i64 s.wt, .int .i64 s.si], .int .i64 now, .int .i64 order] w fun e w'=>e= .returned (.tuple #[(fD im xs s now order).1.val, .int .i64 (fD im xs s now order).2])/\Ext w w':=by
 obtain⟨sb,cm,ph,sp,wt,si⟩:=s;have HL:=ae hL;clear hL;go_enter func86,ntmps86;go_wp2_with (first|(go_at_call 121;(with_reducible refine(Es _ _ _ _ _ hl (hs.ext Xt)).mono ?_);rintro e w1 ⟨rfl,h1⟩;obtain⟨hc1,aA,hz1⟩:=cp h1;(try simp at hz1);(try have kr:w.heap.size<w1.heap.size:=by omega);(try have jN:w.heap.size+1<w1.heap.size:=by omega);(try have ku:w.heap.size+2<w1.heap.size:=by omega);(try have kv:w.heap.size+3<w1.heap.size:=by omega))|(go_at_call 20;(with_reducible refine(BG ⟨sb,cm,ph,sp,wt,si⟩ _).mono ?_);rintro e w1 ⟨rfl,h1⟩;obtain⟨hc1,aA,hz1⟩:=cp h1;(try simp at hz1);(try have kr:w.heap.size<w1.heap.size:=by omega);(try have jN:w.heap.size+1<w1.heap.size:=by omega);(try have ku:w.heap.size+2<w1.heap.size:=by omega);(try have kv:w.heap.size+3<w1.heap.size:=by omega))|(go_at_call 122;(with_reducible refine(vS _ _).mono ?_);rintro e w1 ⟨rfl,h1⟩;obtain⟨hc1,aA,hz1⟩:=cp h1;(try simp at hz1);(try have kr:w.heap.size<w1.heap.size:=by omega);(try have jN:w.heap.size+1<w1.heap.size:=by omega);(try have ku:w.heap.size+2<w1.heap.size:=by omega);(try have kv:w.heap.size+3<w1.heap.size:=by omega)))
 all_goals first
  |(refine aF (h:= ?_)
    refine⟨uA ?_,Xt⟩;go_light;simp only [fD,cS,qo]
    grind)
  |(exfalso
    have:=HL.out;clear HL;go_light;simp only [Ni,cS] at this
    grind)
theorem aeD (im sb cm:ah) (a:au) (cap:Nat) (xs:List (Int×Int)) (ph sp wt si:Int) (now order:Int) (w:World) (hl:xs.length<=9223372036854775807) (hs:StepsIn w a xs)
 (hG:kq im xs=true) (hT:iy ⟨sb,cm,ph,sp,wt,si⟩=true) (Ut:0<=now) (Uu:now<=1099511627776) (ho0:0<=order) (sw:order<=1)
 (h1:(im.toList==cm.toList)=false) (h2:(im.toList==sb.toList)=false) (r:St) (HR:Hid (oL xs now ⟨sb,im,2,0,0,0⟩ order r)) (Hn:Hid (fD im xs ⟨sb,cm,ph,sp,wt,si⟩ now order=(r,0))):
 Calls prog 86 #[.agg #[.string im, .slice a xs.length cap], .agg #[.string sb, .string cm, .int .i64 ph, .int .i64 sp, .int .i64 wt, .int .i64 si], .int .i64 now, .int .i64 order] w fun e w'=>e= .returned (.tuple #[(fD im xs ⟨sb,cm,ph,sp,wt,si⟩ now order).1.val, .int .i64 (fD im xs ⟨sb,cm,ph,sp,wt,si⟩ now order).2])/\Ext w w':=by
 have gf:(0:Int)<=0/\ (0:Int)<=1099511627776:=by omega
 go_enter func86,ntmps86;have e2:(order==2)=false:=by simp;omega
 have e3:(order==3)=false:=by simp;omega
 go_wp2_with (first|(go_at_call 121;(with_reducible refine(Es _ _ _ _ _ hl (hs.ext Xt)).mono ?_);rintro e w1 ⟨rfl,h1⟩;obtain⟨hc1,aA,hz1⟩:=cp h1;(try simp at hz1);(try have kr:w.heap.size<w1.heap.size:=by omega);(try have jN:w.heap.size+1<w1.heap.size:=by omega);(try have ku:w.heap.size+2<w1.heap.size:=by omega);(try have kv:w.heap.size+3<w1.heap.size:=by omega))|(go_at_call 20;(with_reducible refine(BG ⟨sb,cm,ph,sp,wt,si⟩ _).mono ?_);rintro e w1 ⟨rfl,h1⟩;obtain⟨hc1,aA,hz1⟩:=cp h1;(try simp at hz1);(try have kr:w.heap.size<w1.heap.size:=by omega);(try have jN:w.heap.size+1<w1.heap.size:=by omega);(try have ku:w.heap.size+2<w1.heap.size:=by omega);(try have kv:w.heap.size+3<w1.heap.size:=by omega))|(go_at_call 122;(with_reducible refine(vS _ _).mono ?_);rintro e w1 ⟨rfl,h1⟩;obtain⟨hc1,aA,hz1⟩:=cp h1;(try simp at hz1);(try have kr:w.heap.size<w1.heap.size:=by omega);(try have jN:w.heap.size+1<w1.heap.size:=by omega);(try have ku:w.heap.size+2<w1.heap.size:=by omega);(try have kv:w.heap.size+3<w1.heap.size:=by omega)))
 go_loopg [3] xs.length (fun g o wr=>∃(s':St) (jy:Int) (k:Nat),o= .int .i64 jy/\s'.sp=(k:Int)/\xs.length<=g+k/\
  af wr w.heap.size #[.string im, .slice a xs.length cap] 50/\
  af wr (w.heap.size+1) #[.string s'.sb, .string s'.cm, .int .i64 s'.ph, .int .i64 s'.sp, .int .i64 s'.wt, .int .i64 s'.si] 39/\
  af wr (w.heap.size+2) #[.string ⟨#[]⟩, .string ⟨#[]⟩, .int .i64 0, .int .i64 0, .int .i64 0, .int .i64 0] 39/\
  Ext w wr/\0<=s'.si/\s'.si<=1099511627776/\oL xs now s' jy r)
 case atStart=>
  have EB:=HR.out;obtain⟨h0,-⟩:=HR.out;obtain⟨k,hk⟩:=Int.eq_ofNat_of_zero_le h0;exact⟨(⟨sb,im,2,0,0,0⟩:St),order,k,rfl,hk,by omega,aj,aj,aj,Xt,gf.1,gf.2,EB⟩
 case round=>
  obtain⟨⟨tq,tu,xR,sp',uy,nB⟩,jy,k,rfl,hsp,EC,ag,ai,ak,hx,ED,EE,hrun⟩:=hrel;obtain rfl:sp'=(k:Int):=hsp;simp only at ED EE;have Hr:=ae hrun;clear hrun hc1 aA;have hc0:=ag.cells;have aw:=ag.free;have hc1:=ai.cells;have aA:=ai.free;have hc2:=ak.cells;have hf2:=ak.free;have hl0:=ag.lt;have ay:=ai.lt;have hl2:=ak.lt;by_cases hlt:k<xs.length
  ·obtain⟨b,o,rfl,hc⟩:∃b o,a=some ⟨b,o,none⟩/\∀i,i<xs.length->w.cell? ⟨b,o+i*2,none⟩=some (.int .i64 (xs.getD i (0,0)).1)/\w.cell? ⟨b,o+i*2+1,none⟩=some (.int .i64 (xs.getD i (0,0)).2):=hs.resolve_left (by intro e;subst e;simp at hlt)
   obtain⟨d0,d1⟩:=hc k hlt;have d0:=hx.cell d0;have d1:=hx.cell d1;have aP:=ae (Hr.out.step k rfl hlt);clear hc hs;by_cases h0:0<=xs[k].1
   ·go_wp2
    go_roundg (gk-1)
    case measure=>omega
    case rel=>exact⟨⟨tq,tu,2,(k:Int)+1,xs[k].1,0⟩,jy,k+1,rfl,by simp,by omega,aj,aj,aj,Xt,by simp,by simp,(aP.out).1 h0⟩
   ·by_cases h3:xR=3
    ·subst h3
     by_cases ho:jy=1
     ·subst ho
      go_wp2;go_roundg (gk-1)
      case measure=>omega
      case rel=>exact⟨⟨tq,tu,2,(k:Int)+1,uy,0⟩,0,k+1,rfl,by simp,by omega,aj,aj,aj,Xt,by simp,by simp,(aP.out).2.2.1 (by omega) (by trivial) (by trivial)⟩
     ·have ho':(jy==1)=false:=by simpa using ho
      by_cases hp:xs[k].2=0\/now<nB\/now-nB<xs[k].2
      ·have Hp:=ae hp
       clear hp;go_wp2
       all_goals first
        |(refine aF (h:= ?_)
          refine⟨uA ?_,Xt⟩
          rw [Hn.out,(aP.out).2.2.2.1 (by omega) (by trivial) ho Hp.out])
        |(exfalso
          have:=Hp.out;go_light
          grind)
      ·obtain⟨hp1,hp2,vT⟩:xs[k].2≠0/\nB<=now/\xs[k].2<=now-nB:=by omega
       have Uv:(xs[k].2==0)=false:=by simpa using hp1
       go_wp2;go_roundg (gk-1)
       case measure=>omega
       case rel=>exact⟨⟨tq,tu,2,(k:Int)+1,uy,0⟩,jy,k+1,rfl,by simp,by omega,aj,aj,aj,Xt,by simp,by simp,(aP.out).2.2.2.2 (by omega) (by trivial) ho hp⟩
    ·have h3':(xR !=3)=true:=by simpa using h3
     go_wp2;refine aF (h:= ?_);refine⟨uA ?_,Xt⟩;rw [Hn.out,(aP.out).2.1 (by omega) h3]
  ·go_wp2_with (go_at_call 122;(with_reducible refine(vS _ _).mono ?_);rintro e w1 ⟨rfl,h1⟩;obtain⟨hc1,aA,hz1⟩:=cp h1;(try simp at hz1);(try have kr:w.heap.size<w1.heap.size:=by omega);(try have jN:w.heap.size+1<w1.heap.size:=by omega);(try have ku:w.heap.size+2<w1.heap.size:=by omega);(try have kv:w.heap.size+3<w1.heap.size:=by omega))
   refine aF (h:= ?_);refine⟨uA ?_,Xt⟩;rw [Hn.out,Hr.out.out (by simpa using hlt)];rfl
theorem aeE (im sb:ah) (a:au) (cap:Nat) (xs:List (Int×Int)) (sp wt si:Int) (now order:Int) (w:World) (hl:xs.length<=9223372036854775807) (hs:StepsIn w a xs)
 (hG:kq im xs=true) (hT:iy ⟨sb,im,2,sp,wt,si⟩=true) (Ut:0<=now) (Uu:now<=1099511627776) (ho0:0<=order) (sw:order<=1) (gf:0<=si/\si<=1099511627776)
 (r:St) (HR:Hid (oL xs now ⟨sb,im,2,sp,wt,si⟩ order r)) (Hn:Hid (fD im xs ⟨sb,im,2,sp,wt,si⟩ now order=(r,0))):
 Calls prog 86 #[.agg #[.string im, .slice a xs.length cap], .agg #[.string sb, .string im, .int .i64 2, .int .i64 sp, .int .i64 wt, .int .i64 si], .int .i64 now, .int .i64 order] w fun e w'=>e= .returned (.tuple #[(fD im xs ⟨sb,im,2,sp,wt,si⟩ now order).1.val, .int .i64 (fD im xs ⟨sb,im,2,sp,wt,si⟩ now order).2])/\Ext w w':=by
 go_enter func86,ntmps86;have e2:(order==2)=false:=by simp;omega
 have e3:(order==3)=false:=by simp;omega
 go_wp2_with (first|(go_at_call 121;(with_reducible refine(Es _ _ _ _ _ hl (hs.ext Xt)).mono ?_);rintro e w1 ⟨rfl,h1⟩;obtain⟨hc1,aA,hz1⟩:=cp h1;(try simp at hz1);(try have kr:w.heap.size<w1.heap.size:=by omega);(try have jN:w.heap.size+1<w1.heap.size:=by omega);(try have ku:w.heap.size+2<w1.heap.size:=by omega);(try have kv:w.heap.size+3<w1.heap.size:=by omega))|(go_at_call 20;(with_reducible refine(BG ⟨sb,im,2,sp,wt,si⟩ _).mono ?_);rintro e w1 ⟨rfl,h1⟩;obtain⟨hc1,aA,hz1⟩:=cp h1;(try simp at hz1);(try have kr:w.heap.size<w1.heap.size:=by omega);(try have jN:w.heap.size+1<w1.heap.size:=by omega);(try have ku:w.heap.size+2<w1.heap.size:=by omega);(try have kv:w.heap.size+3<w1.heap.size:=by omega))|(go_at_call 122;(with_reducible refine(vS _ _).mono ?_);rintro e w1 ⟨rfl,h1⟩;obtain⟨hc1,aA,hz1⟩:=cp h1;(try simp at hz1);(try have kr:w.heap.size<w1.heap.size:=by omega);(try have jN:w.heap.size+1<w1.heap.size:=by omega);(try have ku:w.heap.size+2<w1.heap.size:=by omega);(try have kv:w.heap.size+3<w1.heap.size:=by omega)))
 go_loopg [3] xs.length (fun g o wr=>∃(s':St) (jy:Int) (k:Nat),o= .int .i64 jy/\s'.sp=(k:Int)/\xs.length<=g+k/\
  af wr w.heap.size #[.string im, .slice a xs.length cap] 50/\
  af wr (w.heap.size+1) #[.string s'.sb, .string s'.cm, .int .i64 s'.ph, .int .i64 s'.sp, .int .i64 s'.wt, .int .i64 s'.si] 39/\
  af wr (w.heap.size+2) #[.string ⟨#[]⟩, .string ⟨#[]⟩, .int .i64 0, .int .i64 0, .int .i64 0, .int .i64 0] 39/\
  Ext w wr/\0<=s'.si/\s'.si<=1099511627776/\oL xs now s' jy r)
 case atStart=>
  have EB:=HR.out;obtain⟨h0,-⟩:=HR.out;obtain⟨k,hk⟩:=Int.eq_ofNat_of_zero_le h0;exact⟨(⟨sb,im,2,sp,wt,si⟩:St),order,k,rfl,hk,by omega,aj,aj,aj,Xt,gf.1,gf.2,EB⟩
 case round=>
  obtain⟨⟨tq,tu,xR,sp',uy,nB⟩,jy,k,rfl,hsp,EC,ag,ai,ak,hx,ED,EE,hrun⟩:=hrel;obtain rfl:sp'=(k:Int):=hsp;simp only at ED EE;have Hr:=ae hrun;clear hrun hc1 aA;have hc0:=ag.cells;have aw:=ag.free;have hc1:=ai.cells;have aA:=ai.free;have hc2:=ak.cells;have hf2:=ak.free;have hl0:=ag.lt;have ay:=ai.lt;have hl2:=ak.lt;by_cases hlt:k<xs.length
  ·obtain⟨b,o,rfl,hc⟩:∃b o,a=some ⟨b,o,none⟩/\∀i,i<xs.length->w.cell? ⟨b,o+i*2,none⟩=some (.int .i64 (xs.getD i (0,0)).1)/\w.cell? ⟨b,o+i*2+1,none⟩=some (.int .i64 (xs.getD i (0,0)).2):=hs.resolve_left (by intro e;subst e;simp at hlt)
   obtain⟨d0,d1⟩:=hc k hlt;have d0:=hx.cell d0;have d1:=hx.cell d1;have aP:=ae (Hr.out.step k rfl hlt);clear hc hs;by_cases h0:0<=xs[k].1
   ·go_wp2
    go_roundg (gk-1)
    case measure=>omega
    case rel=>exact⟨⟨tq,tu,2,(k:Int)+1,xs[k].1,0⟩,jy,k+1,rfl,by simp,by omega,aj,aj,aj,Xt,by simp,by simp,(aP.out).1 h0⟩
   ·by_cases h3:xR=3
    ·subst h3
     by_cases ho:jy=1
     ·subst ho
      go_wp2;go_roundg (gk-1)
      case measure=>omega
      case rel=>exact⟨⟨tq,tu,2,(k:Int)+1,uy,0⟩,0,k+1,rfl,by simp,by omega,aj,aj,aj,Xt,by simp,by simp,(aP.out).2.2.1 (by omega) (by trivial) (by trivial)⟩
     ·have ho':(jy==1)=false:=by simpa using ho
      by_cases hp:xs[k].2=0\/now<nB\/now-nB<xs[k].2
      ·have Hp:=ae hp
       clear hp;go_wp2
       all_goals first
        |(refine aF (h:= ?_)
          refine⟨uA ?_,Xt⟩
          rw [Hn.out,(aP.out).2.2.2.1 (by omega) (by trivial) ho Hp.out])
        |(exfalso
          have:=Hp.out;go_light
          grind)
      ·obtain⟨hp1,hp2,vT⟩:xs[k].2≠0/\nB<=now/\xs[k].2<=now-nB:=by omega
       have Uv:(xs[k].2==0)=false:=by simpa using hp1
       go_wp2;go_roundg (gk-1)
       case measure=>omega
       case rel=>exact⟨⟨tq,tu,2,(k:Int)+1,uy,0⟩,jy,k+1,rfl,by simp,by omega,aj,aj,aj,Xt,by simp,by simp,(aP.out).2.2.2.2 (by omega) (by trivial) ho hp⟩
    ·have h3':(xR !=3)=true:=by simpa using h3
     go_wp2;refine aF (h:= ?_);refine⟨uA ?_,Xt⟩;rw [Hn.out,(aP.out).2.1 (by omega) h3]
  ·go_wp2_with (go_at_call 122;(with_reducible refine(vS _ _).mono ?_);rintro e w1 ⟨rfl,h1⟩;obtain⟨hc1,aA,hz1⟩:=cp h1;(try simp at hz1);(try have kr:w.heap.size<w1.heap.size:=by omega);(try have jN:w.heap.size+1<w1.heap.size:=by omega);(try have ku:w.heap.size+2<w1.heap.size:=by omega);(try have kv:w.heap.size+3<w1.heap.size:=by omega))
   refine aF (h:= ?_);refine⟨uA ?_,Xt⟩;rw [Hn.out,Hr.out.out (by simpa using hlt)];rfl
theorem aeF (im sb:ah) (a:au) (cap:Nat) (xs:List (Int×Int)) (sp wt si:Int) (now order:Int) (w:World) (hl:xs.length<=9223372036854775807) (hs:StepsIn w a xs)
 (hG:kq im xs=true) (hT:iy ⟨sb,im,3,sp,wt,si⟩=true) (Ut:0<=now) (Uu:now<=1099511627776) (ho0:0<=order) (sw:order<=1) (gf:0<=si/\si<=1099511627776)
 (r:St) (HR:Hid (oL xs now ⟨sb,im,3,sp,wt,si⟩ order r)) (Hn:Hid (fD im xs ⟨sb,im,3,sp,wt,si⟩ now order=(r,0))):
 Calls prog 86 #[.agg #[.string im, .slice a xs.length cap], .agg #[.string sb, .string im, .int .i64 3, .int .i64 sp, .int .i64 wt, .int .i64 si], .int .i64 now, .int .i64 order] w fun e w'=>e= .returned (.tuple #[(fD im xs ⟨sb,im,3,sp,wt,si⟩ now order).1.val, .int .i64 (fD im xs ⟨sb,im,3,sp,wt,si⟩ now order).2])/\Ext w w':=by
 go_enter func86,ntmps86;have e2:(order==2)=false:=by simp;omega
 have e3:(order==3)=false:=by simp;omega
 go_wp2_with (first|(go_at_call 121;(with_reducible refine(Es _ _ _ _ _ hl (hs.ext Xt)).mono ?_);rintro e w1 ⟨rfl,h1⟩;obtain⟨hc1,aA,hz1⟩:=cp h1;(try simp at hz1);(try have kr:w.heap.size<w1.heap.size:=by omega);(try have jN:w.heap.size+1<w1.heap.size:=by omega);(try have ku:w.heap.size+2<w1.heap.size:=by omega);(try have kv:w.heap.size+3<w1.heap.size:=by omega))|(go_at_call 20;(with_reducible refine(BG ⟨sb,im,3,sp,wt,si⟩ _).mono ?_);rintro e w1 ⟨rfl,h1⟩;obtain⟨hc1,aA,hz1⟩:=cp h1;(try simp at hz1);(try have kr:w.heap.size<w1.heap.size:=by omega);(try have jN:w.heap.size+1<w1.heap.size:=by omega);(try have ku:w.heap.size+2<w1.heap.size:=by omega);(try have kv:w.heap.size+3<w1.heap.size:=by omega))|(go_at_call 122;(with_reducible refine(vS _ _).mono ?_);rintro e w1 ⟨rfl,h1⟩;obtain⟨hc1,aA,hz1⟩:=cp h1;(try simp at hz1);(try have kr:w.heap.size<w1.heap.size:=by omega);(try have jN:w.heap.size+1<w1.heap.size:=by omega);(try have ku:w.heap.size+2<w1.heap.size:=by omega);(try have kv:w.heap.size+3<w1.heap.size:=by omega)))
 go_loopg [3] xs.length (fun g o wr=>∃(s':St) (jy:Int) (k:Nat),o= .int .i64 jy/\s'.sp=(k:Int)/\xs.length<=g+k/\
  af wr w.heap.size #[.string im, .slice a xs.length cap] 50/\
  af wr (w.heap.size+1) #[.string s'.sb, .string s'.cm, .int .i64 s'.ph, .int .i64 s'.sp, .int .i64 s'.wt, .int .i64 s'.si] 39/\
  af wr (w.heap.size+2) #[.string ⟨#[]⟩, .string ⟨#[]⟩, .int .i64 0, .int .i64 0, .int .i64 0, .int .i64 0] 39/\
  Ext w wr/\0<=s'.si/\s'.si<=1099511627776/\oL xs now s' jy r)
 case atStart=>
  have EB:=HR.out;obtain⟨h0,-⟩:=HR.out;obtain⟨k,hk⟩:=Int.eq_ofNat_of_zero_le h0;exact⟨(⟨sb,im,3,sp,wt,si⟩:St),order,k,rfl,hk,by omega,aj,aj,aj,Xt,gf.1,gf.2,EB⟩
 case round=>
  obtain⟨⟨tq,tu,xR,sp',uy,nB⟩,jy,k,rfl,hsp,EC,ag,ai,ak,hx,ED,EE,hrun⟩:=hrel;obtain rfl:sp'=(k:Int):=hsp;simp only at ED EE;have Hr:=ae hrun;clear hrun hc1 aA;have hc0:=ag.cells;have aw:=ag.free;have hc1:=ai.cells;have aA:=ai.free;have hc2:=ak.cells;have hf2:=ak.free;have hl0:=ag.lt;have ay:=ai.lt;have hl2:=ak.lt;by_cases hlt:k<xs.length
  ·obtain⟨b,o,rfl,hc⟩:∃b o,a=some ⟨b,o,none⟩/\∀i,i<xs.length->w.cell? ⟨b,o+i*2,none⟩=some (.int .i64 (xs.getD i (0,0)).1)/\w.cell? ⟨b,o+i*2+1,none⟩=some (.int .i64 (xs.getD i (0,0)).2):=hs.resolve_left (by intro e;subst e;simp at hlt)
   obtain⟨d0,d1⟩:=hc k hlt;have d0:=hx.cell d0;have d1:=hx.cell d1;have aP:=ae (Hr.out.step k rfl hlt);clear hc hs;by_cases h0:0<=xs[k].1
   ·go_wp2
    go_roundg (gk-1)
    case measure=>omega
    case rel=>exact⟨⟨tq,tu,2,(k:Int)+1,xs[k].1,0⟩,jy,k+1,rfl,by simp,by omega,aj,aj,aj,Xt,by simp,by simp,(aP.out).1 h0⟩
   ·by_cases h3:xR=3
    ·subst h3
     by_cases ho:jy=1
     ·subst ho
      go_wp2;go_roundg (gk-1)
      case measure=>omega
      case rel=>exact⟨⟨tq,tu,2,(k:Int)+1,uy,0⟩,0,k+1,rfl,by simp,by omega,aj,aj,aj,Xt,by simp,by simp,(aP.out).2.2.1 (by omega) (by trivial) (by trivial)⟩
     ·have ho':(jy==1)=false:=by simpa using ho
      by_cases hp:xs[k].2=0\/now<nB\/now-nB<xs[k].2
      ·have Hp:=ae hp
       clear hp;go_wp2
       all_goals first
        |(refine aF (h:= ?_)
          refine⟨uA ?_,Xt⟩
          rw [Hn.out,(aP.out).2.2.2.1 (by omega) (by trivial) ho Hp.out])
        |(exfalso
          have:=Hp.out;go_light
          grind)
      ·obtain⟨hp1,hp2,vT⟩:xs[k].2≠0/\nB<=now/\xs[k].2<=now-nB:=by omega
       have Uv:(xs[k].2==0)=false:=by simpa using hp1
       go_wp2;go_roundg (gk-1)
       case measure=>omega
       case rel=>exact⟨⟨tq,tu,2,(k:Int)+1,uy,0⟩,jy,k+1,rfl,by simp,by omega,aj,aj,aj,Xt,by simp,by simp,(aP.out).2.2.2.2 (by omega) (by trivial) ho hp⟩
    ·have h3':(xR !=3)=true:=by simpa using h3
     go_wp2;refine aF (h:= ?_);refine⟨uA ?_,Xt⟩;rw [Hn.out,(aP.out).2.1 (by omega) h3]
  ·go_wp2_with (go_at_call 122;(with_reducible refine(vS _ _).mono ?_);rintro e w1 ⟨rfl,h1⟩;obtain⟨hc1,aA,hz1⟩:=cp h1;(try simp at hz1);(try have kr:w.heap.size<w1.heap.size:=by omega);(try have jN:w.heap.size+1<w1.heap.size:=by omega);(try have ku:w.heap.size+2<w1.heap.size:=by omega);(try have kv:w.heap.size+3<w1.heap.size:=by omega))
   refine aF (h:= ?_);refine⟨uA ?_,Xt⟩;rw [Hn.out,Hr.out.out (by simpa using hlt)];rfl
theorem toList_inj {a b:ah} (h:a.toList=b.toList):a=b:=by
 rw [ByteArray.toList_eq,ByteArray.toList_eq] at h;exact ByteArray.ext (Array.toList_inj.1 h)
theorem aec (im:ah) (a:au) (cap:Nat) (xs:List (Int×Int)) (s:St) (now order:Int) (w:World) (hl:xs.length<=9223372036854775807) (hs:StepsIn w a xs):
 Calls prog 86 #[.agg #[.string im, .slice a xs.length cap], .agg #[.string s.sb, .string s.cm, .int .i64 s.ph, .int .i64 s.sp, .int .i64 s.wt, .int .i64 s.si], .int .i64 now, .int .i64 order] w fun e w'=>e= .returned (.tuple #[(fD im xs s now order).1.val, .int .i64 (fD im xs s now order).2])/\Ext w w':=by
 by_cases hL:Ni im xs s now order
 ·obtain⟨hG,hT,h0,h1,ho0,sw,hd,hp⟩:=hL
  have hn:fD im xs s now order=(rq now (xs.drop (cS im s).sp.toNat) (cS im s) order,0):=by
   simp only [fD]
   grind
  have hR:oL xs now (cS im s) order (rq now (xs.drop (cS im s).sp.toNat) (cS im s) order):=by
   refine⟨?_,rfl⟩;simp only [cS,iy] at*
   grind
  obtain⟨sb,cm,ph,sp,wt,si⟩:=s;have gf:0<=si/\si<=1099511627776:=by
   simp only [iy] at hT
   grind
  by_cases him:im.toList=cm.toList
  ·obtain rfl:=toList_inj him
   simp only [cS,if_true] at hn hR hp;rcases hp with rfl|rfl
   ·exact aeE im sb a cap xs sp wt si now order w hl hs hG hT h0 h1 ho0 sw gf _ hR hn
   ·exact aeF im sb a cap xs sp wt si now order w hl hs hG hT h0 h1 ho0 sw gf _ hR hn
  ·simp only [cS,if_neg him] at hn hR hp
   exact aeD im sb cm a cap xs ph sp wt si now order w hl hs hG hT h0 h1 ho0 sw (by simpa using him) (by grind) _ hR hn
 ·exact aeC im a cap xs s now order w hl hs hL
end Go.Proofs.YtlcebdaghmdkeabGreatDoor
