import Derived.Test.YtlcebdaghmdkeabGreatDoorM13
import Derived.Test.YtlcebdaghmdkeabGreatDoorM15
import Derived.Test.YtlcebdaghmdkeabGreatDoorM16
set_option linter.all false
set_option maxRecDepth 100000
set_option maxHeartbeats 64000000
namespace Go.Proofs.YtlcebdaghmdkeabGreatDoor
open Go.Proofs.Tryz
open Go.RowKit
theorem Sq (im:ah) (a:aq) (n cap:Nat) (xs:List (Int×Int)) (w:World) (hl:xs.length<=9223372036854775807) (hs:StepsIn w a xs) (hn:n=xs.length):
 Calls prog 121 #[.agg #[.string im, .slice a n cap]] w fun e w'=>e= .returned (.bool (j5 im xs))/\Ext w w':=by
 subst hn;exact De im a cap xs w hl hs
theorem LH {im:ah} {a:aq} {n cap:Nat} {xs:List (Int×Int)} {s r:St} {now order e:Int} (hr:fy im xs s now order=(r,e)) (w:World) (hl:xs.length<=9223372036854775807) (hs:StepsIn w a xs) (hn:n=xs.length):
 Calls prog 86 #[.agg #[.string im, .slice a n cap], .agg #[.string s.sb, .string s.cm, .int .i64 s.ph, .int .i64 s.sp, .int .i64 s.wt, .int .i64 s.si], .int .i64 now, .int .i64 order] w
  fun x w'=>x= .returned (.tuple #[.agg #[.string r.sb, .string r.cm, .int .i64 r.ph, .int .i64 r.sp, .int .i64 r.wt, .int .i64 r.si], .int .i64 e])/\Ext w w':=by
 subst hn;have:=ac3 im a cap xs s now order w hl hs;rw [hr] at this;exact this
theorem ac2 (im:ah) (a:aq) (n cap:Nat) (xs:List (Int×Int)) (w:World) (hl:xs.length<=9223372036854775807) (hs:StepsIn w a xs) (hn:n=xs.length) (hG:j5 im xs=true):
 Calls prog 83 #[.agg #[.string im, .slice a n cap]] w fun e w'=>e= .returned (.tuple #[.agg #[.string im, .string im, .int .i64 1, .int .i64 0, .int .i64 100, .int .i64 0], .int .i64 0])/\Ext w w':=by
 have Hn:=ae hn;clear hn;go_enter func83,ntmps83;go_wp2_with (first|(go_at_call 121;(with_reducible refine(Sq _ _ _ _ _ _ hl (hs.ext Xt) Hn.out).mono ?_);rintro e w1 ⟨rfl,h1⟩;obtain⟨hc1,aA,hz1⟩:=bZ h1;(try simp at hz1);(try have j6:w.heap.size<w1.heap.size:=by omega);(try have gB:w.heap.size+1<w1.heap.size:=by omega);(try have kf:w.heap.size+2<w1.heap.size:=by omega);(try have kg:w.heap.size+3<w1.heap.size:=by omega))|(go_at_call 122;(with_reducible refine(uL _ _).mono ?_);rintro e w1 ⟨rfl,h1⟩;obtain⟨hc1,aA,hz1⟩:=bZ h1;(try simp at hz1);(try have j6:w.heap.size<w1.heap.size:=by omega);(try have gB:w.heap.size+1<w1.heap.size:=by omega);(try have kf:w.heap.size+2<w1.heap.size:=by omega);(try have kg:w.heap.size+3<w1.heap.size:=by omega)));refine aF (h:= ?_);exact⟨rfl,Xt⟩
theorem ac1 (im:ah) (a:aq) (n cap:Nat) (xs:List (Int×Int)) (w:World) (hl:xs.length<=9223372036854775807) (hs:StepsIn w a xs) (hn:n=xs.length) (hG:j5 im xs=false):
 Calls prog 83 #[.agg #[.string im, .slice a n cap]] w fun e w'=>e= .returned (.tuple #[.agg #[.string ⟨#[]⟩, .string ⟨#[]⟩, .int .i64 0, .int .i64 0, .int .i64 0, .int .i64 0], .int .i64 1])/\Ext w w':=by
 have Hn:=ae hn;clear hn;go_enter func83,ntmps83;go_wp2_with (first|(go_at_call 121;(with_reducible refine(Sq _ _ _ _ _ _ hl (hs.ext Xt) Hn.out).mono ?_);rintro e w1 ⟨rfl,h1⟩;obtain⟨hc1,aA,hz1⟩:=bZ h1;(try simp at hz1);(try have j6:w.heap.size<w1.heap.size:=by omega);(try have gB:w.heap.size+1<w1.heap.size:=by omega);(try have kf:w.heap.size+2<w1.heap.size:=by omega);(try have kg:w.heap.size+3<w1.heap.size:=by omega))|(go_at_call 122;(with_reducible refine(uL _ _).mono ?_);rintro e w1 ⟨rfl,h1⟩;obtain⟨hc1,aA,hz1⟩:=bZ h1;(try simp at hz1);(try have j6:w.heap.size<w1.heap.size:=by omega);(try have gB:w.heap.size+1<w1.heap.size:=by omega);(try have kf:w.heap.size+2<w1.heap.size:=by omega);(try have kg:w.heap.size+3<w1.heap.size:=by omega)));refine aF (h:= ?_);exact⟨rfl,Xt⟩
end Go.Proofs.YtlcebdaghmdkeabGreatDoor
namespace Go.Proofs.YtlcebdaghmdkeabGreatDoor
open Go.RowKit
theorem MH {a b:ah} (h:a.toList=b.toList):a=b:=by
 rw [ByteArray.toList_eq,ByteArray.toList_eq] at h;exact ByteArray.ext (Array.toList_inj.1 h)
theorem Uu {im:ah} {xs:List (Int×Int)} {s:St} {now o:Int} {r:St} (h:fy im xs s now o=(r,0)):
 (r.sb=s.sb\/ (r.ph=1/\r.sb=im))/\r.cm=im/\ (im=s.cm-> (r.ph=2\/r.ph=3)->s.sp<=r.sp)/\ (r.ph=1->r.wt=100)/\ (r.ph=4->r.wt=0)/\ (r.ph=1↔r.sb=r.cm):=by
 have hr:=LI h;simp only [iG,decide_eq_true_eq] at hr;obtain⟨hG,hT,h0,h1,ho0,rA,hc⟩:=Sy h;have hT':=hT;simp only [iG,decide_eq_true_eq] at hT';have AE:(cO im s).sb=s.sb:=by simp only [cO];split<;>rfl
 have hcm:(cO im s).cm=im:=by
  simp only [cO]
  split
  ·rename_i e;exact(MH e).symm
  ·rfl
 have hsp:0<= (cO im s).sp:=by simp only [cO];split<;>grind
 have hsq:im=s.cm->cO im s=s:=fun e=>by rw [cO,if_pos (by rw [e])]
 have ae7:r.ph=1↔r.sb=r.cm:=by
  have e:r.sb=r.cm↔r.sb.toList=r.cm.toList:=⟨fun e=>by rw [e],MH⟩;rw [e];obtain⟨-,-,-,-,-,-,-,-,-,h⟩:=hr;rcases h with h|h|h
  ·exact⟨fun _=>h.2.1,fun _=>h.1⟩
  ·exact⟨fun q=>by omega,fun q=>absurd q h.2.2.2⟩
  ·exact⟨fun q=>by omega,fun q=>absurd q h.2⟩
 have hw1:r.ph=1->r.wt=100:=fun q=>by
  obtain⟨-,-,-,-,-,-,-,-,-,h⟩:=hr;rcases h with h|h|h
  ·exact h.2.2.1
  ·omega
  ·omega
 have hw4:r.ph=4->r.wt=0:=fun q=>by obtain⟨-,-,-,-,-,-,-,-,-,h⟩:=hr;rcases h with h|h|h<;>omega
 refine⟨?_,?_,?_,hw1,hw4,ae7⟩
 ·rcases hc with⟨ha,hb,rfl⟩|⟨ha,⟨hp2,uM,rfl⟩|⟨hp,⟨rfl,rfl⟩|⟨rfl,rfl⟩|⟨ho,hr⟩⟩⟩
  ·exact .inl rfl
  ·exact .inl AE
  ·exact .inr ⟨rfl,hcm⟩
  ·exact .inl AE
  ·obtain⟨k,hk⟩:=Int.eq_ofNat_of_zero_le hsp
   have hk':(cO im s).sp.toNat=k:=by omega
   rw [hk'] at hr;have he:=Gd xs now _ k (cO im s) o (Nat.le_refl _) hk;rw [<-hr] at he;rcases he with hd|⟨j,hj,wt,si,hkj,hx,yT,hw,fS⟩
   ·rw [hd];exact .inr ⟨rfl,hcm⟩
   ·rw [yT];exact .inl AE
 ·rcases hc with⟨ha,hb,rfl⟩|⟨ha,⟨hp2,uM,rfl⟩|⟨hp,⟨rfl,rfl⟩|⟨rfl,rfl⟩|⟨ho,hr⟩⟩⟩
  ·exact(MH hb).symm
  ·exact hcm
  ·exact hcm
  ·exact hcm
  ·obtain⟨k,hk⟩:=Int.eq_ofNat_of_zero_le hsp
   have hk':(cO im s).sp.toNat=k:=by omega
   rw [hk'] at hr;have he:=Gd xs now _ k (cO im s) o (Nat.le_refl _) hk;rw [<-hr] at he;rcases he with hd|⟨j,hj,wt,si,hkj,hx,yT,hw,fS⟩
   ·rw [hd];exact hcm
   ·rw [yT];exact hcm
 ·intro hi GF
  have e:=hsq hi;rw [e] at hc;rcases hc with⟨ha,hb,rfl⟩|⟨ha,⟨hp2,uM,rfl⟩|⟨hp,⟨rfl,rfl⟩|⟨rfl,rfl⟩|⟨ho,hr⟩⟩⟩
  ·exact absurd (by rw [hi]) ha
  ·exact Int.le_refl _
  ·simp [pE] at GF
  ·simp at GF
  ·obtain⟨k,hk⟩:=Int.eq_ofNat_of_zero_le hT'.2.2.1
   have hk':s.sp.toNat=k:=by omega
   rw [hk'] at hr;have he:=Gd xs now _ k s o (Nat.le_refl _) hk;rw [<-hr] at he;rcases he with hd|⟨j,hj,wt,si,hkj,hx,yT,hw,fS⟩
   ·rw [hd] at GF;simp [pE] at GF
   ·rw [yT];simp only;omega
theorem U6:∀ {l:List V} {xs:List (Int×Int)},mP l=some xs->xs.length=l.length/\oQ xs=true
 | [],xs,h=>by simp only [mP,Option.some.injEq] at h;subst h;exact⟨rfl,rfl⟩
 |x::r,xs,h=>by
  simp only [mP] at h
  cases hs:stepOf x with
  |none=>rw [hs] at h;cases h
  |some p=>
   cases hr:mP r with
   |none=>rw [hs,hr] at h;cases h
   |some l=>
    rw [hs,hr] at h;simp only [Option.some.injEq] at h;subst h;obtain⟨h1,h2⟩:=U6 hr;refine⟨by simp [h1],?_⟩;have hp:lV p.1 p.2=true:=by
     unfold stepOf at hs
     split at hs
     ·split at hs
      ·split at hs
       ·rename_i h;simp only [Option.some.injEq] at hs;subst hs;exact h.2.2
       ·cases hs
      ·cases hs
     ·split at hs
      ·rename_i h;simp only [Option.some.injEq] at hs;subst hs;exact h.2.2
      ·cases hs
    unfold oQ at h2⊢;rw [List.all_cons,h2,hp];rfl
theorem My {x:V} (h:dD x≠none):j5 (mN (dD x)) (ia (dD x))=true/\x.fine=true/\x.k=5:=by
 cases hs:dD x with
 |none=>exact absurd hs h
 |some p=>
  unfold dD at hs
  split at hs
  ·rename_i hf
   split at hs
   ·cases hs
   ·rename_i i hi
    have hk:x.k=5:=Classical.byContradiction fun hk=>by rw [O1 hk] at hi;cases hi
    split at hs
    ·rename_i h3
     have hsz:i.s.size<=60:=by obtain⟨d,hd⟩:=gG hf;rw [V.sP,Bool.and_eq_true,List.all_eq_true] at hd;have hg:=hd.2 i (xp hi);rw [V.sP,Bool.and_eq_true] at hg;have hfl:=hg.1;unfold V.flat at hfl;simp only [g3,Bool.and_eq_true,Bool.not_eq_true',Bool.or_eq_false_iff,Bool.not_eq_false'] at hfl;exact xJ (by simp_all)
     split at hs
     ·simp only [Option.some.injEq] at hs
      subst hs;refine⟨?_,hf,hk⟩;simp [j5,mN,ia,oQ,h3.2,hsz]
     ·rename_i t ht
      split at hs
      ·rename_i h4
       split at hs
       ·rename_i xs hxs
        simp only [Option.some.injEq] at hs;subst hs;obtain⟨h5,h6⟩:=U6 hxs;refine⟨?_,hf,hk⟩;simp [j5,mN,ia,h3.2,hsz,h6,h5,h4.2]
       ·cases hs
      ·cases hs
    ·cases hs
  ·cases hs
theorem aeH {im:ah} {xs:List (Int×Int)} (h:j5 im xs=true):iG (wL im xs)=true/\ (wL im xs).cm=im:=by
 obtain⟨g1,g2,g3,g4⟩:=Sw h;unfold wL;rw [if_pos h];refine⟨?_,rfl⟩;simp [iG,g1]
end Go.Proofs.YtlcebdaghmdkeabGreatDoor
namespace Go.Proofs.YtlcebdaghmdkeabGreatDoor
open Go.Proofs.Tryz
open Go.RowKit
attribute [local go_sem↓] Go.wp_at_zero Go.wp_at_succ
theorem uK.val {r:Option (ah×List (Int×Int))} {w w':World} {e:Ending} (h:uK r w e w'):
 ∃a n c,e= .returned (.tuple #[.agg #[.string (mN r), .slice a n c], .int .i64 (yS r)])/\ (ia r).length=n/\StepsIn w' a (ia r)/\ (∀p:Addr,a=some p->w.heap.size<=p.block)/\Ext w w':=by
 rcases h with⟨im,xs,a,n,c,rfl,h1,h2,h3,h5,h4⟩|⟨rfl,h2,h4⟩
 ·exact⟨a,n,c,h2,h1,h3,h5,h4⟩
 ·exact⟨none,0,0,h2,rfl, .inl rfl,(fun _ h=>by cases h),h4⟩
def Sp (s:St) (er:Int) (w:World) (e:Ending) (w':World):Prop:=
 e= .returned (.tuple #[.agg #[.string s.sb, .string s.cm, .int .i64 s.ph, .int .i64 s.sp, .int .i64 s.wt, .int .i64 s.si], .int .i64 er])/\Ext w w'
theorem ac0 (im:ah) (a:aq) (n cap:Nat) (xs:List (Int×Int)) (w:World) (hl:xs.length<=9223372036854775807) (hs:StepsIn w a xs) (hn:n=xs.length):
 Calls prog 83 #[.agg #[.string im, .slice a n cap]] w (Sp (wL im xs) (LG im xs) w):=by
 cases hG:j5 im xs
 ·refine(ac1 im a n cap xs w hl hs hn hG).mono ?_
  rintro e w' ⟨rfl,h⟩;exact⟨by simp only [wL,LG,hG];rfl,h⟩
 ·refine(ac2 im a n cap xs w hl hs hn hG).mono ?_
  rintro e w' ⟨rfl,h⟩;exact⟨by simp only [wL,LG,hG];rfl,h⟩
theorem Mf (w:World):Calls prog 29 #[] w fun e w'=>e= .returned (.pointer (some ⟨w.heap.size,0,none⟩))/\Sat w' (fun b=>w.heap.size<=b) w.heap.size dO/\Ext w w':=by
 go_enter func29,ntmps29;go_wp2_with fail;go_ret;exact⟨rfl,⟨.slice none 0 0, [],bk,Nat.le_refl _,World.ownsRow_nil _ _ _ _,(fun _ h=>(by cases h)),rfl⟩,Xt⟩
theorem adT (x y:Ow) (pa qa:aq) (pc qc:Nat) (S T:aw) (w:World) (h1:bC w S pa x.paths) (h2:bC w T qa y.paths) (hb:x.paths.length<=1073741824):
 Calls prog 92 #[.agg #[.string x.name, .slice pa x.paths.length pc], .agg #[.string y.name, .slice qa y.paths.length qc]] w (yN (x=y) w):=by
 have H1:=ae h1;have H2:=ae h2;have Tm:=ae (show x=y↔x.name=y.name/\x.paths=y.paths by cases x;cases y;simp);clear h1 h2;by_cases hn:x.name=y.name
 ·have hnb:=vF hn
  have Hn:=ae hn;clear hn;go_enter func92,ntmps92;go_wp2_with fail;(refine(Sj x.paths.length y.paths.length pc qc pa qa x.paths y.paths S T _ (ae rfl) (ae rfl) (H1.out.ext Xt) (H2.out.ext Xt) hb).mono ?_);rintro e w1 ⟨b,rfl,hr,AB⟩;have Hr:=ae hr;clear hr;go_wp2_with fail;go_ret;exact⟨_,rfl,by rw [Tm.out,Hr.out];exact⟨fun h=>⟨Hn.out,h⟩,fun h=>h.2⟩,Xt⟩
 ·have hnb:=vG hn
  have Hn:=ae hn;clear hn;go_enter func92,ntmps92;go_wp2_with fail;go_ret;exact⟨_,rfl,⟨fun h=>by(first|cases h|simp at h),fun h=>absurd (Tm.out.1 h).1 Hn.out⟩,Xt⟩
theorem adU (n m ca cb:Nat) (a b:aq) (l t:List Ow) (S T:aw) (w:World) (hn:Hid (l.length=n)) (hm:Hid (t.length=m)) (h1:cj w S l a) (h2:cj w T t b) (hb:n<=1073741824) (hs1:Hid (∀x∈l,x.size<=1073741824)):
 Calls prog 93 #[.slice a n ca, .slice b m cb, .func (.func 92) #[] #[]] w (yN (l=t) w):=by
 by_cases dZ:n=m
 ·subst dZ
  go_enter func93,ntmps93;go_wp2_with fail
  go_loopg [7,8,9,17] n (fun g _ _ _ i wr=>∃k:Nat,k<=n/\i= .int .i64 k/\g=n-k/\Hid (l.take k=t.take k)/\Ext w wr)
  case atStart=>exact⟨0,by omega,rfl,rfl,ae (by simp),Xt⟩
  case round=>
   obtain⟨k,hk,rfl,rfl,Ht,hx⟩:=hrel;by_cases hlt:k<n
   ·have ay:k<l.length:=by rw [hn.out];exact hlt
    have hl2:k<t.length:=by rw [hm.out];exact hlt
    obtain⟨b1,o1,rfl,iA,c1⟩:=h1.resolve_left (by intro e;subst e;simp at ay);obtain⟨b2,o2,rfl,Tn,c2⟩:=h2.resolve_left (by intro e;subst e;simp at hl2);obtain⟨pa,pc,d0,d1,-,fc⟩:=(c1 k ay).keep (T:=S) iA (hx.kept S) (fun _ h _=>h);obtain⟨qa,qc,g0,g1,-,bR⟩:=(c2 k hl2).keep (T:=T) Tn (hx.kept T) (fun _ h _=>h);have ni:=ae fc;have cn:=ae bR;clear c1 c2 fc bR;have nj:(0:Int)<= (k:Int):=by omega
    have np:(k:Int)<(n:Int):=by omega
    have hz1:=hs1.out _ (List.getElem_mem ay);have hzl:=(l[k]).qO;have hb1:b1<wr.heap.size:=ku d0;have hb2:b2<wr.heap.size:=ku g0;go_wp2_with fail;(refine(adT l[k] t[k] pa qa pc qc S T _ (ni.out.ext Xt) (cn.out.ext Xt) (by omega)).mono ?_);rintro e w1 ⟨r,rfl,hr,AB⟩;have Hr:=ae hr;have hx1:Ext w w1:=Xt;clear hr AB
    cases r with
    |true=>
     have tC:=ae (Lv ay hl2 Ht.out (Hr.out.1 (by trivial)));go_wp2_with fail;go_roundg (n-(k+1))
     case measure=>omega
     case rel=>exact⟨k+1,by omega,by go_num,rfl,tC,Xt⟩
    |false=>
     have He:=ae (show l[k]≠t[k] from fun h=>by have:=Hr.out.2 h;cases this);go_wp2_with fail;go_ret;exact⟨_,rfl,⟨fun h=>by(first|cases h|simp at h),fun h=>absurd (by simp only [h]) He.out⟩,Xt⟩
   ·have cx:=ae (show l=t by
     have:=Ht.out
     rwa [List.take_of_length_le (by rw [hn.out];omega),List.take_of_length_le (by rw [hm.out];omega)] at this)
    go_wp2_with fail;go_ret;exact⟨_,rfl,⟨fun _=>cx.out,fun _=>rfl⟩,Xt⟩
 ·have hnb:((n:Int) !=(m:Int))=true:=by simp;omega
  have hnc:((n:Int)==(m:Int))=false:=by simp;omega
  have dS:=ae (show l≠t from fun h=>dZ (by rw [<-hn.out,<-hm.out,h]));clear dZ;go_enter func93,ntmps93;go_wp2_with fail;go_ret;exact⟨_,rfl,⟨fun h=>by(first|cases h|simp at h),fun h=>absurd h dS.out⟩,Xt⟩
end Go.Proofs.YtlcebdaghmdkeabGreatDoor
namespace Go.Proofs.YtlcebdaghmdkeabGreatDoor
open Go.ChangeShapes Go.WideShapes Go.ChangeAt Go.RowKit Go.Deep Go.Joins
open Go.ChangeMaps (open_string shut_string)
def D7 (w:World) (S:aw) (b o:Nat) (x:bE):Prop:=
 w.cell? ⟨b,o,none⟩=some (.int .i64 x.k)/\w.cell? ⟨b,o+1,none⟩=some (.string x.p)/\w.cell? ⟨b,o+2,none⟩=some (.string x.f)/\V.Item w S b (o+3) x.v
def oo (w:World) (S:aw) (a:aq) (l:List bE):Prop:=
 l= []\/∃b o,a=some ⟨b,o,none⟩/\S b/\∀i (h:i<l.length),D7 w S b (o+i*8) l[i]
theorem D7.ext {S:aw} {w w':World} {b o:Nat} {x:bE} (h:D7 w S b o x) (e:Ext w w'):D7 w' S b o x:=
 ⟨e.cell h.1,e.cell h.2.1,e.cell h.2.2.1,h.2.2.2.ext e⟩
theorem oo.ext {S:aw} {w w':World} {a:aq} {l:List bE} (h:oo w S a l) (e:Ext w w'):oo w' S a l:=by
 rcases h with h|⟨b,o,rfl,hS,hr⟩
 ·exact .inl h
 ·exact .inr ⟨b,o,rfl,hS,fun i hi=>(hr i hi).ext e⟩
theorem V.Item.mono' {S T:aw} {w:World} {b o:Nat} {x:V} (h:V.Item w S b o x) (hT:∀b,S b->T b):V.Item w T b o x:=by
 obtain⟨ka,kc,la,lc,hc,hin⟩:=h;exact⟨ka,kc,la,lc,hc,hin.mono (fun b h _=>hT b h)⟩
theorem oo.mono {S T:aw} {w:World} {a:aq} {l:List bE} (h:oo w S a l) (hT:∀b,S b->T b):oo w T a l:=by
 rcases h with h|⟨b,o,rfl,hS,hr⟩
 ·exact .inl h
 ·exact .inr ⟨b,o,rfl,hT b hS,fun i hi=>⟨(hr i hi).1,(hr i hi).2.1,(hr i hi).2.2.1,(hr i hi).2.2.2.mono' hT⟩⟩
def bE.size (x:bE):Nat:=1+x.p.size+x.f.size+x.v.size
end Go.Proofs.YtlcebdaghmdkeabGreatDoor
namespace Go.Proofs.YtlcebdaghmdkeabGreatDoor
open Go.Proofs.Tryz
open Go.ChangeShapes Go.WideShapes Go.ChangeAt Go.RowKit Go.Deep Go.Joins
open Go.ChangeMaps (open_string shut_string)
theorem Tryz.Nq:prog.cellsOf 28=8:=by kernel_rfl
def tW (w:World) (b o:Nat) (x:Ac):Prop:=
 w.cell? ⟨b,o,none⟩=some (.int .i64 x.k)/\w.cell? ⟨b,o+1,none⟩=some (.string x.name)/\w.cell? ⟨b,o+2,none⟩=some (.string x.who)/\w.cell? ⟨b,o+3,none⟩=some (.string x.body)/\
 w.cell? ⟨b,o+4,none⟩=some (.int .i64 x.ver)/\w.cell? ⟨b,o+5,none⟩=some (.int .i64 x.n)/\w.cell? ⟨b,o+6,none⟩=some (.int .i64 x.ord)/\w.cell? ⟨b,o+7,none⟩=some (.bool x.force)
def sD (w:World) (S:aw) (l:List Ac) (a:aq):Prop:=
 l= []\/∃b o,a=some ⟨b,o,none⟩/\S b/\∀i (h:i<l.length),tW w b (o+i*8) l[i]
theorem tW.keep {S:aw} {w w':World} {b o:Nat} {x:Ac} (h:tW w b o x) (hk:Kept S w w') (hS:S b):tW w' b o x:=by
 obtain⟨h0,h1,h2,h3,h4,h5,h6,h7⟩:=h;exact⟨hk.cell hS h0,hk.cell hS h1,hk.cell hS h2,hk.cell hS h3,hk.cell hS h4,hk.cell hS h5,hk.cell hS h6,hk.cell hS h7⟩
theorem sD.keep {S:aw} {w w':World} {l:List Ac} {a:aq} (h:sD w S l a) (hk:Kept S w w'):sD w' S l a:=by
 rcases h with h|⟨b,o,rfl,hS,hr⟩
 ·exact .inl h
 ·exact .inr ⟨b,o,rfl,hS,fun i hi=>(hr i hi).keep hk hS⟩
theorem sD.mono {w:World} {S T:aw} {l:List Ac} {a:aq} (h:sD w S l a) (hT:∀b,S b->T b):sD w T l a:=by
 rcases h with h|⟨b,o,rfl,hS,hr⟩
 ·exact .inl h
 ·exact .inr ⟨b,o,rfl,hT b hS,hr⟩
def Ac.size (x:Ac):Nat:=1+x.name.size+x.who.size+x.body.size
def vp (l:List Ac):Nat:=(l.map Ac.size).sum
theorem VZ (l:List Ac):l.length<=vp l:=Be Ac.size (fun x=>by unfold Ac.size;omega) l
theorem V2 {l:List Ac} {o:Ac} (h:o∈l):o.size<=vp l:=uZ Ac.size h
theorem V3 {H:Type} {enc:TypeId×Value->H} {w:World} {base:Nat} {spare:Nat->Bool} {held:Bool} {fuel:Nat} {cs:List Value} {x:DataW H×List MemPlace}
 (h:DataW.trod enc prog w base spare held fuel 28 cs=some x):∃o:Ac,cs= [.int .i64 o.k, .string o.name, .string o.who, .string o.body, .int .i64 o.ver, .int .i64 o.n, .int .i64 o.ord, .bool o.force]/\o.size<=Rows.uptoBulk x.1:=by
 obtain⟨xs,n,rfl,hx,hcl,hxl,hall⟩:=DataW.trod_struct underlying28 h;rw [Tryz.Nq] at hcl
 match cs,hcl with
 | [c0,c1,c2,c3,c4,c5,c6,c7],_=>
   match xs,hxl with
   | [x0,x1,x2,x3,x4,x5,x6,x7],_=>
     have t0:DataW.trod enc prog w base spare held n 3 [c0]=some x0:=hall 0 _ rfl;have t1:DataW.trod enc prog w base spare held n 9 [c1]=some x1:=hall 1 _ rfl;have t2:DataW.trod enc prog w base spare held n 9 [c2]=some x2:=hall 2 _ rfl;have t3:DataW.trod enc prog w base spare held n 9 [c3]=some x3:=hall 3 _ rfl;have t4:DataW.trod enc prog w base spare held n 3 [c4]=some x4:=hall 4 _ rfl;have t5:DataW.trod enc prog w base spare held n 3 [c5]=some x5:=hall 5 _ rfl;have t6:DataW.trod enc prog w base spare held n 3 [c6]=some x6:=hall 6 _ rfl;have t7:DataW.trod enc prog w base spare held n 4 [c7]=some x7:=hall 7 _ rfl;obtain⟨i0,e0,-,-⟩:=DataW.trod_int underlying3 t0;obtain⟨s1,e1,f1,-⟩:=DataW.trod_string underlying9 t1;obtain⟨s2,e2,f2,-⟩:=DataW.trod_string underlying9 t2;obtain⟨s3,e3,f3,-⟩:=DataW.trod_string underlying9 t3;obtain⟨i4,e4,-,-⟩:=DataW.trod_int underlying3 t4;obtain⟨i5,e5,-,-⟩:=DataW.trod_int underlying3 t5;obtain⟨i6,e6,-,-⟩:=DataW.trod_int underlying3 t6;obtain⟨b7,e7,-⟩:=DataW.trod_bool underlying4 t7;have h1:s1.size+1=Rows.uptoBulk x1.1:=by rw [f1];simp only [Rows.uptoBulk,Array.length_toList];rfl
     have h2:s2.size+1=Rows.uptoBulk x2.1:=by rw [f2];simp only [Rows.uptoBulk,Array.length_toList];rfl
     have h3:s3.size+1=Rows.uptoBulk x3.1:=by rw [f3];simp only [Rows.uptoBulk,Array.length_toList];rfl
     simp only [List.cons.injEq,and_true] at e0 e1 e2 e3 e4 e5 e6 e7;subst e0 e1 e2 e3 e4 e5 e6 e7;have afo:Rows.uptoBulk x.1=Rows.uptoBulk x0.1+(Rows.uptoBulk x1.1+(Rows.uptoBulk x2.1+(Rows.uptoBulk x3.1+(Rows.uptoBulk x4.1+(Rows.uptoBulk x5.1+(Rows.uptoBulk x6.1+(Rows.uptoBulk x7.1+0)))))))+1:=by rw [hx];simp only [Rows.uptoBulk,Nr,List.map_cons,List.map_nil,List.sum_cons,List.sum_nil]
     exact⟨⟨i0,s1,s2,s3,i4,i5,i6,b7⟩,rfl,by unfold Ac.size;simp only;omega⟩
theorem V4 {H:Type} {enc:TypeId×Value->H} {w:World} {base:Nat} {spare:Nat->Bool} {held:Bool} {fuel:Nat} {c:Value} {x:DataW H×List MemPlace}
 (h:DataW.trod enc prog w base spare held fuel 22 [c]=some x):∃a cap l,c= .slice a l.length cap/\aM a l.length cap/\sD w (Old w) l a/\vp l+1<=Rows.uptoBulk x.1:=by
 rcases DataW.trod_slice underlying22 h with⟨hc,hy⟩|⟨a,len,cap,elems,rest,k,hk,hc,hy,hb,hl,hm,hlen,hel,-,-⟩
 ·simp only [List.cons.injEq,and_true] at hc
  exact⟨none,0, [],hc,aM.nil, .inl rfl,by have:=V5 x.1;simpa [vp] using this⟩
 ·simp only [List.cons.injEq,and_true] at hc
  subst hc;obtain⟨b,o,sp⟩:=a;simp only at hb hm hel
  have took:∀i,i<len->∃(cs':List Value) (v:Ac),w.cells? base ((⟨b,o,sp⟩:Addr).add (i*8)) 8=some cs'/\cs'= [.int .i64 v.k, .string v.name, .string v.who, .string v.body, .int .i64 v.ver, .int .i64 v.n, .int .i64 v.ord, .bool v.force]/\
   (∀hi:i<elems.length,v.size<=Rows.uptoBulk (elems[i]).1):=by
   intro i hi;have he:=hel i hi;rw [List.getElem?_eq_getElem (by omega),Tryz.Nq] at he;obtain⟨cs',h1,h2⟩:=Option.bind_eq_some_iff.1 he;obtain⟨v,hcs,hv⟩:=V3 h2;exact⟨cs',v,h1,hcs,fun _=>hv⟩
  have hsp:0<len->sp=none:=by intro h;obtain⟨cs',v,h1,rfl,-⟩:=took 0 h;obtain⟨_,_,hcell⟩:=World.cells?_some h1;have:=World.cell?_spot (hcell 0 (by omega));simpa [Addr.add] using this
  have each:∀i,i<len->∃v:Ac,tW w b (o+i*8) v/\sp=none/\b<w.heap.size/\ (∀hi:i<elems.length,v.size<=Rows.uptoBulk (elems[i]).1):=by intro i hi;have V6:=hsp (by omega);subst V6;obtain⟨cs',v,h1,rfl,hv⟩:=took i hi;obtain⟨_,_,hcell⟩:=World.cells?_some h1;have g:=fun j (hj:j<8)=>hcell j hj;simp only [Addr.add_lit] at g;have g0:=g 0 (by omega);have g1:=g 1 (by omega);have g2:=g 2 (by omega);have g3:=g 3 (by omega);have g4:=g 4 (by omega);have g5:=g 5 (by omega);have g6:=g 6 (by omega);have g7:=g 7 (by omega);simp only [Nat.add_zero,List.getElem?_cons_zero,List.getElem?_cons_succ] at g0 g1 g2 g3 g4 g5 g6 g7;have hlt:=ku g0;exact⟨v,⟨g0,g1,g2,g3,g4,g5,g6,g7⟩,rfl,hlt,hv⟩
  obtain⟨l,ay,hl2⟩:=V7 each;subst ay;refine⟨some ⟨b,o,sp⟩,cap,l,rfl,⟨hl,hm,by simp⟩,?_,?_⟩
  ·by_cases h0:l= []
   ·exact .inl h0
   ·have hpos:=List.length_pos_iff.2 h0
    obtain⟨-,hsp,hlt,-⟩:=hl2 0 hpos;subst hsp;exact .inr ⟨b,o,rfl,hlt,fun i hi=>(hl2 i hi).1⟩
  ·have hle:(l.map Ac.size).sum<= ((elems.map (·.1)).map Rows.uptoBulk).sum:=by
    have h2:∀i (hi:i<l.length) (hj:i<elems.length),(l[i]).size<=Rows.uptoBulk (elems[i]).1:=fun i hi hj=>(hl2 i hi).2.2.2 hj;exact V8 l (elems.map (·.1)) Ac.size Rows.uptoBulk (by simp [hlen]) (fun i hi hj=>by have:=h2 i hi (by simpa using hj);simpa using this)
   have:x.1= .slice (elems.map (·.1)) (rest.map (·.1)):=by rw [hy]
   rw [this];unfold vp;simp only [Rows.uptoBulk,Nr];omega
end Go.Proofs.YtlcebdaghmdkeabGreatDoor
namespace Go.Proofs.YtlcebdaghmdkeabGreatDoor
open Go.Proofs.Tryz
open Go.RowKit
theorem Tryz.V9:(prog.info? 198).map (fun i=>(i.zero,i.size,i.bytes))=some (some (.agg #[.int .i64 0, .string ⟨#[]⟩, .string ⟨#[]⟩, .int .i64 0, .int .i64 0, .string ⟨#[]⟩, .slice none 0 0, .slice none 0 0]),8,120):=by kernel_rfl
def bE.eight (o:bE) (ka:aq) (kc:Nat) (la:aq) (lc:Nat):List Value:= [.int .i64 o.k, .string o.p, .string o.f, .int .i64 o.v.k, .int .i64 o.v.n, .string o.v.s, .slice ka o.v.keys.length kc, .slice la o.v.l.length lc]
def pd (w:World) (T:aw):List bE->List Value->Prop
 | [],xs=>xs= []
 |x::r,xs=>∃ka kc la lc t,xs=x.eight ka kc la lc++t/\x.v.In w T ka kc la lc/\pd w T r t
theorem pd.keep {S T:aw} {w w':World} {l:List bE} {xs:List Value} (h:pd w S l xs) (hk:Kept S w w') (hT:∀b,S b->b<w.heap.size->T b):pd w' T l xs:=by
 induction l generalizing xs with
 |nil=>exact h
 |cons x r ih=>
  obtain⟨ka,kc,la,lc,t,rfl,h1,h2⟩:=h;exact⟨ka,kc,la,lc,t,rfl,h1.keep hk hT,ih h2⟩
theorem pd.one {w:World} {T:aw} {l:List bE} {xs:List Value} (h:pd w T l xs):∀u∈xs,u.oneCell'=true:=by
 induction l generalizing xs with
 |nil=>subst h;simp
 |cons y r ih=>
  obtain⟨a,b,c,d,t,rfl,h1,h2⟩:=h;intro u hu;rcases List.mem_append.1 hu with hu|hu
  ·simp only [bE.eight,List.mem_cons,List.not_mem_nil,or_false] at hu
   rcases hu with rfl|rfl|rfl|rfl|rfl|rfl|rfl|rfl<;>rfl
  ·exact ih h2 u hu
theorem pd.item {w:World} {T:aw} {l:List bE} {xs:List Value} (h:pd w T l xs):∀i (hi:i<l.length),∃ka kc la lc,(∀q u,(l[i].eight ka kc la lc)[q]? =some u->xs[i*8+q]? =some u)/\l[i].v.In w T ka kc la lc:=by
 induction l generalizing xs with
 |nil=>intro i hi;simp at hi
 |cons y r ih=>
  obtain⟨a,b,c,d,t,rfl,h1,h2⟩:=h;intro i hi
  match i with
  |0=>
   refine⟨a,b,c,d,fun q u hq=> ?_,by simpa using h1⟩;have hlt:q<(y.eight a b c d).length:=by have:=(List.getElem?_eq_some_iff.1 hq).1;simpa using this
   simp only [List.getElem_cons_zero] at hq;rw [Nat.zero_mul,Nat.zero_add,List.getElem?_append_left hlt];exact hq
  |i+1=>
   obtain⟨ka,kc,la,lc,hc,hin⟩:=ih h2 i (by simpa using hi);refine⟨ka,kc,la,lc,fun q u hq=> ?_,by simpa using hin⟩;have:=hc q u (by simpa using hq);rw [List.getElem?_append_right (by simp [bE.eight];omega)];rw [show (i+1)*8+q-(y.eight a b c d).length=i*8+q from by simp [bE.eight];omega];exact this
theorem Wa {w:World} {base n c:Nat} {T:aw} {a:aq} {l:List bE} {xs:List Value} (hn:l.length=n) (h:w.ownsRow base 198 8 (.slice a n c) n xs) (hc:pd w T l xs):oo w (fun q=>T q\/base<=q) a l:=by
 obtain⟨hl,h1⟩:=h;rcases h1 with⟨hv,hn0⟩|⟨g,cap,cur,hv,hb,hg,hnc,hcm,hcs,ht⟩
 ·exact .inl (List.length_eq_zero_iff.1 (by omega))
 ·simp only [Value.slice.injEq,true_and] at hv
  obtain⟨rfl,rfl⟩:=hv;refine .inr ⟨g,0,rfl, .inr hb,?_⟩;intro i hi;obtain⟨ka,kc,la,lc,hq,hin⟩:=hc.item i hi;have hx:∀j u,xs[j]? =some u->w.cell? ⟨g,j,none⟩=some u:=by
   intro j u hj;rw [cell_of_row w g j cur _ _ hg];rw [<-ht] at hj;rw [List.getElem?_take] at hj
   split at hj
   ·simpa using hj
   ·cases hj
  rw [Nat.zero_add];exact⟨hx _ _ (hq 0 _ rfl),hx _ _ (hq 1 _ rfl),hx _ _ (hq 2 _ rfl),ka,kc,la,lc,⟨hx _ _ (hq 3 _ rfl),hx _ _ (hq 4 _ rfl),hx _ _ (hq 5 _ rfl),hx _ _ (hq 6 _ rfl),hx _ _ (hq 7 _ rfl)⟩,hin.mono (fun b hb _=> .inl hb)⟩
end Go.Proofs.YtlcebdaghmdkeabGreatDoor
