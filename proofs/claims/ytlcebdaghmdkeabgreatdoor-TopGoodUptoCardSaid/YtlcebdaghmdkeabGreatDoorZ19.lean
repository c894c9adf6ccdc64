import Derived.Test.YtlcebdaghmdkeabGreatDoorZ17
import Derived.Test.YtlcebdaghmdkeabGreatDoorZ18
set_option linter.all false
set_option maxRecDepth 100000
set_option maxHeartbeats 64000000
namespace Go.Proofs.YtlcebdaghmdkeabGreatDoor
open Go.Proofs.Tryz
open Go.RowKit
theorem Uh (im:ah) (a:au) (n cap:Nat) (xs:List (Int×Int)) (w:World) (hl:xs.length<=9223372036854775807) (hs:StepsIn w a xs) (hn:n=xs.length):
 Calls prog 121 #[.agg #[.string im, .slice a n cap]] w fun e w'=>e= .returned (.bool (kq im xs))/\Ext w w':=by
 subst hn;exact Es im a cap xs w hl hs
theorem M3 {im:ah} {a:au} {n cap:Nat} {xs:List (Int×Int)} {s r:St} {now order e:Int} (hr:fD im xs s now order=(r,e)) (w:World) (hl:xs.length<=9223372036854775807) (hs:StepsIn w a xs) (hn:n=xs.length):
 Calls prog 86 #[.agg #[.string im, .slice a n cap], .agg #[.string s.sb, .string s.cm, .int .i64 s.ph, .int .i64 s.sp, .int .i64 s.wt, .int .i64 s.si], .int .i64 now, .int .i64 order] w
  fun x w'=>x= .returned (.tuple #[.agg #[.string r.sb, .string r.cm, .int .i64 r.ph, .int .i64 r.sp, .int .i64 r.wt, .int .i64 r.si], .int .i64 e])/\Ext w w':=by
 subst hn;have:=aec im a cap xs s now order w hl hs;rw [hr] at this;exact this
theorem aeb (im:ah) (a:au) (n cap:Nat) (xs:List (Int×Int)) (w:World) (hl:xs.length<=9223372036854775807) (hs:StepsIn w a xs) (hn:n=xs.length) (hG:kq im xs=true):
 Calls prog 83 #[.agg #[.string im, .slice a n cap]] w fun e w'=>e= .returned (.tuple #[.agg #[.string im, .string im, .int .i64 1, .int .i64 0, .int .i64 100, .int .i64 0], .int .i64 0])/\Ext w w':=by
 have Hn:=ae hn;clear hn;go_enter func83,ntmps83;go_wp2_with (first|(go_at_call 121;(with_reducible refine(Uh _ _ _ _ _ _ hl (hs.ext Xt) Hn.out).mono ?_);rintro e w1 ⟨rfl,h1⟩;obtain⟨hc1,aA,hz1⟩:=cp h1;(try simp at hz1);(try have kr:w.heap.size<w1.heap.size:=by omega);(try have jN:w.heap.size+1<w1.heap.size:=by omega);(try have ku:w.heap.size+2<w1.heap.size:=by omega);(try have kv:w.heap.size+3<w1.heap.size:=by omega))|(go_at_call 122;(with_reducible refine(vS _ _).mono ?_);rintro e w1 ⟨rfl,h1⟩;obtain⟨hc1,aA,hz1⟩:=cp h1;(try simp at hz1);(try have kr:w.heap.size<w1.heap.size:=by omega);(try have jN:w.heap.size+1<w1.heap.size:=by omega);(try have ku:w.heap.size+2<w1.heap.size:=by omega);(try have kv:w.heap.size+3<w1.heap.size:=by omega)));refine aF (h:= ?_);exact⟨rfl,Xt⟩
theorem aea (im:ah) (a:au) (n cap:Nat) (xs:List (Int×Int)) (w:World) (hl:xs.length<=9223372036854775807) (hs:StepsIn w a xs) (hn:n=xs.length) (hG:kq im xs=false):
 Calls prog 83 #[.agg #[.string im, .slice a n cap]] w fun e w'=>e= .returned (.tuple #[.agg #[.string ⟨#[]⟩, .string ⟨#[]⟩, .int .i64 0, .int .i64 0, .int .i64 0, .int .i64 0], .int .i64 1])/\Ext w w':=by
 have Hn:=ae hn;clear hn;go_enter func83,ntmps83;go_wp2_with (first|(go_at_call 121;(with_reducible refine(Uh _ _ _ _ _ _ hl (hs.ext Xt) Hn.out).mono ?_);rintro e w1 ⟨rfl,h1⟩;obtain⟨hc1,aA,hz1⟩:=cp h1;(try simp at hz1);(try have kr:w.heap.size<w1.heap.size:=by omega);(try have jN:w.heap.size+1<w1.heap.size:=by omega);(try have ku:w.heap.size+2<w1.heap.size:=by omega);(try have kv:w.heap.size+3<w1.heap.size:=by omega))|(go_at_call 122;(with_reducible refine(vS _ _).mono ?_);rintro e w1 ⟨rfl,h1⟩;obtain⟨hc1,aA,hz1⟩:=cp h1;(try simp at hz1);(try have kr:w.heap.size<w1.heap.size:=by omega);(try have jN:w.heap.size+1<w1.heap.size:=by omega);(try have ku:w.heap.size+2<w1.heap.size:=by omega);(try have kv:w.heap.size+3<w1.heap.size:=by omega)));refine aF (h:= ?_);exact⟨rfl,Xt⟩
end Go.Proofs.YtlcebdaghmdkeabGreatDoor
namespace Go.Proofs.YtlcebdaghmdkeabGreatDoor
open Go.RowKit
theorem EU {a b:ah} (h:a.toList=b.toList):a=b:=by
 rw [ByteArray.toList_eq,ByteArray.toList_eq] at h;exact ByteArray.ext (Array.toList_inj.1 h)
theorem Oh {im:ah} {xs:List (Int×Int)} {s:St} {now o:Int} {r:St} (h:fD im xs s now o=(r,0)):
 (r.sb=s.sb\/ (r.ph=1/\r.sb=im))/\r.cm=im/\ (im=s.cm-> (r.ph=2\/r.ph=3)->s.sp<=r.sp)/\ (r.ph=1->r.wt=100)/\ (r.ph=4->r.wt=0)/\ (r.ph=1↔r.sb=r.cm):=by
 have hr:=M4 h;simp only [iy,decide_eq_true_eq] at hr;obtain⟨hG,hT,h0,h1,ho0,sw,hc⟩:=Uk h;have hT':=hT;simp only [iy,decide_eq_true_eq] at hT';have vQ:(cS im s).sb=s.sb:=by simp only [cS];split<;>rfl
 have hcm:(cS im s).cm=im:=by
  simp only [cS]
  split
  ·rename_i e;exact(EU e).symm
  ·rfl
 have hsp:0<= (cS im s).sp:=by simp only [cS];split<;>grind
 have hsq:im=s.cm->cS im s=s:=fun e=>by rw [cS,if_pos (by rw [e])]
 have Oz:r.ph=1↔r.sb=r.cm:=by
  have e:r.sb=r.cm↔r.sb.toList=r.cm.toList:=⟨fun e=>by rw [e],EU⟩;rw [e];obtain⟨-,-,-,-,-,-,-,-,-,h⟩:=hr;rcases h with h|h|h
  ·exact⟨fun _=>h.2.1,fun _=>h.1⟩
  ·exact⟨fun q=>by omega,fun q=>absurd q h.2.2.2⟩
  ·exact⟨fun q=>by omega,fun q=>absurd q h.2⟩
 have hw1:r.ph=1->r.wt=100:=fun q=>by
  obtain⟨-,-,-,-,-,-,-,-,-,h⟩:=hr;rcases h with h|h|h
  ·exact h.2.2.1
  ·omega
  ·omega
 have hw4:r.ph=4->r.wt=0:=fun q=>by obtain⟨-,-,-,-,-,-,-,-,-,h⟩:=hr;rcases h with h|h|h<;>omega
 refine⟨?_,?_,?_,hw1,hw4,Oz⟩
 ·rcases hc with⟨ha,hb,rfl⟩|⟨ha,⟨hp2,vT,rfl⟩|⟨hp,⟨rfl,rfl⟩|⟨rfl,rfl⟩|⟨ho,hr⟩⟩⟩
  ·exact .inl rfl
  ·exact .inl vQ
  ·exact .inr ⟨rfl,hcm⟩
  ·exact .inl vQ
  ·obtain⟨k,hk⟩:=Int.eq_ofNat_of_zero_le hsp
   have hk':(cS im s).sp.toNat=k:=by omega
   rw [hk'] at hr;have he:=Ia xs now _ k (cS im s) o (Nat.le_refl _) hk;rw [<-hr] at he;rcases he with hd|⟨j,hj,wt,si,hkj,hx,zO,hw,gf⟩
   ·rw [hd];exact .inr ⟨rfl,hcm⟩
   ·rw [zO];exact .inl vQ
 ·rcases hc with⟨ha,hb,rfl⟩|⟨ha,⟨hp2,vT,rfl⟩|⟨hp,⟨rfl,rfl⟩|⟨rfl,rfl⟩|⟨ho,hr⟩⟩⟩
  ·exact(EU hb).symm
  ·exact hcm
  ·exact hcm
  ·exact hcm
  ·obtain⟨k,hk⟩:=Int.eq_ofNat_of_zero_le hsp
   have hk':(cS im s).sp.toNat=k:=by omega
   rw [hk'] at hr;have he:=Ia xs now _ k (cS im s) o (Nat.le_refl _) hk;rw [<-hr] at he;rcases he with hd|⟨j,hj,wt,si,hkj,hx,zO,hw,gf⟩
   ·rw [hd];exact hcm
   ·rw [zO];exact hcm
 ·intro hi B0
  have e:=hsq hi;rw [e] at hc;rcases hc with⟨ha,hb,rfl⟩|⟨ha,⟨hp2,vT,rfl⟩|⟨hp,⟨rfl,rfl⟩|⟨rfl,rfl⟩|⟨ho,hr⟩⟩⟩
  ·exact absurd (by rw [hi]) ha
  ·exact Int.le_refl _
  ·simp [qo] at B0
  ·simp at B0
  ·obtain⟨k,hk⟩:=Int.eq_ofNat_of_zero_le hT'.2.2.1
   have hk':s.sp.toNat=k:=by omega
   rw [hk'] at hr;have he:=Ia xs now _ k s o (Nat.le_refl _) hk;rw [<-hr] at he;rcases he with hd|⟨j,hj,wt,si,hkj,hx,zO,hw,gf⟩
   ·rw [hd] at B0;simp [qo] at B0
   ·rw [zO];simp only;omega
theorem WI:∀ {l:List V} {xs:List (Int×Int)},nC l=some xs->xs.length=l.length/\pH xs=true
 | [],xs,h=>by simp only [nC,Option.some.injEq] at h;subst h;exact⟨rfl,rfl⟩
 |x::r,xs,h=>by
  simp only [nC] at h
  cases hs:stepOf x with
  |none=>rw [hs] at h;cases h
  |some p=>
   cases hr:nC r with
   |none=>rw [hs,hr] at h;cases h
   |some l=>
    rw [hs,hr] at h;simp only [Option.some.injEq] at h;subst h;obtain⟨h1,h2⟩:=WI hr;refine⟨by simp [h1],?_⟩;have hp:mE p.1 p.2=true:=by
     unfold stepOf at hs
     split at hs
     ·split at hs
      ·split at hs
       ·rename_i h;simp only [Option.some.injEq] at hs;subst hs;exact h.2.2
       ·cases hs
      ·cases hs
     ·split at hs
      ·rename_i h;simp only [Option.some.injEq] at hs;subst hs;exact h.2.2
      ·cases hs
    unfold pH at h2⊢;rw [List.all_cons,h2,hp];rfl
theorem z8 {x:V} (h:dx x≠none):kq (mD (dx x)) (gZ (dx x))=true/\x.fine=true/\x.k=5:=by
 cases hs:dx x with
 |none=>exact absurd hs h
 |some p=>
  unfold dx at hs
  split at hs
  ·rename_i hf
   split at hs
   ·cases hs
   ·rename_i i hi
    have hk:x.k=5:=Classical.byContradiction fun hk=>by rw [QH hk] at hi;cases hi
    split at hs
    ·rename_i h3
     have hsz:i.s.size<=60:=by obtain⟨d,hd⟩:=gq hf;rw [V.ud,Bool.and_eq_true,List.all_eq_true] at hd;have hg:=hd.2 i (yA hi);rw [V.ud,Bool.and_eq_true] at hg;have hfl:=hg.1;unfold V.flat at hfl;simp only [g3,Bool.and_eq_true,Bool.not_eq_true',Bool.or_eq_false_iff,Bool.not_eq_false'] at hfl;exact yN (by simp_all)
     split at hs
     ·simp only [Option.some.injEq] at hs
      subst hs;refine⟨?_,hf,hk⟩;simp [kq,mD,gZ,pH,h3.2,hsz]
     ·rename_i t ht
      split at hs
      ·rename_i h4
       split at hs
       ·rename_i xs hxs
        simp only [Option.some.injEq] at hs;subst hs;obtain⟨h5,h6⟩:=WI hxs;refine⟨?_,hf,hk⟩;simp [kq,mD,gZ,h3.2,hsz,h6,h5,h4.2]
       ·cases hs
      ·cases hs
    ·cases hs
  ·cases hs
theorem afZ {im:ah} {xs:List (Int×Int)} (h:kq im xs=true):iy (xQ im xs)=true/\ (xQ im xs).cm=im:=by
 obtain⟨g1,g2,g3,g4⟩:=Uj h;unfold xQ;rw [if_pos h];refine⟨?_,rfl⟩;simp [iy,g1]
end Go.Proofs.YtlcebdaghmdkeabGreatDoor
namespace Go.Proofs.YtlcebdaghmdkeabGreatDoor
open Go.Proofs.Tryz
open Go.RowKit
attribute [local go_sem↓] Go.wp_at_zero Go.wp_at_succ
theorem ux.val {r:Option (ah×List (Int×Int))} {w w':World} {e:Ending} (h:ux r w e w'):
 ∃a n c,e= .returned (.tuple #[.agg #[.string (mD r), .slice a n c], .int .i64 (xP r)])/\ (gZ r).length=n/\StepsIn w' a (gZ r)/\ (∀p:Addr,a=some p->w.heap.size<=p.block)/\Ext w w':=by
 rcases h with⟨im,xs,a,n,c,rfl,h1,h2,h3,h5,h4⟩|⟨rfl,h2,h4⟩
 ·exact⟨a,n,c,h2,h1,h3,h5,h4⟩
 ·exact⟨none,0,0,h2,rfl, .inl rfl,(fun _ h=>by cases h),h4⟩
def Ug (s:St) (er:Int) (w:World) (e:Ending) (w':World):Prop:=
 e= .returned (.tuple #[.agg #[.string s.sb, .string s.cm, .int .i64 s.ph, .int .i64 s.sp, .int .i64 s.wt, .int .i64 s.si], .int .i64 er])/\Ext w w'
theorem ad9 (im:ah) (a:au) (n cap:Nat) (xs:List (Int×Int)) (w:World) (hl:xs.length<=9223372036854775807) (hs:StepsIn w a xs) (hn:n=xs.length):
 Calls prog 83 #[.agg #[.string im, .slice a n cap]] w (Ug (xQ im xs) (M0 im xs) w):=by
 cases hG:kq im xs
 ·refine(aea im a n cap xs w hl hs hn hG).mono ?_
  rintro e w' ⟨rfl,h⟩;exact⟨by simp only [xQ,M0,hG];rfl,h⟩
 ·refine(aeb im a n cap xs w hl hs hn hG).mono ?_
  rintro e w' ⟨rfl,h⟩;exact⟨by simp only [xQ,M0,hG];rfl,h⟩
theorem NB (w:World):Calls prog 29 #[] w fun e w'=>e= .returned (.pointer (some ⟨w.heap.size,0,none⟩))/\Sat w' (fun b=>w.heap.size<=b) w.heap.size bQ/\Ext w w':=by
 go_enter func29,ntmps29;go_wp2_with fail;go_ret;exact⟨rfl,⟨.slice none 0 0, [],aQ,Nat.le_refl _,World.ownsRow_nil _ _ _ _,(fun _ h=>(by cases h)),rfl⟩,Xt⟩
end Go.Proofs.YtlcebdaghmdkeabGreatDoor
namespace Go.Proofs.YtlcebdaghmdkeabGreatDoor
open Go.ChangeShapes Go.WideShapes Go.ChangeAt Go.RowKit Go.Deep Go.Joins
open Go.ChangeMaps (open_string shut_string)
def Fb (w:World) (S:az) (b o:Nat) (x:bM):Prop:=
 w.cell? ⟨b,o,none⟩=some (.int .i64 x.k)/\w.cell? ⟨b,o+1,none⟩=some (.string x.p)/\w.cell? ⟨b,o+2,none⟩=some (.string x.f)/\V.Item w S b (o+3) x.v
def oX (w:World) (S:az) (a:au) (l:List bM):Prop:=
 l= []\/∃b o,a=some ⟨b,o,none⟩/\S b/\∀i (h:i<l.length),Fb w S b (o+i*8) l[i]
theorem Fb.ext {S:az} {w w':World} {b o:Nat} {x:bM} (h:Fb w S b o x) (e:Ext w w'):Fb w' S b o x:=
 ⟨e.cell h.1,e.cell h.2.1,e.cell h.2.2.1,h.2.2.2.ext e⟩
theorem oX.ext {S:az} {w w':World} {a:au} {l:List bM} (h:oX w S a l) (e:Ext w w'):oX w' S a l:=by
 rcases h with h|⟨b,o,rfl,hS,hr⟩
 ·exact .inl h
 ·exact .inr ⟨b,o,rfl,hS,fun i hi=>(hr i hi).ext e⟩
theorem V.Item.mono' {S T:az} {w:World} {b o:Nat} {x:V} (h:V.Item w S b o x) (hT:∀b,S b->T b):V.Item w T b o x:=by
 obtain⟨ka,kc,la,lc,hc,hin⟩:=h;exact⟨ka,kc,la,lc,hc,hin.mono (fun b h _=>hT b h)⟩
theorem oX.mono {S T:az} {w:World} {a:au} {l:List bM} (h:oX w S a l) (hT:∀b,S b->T b):oX w T a l:=by
 rcases h with h|⟨b,o,rfl,hS,hr⟩
 ·exact .inl h
 ·exact .inr ⟨b,o,rfl,hT b hS,fun i hi=>⟨(hr i hi).1,(hr i hi).2.1,(hr i hi).2.2.1,(hr i hi).2.2.2.mono' hT⟩⟩
def bM.size (x:bM):Nat:=1+x.p.size+x.f.size+x.v.size
end Go.Proofs.YtlcebdaghmdkeabGreatDoor
