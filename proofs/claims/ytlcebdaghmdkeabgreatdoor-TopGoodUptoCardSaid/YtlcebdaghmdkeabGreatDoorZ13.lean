import Derived.Deep.DrawnRows
import Derived.Test.YtlcebdaghmdkeabGreatDoorZ2
set_option linter.all false
set_option maxRecDepth 100000
set_option maxHeartbeats 64000000
namespace Go.Proofs.YtlcebdaghmdkeabGreatDoor
open Go.Proofs.Tryz
open Go.RowKit
attribute [local go_sem↓] Go.wp_at_zero Go.wp_at_succ
theorem MS {α:Type} {l m:List α} {k:Nat} (h1:k<l.length) (h2:k<m.length) (h:l.take k=m.take k) (e:l[k]=m[k]):l.take (k+1)=m.take (k+1):=by
 rw [List.take_succ_eq_append_getElem h1,List.take_succ_eq_append_getElem h2,h,e]
def zJ (p:Prop) (w:World) (e:Ending) (w':World):Prop:=∃b:Bool,e= .returned (.bool b)/\ (b=true↔p)/\Ext w w'
theorem Ub (n m ca cb:Nat) (a b:au) (ks js:List ah) (S T:az) (w:World) (hn:Hid (ks.length=n)) (hm:Hid (js.length=m)) (h1:bR w S a ks) (h2:bR w T b js) (hb:n<=1073741824):
 Calls prog 37 #[.slice a n ca, .slice b m cb] w (zJ (ks=js) w):=by
 by_cases eF:n=m
 ·subst eF
  go_enter func37,ntmps37;go_wp2_with fail
  go_loopg [5,13] n (fun g _ i wr=>∃k:Nat,k<=n/\i= .int .i64 k/\g=n-k/\Hid (ks.take k=js.take k)/\Ext w wr)
  case atStart=>exact⟨0,by omega,rfl,rfl,ae (by simp),Xt⟩
  case round=>
   obtain⟨k,hk,rfl,rfl,Ht,hx⟩:=hrel;by_cases hlt:k<n
   ·have ay:k<ks.length:=by rw [hn.out];exact hlt
    have hl2:k<js.length:=by rw [hm.out];exact hlt
    obtain⟨b1,o1,rfl,-,c1⟩:=h1.resolve_left (by intro e;subst e;simp at ay);obtain⟨b2,o2,rfl,-,c2⟩:=h2.resolve_left (by intro e;subst e;simp at hl2);have d0:=hx.cell (c1 k ay);have d1:=hx.cell (c2 k hl2);clear c1 c2;have kY:(0:Int)<= (k:Int):=by omega
    have kZ:(k:Int)<(n:Int):=by omega
    by_cases he:ks[k]=js[k]
    ·have heb:(ks[k].toList !=js[k].toList)=false:=by rw [he];simp
     have hec:(ks[k].toList==js[k].toList)=true:=by rw [he];simp
     have hed:ks[k].toList=js[k].toList:=by rw [he]
     have uw:=ae (MS ay hl2 Ht.out he);clear he;go_wp2_with fail
     go_quiet (fail)
     go_wp2_with fail;go_roundg (n-(k+1))
     case measure=>omega
     case rel=>exact⟨k+1,by omega,by go_num,rfl,uw,Xt⟩
    ·have heb:(ks[k].toList !=js[k].toList)=true:=by simpa using fun h=>he (kV h)
     have hec:(ks[k].toList==js[k].toList)=false:=by simpa using fun h=>he (kV h)
     have hed:¬ks[k].toList=js[k].toList:=fun h=>he (kV h);have He:=ae he;clear he;go_wp2_with fail
     go_quiet (fail)
     go_wp2_with fail;go_ret;exact⟨_,rfl,⟨fun h=>by(first|cases h|simp at h),fun h=>absurd (by simp only [h]) He.out⟩,Xt⟩
   ·have cy:=ae (show ks=js by
     have:=Ht.out
     rwa [List.take_of_length_le (by rw [hn.out];omega),List.take_of_length_le (by rw [hm.out];omega)] at this)
    go_wp2_with fail;go_ret;exact⟨_,rfl,⟨fun _=>cy.out,fun _=>rfl⟩,Xt⟩
 ·have hnb:((n:Int) !=(m:Int))=true:=by simp;omega
  have hnc:((n:Int)==(m:Int))=false:=by simp;omega
  have dW:=ae (show ks≠js from fun h=>eF (by rw [<-hn.out,<-hm.out,h]));clear eF;go_enter func37,ntmps37;go_wp2_with fail;go_ret;exact⟨_,rfl,⟨fun h=>by(first|cases h|simp at h),fun h=>absurd h dW.out⟩,Xt⟩
def Uc (m:Nat):Prop:=∀(x y:V) (ka:au) (kc:Nat) (la:au) (lc:Nat) (S:az) (kb:au) (kd:Nat) (lb:au) (ld:Nat) (T:az) (w:World),x.size<=m->x.size<=1073741824->y.size<=1073741824->x.In w S ka kc la lc->y.In w T kb kd lb ld->
 Calls prog 14 #[x.val ka kc la lc,y.val kb kd lb ld] w (zJ (x=y) w)
theorem ady (q:Nat) (ih:Uc q) (n m ca cb:Nat) (a b:au) (l t:List V) (S T:az) (w:World) (hn:Hid (l.length=n)) (hm:Hid (t.length=m)) (h1:Rows w S l a) (h2:Rows w T t b) (hb:n<=1073741824) (hs1:Hid (∀x∈l,x.size<=q/\x.size<=1073741824)) (hs2:Hid (∀x∈t,x.size<=1073741824)):
 Calls prog 38 #[.slice a n ca, .slice b m cb, .func (.func 14) #[] #[]] w (zJ (l=t) w):=by
 have Ih:=ae ih;clear ih;by_cases eF:n=m
 ·subst eF
  go_enter func38,ntmps38;go_wp2_with fail
  go_loopg [7,8,9,17] n (fun g _ _ _ i wr=>∃k:Nat,k<=n/\i= .int .i64 k/\g=n-k/\Hid (l.take k=t.take k)/\Ext w wr)
  case atStart=>exact⟨0,by omega,rfl,rfl,ae (by simp),Xt⟩
  case round=>
   obtain⟨k,hk,rfl,rfl,Ht,hx⟩:=hrel;by_cases hlt:k<n
   ·have ay:k<l.length:=by rw [hn.out];exact hlt
    have hl2:k<t.length:=by rw [hm.out];exact hlt
    obtain⟨b1,o1,rfl,-,c1⟩:=h1.resolve_left (by intro e;subst e;simp at ay);obtain⟨b2,o2,rfl,-,c2⟩:=h2.resolve_left (by intro e;subst e;simp at hl2);obtain⟨iR,iT,iU,iV,⟨d0,d1,d2,d3,d4⟩,eJ⟩:=(c1 k ay).ext hx;obtain⟨cF,cG,cH,cI,⟨g0,g1,g2,g3,g4⟩,bN⟩:=(c2 k hl2).ext hx;have lM:=ae eJ;have bE:=ae bN;clear c1 c2 eJ bN;have kY:(0:Int)<= (k:Int):=by omega
    have kZ:(k:Int)<(n:Int):=by omega
    have hz1:=hs1.out _ (List.getElem_mem ay);have hz2:=hs2.out _ (List.getElem_mem hl2);have hb1:b1<wr.heap.size:=lh d0;have hb2:b2<wr.heap.size:=lh g0;go_wp2_with fail;(refine(Ih.out l[k] t[k] iR iT iU iV S cF cG cH cI T _ hz1.1 hz1.2 hz2 (lM.out.ext Xt) (bE.out.ext Xt)).mono ?_);rintro e w1 ⟨r,rfl,hr,H9⟩;have Hr:=ae hr;have hx1:Ext w w1:=Xt;clear hr H9
    cases r with
    |true=>
     have uw:=ae (MS ay hl2 Ht.out (Hr.out.1 (by trivial)));go_wp2_with fail;go_roundg (n-(k+1))
     case measure=>omega
     case rel=>exact⟨k+1,by omega,by go_num,rfl,uw,Xt⟩
    |false=>
     have He:=ae (show l[k]≠t[k] from fun h=>by have:=Hr.out.2 h;cases this);go_wp2_with fail;go_ret;exact⟨_,rfl,⟨fun h=>by(first|cases h|simp at h),fun h=>absurd (by simp only [h]) He.out⟩,Xt⟩
   ·have cy:=ae (show l=t by
     have:=Ht.out
     rwa [List.take_of_length_le (by rw [hn.out];omega),List.take_of_length_le (by rw [hm.out];omega)] at this)
    go_wp2_with fail;go_ret;exact⟨_,rfl,⟨fun _=>cy.out,fun _=>rfl⟩,Xt⟩
 ·have hnb:((n:Int) !=(m:Int))=true:=by simp;omega
  have hnc:((n:Int)==(m:Int))=false:=by simp;omega
  have dW:=ae (show l≠t from fun h=>eF (by rw [<-hn.out,<-hm.out,h]));clear eF;go_enter func38,ntmps38;go_wp2_with fail;go_ret;exact⟨_,rfl,⟨fun h=>by(first|cases h|simp at h),fun h=>absurd h dW.out⟩,Xt⟩
theorem V.ext' {x y:V} (h1:x.k=y.k) (h2:x.n=y.n) (h3:x.s=y.s) (h4:x.keys=y.keys) (h5:x.l=y.l):x=y:=by
 rw [<-V.eta x,<-V.eta y,h1,h2,h3,h4,h5]
theorem adz (m:Nat):Uc m:=by
 induction m with
 |zero=>intro x _ _ _ _ _ _ _ _ _ _ _ _ h;have:=x.size_pos;omega
 |succ m ih=>
  intro x y ka kc la lc S kb kd lb ld T w hm hsz jB hin hjn;have hl:=x.kB;have hlk:=x.Ar;have aJ:=ae hin;have aU:=ae hjn;have dY:=ae (show∀z∈x.l,z.size<=m/\z.size<=1073741824 from fun z hz=>by have:=V.yZ hz;omega);have jv:=ae (show∀z∈y.l,z.size<=1073741824 from fun z hz=>by have:=V.yZ hz;omega);clear hin hjn;by_cases hk:x.k=y.k
  ·have hkb:(x.k==y.k)=true:=by simpa using hk
   by_cases hn:x.n=y.n
   ·have hnb:(x.n==y.n)=true:=by simpa using hn
    by_cases hs:x.s=y.s
    ·have vQ:(x.s.toList==y.s.toList)=true:=by rw [hs];simp
     have hsc:x.s.toList=y.s.toList:=by rw [hs]
     have Hk:=ae hk;have Hn:=ae hn;have Hs:=ae hs;clear hk hn hs;go_enter func14,ntmps14;go_wp2_with fail;(refine(Ub x.keys.length y.keys.length kc kd ka kb x.keys y.keys S T _ (ae rfl) (ae rfl) ((V.dz ..).1 (aJ.out.ext Xt)).2.2.1 ((V.dz ..).1 (aU.out.ext Xt)).2.2.1 (by omega)).mono ?_);rintro e w1 ⟨r,rfl,hr,h1⟩;have Hr:=ae hr;have ag:aD w1 w.heap.size x ka kc la lc:=af.ext h1 aj;have ai:aD w1 (w.heap.size+1) y kb kd lb ld:=af.ext h1 aj;have hx1:Ext w w1:=Xt;clear hr h1
     cases r with
     |true=>
      obtain⟨hc0,aw,hl0⟩:=ag.see;obtain⟨hc1,aA,ay⟩:=ai.see;go_wp2_with fail;(refine(ady m ih x.l.length y.l.length lc ld la lb x.l y.l S T _ (ae rfl) (ae rfl) ((V.dz ..).1 (aJ.out.ext Xt)).2.2.2 ((V.dz ..).1 (aU.out.ext Xt)).2.2.2 (by omega) dY jv).mono ?_);rintro e w2 ⟨r2,rfl,hr2,h2⟩;have iO:=ae hr2;have hx2:Ext w w2:=Xt;clear hr2 h2 hc0 aw hl0 hc1 aA ay
      cases r2 with
      |true=>
       go_wp2_with fail;go_ret;exact⟨_,rfl,⟨fun _=>V.ext' Hk.out Hn.out Hs.out (Hr.out.1 (by trivial)) (iO.out.1 (by trivial)),fun _=>rfl⟩,Xt⟩
      |false=>
       go_wp2_with fail;go_ret;exact⟨_,rfl,⟨fun h=>by(first|cases h|simp at h),fun h=>by have:=iO.out.2 (by rw [h]);cases this⟩,Xt⟩
     |false=>
      go_wp2_with fail;go_ret;exact⟨_,rfl,⟨fun h=>by(first|cases h|simp at h),fun h=>by have:=Hr.out.2 (by rw [h]);cases this⟩,Xt⟩
    ·have vQ:(x.s.toList==y.s.toList)=false:=by simpa using fun h=>hs (kV h)
     have hsc:¬x.s.toList=y.s.toList:=fun h=>hs (kV h);have Hs:=ae hs;clear hk hn hs;go_enter func14,ntmps14;go_wp2_with fail;go_ret;exact⟨_,rfl,⟨fun h=>by(first|cases h|simp at h),fun h=>absurd (by rw [h]) Hs.out⟩,Xt⟩
   ·have hnb:(x.n==y.n)=false:=by simpa using hn
    have Hn:=ae hn;clear hk hn;go_enter func14,ntmps14;go_wp2_with fail;go_ret;exact⟨_,rfl,⟨fun h=>by(first|cases h|simp at h),fun h=>absurd (by rw [h]) Hn.out⟩,Xt⟩
  ·have hkb:(x.k==y.k)=false:=by simpa using hk
   have Hk:=ae hk;clear hk;go_enter func14,ntmps14;go_wp2_with fail;go_ret;exact⟨_,rfl,⟨fun h=>by(first|cases h|simp at h),fun h=>absurd (by rw [h]) Hk.out⟩,Xt⟩
theorem xq (x y:V) (ka:au) (kc:Nat) (la:au) (lc:Nat) (S:az) (kb:au) (kd:Nat) (lb:au) (ld:Nat) (T:az) (w:World) (hsz:x.size<=1073741824) (jB:y.size<=1073741824) (hin:x.In w S ka kc la lc) (hjn:y.In w T kb kd lb ld):
 Calls prog 14 #[x.val ka kc la lc,y.val kb kd lb ld] w fun e w'=>e= .returned (.bool (x.same y))/\Ext w w':=by
 refine(adz x.size x y ka kc la lc S kb kd lb ld T w (Nat.le_refl _) hsz jB hin hjn).mono ?_;rintro e w' ⟨b,rfl,hb,hx⟩;refine⟨?_,hx⟩;have:b=x.same y:=by rw [Bool.eq_iff_iff,hb,ve]
 rw [this]
end Go.Proofs.YtlcebdaghmdkeabGreatDoor
