import Derived.Sort.OwnSorted
import Derived.Test.YtlcebdaghmdkeabGreatDoorM7
set_option linter.all false
set_option maxRecDepth 100000
set_option maxHeartbeats 64000000
namespace Go.Proofs.YtlcebdaghmdkeabGreatDoor
open Go.Proofs.Tryz
open Go.RowKit
attribute [local go_sem↓] Go.wp_at_zero Go.wp_at_succ
theorem Lv {α:Type} {l m:List α} {k:Nat} (h1:k<l.length) (h2:k<m.length) (h:l.take k=m.take k) (e:l[k]=m[k]):l.take (k+1)=m.take (k+1):=by
 rw [List.take_succ_eq_append_getElem h1,List.take_succ_eq_append_getElem h2,h,e]
def yN (p:Prop) (w:World) (e:Ending) (w':World):Prop:=∃b:Bool,e= .returned (.bool b)/\ (b=true↔p)/\Ext w w'
theorem Sj (n m ca cb:Nat) (a b:aq) (ks js:List ah) (S T:aw) (w:World) (hn:Hid (ks.length=n)) (hm:Hid (js.length=m)) (h1:bC w S a ks) (h2:bC w T b js) (hb:n<=1073741824):
 Calls prog 37 #[.slice a n ca, .slice b m cb] w (yN (ks=js) w):=by
 by_cases dZ:n=m
 ·subst dZ
  go_enter func37,ntmps37;go_wp2_with fail
  go_loopg [5,13] n (fun g _ i wr=>∃k:Nat,k<=n/\i= .int .i64 k/\g=n-k/\Hid (ks.take k=js.take k)/\Ext w wr)
  case atStart=>exact⟨0,by omega,rfl,rfl,ae (by simp),Xt⟩
  case round=>
   obtain⟨k,hk,rfl,rfl,Ht,hx⟩:=hrel;by_cases hlt:k<n
   ·have ay:k<ks.length:=by rw [hn.out];exact hlt
    have hl2:k<js.length:=by rw [hm.out];exact hlt
    obtain⟨b1,o1,rfl,-,c1⟩:=h1.resolve_left (by intro e;subst e;simp at ay);obtain⟨b2,o2,rfl,-,c2⟩:=h2.resolve_left (by intro e;subst e;simp at hl2);have d0:=hx.cell (c1 k ay);have d1:=hx.cell (c2 k hl2);clear c1 c2;have nj:(0:Int)<= (k:Int):=by omega
    have np:(k:Int)<(n:Int):=by omega
    by_cases he:ks[k]=js[k]
    ·have heb:(ks[k].toList !=js[k].toList)=false:=by rw [he];simp
     have hec:(ks[k].toList==js[k].toList)=true:=by rw [he];simp
     have hed:ks[k].toList=js[k].toList:=by rw [he]
     have tC:=ae (Lv ay hl2 Ht.out he);clear he;go_wp2_with fail
     go_quiet (fail)
     go_wp2_with fail;go_roundg (n-(k+1))
     case measure=>omega
     case rel=>exact⟨k+1,by omega,by go_num,rfl,tC,Xt⟩
    ·have heb:(ks[k].toList !=js[k].toList)=true:=by simpa using fun h=>he (kK h)
     have hec:(ks[k].toList==js[k].toList)=false:=by simpa using fun h=>he (kK h)
     have hed:¬ks[k].toList=js[k].toList:=fun h=>he (kK h);have He:=ae he;clear he;go_wp2_with fail
     go_quiet (fail)
     go_wp2_with fail;go_ret;exact⟨_,rfl,⟨fun h=>by(first|cases h|simp at h),fun h=>absurd (by simp only [h]) He.out⟩,Xt⟩
   ·have cx:=ae (show ks=js by
     have:=Ht.out
     rwa [List.take_of_length_le (by rw [hn.out];omega),List.take_of_length_le (by rw [hm.out];omega)] at this)
    go_wp2_with fail;go_ret;exact⟨_,rfl,⟨fun _=>cx.out,fun _=>rfl⟩,Xt⟩
 ·have hnb:((n:Int) !=(m:Int))=true:=by simp;omega
  have hnc:((n:Int)==(m:Int))=false:=by simp;omega
  have dS:=ae (show ks≠js from fun h=>dZ (by rw [<-hn.out,<-hm.out,h]));clear dZ;go_enter func37,ntmps37;go_wp2_with fail;go_ret;exact⟨_,rfl,⟨fun h=>by(first|cases h|simp at h),fun h=>absurd h dS.out⟩,Xt⟩
def Sk (m:Nat):Prop:=∀(x y:V) (ka:aq) (kc:Nat) (la:aq) (lc:Nat) (S:aw) (kb:aq) (kd:Nat) (lb:aq) (ld:Nat) (T:aw) (w:World),x.size<=m->x.size<=1073741824->y.size<=1073741824->x.In w S ka kc la lc->y.In w T kb kd lb ld->
 Calls prog 14 #[x.val ka kc la lc,y.val kb kd lb ld] w (yN (x=y) w)
theorem acn (q:Nat) (ih:Sk q) (n m ca cb:Nat) (a b:aq) (l t:List V) (S T:aw) (w:World) (hn:Hid (l.length=n)) (hm:Hid (t.length=m)) (h1:Rows w S l a) (h2:Rows w T t b) (hb:n<=1073741824) (hs1:Hid (∀x∈l,x.size<=q/\x.size<=1073741824)) (hs2:Hid (∀x∈t,x.size<=1073741824)):
 Calls prog 38 #[.slice a n ca, .slice b m cb, .func (.func 14) #[] #[]] w (yN (l=t) w):=by
 have Ih:=ae ih;clear ih;by_cases dZ:n=m
 ·subst dZ
  go_enter func38,ntmps38;go_wp2_with fail
  go_loopg [7,8,9,17] n (fun g _ _ _ i wr=>∃k:Nat,k<=n/\i= .int .i64 k/\g=n-k/\Hid (l.take k=t.take k)/\Ext w wr)
  case atStart=>exact⟨0,by omega,rfl,rfl,ae (by simp),Xt⟩
  case round=>
   obtain⟨k,hk,rfl,rfl,Ht,hx⟩:=hrel;by_cases hlt:k<n
   ·have ay:k<l.length:=by rw [hn.out];exact hlt
    have hl2:k<t.length:=by rw [hm.out];exact hlt
    obtain⟨b1,o1,rfl,-,c1⟩:=h1.resolve_left (by intro e;subst e;simp at ay);obtain⟨b2,o2,rfl,-,c2⟩:=h2.resolve_left (by intro e;subst e;simp at hl2);obtain⟨iH,iI,iJ,iK,⟨d0,d1,d2,d3,d4⟩,fc⟩:=(c1 k ay).ext hx;obtain⟨cp,ct,cu,cw,⟨g0,g1,g2,g3,g4⟩,bR⟩:=(c2 k hl2).ext hx;have ni:=ae fc;have cn:=ae bR;clear c1 c2 fc bR;have nj:(0:Int)<= (k:Int):=by omega
    have np:(k:Int)<(n:Int):=by omega
    have hz1:=hs1.out _ (List.getElem_mem ay);have hz2:=hs2.out _ (List.getElem_mem hl2);have hb1:b1<wr.heap.size:=ku d0;have hb2:b2<wr.heap.size:=ku g0;go_wp2_with fail;(refine(Ih.out l[k] t[k] iH iI iJ iK S cp ct cu cw T _ hz1.1 hz1.2 hz2 (ni.out.ext Xt) (cn.out.ext Xt)).mono ?_);rintro e w1 ⟨r,rfl,hr,AB⟩;have Hr:=ae hr;have hx1:Ext w w1:=Xt;clear hr AB
    cases r with
    |true=>
     have tC:=ae (Lv ay hl2 Ht.out (Hr.out.1 (by trivial)));go_wp2_with fail;go_roundg (n-(k+1))
     case measure=>omega
     case rel=>exact⟨k+1,by omega,by go_num,rfl,tC,Xt⟩
    |false=>
     have He:=ae (show l[k]≠t[k] from fun h=>by have:=Hr.out.2 h;cases this);go_wp2_with fail;go_ret;exact⟨_,rfl,⟨fun h=>by(first|cases h|simp at h),fun h=>absurd (by simp only [h]) He.out⟩,Xt⟩
   ·have cx:=ae (show l=t by
     have:=Ht.out
     rwa [List.take_of_length_le (by rw [hn.out];omega),List.take_of_length_le (by rw [hm.out];omega)] at this)
    go_wp2_with fail;go_ret;exact⟨_,rfl,⟨fun _=>cx.out,fun _=>rfl⟩,Xt⟩
 ·have hnb:((n:Int) !=(m:Int))=true:=by simp;omega
  have hnc:((n:Int)==(m:Int))=false:=by simp;omega
  have dS:=ae (show l≠t from fun h=>dZ (by rw [<-hn.out,<-hm.out,h]));clear dZ;go_enter func38,ntmps38;go_wp2_with fail;go_ret;exact⟨_,rfl,⟨fun h=>by(first|cases h|simp at h),fun h=>absurd h dS.out⟩,Xt⟩
theorem V.ext' {x y:V} (h1:x.k=y.k) (h2:x.n=y.n) (h3:x.s=y.s) (h4:x.keys=y.keys) (h5:x.l=y.l):x=y:=by
 rw [<-V.eta x,<-V.eta y,h1,h2,h3,h4,h5]
theorem aco (m:Nat):Sk m:=by
 induction m with
 |zero=>intro x _ _ _ _ _ _ _ _ _ _ _ _ h;have:=x.size_pos;omega
 |succ m ih=>
  intro x y ka kc la lc S kb kd lb ld T w hm hsz jl hin hjn;have hl:=x.jO;have hlk:=x.xq;have aH:=ae hin;have aT:=ae hjn;have dU:=ae (show∀z∈x.l,z.size<=m/\z.size<=1073741824 from fun z hz=>by have:=V.xZ hz;omega);have je:=ae (show∀z∈y.l,z.size<=1073741824 from fun z hz=>by have:=V.xZ hz;omega);clear hin hjn;by_cases hk:x.k=y.k
  ·have hkb:(x.k==y.k)=true:=by simpa using hk
   by_cases hn:x.n=y.n
   ·have hnb:(x.n==y.n)=true:=by simpa using hn
    by_cases hs:x.s=y.s
    ·have AE:(x.s.toList==y.s.toList)=true:=by rw [hs];simp
     have hsc:x.s.toList=y.s.toList:=by rw [hs]
     have Hk:=ae hk;have Hn:=ae hn;have Hs:=ae hs;clear hk hn hs;go_enter func14,ntmps14;go_wp2_with fail;(refine(Sj x.keys.length y.keys.length kc kd ka kb x.keys y.keys S T _ (ae rfl) (ae rfl) ((V.df ..).1 (aH.out.ext Xt)).2.2.1 ((V.df ..).1 (aT.out.ext Xt)).2.2.1 (by omega)).mono ?_);rintro e w1 ⟨r,rfl,hr,h1⟩;have Hr:=ae hr;have ag:aC w1 w.heap.size x ka kc la lc:=af.ext h1 aj;have ai:aC w1 (w.heap.size+1) y kb kd lb ld:=af.ext h1 aj;have hx1:Ext w w1:=Xt;clear hr h1
     cases r with
     |true=>
      obtain⟨hc0,ax,hl0⟩:=ag.see;obtain⟨hc1,aA,ay⟩:=ai.see;go_wp2_with fail;(refine(acn m ih x.l.length y.l.length lc ld la lb x.l y.l S T _ (ae rfl) (ae rfl) ((V.df ..).1 (aH.out.ext Xt)).2.2.2 ((V.df ..).1 (aT.out.ext Xt)).2.2.2 (by omega) dU je).mono ?_);rintro e w2 ⟨r2,rfl,hr2,h2⟩;have j4:=ae hr2;have hx2:Ext w w2:=Xt;clear hr2 h2 hc0 ax hl0 hc1 aA ay
      cases r2 with
      |true=>
       go_wp2_with fail;go_ret;exact⟨_,rfl,⟨fun _=>V.ext' Hk.out Hn.out Hs.out (Hr.out.1 (by trivial)) (j4.out.1 (by trivial)),fun _=>rfl⟩,Xt⟩
      |false=>
       go_wp2_with fail;go_ret;exact⟨_,rfl,⟨fun h=>by(first|cases h|simp at h),fun h=>by have:=j4.out.2 (by rw [h]);cases this⟩,Xt⟩
     |false=>
      go_wp2_with fail;go_ret;exact⟨_,rfl,⟨fun h=>by(first|cases h|simp at h),fun h=>by have:=Hr.out.2 (by rw [h]);cases this⟩,Xt⟩
    ·have AE:(x.s.toList==y.s.toList)=false:=by simpa using fun h=>hs (kK h)
     have hsc:¬x.s.toList=y.s.toList:=fun h=>hs (kK h);have Hs:=ae hs;clear hk hn hs;go_enter func14,ntmps14;go_wp2_with fail;go_ret;exact⟨_,rfl,⟨fun h=>by(first|cases h|simp at h),fun h=>absurd (by rw [h]) Hs.out⟩,Xt⟩
   ·have hnb:(x.n==y.n)=false:=by simpa using hn
    have Hn:=ae hn;clear hk hn;go_enter func14,ntmps14;go_wp2_with fail;go_ret;exact⟨_,rfl,⟨fun h=>by(first|cases h|simp at h),fun h=>absurd (by rw [h]) Hn.out⟩,Xt⟩
  ·have hkb:(x.k==y.k)=false:=by simpa using hk
   have Hk:=ae hk;clear hk;go_enter func14,ntmps14;go_wp2_with fail;go_ret;exact⟨_,rfl,⟨fun h=>by(first|cases h|simp at h),fun h=>absurd (by rw [h]) Hk.out⟩,Xt⟩
theorem CD (x y:V) (ka:aq) (kc:Nat) (la:aq) (lc:Nat) (S:aw) (kb:aq) (kd:Nat) (lb:aq) (ld:Nat) (T:aw) (w:World) (hsz:x.size<=1073741824) (jl:y.size<=1073741824) (hin:x.In w S ka kc la lc) (hjn:y.In w T kb kd lb ld):
 Calls prog 14 #[x.val ka kc la lc,y.val kb kd lb ld] w fun e w'=>e= .returned (.bool (x.same y))/\Ext w w':=by
 refine(aco x.size x y ka kc la lc S kb kd lb ld T w (Nat.le_refl _) hsz jl hin hjn).mono ?_;rintro e w' ⟨b,rfl,hb,hx⟩;refine⟨?_,hx⟩;have:b=x.same y:=by rw [Bool.eq_iff_iff,hb,Ek]
 rw [this]
theorem sJ (p q:ah) (w:World) (hp:p.size<=1073741824):Calls prog 137 #[.string p, .string q] w fun e w'=>e= .returned (.bool (fE p q))/\w=w':=by
 have c1:¬p.size+(⟨#[47]⟩:ah).size>9223372036854775807:=by have:(⟨#[47]⟩:ah).size=1:=rfl;omega
 go_enter func137,ntmps137;go_wp2_with fail;have hP:=Tryz.strings_HasPrefix q (p++⟨#[47]⟩) w;(refine hP.mono ?_);rintro e w1 ⟨rfl,rfl⟩;go_wp2_with fail;go_ret;refine⟨cX ?_,rfl⟩;unfold fE Lib.hasPrefix;simp
theorem ZV {ks:List ah} {k:Nat} (h:k<ks.length) (y:V):bh (ks.drop k) y=(y.member ks[k]).bind (bh (ks.drop (k+1))):=by
 rw [List.drop_eq_getElem_cons h];rfl
theorem ZW {ks:List ah} {k:Nat} (h:¬k<ks.length) (y:V):bh (ks.drop k) y=some y:=by
 rw [List.drop_eq_nil_of_le (by omega)];rfl
theorem BQ (x:V) (ka:aq) (kc:Nat) (la:aq) (lc:Nat) (S:aw) (p:ah) (w:World) (hsz:x.size<=1073741824) (hin:x.In w S ka kc la lc) (hp:p.size<=1073741824) (hm:fL w):
 Calls prog 139 #[x.val ka kc la lc, .string p] w (eO S ((bH x p).getD V.zero) (.bool (bH x p).isSome) w):=by
 have aH:=ae (hin.mono (T:=fun b=>(S b/\b<w.heap.size)\/w.heap.size+2<=b) (fun b h hl=> .inl ⟨h,hl⟩));clear hin;go_enter func139,ntmps139;go_upto_region 1 with fail
 refine aI (R:=fun wx=>aC wx w.heap.size x ka kc la lc/\aN wx (w.heap.size+1)/\Ext w wx) ⟨aj,aj,Xt⟩ ?_;rintro wa ⟨ag,ai,aD⟩;have ay:=ai.lt;go_wp2_with fail;(refine(Bi p _ hp (hm.ext Xt)).mono ?_);rintro e w1 ⟨na,nc,rfl,vz,ov,h1⟩;obtain⟨er,her⟩:∃er:Int,(if(cI p).isSome=true then(0:Int) else 1)=er:=⟨_,rfl⟩;rw [her];clear her;have hnl:=(Eg p).1;have ag:=af.ext h1 ag;have ai:=af.ext h1 ai;have hx1:Ext w w1:=aD.trans h1;have aH:=ae (aH.out.ext hx1);have aP:=ae (ov.keep (T:=fun b=>w.heap.size+2<=b) (fun _ _ _=>rfl) (fun b h _=>by omega));have ED:=ae (show bh ((bL p).drop 0) x=bH x p from rfl);clear h1 aD ay ov;go_wp2_with fail
 go_loopg [19] (bL p).length (fun g i wr=>∃(k:Nat) (y:V) (ky:aq) (kd:Nat) (ly:aq) (ld:Nat),k<= (bL p).length/\i= .int .i64 k/\g=(bL p).length-k/\bh ((bL p).drop k) y=bH x p/\y.size<=1073741824/\
  aC wr w.heap.size y ky kd ly ld/\aN wr (w.heap.size+1)/\y.In wr (fun b=>(S b/\b<w.heap.size)\/w.heap.size+2<=b) ky kd ly ld/\bC wr (fun b=>w.heap.size+2<=b) na (bL p)/\Ext w wr)
 case atStart=>exact⟨0,x,ka,kc,la,lc,Nat.zero_le _,rfl,rfl,ED.out,hsz,aj,aj,aH.out.ext Xt,aP.out.ext Xt,Xt⟩
 case round=>
  obtain⟨k,y,ky,kd,ly,ld,hk,rfl,rfl,hgo,hys,ag,ai,Qp,hst,hx⟩:=hrel;clear aH aP ED hx1;have nG:=ae hgo;have Qq:=ae Qp;clear hgo Qp;have G5:=ai.lt;by_cases hlt:k<(bL p).length
  ·obtain⟨b,o,rfl,hS,hC⟩:=hst.resolve_left (by intro h;rw [h] at hlt;simp at hlt)
   have d0:=hC k hlt;have aP:=ae hst;have oH:=ae (ZV hlt y);clear hC hst;obtain⟨hc0,ax,hl0⟩:=ag.see;go_wp2_with fail;(refine(pP y (bL p)[k] ky kd ly ld _ _ hys (Qq.out.ext Xt)).mono ?_);have ur:=D8 y (bL p)[k]
   cases hmm:y.member (bL p)[k] with
   |none=>
    have Ad:y.ik (bL p)[k]=V.zero:=by unfold V.ik;rw [hmm];rfl
    rw [Ad];have bj:=ae (show bH x p=none by rw [<-nG.out,oH.out,hmm];rfl);rintro e w2 ⟨aX,aY,aZ,bf,rfl,bn,h2⟩;have ai:=af.ext (w':=w2) Xt ai;have hx2:Ext w w2:=Xt;have hzz:=hx.size;clear h2 hc0 ax hl0 Ad hmm ur;go_upto_region 7 with fail
    refine aI (R:=fun wx=>aC wx w2.heap.size V.zero aX aY aZ bf/\aN wx (w.heap.size+1)/\Ext w2 wx) ⟨aj,aj,Xt⟩ ?_;rintro wb ⟨pA,ai,aO⟩;have bJ:=ae (bn.ext aO);have hx3:Ext w wb:=hx2.trans aO;clear bn aO hx2;obtain⟨vT,vU,vV⟩:=pA.see;obtain⟨hc1,aA,ay⟩:=ai.see;go_wp2_with fail;refine aF (h:= ?_);rw [bj.out];exact⟨aX,aY,aZ,bf,rfl,V.In.keep (S:=fun b=>b≠w.heap.size+1/\ ((S b/\b<w.heap.size)\/w.heap.size+2<=b)) (bJ.out.mono (fun b h _=>by rcases h with(h|h)|h;exact⟨by omega, .inl h⟩;exact⟨by omega, .inr h⟩;(try simp at h);exact⟨by omega, .inr (by omega)⟩)) (Held.kept (a:=wb) (T:=fun b=>b≠w.heap.size+1/\ ((S b/\b<w.heap.size)\/w.heap.size+2<=b)) aB) (fun b h _=>by rcases h.2 with h|h;exact .inl h.1;exact .inr (by omega)),Xt⟩
   |some z=>
    have Ad:y.ik (bL p)[k]=z:=by unfold V.ik;rw [hmm];rfl
    rw [Ad];have ZX:=ae (show bh ((bL p).drop (k+1)) z=bH x p by rw [<-nG.out,oH.out,hmm];rfl);have hzs:z.size<=1073741824:=by have:=P8 hmm;omega
    rintro e w2 ⟨aX,aY,aZ,bf,rfl,bn,h2⟩;have ag:=af.ext (w':=w2) Xt ag;have ai:=af.ext (w':=w2) Xt ai;have hx2:Ext w w2:=Xt;have hzz:=hx.size;have hw2:=ai.lt;have aP:=ae (aP.out.ext (w':=w2) Xt);have bJ:=ae (bn.mono (T:=fun b=>(S b/\b<w.heap.size)\/w.heap.size+2<=b) (fun b h _=>by rcases h with h|h;exact h;(try simp at h);exact .inr (by omega)));clear h2 hc0 ax hl0 Ad hmm ur bn;go_upto_region 8 with fail
    refine aI (R:=fun wx=>aC wx w2.heap.size z aX aY aZ bf/\aC wx w.heap.size y ky kd ly ld/\aN wx (w.heap.size+1)/\Ext w2 wx) ⟨aj,aj,aj,Xt⟩ ?_;clear ag ai;rintro wb ⟨pA,ag,ai,aO⟩;have bJ:=ae (bJ.out.ext aO);have aP:=ae (aP.out.ext aO);have hx3:Ext w wb:=hx2.trans aO;clear aO hx2;obtain⟨vT,vU,vV⟩:=pA.see;obtain⟨hc0,ax,hl0⟩:=ag.see;go_wp2_with fail;go_roundg ((bL p).length-(k+1))
    case measure=>omega
    case rel=>exact⟨k+1,z,aX,aY,aZ,bf,by omega,by go_num,rfl,ZX.out,hzs,aj,aj,bJ.out.keep (Held.kept (a:=wb) (T:=fun b=>(S b/\b<w.heap.size)\/w.heap.size+2<=b) aB) (fun b h _=>h),aP.out.keep (Held.kept (a:=wb) (T:=fun b=>w.heap.size+2<=b) aB) (fun b h _=>h),Xt⟩
  ·have kU:=ae (show bH x p=some y by rw [<-nG.out,ZW hlt])
   obtain⟨hc0,ax,hl0⟩:=ag.see;obtain⟨hc1,aA,ay⟩:=ai.see;go_wp2_with fail;refine aF (h:= ?_);rw [kU.out];have kO:Ext w wr:=Xt;exact⟨ky,kd,ly,ld,rfl,V.In.keep (S:=fun b=>(S b/\b<w.heap.size)\/w.heap.size+2<=b) Qq.out (Held.kept (a:=wr) (T:=fun b=>(S b/\b<w.heap.size)\/w.heap.size+2<=b) aB) (fun b h _=>by rcases h with h|h;exact .inl h.1;exact .inr (by omega)),Xt⟩
theorem Iq (x y:V) (ka:aq) (kc:Nat) (la:aq) (lc:Nat) (S:aw) (kb:aq) (kd:Nat) (lb:aq) (ld:Nat) (T:aw) (w:World) (hsz:x.size<=1073741824) (jl:y.size<=1073741824) (hin:x.In w S ka kc la lc) (hjn:y.In w T kb kd lb ld):
 Calls prog 179 #[x.val ka kc la lc,y.val kb kd lb ld] w fun e w'=>e= .returned (.bool (iP x y))/\Ext w w':=by
 have aH:=ae hin;have aT:=ae hjn;have Hl:=ae (show iP x y=(x.same y||(decide (x.k=5)&&decide (y.k=5)&&decide (y.l.length=0))) from rfl);clear hin hjn;go_enter func179,ntmps179;go_upto_region 1 with fail
 refine aI (R:=fun wx=>aC wx w.heap.size x ka kc la lc/\aC wx (w.heap.size+1) y kb kd lb ld/\Ext w wx) ⟨aj,aj,Xt⟩ ?_;rintro wa ⟨ag,ai,aD⟩;obtain⟨hc0,ax,hl0⟩:=ag.see;obtain⟨hc1,aA,ay⟩:=ai.see;go_wp2_with fail;(refine(CD x y ka kc la lc S kb kd lb ld T _ hsz jl (aH.out.ext Xt) (aT.out.ext Xt)).mono ?_);rintro e w1 ⟨rfl,h1⟩;have ag:=af.ext h1 ag;have ai:=af.ext h1 ai;have hx1:Ext w w1:=aD.trans h1;clear h1 aD hc0 ax hl0 hc1 aA ay;obtain⟨hc0,ax,hl0⟩:=ag.see;obtain⟨hc1,aA,ay⟩:=ai.see
 cases hs:x.same y with
 |true=>
  rw [hs] at Hl;clear hs;go_wp2_with fail;go_ret;exact⟨cX (by rw [Hl.out];rfl),Xt⟩
 |false=>
  rw [hs] at Hl;clear hs;by_cases h5:x.k=5
  ·have o6:(x.k==5)=true:=by simpa using h5
   have Fv:=ae h5;clear h5;by_cases h6:y.k=5
   ·have CI:(y.k==5)=true:=by simpa using h6
    have Fw:=ae h6;clear h6;by_cases h7:y.l.length=0
    ·have J7:((y.l.length:Int)==0)=true:=by rw [h7];rfl
     have H7:=ae h7;clear h7;go_wp2_with fail;go_ret;exact⟨cX (by rw [Hl.out,decide_eq_true Fv.out,decide_eq_true Fw.out,decide_eq_true H7.out];rfl),Xt⟩
    ·have J7:((y.l.length:Int)==0)=false:=beq_eq_false_iff_ne.2 (by omega)
     have H7:=ae h7;clear h7;go_wp2_with fail;go_ret;exact⟨cX (by rw [Hl.out,decide_eq_true Fv.out,decide_eq_true Fw.out,decide_eq_false H7.out];rfl),Xt⟩
   ·have CI:(y.k==5)=false:=by simpa using h6
    have Fw:=ae h6;clear h6;go_wp2_with fail;go_ret;refine⟨cX ?_,Xt⟩;rw [Hl.out,decide_eq_false Fw.out];simp
  ·have o6:(x.k==5)=false:=by simpa using h5
   have Fv:=ae h5;clear h5;go_wp2_with fail;go_ret;refine⟨cX ?_,Xt⟩;rw [Hl.out,decide_eq_false Fv.out];simp
theorem zT (ks:List ah) (a:aq) (n c:Nat) (S:aw) (w:World) (hn:ks.length=n) (hok:aM a n c) (hbig:n<=1073741824) (hst:bC w S a ks):
 Calls prog 36 #[.slice a n c] w fun e w'=>∃a' c',e= .returned (.slice a' n c')/\aM a' n c'/\dK w' w.heap.size (.slice a' n c') n ks/\Ext w w':=by
 refine(Fa a n c (ks.map Value.string) w hok hbig (by simp [hn]) (by have:=E1 hst;rwa [hn] at this) (oG ks)).mono ?_;rintro e w' ⟨a',c',rfl,h1,h2,h3⟩;exact⟨a',c',rfl,h1,⟨hn,h2⟩,h3⟩
theorem J8 {W:World} {o:Oper} {a:Act} {K:Act->World->Prop} {Q:Exit->Act->World->Prop} {base n:Nat} {v:Value} {ks:List ah} (key:ah) (B:Nat) {s x:Operand}
 (ho:o.op= .call {callee:= .builtin .append,args:= #[s,x],argTypes:= #[33,33]}) (hs:a.eval s=v) (hx:a.eval x= .slice (some ⟨B,0,none⟩) 1 1)
 (hS:dK W base v n ks) (hB:af W B #[.string key] 9) (hn:n<=1073741824) (hbase:base<=W.heap.size)
 (h:∀g cap w',dK w' base (.slice (some ⟨g,0,none⟩) (n+1) cap) (n+1) (ks++ [key])->W.grownBy w' v.ownBlock-> (v.ownBlock=some g\/g=W.heap.size)->K (a.put o.dst (.slice (some ⟨g,0,none⟩) (n+1) cap)) w'):o.wp prog a W K Q:=by
 obtain⟨i0,hi,hz0,hz1,hz2⟩:=info_parts Tryz.vP;refine wp_append_lies _ s x _ ho base 9 i0 _ 1 16 underlying33 hi hz0 hz1 hz2 rfl (by decide) v n (ks.map Value.string) hs hS.2 ⟨B,0,none⟩ 1 1 [.string key] hx (by rfl) (World.news_of_block (cs:= #[.string key]) hB) (by simp [Value.oneCell']) (by omega) (by unfold maxLen;omega) (by omega) hbase _ rfl ?_;intro g cap w' hown hgrow hat _;exact h g cap w' (dK.push hS.1 hown) hgrow hat
def Off (p:Nat) (v:Value):aw:=fun b=>b≠p/\v.ownBlock≠some b
theorem fL.held {w w':World} {T:aw} (h:fL w) (e:Held T w w') (hT:T 0):fL w':=by
 obtain⟨m,hm⟩:=h;exact⟨m,e.kept.cell (p:=⟨_,0,none⟩) hT hm⟩
def Qr (p:Nat) (v:Value) (qs:List ah) (w:World) (e:Ending) (w':World):Prop:=
 e= .returned (.tuple #[])/\∃a c,af w' p #[.slice a qs.length c] 33/\dK w' (p+1) (.slice a qs.length c) qs.length qs/\Held (Off p v) w w'/\ (∀g,(Value.slice a qs.length c).ownBlock=some g->v.ownBlock=some g\/w.heap.size<=g)/\Below p w w'
def ZY (m:Nat):Prop:=∀(x:V) (ka:aq) (kc:Nat) (la:aq) (lc:Nat) (d:Int) (ns:List ah) (na:aq) (nc p:Nat) (a:aq) (c:Nat) (ps:List ah) (w:World),
 x.size<=m->x.size<=1073741824->x.good d=true-> (ns.length:Int)<d-> (∀k∈ns,k.size<=60)->x.In w (fun b=>b<p) ka kc la lc->aM na ns.length nc->bC w (Off p (.slice a ps.length c)) na ns->
 af w p #[.slice a ps.length c] 33->dK w (p+1) (.slice a ps.length c) ps.length ps->ps.length+x.count<=1000000->0<p->fL w->
 Calls prog 49 #[x.val ka kc la lc, .slice na ns.length nc, .pointer (some ⟨p,0,none⟩)] w (Qr p (.slice a ps.length c) (ps++(x.ez ns).map lq) w)
theorem ZZ (x:V) (ka:aq) (kc:Nat) (la:aq) (lc:Nat) (ns:List ah) (na:aq) (nc p:Nat) (a:aq) (c:Nat) (ps:List ah) (w:World)
 (uu:x.k≠5\/ (x.l= []/\ns≠ [])) (hnl:ns.length<=12) (hnz:∀k∈ns,k.size<=60) (hst:bC w (Off p (.slice a ps.length c)) na ns)
 (hB:af w p #[.slice a ps.length c] 33) (hS:dK w (p+1) (.slice a ps.length c) ps.length ps) (hps:ps.length<=1000000) (hm:fL w):
 Calls prog 49 #[x.val ka kc la lc, .slice na ns.length nc, .pointer (some ⟨p,0,none⟩)] w (Qr p (.slice a ps.length c) (ps++ [lq ns]) w):=by
 have HS:=ae hS;have aP:=ae hst;have hpl:=hB.lt;have td:(x.k==5)=false\/ ((x.k==5)=true/\ ((x.l.length:Int)==0)=true/\ (0:Int)<(ns.length:Int)):=by
  by_cases h5:x.k=5
  ·rcases uu with h|⟨h1,h2⟩
   ·exact absurd h5 h
   ·exact .inr ⟨by simpa using h5,by rw [h1];rfl,by have:=List.length_pos_iff.2 h2;omega⟩
  ·exact .inl (by simpa using h5)
 have hrow:∀k,(Value.slice a ps.length c).ownBlock=some k->¬Off p (.slice a ps.length c) k:=fun k hk h=>h.2 hk;have hgo:=fun g=>HS.out.lt g;clear hS hst uu;go_enter func49,ntmps49;go_upto_region 1 with fail
 refine aI (R:=fun wx=>aC wx w.heap.size x ka kc la lc/\Ext w wx) ⟨aj,Xt⟩ ?_;rintro wa ⟨ag,aD⟩;obtain⟨hc0,ax,hl0⟩:=ag.see;rcases td with h5|⟨h5,h6,h7⟩
 all_goals
  (try have Bn:(x.k !=5)=true:=by simpa using h5);(try have Bn:(x.k !=5)=false:=by simpa using h5);go_upto_region 2 with fail
  refine aI (R:=fun wx=>Ext w wx) (by exact Xt) ?_;clear hc0 ax hl0 ag aD;rintro wa aD;have hBa:=af.ext aD hB;have au:∀w',Ext wa w'->w'.cell? ⟨p,0,none⟩=some (.slice a ps.length c):=fun w' e=>e.cell (hBa.cells 0);refine fC au (c:=9) (by kernel_rfl) ?_;refine aG 0 [8,9] (hS:=au _ Xt) (h:= ?_);refine aG 1 [2,3,7,9] (hS:=au _ Xt) (h:= ?_);refine aG 2 [3,7,9] (hS:=au _ Xt) (h:= ?_);refine aG 3 [7,9] (hS:=au _ Xt) (h:= ?_);refine aG 4 [5,6,7,9] (hS:=au _ Xt) (h:= ?_);(try simp only [rl]);refine aL 5 (h:=fun K hK=> ?_);(try simp only [rl]);(try go_simp);(refine(Bl na nc ns _ _ (aP.out.ext Xt) (fun q hq=>by have:=hnz q hq;omega) (by omega) (hm.ext Xt)).mono ?_);rintro e w2 ⟨rfl,h2⟩;(try go_simp);refine hK.out _ _ (fun _=>au _ Xt) ?_;clear hK K;(try simp only [rl]);refine aL 6 (h:=fun K hK=> ?_);(try simp only [rl]);go_simp;refine hK.out _ _ (fun _=>au _ Xt) ?_;clear hK K;(try simp only [rl]);refine aL 7 (h:=fun K hK=> ?_);(try simp only [rl]);rw [if_pos (by simp [Region.wanted])];refine J8 (lq ns) w2.heap.size (by rfl) (by rfl) (by rfl) (HS.out.ext Xt) aj (by omega) (by have:=aD.size;have:=Ext.size (a:=wa) (b:=w2) Xt;simp;omega) ?_;intro g4 oI w4 bD hg4 ru;have hx2:Ext w w2:=Xt;have hB4:af w4 p #[.slice a ps.length c] 33:=af.grown (w:=w2.alloc _) (af.alloc (af.ext hx2 hB) _) hg4 (fun e=>by have:=(hgo _ e.symm).1;omega);have CJ:Held (Off p (.slice a ps.length c)) w w4:=Held.grown (b:=w2.alloc _) aB hg4 hrow;refine hK.out _ _ (fun _=>hB4.cells 0) ?_;clear hK K;(try simp only [rl]);have rh:=hB4.cells;have vY:=hB4.free;have hl4:=hB4.lt;have afJ:=(bD.lt g4 rfl).1;refine aL 8 (h:=fun K hK=> ?_);(try simp only [rl]);go_simp;refine hK.out _ _ (fun _=>hB4.cells 0) ?_;clear hK K;(try simp only [rl]);refine aL 9 (h:=fun K hK=> ?_);(try simp only [rl]);go_simp;refine br hK (h:= ?_);clear hK K;(try simp only [rl]);refine dw (by kernel_rfl) ?_ _;go_wp2_with fail;refine aF (h:= ?_);have eA:Held (fun b=>b≠p) w4 (w4.setCell ⟨p,0,none⟩ (.slice (some ⟨g4,0,none⟩) (ps.length+1) oI)):=(Held.refl _ _).set (by simp) _;have hb4:Below p w w4:=Below.grown (Below.alloc (Below.mono hx2 (by omega)) (by have:=hx2.size;omega) _) hg4 (by have:=hx2.size;simp;omega) (fun k hk=>by have:=(hgo k hk).1;omega);refine⟨rfl,some ⟨g4,0,none⟩,oI,?_,?_,?_,?_,hb4.setCell (Nat.le_refl _) _⟩
  ·rw [List.length_append];exact af.to (hB4.set 0 _) (by simp)
  ·rw [List.length_append];exact bD.keep (fun b hb he=>eA.block b (by have:=(bD.lt b he).1;omega) hb)
  ·exact CJ.trans (eA.mono (fun b h=>h.1))
  ·intro g hg
   rw [List.length_append] at hg;have hge:g4=g:=by simpa [Value.ownBlock] using hg
   subst hge;rcases ru with h|h
   ·exact .inl h
   ·have:=hx2.size
    simp at h;exact .inr (by omega)
theorem Z0 {x:V} (hl:x.keys.length=x.l.length) (ns:List ah) {k:Nat} (h:k<x.keys.length):V.ez.go (x.l.take (k+1)) (x.keys.take (k+1)) ns=V.ez.go (x.l.take k) (x.keys.take k) ns++(x.l[k]'(by omega)).ez (ns++ [x.keys[k]]):=by
 rw [List.take_succ_eq_append_getElem h,List.take_succ_eq_append_getElem (show k<x.l.length by omega),P6 ns _ _ _ _ (by simp;omega)]
theorem Qs:∀(l:List V) (ks ns:List ah),(V.ez.go l ks ns).length<= (l.map V.count).sum
 | [],ks,ns=>by rw [xH];simp
 |_::_, [],ns=>by rw [Ep];simp
 |y::l,k::ks,ns=>by rw [xI,List.length_append,List.map_cons,List.sum_cons];have:=J5 y (ns++ [k]);have:=Qs l ks ns;omega
theorem Z1 (m:Nat):ZY m:=by
 induction m with
 |zero=>intro x _ _ _ _ _ _ _ _ _ _ _ _ _ h;have:=x.size_pos;omega
 |succ m ih=>
  intro x ka kc la lc d ns na nc p a c ps w hm hsz hg hnd hnz hin hok hst hB hS hps mX hmx;obtain⟨hfl,hd⟩:=Jw (show x.flat d=true by rw [V.sP,Bool.and_eq_true] at hg;exact hg.1);by_cases uu:x.k≠5\/ (x.l= []/\ns≠ [])
  ·have:=ZZ x ka kc la lc ns na nc p a c ps w uu (by omega) hnz hst hB hS (by omega) hmx
   rw [zM,if_pos uu];exact this
  ·have h5:x.k=5:=Classical.byContradiction fun h=>uu (.inl h)
   have dI:=il (En hg) h5;have hkl:=x.xq;have gW:=dI.len;have Ae:=ae (show x.ez ns=V.ez.go x.l x.keys ns by rw [zM,if_neg uu]);have Z2:=ae (show x.count=1+(x.l.map V.count).sum from V.count_eq x);have hcl:=hin;have aH:=ae hin;have aP:=ae hst;have HS:=ae hS;have Hg:=ae hg;have Z3:=ae (fun k (h:k<x.keys.length)=>xJ (hfl.kp _ (List.getElem_mem h)));have hpl:=hB.lt;have o6:(x.k==5)=true:=by simpa using h5
   have Bn:(x.k !=5)=false:=by simpa using h5
   have hl0:((x.l.length:Int)==0)=false\/ (((x.l.length:Int)==0)=true/\ns.length=0/\na=na):=by
    by_cases h:x.l= []
    ·exact .inr ⟨by rw [h];rfl,by
      have:ns= []:=Classical.byContradiction fun h2=>uu (.inr ⟨h,h2⟩)
      rw [this];rfl,rfl⟩
    ·exact .inl (beq_eq_false_iff_ne.2 (by have:=List.length_pos_iff.2 h;omega))
   clear hin hcl hst hS hg hfl uu h5 dI;rcases hl0 with hl0|⟨hl0,hn0,-⟩
   all_goals
    (try(have afK:¬(0:Int)<(ns.length:Int):=by omega
         have I1:=ae hn0
         clear hn0))
    go_enter func49,ntmps49;go_upto_region 1 with fail
    refine aI (R:=fun wx=>aC wx w.heap.size x ka kc la lc/\Ext w wx) ⟨aj,Xt⟩ ?_;rintro wa ⟨ag,aD⟩;obtain⟨hc0,ax,hl0⟩:=ag.see;go_upto_region 3 with fail
    refine aI (R:=fun wx=>aC wx w.heap.size x ka kc la lc/\Ext w wx) ⟨aj,Xt⟩ ?_;clear hc0 ax hl0 ag aD;rintro wa ⟨ag,aD⟩;obtain⟨hc0,ax,hl0⟩:=ag.see;go_wp2_with fail
    go_loopg [34] x.keys.length (fun g i wr=>∃(k:Nat) (a':aq) (c':Nat) (qs:List ah),k<=x.keys.length/\i= .int .i64 k/\g=x.keys.length-k/\qs=ps++(V.ez.go (x.l.take k) (x.keys.take k) ns).map lq/\aC wr w.heap.size x ka kc la lc/\
     af wr p #[.slice a' qs.length c'] 33/\dK wr (p+1) (.slice a' qs.length c') qs.length qs/\Held (Off p (.slice a ps.length c)) w wr/\ (∀g,(Value.slice a' qs.length c').ownBlock=some g-> (Value.slice a ps.length c).ownBlock=some g\/w.heap.size<g)/\Below p w wr)
    case atStart=>exact⟨0,a,c,ps,Nat.zero_le _,rfl,rfl,by simp [xH],aj,af.ext (w:=w) Xt hB,HS.out.ext Xt,Ext.held Xt _,fun g hg=> .inl hg,Below.mono (B:=w.heap.size) (by exact Xt) (by omega)⟩
    case round=>
     obtain⟨wo,rfl⟩:∃x,x=wr:=⟨_,rfl⟩;obtain⟨k,a',c',qs,hk,rfl,rfl,o7,ag,J9,ry,yt,hgo,sS⟩:=hrel;have om:=ae o7;have sY:=ae ry;have nG:=ae hgo;have hlo:=HS.out.lt;have Ka:∀b,b<p->Off p (.slice a ps.length c) b:=fun b hb=>⟨by omega,fun e=>by have:=(hlo b e).1;omega⟩;have hmo:fL wo:=hmx.held yt (Ka _ mX);have hin:=aH.out.keep (T:=fun b=>b<p) (Held.kept (yt.mono Ka)) (fun _ h _=>h)
     have hst:bC wo (fun b=>b<w.heap.size/\Off p (.slice a' qs.length c') b) na ns:=aP.out.keep (Held.kept yt) (fun b hb hl=>⟨hl,hb.1,fun e=>by
      rcases nG.out b e with h|h
      ·exact hb.2 h
      ·omega⟩)
     have oH:=ae hst;have vr:=yt.size;have ay:=ag.lt;have CK:=ry.lt
     have hw0:Off p (.slice a' qs.length c') w.heap.size:=⟨by omega,fun e=>by
      rcases nG.out _ e with h|h
      ·have:=(hlo _ h).2;omega
      ·omega⟩
     have Qt:=ae hw0;clear o7 ry hgo hst Ka hlo hw0;obtain⟨hc0,ax,hl0⟩:=ag.see;by_cases hlt:k<x.keys.length
     ·obtain⟨b,o,rfl,iA,fI,fJ,fW,fK,⟨d0,d1,d2,d3,d4⟩,hin'⟩:=hin.item (i:=k) (by omega)
      obtain⟨kb,ko,rfl,hSk,dk⟩:=hin.key hlt;have fS:=V.oZ (x:=x) (i:=k) (by omega);have Af:=ae hin';have Qu:=ae (Z0 gW ns hlt);have yu:qs.length+(x.l[k]'(by omega)).count<=1000000:=by have h1:=Qs (x.l.take k) (x.keys.take k) ns;have h2:=OE V.count x.l (k:=k) (by omega);have h3:=Jm V.count x.l (k+1);have h4:=Z2.out;have h5:=congrArg List.length om.out;rw [List.length_append,List.length_map] at h5;omega
      have Qv:=ae (Eo Hg.out (i:=k) (by omega));have Fx:=Z3.out k hlt;have gM:(0:Int)<= (k:Int):=by omega
      have hk1:(k:Int)<(x.l.length:Int):=by omega
      have hk2:(k:Int)<(x.keys.length:Int):=by omega
      clear hin hin';go_upto_region 6 with fail
      refine aI (R:=fun wx=>Ext wo wx) (by exact Xt) ?_;rintro wb aO;have BU:=af.ext aO ag;have Qw:=af.ext aO J9;have hzb:=aO.size;have d0:=aO.cell d0;have d1:=aO.cell d1;have d2:=aO.cell d2;have d3:=aO.cell d3;have d4:=aO.cell d4;have mI:=ae (sY.out.ext aO);have Qx:=ae (oH.out.ext aO);have kV:=ae (Af.out.ext aO);have hmb:=hmo.ext aO;have hbb:Below p w wb:=sS.trans (Below.mono aO (by omega));have tj:=yt.ext aO;clear hc0 ax hl0 ag J9 aO sY oH Af hmo yt;have au:∀w',Ext wb w'-> (w'.cell? ⟨w.heap.size,4,none⟩=some (.slice (some ⟨b,o,none⟩) x.l.length lc)/\w'.cell? ⟨b,o+k*5,none⟩=some (.int .i64 (x.l[k]'(by omega)).k)/\w'.cell? ⟨b,o+k*5+1,none⟩=some (.int .i64 (x.l[k]'(by omega)).n)/\w'.cell? ⟨b,o+k*5+2,none⟩=some (.string (x.l[k]'(by omega)).s)/\w'.cell? ⟨b,o+k*5+3,none⟩=some (.slice fI (x.l[k]'(by omega)).keys.length fJ)/\w'.cell? ⟨b,o+k*5+4,none⟩=some (.slice fW (x.l[k]'(by omega)).l.length fK)):=fun w' e=>⟨e.cell (BU.cells 4),e.cell (d0),e.cell (d1),e.cell (d2),e.cell (d3),e.cell (d4)⟩;refine fC au (c:=11) (by kernel_rfl) ?_;refine aG 0 [1,3,4,11] (hS:=au _ Xt) (h:= ?_);refine aG 1 [3,4,11] (hS:=au _ Xt) (h:= ?_);refine aG 2 [3,4,11] (hS:=au _ Xt) (h:= ?_);refine aG 3 [4,11] (hS:=au _ Xt) (h:= ?_);refine aG 4 [11] (hS:=au _ Xt) (h:= ?_);refine aG 5 [6,9,11] (hS:=au _ Xt) (h:= ?_);refine aG 7 [8,9,11] (hS:=au _ Xt) (h:= ?_);refine aG 10 [11] (hS:=au _ Xt) (h:= ?_);(try simp only [rl]);refine lX (rs:= [6,8]) (by kernel_rfl) (by simp) ?_;refine cL.cons (Array.getElem?_eq_getElem (by decide)) (fun K hK=> ?_) (cL.cons (Array.getElem?_eq_getElem (by decide)) (fun K hK=> ?_) cL.nil)
      · (try simp only [rl])
        (try go_simp);(refine(zT ns na ns.length nc _ _ rfl hok (by omega) (Qx.out.ext Xt)).mono ?_);rintro e w2 ⟨a1,c1,rfl,gP,uv,h2⟩;(try go_simp);refine hK.out _ _ (fun _=>au _ Xt) ?_;clear hK K;(try simp only [rl]);refine aL 8 (h:=fun K hK=> ?_);(try simp only [rl]);go_simp;refine hK.out _ _ (fun _=>au _ Xt) ?_;clear hK K;(try simp only [rl]);refine aL 9 (h:=fun K hK=> ?_);(try simp only [rl]);have hbase:=h2.size;rw [if_pos (by simp [Region.wanted])];refine J8 (x.keys[k]) w2.heap.size (by rfl) (by rfl) (by rfl) (uv.ext Xt) aj (by omega) (by first|exact hbase|(simp at hbase⊢;omega)) ?_;intro g4 oI w4 bD hg4 ru;have bP:Ext wb w4:=Ext.grown (by exact Xt) hg4 (fun g hg=>by have:=(uv.lt g hg).1;(try simp at this);omega);have Z4:wb.heap.size<=g4:=by have:=(bD.lt g4 rfl).1;(try simp at this);omega
        have iO:Hid (bC w4 (Off p (.slice a' qs.length c')) (some ⟨g4,0,none⟩) (ns++ [x.keys[k]])):=by
         obtain⟨a5,c5,jc,-,-,px⟩:=bD.strs;simp only [Value.slice.injEq,true_and] at jc;obtain⟨rfl,rfl⟩:=jc;rcases px with h|⟨b5,o5,he,-,td⟩
         ·simp at h
         ·simp only [Option.some.injEq,Addr.mk.injEq] at he
          obtain⟨rfl,rfl,-⟩:=he;exact .inr ⟨_,_,rfl,⟨by omega,fun e=>by have:=(CK _ e).2;omega⟩,td⟩
        have Fy:aM (some ⟨g4,0,none⟩) (ns++ [x.keys[k]]).length oI:=by obtain⟨a5,c5,jc,gV,-,-⟩:=bD.strs;simp only [Value.slice.injEq,true_and] at jc;obtain⟨rfl,rfl⟩:=jc;rw [List.length_append];exact gV
        have CL:=ae (mI.out.ext bP);have Kc:=af.ext bP Qw;have Ke:=af.ext bP BU;have Kf:=hmb.ext bP;clear bD uv ru hg4 h2 gP hbase;refine hK.out _ _ (fun _=>au _ bP) ?_;clear hK K;(try simp only [rl]);refine aL 11 (h:=fun K hK=> ?_);(try simp only [rl]);(try go_simp);have hrec:=ih (x.l[k]'(by omega)) fI fJ fW fK (d+1) (ns++ [x.keys[k]]) (some ⟨g4,0,none⟩) oI p a' c' qs w4 (by omega) (by omega) Qv.out (by rw [List.length_append];simp;omega) (fun q hq=>by rcases List.mem_append.1 hq with h|h;exact hnz q h;simp at h;rw [h];exact Fx) (kV.out.ext bP) Fy iO.out Kc CL.out yu mX Kf;rw [List.length_append] at hrec;(refine hrec.mono ?_);rintro e w5 ⟨rfl,a6,c6,bB,yw,bw,fX,Kg⟩;(try go_simp);refine br hK (h:= ?_);clear hK K;(try simp only [rl]);refine dw (by kernel_rfl) ?_ _;have iu:=bP.size;have nH:=af.held bw Ke Qt.out
        have eA:Held (Off p (.slice a ps.length c)) w w5:=⟨Nat.le_trans tj.size (Nat.le_trans iu bw.size),fun b hb hl=>by
         have e1:=bw.block b ⟨hb.1,fun e=>by
          rcases nG.out b e with h|h
          ·exact hb.2 h
          ·omega⟩ (by omega)
         rw [e1,Below.block bP b (by omega),tj.block b hb hl]⟩
        have Kh:Below p w w5:=(hbb.trans (Below.mono bP (by omega))).trans Kg;have Qy:=bw.size;clear iO CL hrec;go_wp2_with fail;go_roundg (x.keys.length-(k+1))
        case measure=>omega
        case rel=>exact⟨k+1,a6,c6,_,by omega,by go_num,rfl,by rw [Qu.out,List.map_append,<-List.append_assoc,<-om.out],aj,af.ext (w:=w5) Xt bB,yw.ext Xt,eA.ext Xt,fun g hg=>by
         rcases fX g hg with h|h
         ·exact nG.out g h
         ·exact .inr (by omega),Kh.trans (Below.mono (B:=w5.heap.size) (by exact Xt) (by omega))⟩
      · (try simp only [rl])
        go_simp;refine hK.out _ _ (fun _=>au _ Xt) ?_;clear hK K;(try simp only [rl]);refine aL 6 (h:=fun K hK=> ?_);(try simp only [rl]);(try go_simp);(refine(zT ns na ns.length nc _ _ rfl hok (by omega) (Qx.out.ext Xt)).mono ?_);rintro e w2 ⟨a1,c1,rfl,gP,uv,h2⟩;(try go_simp);refine hK.out _ _ (fun _=>au _ Xt) ?_;clear hK K;(try simp only [rl]);refine aL 9 (h:=fun K hK=> ?_);(try simp only [rl]);have hbase:=h2.size;rw [if_pos (by simp [Region.wanted])];refine J8 (x.keys[k]) wb.heap.size (by rfl) (by rfl) (by rfl) (uv.ext Xt) aj (by omega) (by first|exact hbase|(simp at hbase⊢;omega)) ?_;intro g4 oI w4 bD hg4 ru;have bP:Ext wb w4:=Ext.grown (by exact Xt) hg4 (fun g hg=>by have:=(uv.lt g hg).1;(try simp at this);omega);have Z4:wb.heap.size<=g4:=by have:=(bD.lt g4 rfl).1;(try simp at this);omega
        have iO:Hid (bC w4 (Off p (.slice a' qs.length c')) (some ⟨g4,0,none⟩) (ns++ [x.keys[k]])):=by
         obtain⟨a5,c5,jc,-,-,px⟩:=bD.strs;simp only [Value.slice.injEq,true_and] at jc;obtain⟨rfl,rfl⟩:=jc;rcases px with h|⟨b5,o5,he,-,td⟩
         ·simp at h
         ·simp only [Option.some.injEq,Addr.mk.injEq] at he
          obtain⟨rfl,rfl,-⟩:=he;exact .inr ⟨_,_,rfl,⟨by omega,fun e=>by have:=(CK _ e).2;omega⟩,td⟩
        have Fy:aM (some ⟨g4,0,none⟩) (ns++ [x.keys[k]]).length oI:=by obtain⟨a5,c5,jc,gV,-,-⟩:=bD.strs;simp only [Value.slice.injEq,true_and] at jc;obtain⟨rfl,rfl⟩:=jc;rw [List.length_append];exact gV
        have CL:=ae (mI.out.ext bP);have Kc:=af.ext bP Qw;have Ke:=af.ext bP BU;have Kf:=hmb.ext bP;clear bD uv ru hg4 h2 gP hbase;refine hK.out _ _ (fun _=>au _ bP) ?_;clear hK K;(try simp only [rl]);refine aL 11 (h:=fun K hK=> ?_);(try simp only [rl]);(try go_simp);have hrec:=ih (x.l[k]'(by omega)) fI fJ fW fK (d+1) (ns++ [x.keys[k]]) (some ⟨g4,0,none⟩) oI p a' c' qs w4 (by omega) (by omega) Qv.out (by rw [List.length_append];simp;omega) (fun q hq=>by rcases List.mem_append.1 hq with h|h;exact hnz q h;simp at h;rw [h];exact Fx) (kV.out.ext bP) Fy iO.out Kc CL.out yu mX Kf;rw [List.length_append] at hrec;(refine hrec.mono ?_);rintro e w5 ⟨rfl,a6,c6,bB,yw,bw,fX,Kg⟩;(try go_simp);refine br hK (h:= ?_);clear hK K;(try simp only [rl]);refine dw (by kernel_rfl) ?_ _;have iu:=bP.size;have nH:=af.held bw Ke Qt.out
        have eA:Held (Off p (.slice a ps.length c)) w w5:=⟨Nat.le_trans tj.size (Nat.le_trans iu bw.size),fun b hb hl=>by
         have e1:=bw.block b ⟨hb.1,fun e=>by
          rcases nG.out b e with h|h
          ·exact hb.2 h
          ·omega⟩ (by omega)
         rw [e1,Below.block bP b (by omega),tj.block b hb hl]⟩
        have Kh:Below p w w5:=(hbb.trans (Below.mono bP (by omega))).trans Kg;have Qy:=bw.size;clear iO CL hrec;go_wp2_with fail;go_roundg (x.keys.length-(k+1))
        case measure=>omega
        case rel=>exact⟨k+1,a6,c6,_,by omega,by go_num,rfl,by rw [Qu.out,List.map_append,<-List.append_assoc,<-om.out],aj,af.ext (w:=w5) Xt bB,yw.ext Xt,eA.ext Xt,fun g hg=>by
         rcases fX g hg with h|h
         ·exact nG.out g h
         ·exact .inr (by omega),Kh.trans (Below.mono (B:=w5.heap.size) (by exact Xt) (by omega))⟩
     ·have hq:qs=ps++(x.ez ns).map lq:=by
       rw [om.out,Ae.out,List.take_of_length_le (by omega),List.take_of_length_le (by omega)]
      have Hq:=ae hq;clear hq;go_wp2_with fail;go_end0;rw [<-Hq.out]
      exact⟨rfl,a',c',af.ext (w:=wo) Xt J9,sY.out.ext Xt,yt.ext Xt,fun g hg=>by
       rcases nG.out g hg with h|h
       ·exact .inl h
       ·exact .inr (by omega),sS.trans (Below.mono (B:=wo.heap.size) (by exact Xt) (by omega))⟩
theorem Z5 {x y:List UInt8} (h:x<=y):Op.bytesLess y x=false:=by
 rw [Go.Proofs.bytesLess_eq,decide_eq_false_iff_not];exact List.not_lt.2 h
theorem Z6 (ks:List ah):((ks.map (·.data.toList)).mergeSort fun x y=>decide (x<=y))=(sZ ks).map (·.data.toList):=by
 obtain⟨ss,E7⟩:∃ss,((ks.map (·.data.toList)).mergeSort fun x y=>decide (x<=y))=ss:=⟨_,rfl⟩;have hp:ss.Perm (ks.map (·.data.toList)):=E7▸List.mergeSort_perm _ _;have hs:ss.Pairwise fun a b=>Op.bytesLess b a=false:=by
  rw [<-E7];refine(List.pairwise_mergeSort (le:=fun x y=>decide (x<=y)) (fun a b c h1 h2=> ?_) (fun a b=> ?_) _).imp (fun h=>Z5 (by simpa using h))
  ·simp only [decide_eq_true_eq] at*;exact List.le_trans h1 h2
  ·simp only [Bool.or_eq_true,decide_eq_true_eq];exact List.le_total a b
 rw [E7];have e1:(ss.map fun l=>(⟨l.toArray⟩:ah))=sZ ks:=by
  refine sorted_perm ?_ (Iz ks) ?_
  ·refine List.pairwise_map.2 (hs.imp fun h=> ?_)
   unfold bA;rw [ByteArray.toList_eq,ByteArray.toList_eq];exact h
  ·refine(hp.map fun l=>(⟨l.toArray⟩:ah)).trans ?_
   rw [List.map_map];have:(ks.map ((fun l=>(⟨l.toArray⟩:ah))∘fun x=>x.data.toList))=ks:=by
    conv=>rhs;rw [<-List.map_id ks]
    refine List.map_congr_left fun k _=> ?_;simp
   rw [this];exact(vC ks).symm
 rw [<-e1,List.map_map]
 conv=>lhs;rw [<-List.map_id ss]
 refine List.map_congr_left fun k _=> ?_;simp
theorem Qz (ks:List ah):(ks.map (·.data.toList)).map encStr=ks.map Value.string:=by
 rw [List.map_map];refine List.map_congr_left fun k _=> ?_;simp [encStr]
theorem Z7 (ks:List ah) (base:Nat) (a:aq) (c:Nat) (w:World) (hS:dK w base (.slice a ks.length c) ks.length ks) (hn:ks.length<=1073741824):
 Calls prog 50 #[.slice a ks.length c] w fun e w'=>e= .returned (.tuple #[])/\dK w' base (.slice a ks.length c) ks.length (sZ ks)/\w.grownBy w' (Value.slice a ks.length c).ownBlock:=by
 rcases hS.2.2 with⟨hv,h0⟩|⟨g,cap,cur,hv,hb,hg,hnc,hcm,hcs,ht⟩
 ·have hk:ks= []:=List.eq_nil_of_length_eq_zero h0
  subst hk;refine(Tryz.slices_Sort_string_none a c w).mono ?_;rintro e w' ⟨rfl,rfl⟩;exact⟨rfl,hS,⟨rfl,rfl,rfl,Nat.le_refl _,fun _ _ _=>rfl⟩⟩
 ·simp only [Value.slice.injEq,true_and] at hv
  obtain⟨rfl,rfl⟩:=hv;have hlen:(ks.map (·.data.toList)).length=ks.length:=by simp
  have hH:Go.Sort.Holds encStr w g 0 (ks.map (·.data.toList)).toArray:=holds_of_block hg (by rw [Qz,hlen];simpa using ht);have hc:=Tryz.slices_Sort_string g 0 c (ks.map (·.data.toList)) w hH (Array.getElem?_eq_some_iff.1 hg).1 (by rw [hlen];omega);rw [hlen] at hc;refine hc.mono ?_;rintro e w' ⟨rfl,n,os,rfl⟩;rw [Z6];have ho:=ownsRow_sorted (w:=w) (base:=base) (g:=g) (cap:=c) (n:=n) (os:=os) (cur:=cur) (ss:=ks.map (·.data.toList)) (ts:=(sZ ks).map (·.data.toList)) (by simp [(vC ks).length_eq]) hb hg (by simpa using hnc) hcm hcs;rw [Qz,hlen] at ho;exact⟨rfl,⟨(vC ks).length_eq,ho⟩,grownBy_sorted _⟩
theorem N4 (x:V) (ka:aq) (kc:Nat) (la:aq) (lc:Nat) (S:aw) (w:World) (hsz:x.size<=1073741824) (hin:x.In w S ka kc la lc) (hm:fL w):
 Calls prog 25 #[x.val ka kc la lc] w (ZQ x.leaves w):=by
 have aH:=ae (hin.mono (T:=fun b=>b<w.heap.size) (fun b _ h=>h));clear hin;by_cases hc:x.fine=true/\x.k=5
 ·obtain⟨hf,h5⟩:=hc
  obtain⟨qs,o7⟩:∃qs,(x.ez []).map lq=qs:=⟨_,rfl⟩;have om:=ae (show []++(x.ez []).map lq=qs by rw [List.nil_append];exact o7);have Ae:=ae (show x.leaves=sZ qs by rw [<-o7];exact if_pos ⟨hf,h5⟩);have hgm:0<w.heap.size:=by obtain⟨m,h⟩:=hm;exact ku h
  have hcz:=tR hf;have hg:=Er hf;have Bn:(x.k !=5)=false:=by simpa using h5
  have Hf:=ae hf;have gW:(sZ qs).length=qs.length:=(vC _).length_eq;have ay:qs.length<=x.count:=by rw [<-o7,List.length_map];exact J5 x []
  clear hf h5 o7;go_enter func25,ntmps25;go_upto_region 2 with fail
  refine aI (R:=fun wx=>aC wx w.heap.size x ka kc la lc/\af wx (w.heap.size+1) #[.slice none 0 0] 33/\Ext w wx) ⟨aj,aj,Xt⟩ ?_;rintro wa ⟨ag,ai,aD⟩;obtain⟨hc0,ax,hl0⟩:=ag.see;go_wp2_with fail;(refine(cU x ka kc la lc _ _ hsz (aH.out.ext Xt)).mono ?_);rw [Hf.out];rintro e w1 ⟨rfl,h1⟩;have ag:=af.ext h1 ag;have ai:=af.ext h1 ai;have hx1:Ext w w1:=aD.trans h1;clear h1 aD hc0 ax hl0;obtain⟨hc0,ax,hl0⟩:=ag.see;have hlB:=ai.lt;go_wp2_with fail;(refine(Z1 x.size x ka kc la lc 1 [] none 0 (w.heap.size+1) none 0 [] _ (Nat.le_refl _) hsz hg (by decide) (by simp) ((aH.out.mono (T:=fun b=>b<w.heap.size+1) (fun b h _=>by omega)).ext Xt) aM.nil (.inl rfl) (af.ext (w:=w1) Xt ai) ⟨rfl,World.ownsRow_nil _ _ _ _⟩ (by simp;omega) (by omega) (hm.ext Xt)).mono ?_);rw [om.out];rintro e w2 ⟨rfl,a,c,ak,qR,tq,hg2,hb2⟩;have hx2:Ext w w2:=Below.trans (Ext.trans hx1 (Ext.refl w1)) (Below.mono (B:=w.heap.size+1) (by exact hb2) (by omega));have cd:=ae qR;have hl2:=ak.lt;clear hc0 ax hl0 ag ai tq hg2 hb2 qR hx1;obtain⟨hc2,hf2,hl2⟩:=ak.see;go_wp2_with fail;(refine(Z7 _ _ a c _ cd.out (by omega)).mono ?_);rintro e w3 ⟨rfl,Ja,hg3⟩;have bK:=af.grown ak hg3 (fun e=>by have:=(cd.out.lt _ e.symm).1;omega);have hx3:Ext w w3:=Ext.grown hx2 hg3 (fun k hk=>by have:=(cd.out.lt k hk).1;omega);have iX:=ae Ja;clear hc2 hf2 Ja hg3 ak cd;obtain⟨hc3,hf3,aS⟩:=bK.see;go_wp2_with fail;go_ret;rw [Ae.out];obtain⟨a5,c5,he,hok,-,hst⟩:=iX.out.strs;simp only [Value.slice.injEq,true_and] at he;obtain⟨rfl,rfl⟩:=he;exact⟨a,c,by rw [gW];rfl,by rw [gW];exact hok,(hst.ext Xt).keep (fun _ _ _=>rfl) (fun b hb _=>by omega),Xt⟩
 ·have Ae:=ae (show x.leaves= [] from if_neg hc)
  cases hf:x.fine with
  |false=>
   have Hf:=ae hf;clear hf hc;go_enter func25,ntmps25;go_upto_region 2 with fail
   refine aI (R:=fun wx=>aC wx w.heap.size x ka kc la lc/\Ext w wx) ⟨aj,Xt⟩ ?_;rintro wa ⟨ag,aD⟩;obtain⟨hc0,ax,hl0⟩:=ag.see;go_wp2_with fail;(refine(cU x ka kc la lc _ _ hsz (aH.out.ext Xt)).mono ?_);rw [Hf.out];rintro e w1 ⟨rfl,h1⟩;go_wp2_with fail;go_ret;rw [Ae.out];exact⟨none,0,rfl,aM.nil, .inl rfl,Xt⟩
  |true=>
   have Hf:=ae hf;have h5:(x.k !=5)=true:=by simp only [bne_iff_ne,ne_eq];exact fun h=>hc ⟨hf,h⟩
   clear hf hc;go_enter func25,ntmps25;go_upto_region 2 with fail
   refine aI (R:=fun wx=>aC wx w.heap.size x ka kc la lc/\Ext w wx) ⟨aj,Xt⟩ ?_;rintro wa ⟨ag,aD⟩;obtain⟨hc0,ax,hl0⟩:=ag.see;go_wp2_with fail;(refine(cU x ka kc la lc _ _ hsz (aH.out.ext Xt)).mono ?_);rw [Hf.out];rintro e w1 ⟨rfl,h1⟩;have ag:=af.ext h1 ag;clear hc0 ax hl0;obtain⟨hc0,ax,hl0⟩:=ag.see;go_wp2_with fail;go_ret;rw [Ae.out];exact⟨none,0,rfl,aM.nil, .inl rfl,Xt⟩
theorem Ez {x:V} {p:ah} (h:p∈x.leaves):p.size<=2000:=by
 obtain⟨-,-,r,rfl,-,-,hl,hp,-⟩:=qU h;have h1:=Iy r (fun a ha=>xJ (hp a ha));have h2:(lq r).size=(joinL (r.map (·.data.toList))).length:=by rw [<-Fp];exact Array.length_toList.symm
 omega
theorem vF {a b:ah} (h:a=b):(a.toList==b.toList)=true:=by rw [h,beq_self_eq_true]
theorem vG {a b:ah} (h:a≠b):(a.toList==b.toList)=false:=by
 rw [beq_eq_false_iff_ne];exact fun e=>h (kK e)
theorem Z8 (v want:V) (q p:ah) (r:List ah):kN v want q (p::r)=if(fE p q||fE q p)=true then true else if p=q then(match bH v p with|none=>true|some now=> !iP now ((bH want p).getD V.zero)) else kN v want q r:=rfl
theorem Jc {x:V} {p:ah}:((bH x p).getD V.zero).size<=x.size+1:=by
 cases h:bH x p with
 |none=>have e:V.zero.size=1:=by decide+kernel
        simp only [Option.getD_none];omega
 |some y=>have:=go_size (bL p) (x:=x) (y:=y) h;simp only [Option.getD_some];omega
theorem NT (v:V) (ka:aq) (kc:Nat) (la:aq) (lc:Nat) (S:aw) (want:V) (kb:aq) (kd:Nat) (lb:aq) (ld:Nat) (T:aw) (q:ah) (w:World) (jt:v.size<=1000000000) (hwz:want.size<=1000000000)
 (hin:v.In w S ka kc la lc) (hjn:want.In w T kb kd lb ld) (hq:q.size<=1073741824) (hm:fL w):
 Calls prog 131 #[v.val ka kc la lc,want.val kb kd lb ld, .string q] w fun e w'=>e= .returned (.bool (eX v want q))/\Ext w w':=by
 have aH:=ae hin;have aT:=ae hjn;have hll:=BF want;have Z9:=ae (fun k (h:k<want.leaves.length)=>Ez (List.getElem_mem h));have QA:=ae (show kN v want q (want.leaves.drop 0)=eX v want q from rfl);clear hin hjn;go_enter func131,ntmps131;go_upto_region 1 with fail
 refine aI (R:=fun wx=>aC wx w.heap.size v ka kc la lc/\aC wx (w.heap.size+1) want kb kd lb ld/\Ext w wx) ⟨aj,aj,Xt⟩ ?_;rintro wa ⟨ag,ai,aD⟩;obtain⟨hc1,aA,ay⟩:=ai.see;go_wp2_with fail;(refine(N4 want kb kd lb ld _ _ (by omega) (aT.out.ext Xt) (hm.ext Xt)).mono ?_);rintro e w1 ⟨pa,pc,rfl,BI,BJ,h1⟩;have ag:=af.ext h1 ag;have ai:=af.ext h1 ai;have hx1:Ext w w1:=aD.trans h1;have aP:=ae BJ;clear h1 aD hc1 aA ay BJ;go_wp2_with fail
 go_loopg [16] want.leaves.length (fun g i wr=>∃k:Nat,k<=want.leaves.length/\i= .int .i64 k/\g=want.leaves.length-k/\kN v want q (want.leaves.drop k)=eX v want q/\Ext w1 wr)
 case atStart=>exact⟨0,Nat.zero_le _,rfl,rfl,QA.out,Xt⟩
 case round=>
  obtain⟨k,hk,rfl,rfl,BD,hx⟩:=hrel;have CM:=ae BD;have ag:=af.ext hx ag;have ai:=af.ext hx ai;have cP:Ext w wr:=hx1.trans hx;clear BD QA;by_cases hlt:k<want.leaves.length
  ·obtain⟨b,o,rfl,iA,hC⟩:=aP.out.resolve_left (by intro h;rw [h] at hlt;simp at hlt)
   have d0:=hx.cell (hC k hlt);have xX:=Z9.out k hlt;have uk:=ae (show want.leaves[k]∈want.leaves from List.getElem_mem hlt);have oJ:=ae (show kN v want q (want.leaves.drop k)=_ from(congrArg (kN v want q) (List.drop_eq_getElem_cons hlt)).trans (Z8 v want q _ _));obtain⟨p,hp⟩:∃p,want.leaves[k]=p:=⟨_,rfl⟩;rw [hp] at d0 xX uk oJ;clear hp hC
   cases ha1:fE p q with
   |true=>
    have Hr:=ae (show eX v want q=true by rw [<-CM.out,oJ.out,ha1];rfl);have Ha:=ae ha1;clear ha1;go_wp2_with fail;(refine(sJ p q _ (by omega)).mono ?_);rw [Ha.out];rintro e w2 ⟨rfl,rfl⟩;go_wp2_with fail;go_ret;exact⟨cX Hr.out.symm,Xt⟩
   |false=>
    cases ha2:fE q p with
    |true=>
     have Hr:=ae (show eX v want q=true by rw [<-CM.out,oJ.out,ha1,ha2];rfl);have Ha:=ae ha1;have Hb:=ae ha2;clear ha1 ha2;go_wp2_with fail;(refine(sJ p q _ (by omega)).mono ?_);rw [Ha.out];rintro e w2 ⟨rfl,rfl⟩;go_wp2_with fail;(refine(sJ q p _ (by omega)).mono ?_);rw [Hb.out];rintro e w3 ⟨rfl,rfl⟩;go_wp2_with fail;go_ret;exact⟨cX Hr.out.symm,Xt⟩
    |false=>
     have Fz:=ae (show kN v want q (want.leaves.drop k)=if p=q then _ else _ by rw [oJ.out,ha1,ha2];rfl);have Ha:=ae ha1;have Hb:=ae ha2;clear ha1 ha2 oJ;by_cases kz:p=q
     ·have hpb:=vF kz
      have Hr:=ae (show eX v want q=_ by rw [<-CM.out,Fz.out,if_pos kz]);clear kz Fz;have hnz:((bH v p).getD V.zero).size<=1073741824:=by have:=Jc (x:=v) (p:=p);omega
      have bF:((bH want p).getD V.zero).size<=1073741824:=by have:=Jc (x:=want) (p:=p);omega
      obtain⟨xv,hxv⟩:∃xv,(bH want p).getD V.zero=xv:=⟨_,rfl⟩;obtain⟨xb,aO⟩:∃xb,(bH want p).isSome=xb:=⟨_,rfl⟩;rw [hxv] at bF Hr;have EK:=ae hxv;have EL:=ae aO;clear hxv aO;go_wp2_with fail;(refine(sJ p q _ (by omega)).mono ?_);rw [Ha.out];rintro e w2 ⟨rfl,rfl⟩;go_wp2_with fail;(refine(sJ q p _ (by omega)).mono ?_);rw [Hb.out];rintro e w3 ⟨rfl,rfl⟩;obtain⟨hc0,ax,hl0⟩:=ag.see;go_wp2_with fail;(refine(BQ v ka kc la lc _ p _ (by omega) (aH.out.ext Xt) (by omega) (hm.ext Xt)).mono ?_)
      cases yx:bH v p with
      |none=>
       rw [yx] at Hr;rintro e w4 ⟨k2,c2,l2,d2,rfl,bR,h4⟩;have ai:=af.ext (w':=w4) Xt ai;have bP:Ext w w4:=Xt;clear h4 hc0 ax hl0 yx bR;go_upto_region 8 with fail
       refine aI (R:=fun wx=>Ext w4 wx) (by exact Xt) ?_;rintro wb aO;have ai:=af.ext aO ai;have bG:Ext w wb:=bP.trans aO;clear aO;obtain⟨hc1,aA,ay⟩:=ai.see;go_wp2_with fail;(refine(BQ want kb kd lb ld _ p _ (by omega) (aT.out.ext Xt) (by omega) (hm.ext Xt)).mono ?_);rw [EK.out,EL.out];rintro e w6 ⟨k3,c3,l3,d3,rfl,bn,h6⟩;go_wp2_with fail;go_ret;exact⟨cX Hr.out.symm,Xt⟩
      |some now=>
       rw [yx] at Hr hnz;simp only [Option.getD_some] at hnz;simp only [Option.getD_some,Option.isSome_some];rintro e w4 ⟨k2,c2,l2,d2,rfl,bR,h4⟩;have uw:=ae (PE bR);have ai:=af.ext (w':=w4) Xt ai;have bP:Ext w w4:=Xt;clear h4 hc0 ax hl0 yx bR;go_upto_region 8 with fail
       refine aI (R:=fun wx=>aC wx w4.heap.size now k2 c2 l2 d2/\Ext w4 wx) ⟨aj,Xt⟩ ?_;rintro wb ⟨pB,aO⟩;have ai:=af.ext aO ai;have uw:=ae (V.In.ext uw.out aO);have bG:Ext w wb:=bP.trans aO;clear aO;obtain⟨hc1,aA,ay⟩:=ai.see;go_wp2_with fail;(refine(BQ want kb kd lb ld _ p _ (by omega) (aT.out.ext Xt) (by omega) (hm.ext Xt)).mono ?_);rw [EK.out,EL.out];rintro e w6 ⟨k3,c3,l3,d3,rfl,bn,h6⟩;have CN:=ae (PE bn);have pB:=af.ext (w':=w6) Xt pB;have uw:=ae (V.In.ext (w':=w6) uw.out Xt);have bS:Ext w w6:=Xt;clear h6 hc1 aA ay bn bG;go_upto_region 9 with fail
       refine aI (R:=fun wx=>aC wx w4.heap.size now k2 c2 l2 d2/\aC wx w6.heap.size xv k3 c3 l3 d3/\Ext w6 wx) ⟨aj,aj,Xt⟩ ?_;clear pB;rintro wc ⟨pB,FA,fg⟩;have cy:Ext w wc:=bS.trans fg;have uw:=ae (V.In.ext uw.out fg);have CN:=ae (V.In.ext CN.out fg);clear fg;obtain⟨FB,FC,yz⟩:=pB.see;obtain⟨QB,QC,QD⟩:=FA.see;go_wp2_with fail;(refine(Iq now xv k2 c2 l2 d2 _ k3 c3 l3 d3 _ _ hnz bF (uw.out.ext Xt) (CN.out.ext Xt)).mono ?_);rintro e w8 ⟨rfl,h8⟩;go_wp2_with fail;go_ret;exact⟨cX Hr.out.symm,Xt⟩
     ·have hpb:=vG kz
      have cQ:=ae (show kN v want q (want.leaves.drop (k+1))=eX v want q by rw [<-CM.out,Fz.out,if_neg kz]);clear kz Fz;go_wp2_with fail;(refine(sJ p q _ (by omega)).mono ?_);rw [Ha.out];rintro e w2 ⟨rfl,rfl⟩;go_wp2_with fail;(refine(sJ q p _ (by omega)).mono ?_);rw [Hb.out];rintro e w3 ⟨rfl,rfl⟩;go_wp2_with fail;go_roundg (want.leaves.length-(k+1))
      case measure=>omega
      case rel=>exact⟨k+1,by omega,by go_num,rfl,cQ.out,Xt⟩
  ·have Hr:=ae (show eX v want q=false by rw [<-CM.out,List.drop_eq_nil_of_le (show want.leaves.length<=k by omega)];rfl)
   go_wp2_with fail;go_ret;exact⟨cX Hr.out.symm,Xt⟩
end Go.Proofs.YtlcebdaghmdkeabGreatDoor
