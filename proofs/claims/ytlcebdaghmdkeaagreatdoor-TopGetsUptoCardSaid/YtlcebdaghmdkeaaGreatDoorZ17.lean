import Derived.Shelf.Strings.SlTrimAscii
import Derived.Test.YtlcebdaghmdkeaaGreatDoorZ14
set_option linter.all false
set_option maxRecDepth 100000
set_option maxHeartbeats 64000000
namespace Go.Proofs.YtlcebdaghmdkeaaGreatDoor
open Go.Proofs.Tryz
open Go.RowKit
attribute [local go_sem↓] Go.wp_at_zero Go.wp_at_succ
theorem MW {α:Type} {l m:List α} {k:Nat} (h1:k<l.length) (h2:k<m.length) (h:l.take k=m.take k) (e:l[k]=m[k]):l.take (k+1)=m.take (k+1):=by
 rw [List.take_succ_eq_append_getElem h1,List.take_succ_eq_append_getElem h2,h,e]
def zr (p:Prop) (w:World) (e:Ending) (w':World):Prop:=∃b:Bool,e= .returned (.bool b)/\ (b=true↔p)/\Ext w w'
theorem T9 (n m ca cb:Nat) (a b:aq) (ks js:List ah) (S T:aA) (w:World) (hn:Hid (ks.length=n)) (hm:Hid (js.length=m)) (h1:bT w S a ks) (h2:bT w T b js) (hb:n<=1073741824):
 Calls prog 55 #[.slice a n ca, .slice b m cb] w (zr (ks=js) w):=by
 by_cases eG:n=m
 ·subst eG
  go_enter func55,ntmps55;go_wp2_with fail
  go_loopg [5,13] n (fun g _ i wr=>∃k:Nat,k<=n/\i= .int .i64 k/\g=n-k/\Hid (ks.take k=js.take k)/\Ext w wr)
  case atStart=>exact⟨0,by omega,rfl,rfl,ae (by simp),Xt⟩
  case round=>
   obtain⟨k,hk,rfl,rfl,Ht,hx⟩:=hrel;by_cases hlt:k<n
   ·have az:k<ks.length:=by rw [hn.out];exact hlt
    have hl2:k<js.length:=by rw [hm.out];exact hlt
    obtain⟨b1,o1,rfl,-,c1⟩:=h1.resolve_left (by intro e;subst e;simp at az);obtain⟨b2,o2,rfl,-,c2⟩:=h2.resolve_left (by intro e;subst e;simp at hl2);have d0:=hx.cell (c1 k az);have d1:=hx.cell (c2 k hl2);clear c1 c2;have mh:(0:Int)<= (k:Int):=by omega
    have ml:(k:Int)<(n:Int):=by omega
    by_cases he:ks[k]=js[k]
    ·have Ua:(ks[k].toList !=js[k].toList)=false:=by rw [he];simp
     have hec:(ks[k].toList==js[k].toList)=true:=by rw [he];simp
     have hed:ks[k].toList=js[k].toList:=by rw [he]
     have um:=ae (MW az hl2 Ht.out he);clear he;go_wp2_with fail
     go_quiet (fail)
     go_wp2_with fail;go_roundg (n-(k+1))
     case measure=>omega
     case rel=>exact⟨k+1,by omega,by go_num,rfl,um,Xt⟩
    ·have Ua:(ks[k].toList !=js[k].toList)=true:=by simpa using fun h=>he (ln h)
     have hec:(ks[k].toList==js[k].toList)=false:=by simpa using fun h=>he (ln h)
     have hed:¬ks[k].toList=js[k].toList:=fun h=>he (ln h);have He:=ae he;clear he;go_wp2_with fail
     go_quiet (fail)
     go_wp2_with fail;go_ret;exact⟨_,rfl,⟨fun h=>by(first|cases h|simp at h),fun h=>absurd (by simp only [h]) He.out⟩,Xt⟩
   ·have cF:=ae (show ks=js by
     have:=Ht.out
     rwa [List.take_of_length_le (by rw [hn.out];omega),List.take_of_length_le (by rw [hm.out];omega)] at this)
    go_wp2_with fail;go_ret;exact⟨_,rfl,⟨fun _=>cF.out,fun _=>rfl⟩,Xt⟩
 ·have hnb:((n:Int) !=(m:Int))=true:=by simp;omega
  have hnc:((n:Int)==(m:Int))=false:=by simp;omega
  have dW:=ae (show ks≠js from fun h=>eG (by rw [<-hn.out,<-hm.out,h]));clear eG;go_enter func55,ntmps55;go_wp2_with fail;go_ret;exact⟨_,rfl,⟨fun h=>by(first|cases h|simp at h),fun h=>absurd h dW.out⟩,Xt⟩
def Ub (m:Nat):Prop:=∀(x y:V) (ka:aq) (kc:Nat) (la:aq) (lc:Nat) (S:aA) (kb:aq) (kd:Nat) (lb:aq) (ld:Nat) (T:aA) (w:World),x.size<=m->x.size<=1073741824->y.size<=1073741824->x.In w S ka kc la lc->y.In w T kb kd lb ld->
 Calls prog 35 #[x.val ka kc la lc,y.val kb kd lb ld] w (zr (x=y) w)
theorem adx (q:Nat) (ih:Ub q) (n m ca cb:Nat) (a b:aq) (l t:List V) (S T:aA) (w:World) (hn:Hid (l.length=n)) (hm:Hid (t.length=m)) (h1:Rows w S l a) (h2:Rows w T t b) (hb:n<=1073741824) (hs1:Hid (∀x∈l,x.size<=q/\x.size<=1073741824)) (hs2:Hid (∀x∈t,x.size<=1073741824)):
 Calls prog 57 #[.slice a n ca, .slice b m cb, .func (.func 35) #[] #[]] w (zr (l=t) w):=by
 have Ih:=ae ih;clear ih;by_cases eG:n=m
 ·subst eG
  go_enter func57,ntmps57;go_wp2_with fail
  go_loopg [7,8,9,17] n (fun g _ _ _ i wr=>∃k:Nat,k<=n/\i= .int .i64 k/\g=n-k/\Hid (l.take k=t.take k)/\Ext w wr)
  case atStart=>exact⟨0,by omega,rfl,rfl,ae (by simp),Xt⟩
  case round=>
   obtain⟨k,hk,rfl,rfl,Ht,hx⟩:=hrel;by_cases hlt:k<n
   ·have az:k<l.length:=by rw [hn.out];exact hlt
    have hl2:k<t.length:=by rw [hm.out];exact hlt
    obtain⟨b1,o1,rfl,-,c1⟩:=h1.resolve_left (by intro e;subst e;simp at az);obtain⟨b2,o2,rfl,-,c2⟩:=h2.resolve_left (by intro e;subst e;simp at hl2);obtain⟨iW,iX,iY,iZ,⟨d0,d1,d2,d3,d4⟩,fA⟩:=(c1 k az).ext hx;obtain⟨cI,cJ,cK,cL,⟨g0,g1,g2,g3,g4⟩,bZ⟩:=(c2 k hl2).ext hx;have og:=ae fA;have cE:=ae bZ;clear c1 c2 fA bZ;have mh:(0:Int)<= (k:Int):=by omega
    have ml:(k:Int)<(n:Int):=by omega
    have hz1:=hs1.out _ (List.getElem_mem az);have hz2:=hs2.out _ (List.getElem_mem hl2);have hb1:b1<wr.heap.size:=lu d0;have hb2:b2<wr.heap.size:=lu g0;go_wp2_with fail;(refine(Ih.out l[k] t[k] iW iX iY iZ S cI cJ cK cL T _ hz1.1 hz1.2 hz2 (og.out.ext Xt) (cE.out.ext Xt)).mono ?_);rintro e w1 ⟨r,rfl,hr,Bq⟩;have Hr:=ae hr;have hx1:Ext w w1:=Xt;clear hr Bq
    cases r with
    |true=>
     have um:=ae (MW az hl2 Ht.out (Hr.out.1 (by trivial)));go_wp2_with fail;go_roundg (n-(k+1))
     case measure=>omega
     case rel=>exact⟨k+1,by omega,by go_num,rfl,um,Xt⟩
    |false=>
     have He:=ae (show l[k]≠t[k] from fun h=>by have:=Hr.out.2 h;cases this);go_wp2_with fail;go_ret;exact⟨_,rfl,⟨fun h=>by(first|cases h|simp at h),fun h=>absurd (by simp only [h]) He.out⟩,Xt⟩
   ·have cF:=ae (show l=t by
     have:=Ht.out
     rwa [List.take_of_length_le (by rw [hn.out];omega),List.take_of_length_le (by rw [hm.out];omega)] at this)
    go_wp2_with fail;go_ret;exact⟨_,rfl,⟨fun _=>cF.out,fun _=>rfl⟩,Xt⟩
 ·have hnb:((n:Int) !=(m:Int))=true:=by simp;omega
  have hnc:((n:Int)==(m:Int))=false:=by simp;omega
  have dW:=ae (show l≠t from fun h=>eG (by rw [<-hn.out,<-hm.out,h]));clear eG;go_enter func57,ntmps57;go_wp2_with fail;go_ret;exact⟨_,rfl,⟨fun h=>by(first|cases h|simp at h),fun h=>absurd h dW.out⟩,Xt⟩
theorem V.ext' {x y:V} (h1:x.k=y.k) (h2:x.n=y.n) (h3:x.s=y.s) (h4:x.keys=y.keys) (h5:x.l=y.l):x=y:=by
 rw [<-V.eta x,<-V.eta y,h1,h2,h3,h4,h5]
theorem ady (m:Nat):Ub m:=by
 induction m with
 |zero=>intro x _ _ _ _ _ _ _ _ _ _ _ _ h;have:=x.size_pos;omega
 |succ m ih=>
  intro x y ka kc la lc S kb kd lb ld T w hm hsz jE hin hjn;have hl:=x.kI;have hlk:=x.Ae;have aJ:=ae hin;have aV:=ae hjn;have dZ:=ae (show∀z∈x.l,z.size<=m/\z.size<=1073741824 from fun z hz=>by have:=V.yL hz;omega);have jz:=ae (show∀z∈y.l,z.size<=1073741824 from fun z hz=>by have:=V.yL hz;omega);clear hin hjn;by_cases hk:x.k=y.k
  ·have hkb:(x.k==y.k)=true:=by simpa using hk
   by_cases hn:x.n=y.n
   ·have hnb:(x.n==y.n)=true:=by simpa using hn
    by_cases hs:x.s=y.s
    ·have Br:(x.s.toList==y.s.toList)=true:=by rw [hs];simp
     have hsc:x.s.toList=y.s.toList:=by rw [hs]
     have Hk:=ae hk;have Hn:=ae hn;have Hs:=ae hs;clear hk hn hs;go_enter func35,ntmps35;go_wp2_with fail;(refine(T9 x.keys.length y.keys.length kc kd ka kb x.keys y.keys S T _ (ae rfl) (ae rfl) ((V.dD ..).1 (aJ.out.ext Xt)).2.2.1 ((V.dD ..).1 (aV.out.ext Xt)).2.2.1 (by omega)).mono ?_);rintro e w1 ⟨r,rfl,hr,h1⟩;have Hr:=ae hr;have ag:aD w1 w.heap.size x ka kc la lc:=af.ext h1 aj;have ai:aD w1 (w.heap.size+1) y kb kd lb ld:=af.ext h1 aj;have hx1:Ext w w1:=Xt;clear hr h1
     cases r with
     |true=>
      obtain⟨hc0,aw,hl0⟩:=ag.see;obtain⟨hc1,aB,az⟩:=ai.see;go_wp2_with fail;(refine(adx m ih x.l.length y.l.length lc ld la lb x.l y.l S T _ (ae rfl) (ae rfl) ((V.dD ..).1 (aJ.out.ext Xt)).2.2.2 ((V.dD ..).1 (aV.out.ext Xt)).2.2.2 (by omega) dZ jz).mono ?_);rintro e w2 ⟨r2,rfl,hr2,h2⟩;have kB:=ae hr2;have hx2:Ext w w2:=Xt;clear hr2 h2 hc0 aw hl0 hc1 aB az
      cases r2 with
      |true=>
       go_wp2_with fail;go_ret;exact⟨_,rfl,⟨fun _=>V.ext' Hk.out Hn.out Hs.out (Hr.out.1 (by trivial)) (kB.out.1 (by trivial)),fun _=>rfl⟩,Xt⟩
      |false=>
       go_wp2_with fail;go_ret;exact⟨_,rfl,⟨fun h=>by(first|cases h|simp at h),fun h=>by have:=kB.out.2 (by rw [h]);cases this⟩,Xt⟩
     |false=>
      go_wp2_with fail;go_ret;exact⟨_,rfl,⟨fun h=>by(first|cases h|simp at h),fun h=>by have:=Hr.out.2 (by rw [h]);cases this⟩,Xt⟩
    ·have Br:(x.s.toList==y.s.toList)=false:=by simpa using fun h=>hs (ln h)
     have hsc:¬x.s.toList=y.s.toList:=fun h=>hs (ln h);have Hs:=ae hs;clear hk hn hs;go_enter func35,ntmps35;go_wp2_with fail;go_ret;exact⟨_,rfl,⟨fun h=>by(first|cases h|simp at h),fun h=>absurd (by rw [h]) Hs.out⟩,Xt⟩
   ·have hnb:(x.n==y.n)=false:=by simpa using hn
    have Hn:=ae hn;clear hk hn;go_enter func35,ntmps35;go_wp2_with fail;go_ret;exact⟨_,rfl,⟨fun h=>by(first|cases h|simp at h),fun h=>absurd (by rw [h]) Hn.out⟩,Xt⟩
  ·have hkb:(x.k==y.k)=false:=by simpa using hk
   have Hk:=ae hk;clear hk;go_enter func35,ntmps35;go_wp2_with fail;go_ret;exact⟨_,rfl,⟨fun h=>by(first|cases h|simp at h),fun h=>absurd (by rw [h]) Hk.out⟩,Xt⟩
theorem Dz (x y:V) (ka:aq) (kc:Nat) (la:aq) (lc:Nat) (S:aA) (kb:aq) (kd:Nat) (lb:aq) (ld:Nat) (T:aA) (w:World) (hsz:x.size<=1073741824) (jE:y.size<=1073741824) (hin:x.In w S ka kc la lc) (hjn:y.In w T kb kd lb ld):
 Calls prog 35 #[x.val ka kc la lc,y.val kb kd lb ld] w fun e w'=>e= .returned (.bool (x.same y))/\Ext w w':=by
 refine(ady x.size x y ka kc la lc S kb kd lb ld T w (Nat.le_refl _) hsz jE hin hjn).mono ?_;rintro e w' ⟨b,rfl,hb,hx⟩;refine⟨?_,hx⟩;have:b=x.same y:=by rw [Bool.eq_iff_iff,hb,Cz]
 rw [this]
structure Rd (r:Nat) (w w':World):Prop where
 below:Below r w w'
 held:Held (fun b=>b≠r) w w'
theorem Rd.refl (r:Nat) (w:World):Rd r w w:=⟨Below.refl _ _,Held.refl _ _⟩
theorem Rd.trans {r:Nat} {a b c:World} (h:Rd r a b) (k:Rd r b c):Rd r a c:=⟨h.below.trans k.below,h.held.trans k.held⟩
theorem Rd.size {r:Nat} {a b:World} (h:Rd r a b):a.heap.size<=b.heap.size:=h.held.size
theorem Rd.ext {r:Nat} {a b c:World} (h:Rd r a b) (hr:r<a.heap.size) (e:Ext b c):Rd r a c:=
 ⟨h.below.trans (Below.mono e (by have:=h.size;omega)),h.held.ext e⟩
theorem Rd.of {r:Nat} {a b:World} (hr:r<a.heap.size) (e:Ext a b):Rd r a b:=(Rd.refl r a).ext hr e
theorem Rd.set {r:Nat} {a b:World} (h:Rd r a b) (i:Nat) (v:Value):Rd r a (b.setCell ⟨r,i,none⟩ v):=
 ⟨h.below.setCell (Nat.le_refl _) v,h.held.set (by simp) v⟩
theorem af.rd {r:Nat} {w w':World} {n:Nat} {vs:Array Value} {T:TypeId} (e:Rd r w w') (h:af w n vs T) (hn:n≠r):af w' n vs T:=af.held e.held h hn
theorem In.rd {r:Nat} {w w':World} (e:Rd r w w') {x:V} {S:aA} {ka:aq} {kc:Nat} {la:aq} {lc:Nat} (h:x.In w S ka kc la lc) (hS:∀b,S b->b≠r):x.In w' S ka kc la lc:=
 h.keep (fun b hb hl=>e.held.block b (hS b hb) hl) (fun _ h _=>h)
abbrev Sr (w:World) (r:Nat) (s:ah) (bad:Bool):Prop:=af w r #[.string s, .bool bad] 125
theorem Sr.ext {w w':World} {r:Nat} {s:ah} {bad:Bool} (h:Sr w r s bad) (e:Ext w w'):Sr w' r s bad:=af.ext e h
theorem Sr.lt {w:World} {r:Nat} {s:ah} {bad:Bool} (h:Sr w r s bad):r<w.heap.size:=af.lt h
theorem ab0 (s:Bytes):Lib.trimLeftS s [32,9,10,13]=dw s:=by
 unfold Lib.trimLeftS dw;congr 1;funext c;rw [Bool.eq_iff_iff];simp [isSp,or_assoc]
theorem Mg {P:Program} {fn:Func} {R:Ending->World->Prop} {tmps:Array Value} {w:World} (hr:fn.results= #[]) (hR:R (.returned (.tuple #[])) w):
 bodyPost P fn R .normal {tmps:=tmps,defers:= []} w:=bodyPost_end (results_none hr _ _ _) rfl hR
theorem dG (r:Nat) (s:ah) (bad:Bool) (w:World) (hr:Sr w r s bad):
 Calls prog 104 #[.pointer (some ⟨r,0,none⟩)] w fun e w'=>e= .returned (.tuple #[])/\Sr w' r ⟨#[]⟩ true/\Rd r w w':=by
 obtain⟨hc0,aw,hl0⟩:=hr.see;go_enter func104,ntmps104;go_wp2_with fail;(with_reducible apply Mg);(focus(rfl));exact⟨rfl,aj,((Rd.refl _ _).set _ _).set _ _⟩
theorem Bc (r:Nat) (s:ah) (bad:Bool) (w:World) (hr:Sr w r s bad):
 Calls prog 71 #[.pointer (some ⟨r,0,none⟩)] w fun e w'=>e= .returned (.tuple #[])/\ (∃s',s'.data.toList=dw s.data.toList/\Sr w' r s' bad)/\Rd r w w':=by
 have hlt:=hr.lt;obtain⟨hc0,aw,hl0⟩:=hr.see;go_enter func71,ntmps71;go_wp2_with fail;(refine(Any.strings_TrimLeft_laid Tryz.ab1 (by kernel_rfl) s ⟨#[32,9,10,13]⟩ _ (by decide) (ascii_of_all (by decide))).mono ?_);rintro e w1 ⟨rfl,h1⟩;have h1:Ext w w1:=h1;have hr1:=hr.ext h1;obtain⟨s1,hs1⟩:∃s1:ah,(⟨(Lib.trimLeftS s.data.toList [32,9,10,13]).toArray⟩:ah)=s1:=⟨_,rfl⟩;have hs2:s1.data.toList=dw s.data.toList:=by rw [<-hs1,<-ab0]
 have jz:=ae hs2;clear hc0 aw hl0 hs2;obtain⟨hc1,aB,az⟩:=hr1.see;have e1:(⟨(Lib.trimLeftS s.data.toList (⟨#[32,9,10,13]⟩:ah).data.toList).toArray⟩:ah)=s1:=hs1;rw [e1];clear e1 hs1;go_wp2_with fail;(with_reducible apply Mg);(focus(rfl));exact⟨rfl,⟨s1,jz.out,aj⟩,(Rd.of hlt h1).set _ _⟩
def gw (l:Bytes):UInt8:=l.headD 0
theorem ab2 {s:ah} (h:0<s.size):s[0]=gw s.data.toList:=by
 have h':0<s.data.toList.length:=by rw [Array.length_toList];exact h
 unfold gw
 cases hc:s.data.toList with
 |nil=>rw [hc] at h';simp at h'
 |cons c t=>
  have:s.data.toList[0]'h'=c:=by simp [hc]
  rw [List.headD_cons,<-this];rfl
theorem lX (r:Nat) (s:ah) (bad:Bool) (w:World) (hr:Sr w r s bad):
 Calls prog 105 #[.pointer (some ⟨r,0,none⟩)] w fun e w'=>e= .returned (.int .u8 (gw s.data.toList).toNat)/\w'=w:=by
 obtain⟨hc0,aw,hl0⟩:=hr.see;by_cases hz:s.data.toList= []
 ·have hz1:s.toList= []:=by rw [ByteArray.toList_eq,hz]
  have hz2:(s.toList== [])=true:=by rw [hz1];rfl
  have hz3:s.toList.isEmpty=true:=by rw [hz1];rfl
  rw [hz];clear hz;go_enter func105,ntmps105;go_wp2_with fail;refine aG (h:= ?_);exact⟨rfl,rfl⟩
 ·have hz1:¬s.toList= []:=by rw [ByteArray.toList_eq];exact hz
  have hz2:(s.toList== [])=false:=by simpa using hz1
  have hz3:s.toList.isEmpty=false:=by cases h:s.toList with|nil=>exact absurd h hz1|cons=>rfl
  have hsz:0<s.size:=by have:=List.length_pos_iff.2 hz;rw [Array.length_toList] at this;exact this
  have Hh:=ae (ab2 hsz);clear hz;go_enter func105,ntmps105;go_wp2_with fail;refine aG (h:= ?_);refine⟨?_,rfl⟩;rw [<-Hh.out]
theorem xg (r:Nat) (s:ah) (bad:Bool) (p:ah) (w:World) (hr:Sr w r s bad):
 Calls prog 106 #[.pointer (some ⟨r,0,none⟩), .string p] w fun e w'=>e= .returned (.tuple #[])/\Rd r w w'/\
  ((p.data.toList.isPrefixOf s.data.toList=true/\∃s',s'.data.toList=s.data.toList.drop p.data.toList.length/\Sr w' r s' bad)\/ (p.data.toList.isPrefixOf s.data.toList=false/\Sr w' r ⟨#[]⟩ true)):=by
 obtain⟨hc0,aw,hl0⟩:=hr.see;obtain⟨s1,hs1⟩:∃s1:ah,(⟨(Lib.trimPrefix s.data.toList p.data.toList).toArray⟩:ah)=s1:=⟨_,rfl⟩;have hs2:s1.data.toList=Lib.trimPrefix s.data.toList p.data.toList:=by rw [<-hs1]
 have dZ:=ae hs1;have jz:=ae hs2;clear hs1 hs2
 cases hp:Lib.hasPrefix s.data.toList p.data.toList with
 |true=>
  have Hp:=ae hp;have hp2:p.data.toList.isPrefixOf s.data.toList=true:=hp;clear hp;have Mh:=ae hp2;clear hp2;go_enter func106,ntmps106;go_wp2_with fail;(refine(Tryz.strings_CutPrefix s p _).mono ?_);rintro e w1 ⟨rfl,rfl⟩;rw [dZ.out,Hp.out];go_wp2_with fail;(with_reducible apply Mg);(focus(rfl));refine⟨rfl,(Rd.refl _ _).set _ _, .inl ⟨Mh.out,s1,?_,aj⟩⟩;rw [jz.out];unfold Lib.trimPrefix;rw [if_pos Hp.out]
 |false=>
  have Hp:=ae hp;have hp2:p.data.toList.isPrefixOf s.data.toList=false:=hp;clear hp;have Mh:=ae hp2;clear hp2;go_enter func106,ntmps106;go_wp2_with fail;(refine(Tryz.strings_CutPrefix s p _).mono ?_);rintro e w1 ⟨rfl,rfl⟩;rw [dZ.out,Hp.out];go_wp2_with fail;(refine(dG r s bad _ hr).mono ?_);rintro e w2 ⟨rfl,hr2,h2⟩;go_wp2_with fail;refine aG (h:= ?_);exact⟨rfl,h2, .inr ⟨Mh.out,hr2⟩⟩
theorem se (s:ah) (n:Nat):(s.extract n s.size).data.toList=s.data.toList.drop n:=by
 rw [Lib.extract_data,List.take_of_length_le (by rw [List.length_drop,Array.length_toList];exact Nat.le_refl _)]
def Bd (r:Nat) (t:Bytes) (bad first:Bool) (c:UInt8) (w:World) (e:Ending) (w':World):Prop:=
 Rd r w w'/\∃(s':ah) (gy:Bool),Sr w' r s' gy/\ (gy=true->s'.data.toList= [])/\
  ((∃u,t=c::u/\e= .returned (.bool false)/\gy=bad/\s'.data.toList=u)\/
   (gw t≠c/\e= .returned (.bool (!gy))/\ ((first=true/\gy=bad/\s'.data.toList=t)\/ (first=false/\ ((∃u,t=44::u/\gy=bad/\s'.data.toList=u)\/ (gw t≠44/\gy=true))))))
theorem Mi (r:Nat) (s:ah) (bad first:Bool) (c:UInt8) (hc:c≠0) (hb:bad=true->s.data.toList= []) (w:World) (hr:Sr w r s bad):
 Calls prog 139 #[.pointer (some ⟨r,0,none⟩), .bool first, .int .u8 c.toNat] w (Bd r (dw s.data.toList) bad first c w):=by
 have hlt:=hr.lt;have Hb:=ae hb;clear hb;go_enter func139,ntmps139;go_wp2_with fail;(refine(Bc r s bad _ hr).mono ?_);rintro e w1 ⟨rfl,⟨s1,hs1,hr1⟩,h1⟩;have dZ:=ae hs1;have hb1:bad=true->s1.data.toList= []:=fun h=>by rw [hs1,Hb.out h];rfl
 have Mj:=ae hb1;clear hs1 hb1 Hb hr;have ahi:=hr1.lt;by_cases hc1:gw s1.data.toList=c
 ·have hcb:((gw s1.data.toList).toNat:Int)=(c.toNat:Int):=by rw [hc1]
  have hcc:(((gw s1.data.toList).toNat:Int)==(c.toNat:Int))=true:=by rw [hcb];simp
  have hne:s1.data.toList≠ []:=fun h=>by rw [h] at hc1;exact hc hc1.symm
  have hsz:1<=s1.size:=by have:=List.length_pos_iff.2 hne;rw [Array.length_toList] at this;exact this
  have hsz1:(1:Int)<= (s1.size:Int):=by omega
  have qK:s1.data.toList=c::s1.data.toList.drop 1:=by
   cases hq:s1.data.toList with
   |nil=>exact absurd hq hne
   |cons d t=>rw [hq] at hc1;simp only [gw,List.headD_cons] at hc1;rw [hc1];rfl
  have pD:=ae qK;clear qK hne hc1 hcb;obtain⟨hc1,aB,az⟩:=hr1.see;go_wp2_with fail;(refine(lX r s1 bad _ hr1).mono ?_);rintro e w2 ⟨rfl,rfl⟩;go_wp2_with fail;refine aG (h:= ?_);rw [<-dZ.out];unfold Bd;refine⟨h1.set _ _,s1.extract 1 s1.size,bad,aj,fun h=>by rw [se,Mj.out h];rfl, .inl ⟨s1.data.toList.drop 1,pD.out,rfl,rfl,se _ _⟩⟩
 ·have hcb:¬((gw s1.data.toList).toNat:Int)=(c.toNat:Int):=fun h=>hc1 (by apply UInt8.toNat_inj.1;omega)
  have hcc:(((gw s1.data.toList).toNat:Int)==(c.toNat:Int))=false:=by simpa using hcb
  have Mk:=ae hc1;clear hc1 hcb;obtain⟨hc1,aB,az⟩:=hr1.see;go_wp2_with fail;(refine(lX r s1 bad _ hr1).mono ?_);rintro e w2 ⟨rfl,rfl⟩
  cases first with
  |true=>
   go_wp2_with fail;refine aG (h:= ?_);rw [<-dZ.out];unfold Bd;exact⟨h1,s1,bad,hr1,Mj.out, .inr ⟨Mk.out,rfl, .inl ⟨rfl,rfl,rfl⟩⟩⟩
  |false=>
   go_wp2_with fail;(refine(xg r s1 bad ⟨#[44]⟩ _ hr1).mono ?_);rintro e w3 ⟨rfl,h3,(⟨hp,s3,hs3,hr3⟩|⟨hp,hr3⟩)⟩
   ·have qK:s1.data.toList=44::s3.data.toList:=by
     rw [hs3]
     cases hq:s1.data.toList with
     |nil=>rw [hq] at hp;simp [List.isPrefixOf] at hp
     |cons d t=>
      rw [hq] at hp;simp only [List.isPrefixOf,Bool.and_true,beq_iff_eq] at hp;rw [<-hp];rfl
    have pD:=ae qK;clear qK hp hs3 hc1 aB az;obtain⟨hc3,hf3,aS⟩:=hr3.see;go_wp2_with fail;refine aG (h:= ?_);rw [<-dZ.out];unfold Bd;exact⟨h1.trans h3,s3,bad,hr3,(fun h=>by have:=Mj.out h;rw [pD.out] at this;cases this), .inr ⟨Mk.out,rfl, .inr ⟨rfl, .inl ⟨_,pD.out,rfl,rfl⟩⟩⟩⟩
   ·have hne:gw s1.data.toList≠44:=fun h=>by
     cases hq:s1.data.toList with
     |nil=>rw [hq] at h;simp [gw] at h
     |cons d t=>
      rw [hq] at h hp;simp only [gw,List.headD_cons] at h;rw [h] at hp;simp [List.isPrefixOf] at hp
    have dW:=ae hne;clear hne hp hc1 aB az;obtain⟨hc3,hf3,aS⟩:=hr3.see;go_wp2_with fail;refine aG (h:= ?_);rw [<-dZ.out];unfold Bd;exact⟨h1.trans h3,⟨#[]⟩,true,hr3,fun _=>rfl, .inr ⟨Mk.out,rfl, .inr ⟨rfl, .inr ⟨dW.out,rfl⟩⟩⟩⟩
end Go.Proofs.YtlcebdaghmdkeaaGreatDoor
