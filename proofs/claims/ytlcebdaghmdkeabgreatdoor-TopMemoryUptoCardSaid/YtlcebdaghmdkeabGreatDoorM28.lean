import Derived.Test.YtlcebdaghmdkeabGreatDoorM18
import Derived.Test.YtlcebdaghmdkeabGreatDoorM21
import Derived.Test.YtlcebdaghmdkeabGreatDoorM25
import Derived.Test.YtlcebdaghmdkeabGreatDoorM27
set_option linter.all false
set_option maxRecDepth 100000
set_option maxHeartbeats 64000000
namespace Go.Proofs.YtlcebdaghmdkeabGreatDoor
open Go.Proofs.Tryz
open Go.RowKit
attribute [local go_sem↓] Go.wp_at_zero Go.wp_at_succ
theorem Wn (v:V) (ka:aq) (kc:Nat) (la:aq) (lc:Nat) (l:List Ow) (a:aq) (c:Nat) (who:ah) (want:V) (kb:aq) (kd:Nat) (lb:aq) (ld:Nat) (force:Bool) (S:aw) (w:World)
 (jt:v.size<=1000000000) (hwz:want.size<=1000000000) (eJ:cF l<=2097152) (ua:who.size<=1073741824) (hok:aM a l.length c) (hin:v.In w S ka kc la lc) (hjn:cj w S l a) (hkn:want.In w S kb kd lb ld) (hm:fL w):
 Calls prog 87 #[v.val ka kc la lc, .slice a l.length c, .string who,want.val kb kd lb ld, .bool force] w (Ei S (ju v l who want force) w):=by
 unfold ju
 cases hb:pk v l who want with
 |false=>
  rw [if_pos rfl];exact Wo v ka kc la lc l a c who want kb kd lb ld force S w jt hwz eJ ua hok hin hjn hkn hm hb
 |true=>
  rw [if_neg (by simp)];by_cases hc:jv v l who want≠ []/\force=false
  ·rw [if_pos hc]
   exact Wp v ka kc la lc l a c who want kb kd lb ld force S w jt hwz eJ ua hok hin hjn hkn hm hb hc.1 hc.2
  ·rw [if_neg hc]
   exact Wq v ka kc la lc l a c who want kb kd lb ld force S w jt hwz eJ ua hok hin hjn hkn hm hb hc
end Go.Proofs.YtlcebdaghmdkeabGreatDoor
namespace Go.Proofs.YtlcebdaghmdkeabGreatDoor
open Go.RowKit
attribute [local go_sem↓] Go.wp_at_zero Go.wp_at_succ
def S8 (S:aw) (x:V×List Ow×Int) (w:World) (e:Ending) (w':World):Prop:=
 ∃ka kc la lc oa oc,e= .returned (.tuple #[x.1.val ka kc la lc, .slice oa x.2.1.length oc, .int .i64 x.2.2])/\x.1.In w' (aU S w) ka kc la lc/\aM oa x.2.1.length oc/\cj w' (aU S w) x.2.1 oa/\Ext w w'
theorem L5 (x:V) (key:ah):(x.ik key).size<=x.size+1:=by
 rcases D8 x key with h|h
 ·rw [h,show V.zero.size=1 by decide+kernel];omega
 ·omega
theorem adJ {x:V} {o:bE} (h:x.iF=some o):o.size<=1+3*(x.size+1)+1:=by
 have h1:=L5 x mL;have h2:=L5 x uI;have h3:=L5 x wJ;have l1:=(x.ik mL).Jl;have l2:=(x.ik uI).Jl;have hz:V.zero.size=1:=by decide+kernel
 have he:(⟨#[]⟩:ah).size=0:=rfl;unfold V.iF V.txt at h;simp only at h
 repeat' (first|(split at h)|(cases h;done))
 all_goals (cases h;unfold bE.size;simp only [hz,he];omega)
theorem S9:∀ {l:List V} {os:List bE} {B:Nat},mM l=some os-> (∀x∈l,x.size<=B)-> (os.map bE.size).sum<=l.length*(3*B+5)/\os.length=l.length
 | [],os,B,h,_=>by cases h;simp
 |x::r,os,B,h,hb=>by
  unfold mM at h
  cases hx:x.iF with
  |none=>rw [hx] at h;cases h
  |some q=>
   cases hr:mM r with
   |none=>rw [hx,hr] at h;cases h
   |some t=>
    rw [hx,hr] at h;simp only [Option.map_some,Option.some.injEq] at h;subst h;obtain⟨h1,h2⟩:=S9 hr (fun y hy=>hb y (List.mem_cons_of_mem _ hy));have h3:=adJ hx;have h4:=hb x (List.mem_cons_self ..);simp only [List.map_cons,List.sum_cons,List.length_cons,h2,and_true];rw [Nat.add_mul];omega
theorem adK {x:V} (hx:x.size<=14640):((jE x).1.map bE.size).sum<=4194304/\ (jE x).1.length<=20:=by
 unfold jE
 split
 ·simp
 ·split
  ·simp
  ·rename_i h20
   split
   ·simp
   ·rename_i l hl
    obtain⟨h1,h2⟩:=S9 (B:=14640) hl (fun y hy=>by have:=V.xZ hy;omega);have:x.l.length*(3*14640+5)<=20*(3*14640+5):=Nat.mul_le_mul_right _ (by omega);simp only;omega
theorem S' (s:Bytes):(ek s).1.size<=14640:=by
 by_cases h:(ek s).2=0
 ·exact pL (abT s h).1
 ·rw [abS s h];decide+kernel
theorem merge_le {x y:V} (hx:x.size<=14640):(ma x y).1.size<=14640:=by
 unfold ma
 split
 ·exact hx
 ·split
  ·exact hx
  ·rename_i h;exact pL (by simpa using h)
end Go.Proofs.YtlcebdaghmdkeabGreatDoor
namespace Go.Proofs.YtlcebdaghmdkeabGreatDoor
open Go.Proofs.Tryz
open Go.RowKit
attribute [local go_sem↓] Go.wp_at_zero Go.wp_at_succ
theorem adX {x:V} {l:List bE} (hx:x.size<=14640):(kB x l).1.size<=14640:=by
 obtain⟨h1,h2⟩:=XV x l;by_cases h:(kB x l).2=0
 ·rcases h2 h with rfl|h
  ·exact hx
  ·exact pL h
 ·rw [h1 h];exact hx
theorem Tq {v b:V} {k:Int} (hv:v.size<=14640) (hb:b.size<=14640):(og v b k).1.size<=14640:=by
 unfold og
 split
 ·exact merge_le hv
 ·split
  ·split
   ·exact adX hv
   ·exact hb
  ·exact hb
theorem oo.mono' {w:World} {S T:aw} {a:aq} {l:List bE} (h:oo w S a l) (hT:∀b,S b->T b):oo w T a l:=h.mono hT
theorem Tj (t:Th) (ka:aq) (kc:Nat) (la:aq) (lc:Nat) (oa:aq) (oc:Nat) (a:Ac) (S:aw) (w:World) (hin:t.v.In w S ka kc la lc) (hok:aM oa t.ows.length oc) (how:cj w S t.ows oa)
 (jt:t.v.size<=14640) (iz:cF t.ows<=2097152) (hbz:a.body.size<=1048576) (hwz:a.who.size<=1048576) (hl:cS w) (hn:qJ w):
 Calls prog 58 #[.agg #[.string t.name, .int .i64 t.v.k, .int .i64 t.v.n, .string t.v.s, .slice ka t.v.keys.length kc, .slice la t.v.l.length lc, .slice oa t.ows.length oc, .int .i64 t.ver, .int .i64 t.gen, .string t.st.sb, .string t.st.cm, .int .i64 t.st.ph, .int .i64 t.st.sp, .int .i64 t.st.wt, .int .i64 t.st.si], .agg #[.int .i64 a.k, .string a.name, .string a.who, .string a.body, .int .i64 a.ver, .int .i64 a.n, .int .i64 a.ord, .bool a.force]] w (S8 S (cR t.v t.ows a) w):=by
 obtain⟨SS,bg⟩:∃SS:aw,SS=fun b=>(S b/\b<w.heap.size)\/w.heap.size+3<=b:=⟨_,rfl⟩
 have aH:=ae (show t.v.In w SS ka kc la lc from hin.mono fun b h hl=>by rw [bg];exact .inl ⟨h,hl⟩);have How:=ae (show cj w SS t.ows oa from how.mono fun b h hl=>by rw [bg];exact .inl ⟨h,hl⟩);have cd:=ae (show∀b,w.heap.size+3<=b->SS b from fun b h=>by rw [bg];exact .inr h);have cT:=ae (show∀b,SS b->b≠w.heap.size+1+1 from fun b h=>by rw [bg] at h;rcases h with h|h<;>omega);have bD:=ae (show∀b,SS b->aU S w b from fun b h=>by rw [bg] at h;exact h.elim (fun h=> .inl h.1) (fun h=> .inr (by omega)));have eK:=ae hok;obtain⟨b,hb⟩:∃b,(ek a.body.data.toList).1=b:=⟨_,rfl⟩;obtain⟨be,Bk⟩:∃be,(ek a.body.data.toList).2=be:=⟨_,rfl⟩;have hbs:b.size<=14640:=by rw [<-hb];exact S' _
 have Hb:=ae hb;have Hbe:=ae Bk;have lN:=ae (show cR t.v t.ows a=if be≠0 then(t.v,t.ows,be) else if a.k=5 then((ju t.v t.ows a.who b a.force).1,(ju t.v t.ows a.who b a.force).2.1,(ju t.v t.ows a.who b a.force).2.2.2) else((og t.v b a.k).1,mH (og t.v b a.k).1 t.ows,(og t.v b a.k).2) by unfold cR;rw [hb,Bk]);clear bg hin how hok hb Bk;go_enter func58,ntmps58;go_upto_region 1 with fail
 refine aI (R:=fun wx=>lG wx w.heap.size t ka kc la lc oa oc/\uS wx (w.heap.size+1) a/\aN wx (w.heap.size+1+1)/\Ext w wx) ⟨aj,aj,aj,Xt⟩ ?_;rintro wa ⟨hT,hA,hR,aD⟩;have kM:=hR.lt;obtain⟨jH,jI,hlA⟩:=hA.see;go_wp2_with fail;(refine(abW a.body _ (by omega) (hl.ext Xt)).mono ?_);rintro e w1 ⟨k1,c1,l1,d1,rfl,fc,h1⟩;rw [Hb.out,Hbe.out];rw [Hb.out] at fc;have ni:=ae (show b.In w1 SS k1 c1 l1 d1 from fc.mono fun q h _=>cd.out q (by(try simp at h);omega));have hT:=af.ext h1 hT;have hA:=af.ext h1 hA;have hR:=af.ext h1 hR;have hx1:Ext w w1:=Xt;clear fc h1 aD jH jI hlA;go_upto_region 2 with fail
 refine aI (R:=fun wx=>lG wx w.heap.size t ka kc la lc oa oc/\uS wx (w.heap.size+1) a/\aN wx (w.heap.size+1+1)/\aC wx w1.heap.size b k1 c1 l1 d1/\b.In wx SS k1 c1 l1 d1/\Ext w wx) ⟨aj,aj,aj,aj,ni.out.ext Xt,Xt⟩ ?_;clear hT hA hR ni hx1;rintro wb ⟨hT,hA,hR,hV,wI,aO⟩;have kV:=ae wI;have hzb:=hV.lt;have hz1:=hR.lt;clear wI;by_cases h0:be=0
 ·subst h0
  have hb0:((0:Int) !=0)=false:=rfl;have lN:=ae (lN.out.trans (if_neg (by simp)));obtain⟨AQ,AR,AU⟩:=hV.see;go_upto_region 5 with fail
  refine aI (R:=fun wx=>lG wx w.heap.size t ka kc la lc oa oc/\uS wx (w.heap.size+1) a/\aN wx (w.heap.size+1+1)/\aC wx w1.heap.size b k1 c1 l1 d1/\aC wx wb.heap.size b k1 c1 l1 d1/\b.In wx SS k1 c1 l1 d1/\b.In wx (fun q=>SS q/\q≠wb.heap.size) k1 c1 l1 d1/\Ext w wx) ⟨aj,aj,aj,aj,aj,kV.out.ext Xt,(kV.out.mono (T:=fun q=>SS q/\q≠wb.heap.size) fun q h hl=>⟨h,by omega⟩).ext Xt,Xt⟩ ?_;clear hT hA hR hV kV aO AQ AR AU;rintro wc ⟨hT,hA,hR,hV,hU,wI,Tt,fg⟩;have kV:=ae wI;have Tv:=ae Tt;have bJ:=ae (show t.v.In w (fun q=>SS q/\q≠wb.heap.size) ka kc la lc from aH.out.mono fun q h hl=>⟨h,by omega⟩);have pq:=hU.lt;clear wI Tt;obtain⟨ie,ig,eZ⟩:=hT.see;obtain⟨jH,jI,hlA⟩:=hA.see;obtain⟨AQ,AR,AU⟩:=hV.see;by_cases h5:a.k=5
  ·have o6:(a.k==5)=true:=by simpa using h5
   have Hr:=ae (lN.out.trans (if_pos h5));obtain⟨⟨u,m,cf,er⟩,hr⟩:∃z,ju t.v t.ows a.who b a.force=z:=⟨_,rfl⟩;rw [hr] at Hr;have jL:=ae hr;clear h5 hr;go_wp2_with fail;(refine(Wn t.v ka kc la lc t.ows oa oc a.who b k1 c1 l1 d1 a.force SS _ (by omega) (by omega) iz (by omega) eK.out (aH.out.ext Xt) (How.out.ext Xt) (kV.out.ext Xt) (hl.max.ext Xt)).mono ?_);rw [jL.out];rintro e w2 ⟨k2,c2,l2,d2,a5,c5,a6,c6,rfl,bR,gV,wQ,-,-,h2⟩;have hz2:=h2.size;have cn:=ae (show u.In w2 SS k2 c2 l2 d2 from bR.mono fun q h _=>by rcases h with h|h;exact h;exact cd.out q (by(try simp at h);omega));have Gt:=ae (show cj w2 SS m a5 from wQ.mono fun q h _=>by rcases h with h|h;exact h;exact cd.out q (by(try simp at h);omega));have Dz:=ae gV;have hx2:Ext w w2:=Xt;have bQ:=af.ext (w:=wc) (w':=w2) Xt hR;have L8:=bQ.lt;clear bR wQ gV h2 ie ig eZ jH jI hlA AQ AR AU hT hA hR hV hU;obtain⟨hcR,jG,eD⟩:=bQ.see;go_wp2_with fail;refine aF (h:= ?_);rw [Hr.out];exact⟨k2,c2,l2,d2,a5,c5,rfl,cn.out.keep ((Held.kept (a:=w2) (T:=fun b=>b≠w.heap.size+1+1) aB).mono cT.out) (fun b hb _=>bD.out b hb),Dz.out,Gt.out.keep ((Held.kept (a:=w2) (T:=fun b=>b≠w.heap.size+1+1) aB).mono cT.out) (fun b hb _=>bD.out b hb),Xt⟩
  ·have o6:(a.k==5)=false:=by simpa using h5
   obtain⟨⟨u,er⟩,hu⟩:∃z,og t.v b a.k=z:=⟨_,rfl⟩;have Hr:=ae (show cR t.v t.ows a=(u,mH u t.ows,er) by rw [lN.out,if_neg h5,hu]);have mo:u.size<=14640:=by have:=Tq (k:=a.k) jt hbs;rw [hu] at this;exact this
   have Hu:=ae hu;clear h5 hu lN;go_upto_block 0 with fail
   go_cut [8] (fun s8 wx=>s8= .int .i64 er/\∃k4 c4 l4 d4,aC wx wb.heap.size u k4 c4 l4 d4/\u.In wx SS k4 c4 l4 d4/\lG wx w.heap.size t ka kc la lc oa oc/\aN wx (w.heap.size+1+1)/\Ext w wx)
   case first=>
    by_cases h3:a.k=3
    ·have JU:(a.k==3)=true:=by simpa using h3
     have Hm:=ae (show ma t.v b=(u,er) by rw [<-Hu.out];unfold og;rw [if_pos h3]);clear h3;go_wp2_with fail;(refine(VR t.v ka kc la lc b k1 c1 l1 d1 (fun q=>SS q/\q≠wb.heap.size) _ (by omega) (by omega) (bJ.out.ext Xt) (Tv.out.ext Xt)).mono ?_);rw [Hm.out];rintro e w2 ⟨k2,c2,l2,d2,rfl,bR,h2⟩;have cn:=ae (show u.In w2 (fun q=>SS q/\q≠wb.heap.size) k2 c2 l2 d2 from bR.mono fun q h _=>by rcases h with h|h;exact h;exact⟨cd.out q (by(try simp at h);omega),by(try simp at h);omega⟩);have hx2:Ext w w2:=Xt;have qo:=af.ext (w:=wc) (w':=w2) Xt hT;have bQ:=af.ext (w:=wc) (w':=w2) Xt hR;have tK:=af.ext (w:=wc) (w':=w2) Xt hU;have oV:=tK.lt;clear bR h2 ie ig eZ jH jI hlA AQ AR AU hT hA hR hV hU;obtain⟨wR,wS,oV⟩:=tK.see;go_wp2_with fail
     go_meet
     exact⟨rfl,k2,c2,l2,d2,bk,cn.out.keep (Held.kept (a:=w2) (T:=fun q=>SS q/\q≠wb.heap.size) ((show Held (fun q=>q≠wb.heap.size) w2 _ from aB).mono fun b hb=>hb.2)) (fun b hb _=>hb.1),bk,bk,Xt⟩
    ·have JU:(a.k==3)=false:=by simpa using h3
     by_cases h4:a.k=4
     ·have CT:(a.k==4)=true:=by simpa using h4
      obtain⟨⟨os,re⟩,qb⟩:∃z,jE b=z:=⟨_,rfl⟩;have hz:=adK hbs;rw [qb] at hz;have Hz:=ae hz;have Hrd:=ae qb;have Tw:=ae (show (if re=0 then kB t.v os else(b,re))=(u,er) by rw [<-Hu.out];unfold og;rw [if_neg h3,if_pos h4,qb]);clear h3 h4 qb hz;go_wp2_with fail;(refine(ach b k1 c1 l1 d1 (fun q=>SS q/\q≠wb.heap.size) _ (by omega) (hn.ext Xt) (Tv.out.ext Xt)).mono ?_);rw [Hrd.out];rintro e w2 ⟨a9,n9,c9,rfl,yz,qW,Tx,h2⟩;have Ty:=ae (show os.length=n9 from yz);have CF:=ae (show oo w2 (fun q=>SS q/\q≠wb.heap.size) a9 os from Tx.mono fun q h=>by rcases h with h|h;exact h;exact⟨cd.out q (by(try simp at h);omega),by(try simp at h);omega⟩);have hx2:Ext w w2:=Xt;have qo:=af.ext (w:=wc) (w':=w2) Xt hT;have bQ:=af.ext (w:=wc) (w':=w2) Xt hR;have tK:=af.ext (w:=wc) (w':=w2) Xt hU;have adY:=ae (V.In.ext (w:=wc) (w':=w2) kV.out Xt);have oV:=tK.lt;clear yz qW Tx h2 ie ig eZ jH jI hlA AQ AR AU hT hA hR hV hU;obtain⟨ie,ig,eZ⟩:=qo.see;obtain⟨wR,wS,oV⟩:=tK.see;by_cases hre:re=0
      ·subst hre
       have Ha:=ae (show kB t.v os=(u,er) by have:=Tw.out;rwa [if_pos rfl] at this);have hn9:n9<=20:=by have:=Hz.out.2;have:=Ty.out;simp only at*;omega
       go_wp2_with fail;(refine(ZA t.v ka kc la lc a9 c9 os n9 _ Ty (hl.ext Xt) (by omega) Hz.out.1 (by omega) (fun q=>SS q/\q≠wb.heap.size) (bJ.out.ext Xt) (CF.out.ext Xt)).mono ?_);rw [Ha.out];rintro e w3 ⟨k2,c2,l2,d2,rfl,bR,h3⟩;have hz3:=h3.size;have cn:=ae (show u.In w3 (fun q=>SS q/\q≠wb.heap.size) k2 c2 l2 d2 from bR.mono fun q h _=>by rcases h with h|h;exact h;exact⟨cd.out q (by(try simp at h);omega),by(try simp at h);omega⟩);have hx3:Ext w w3:=Xt;have Gs:=af.ext (w:=w2) (w':=w3) Xt qo;have bN:=af.ext (w:=w2) (w':=w3) Xt bQ;have Tz:=af.ext (w:=w2) (w':=w3) Xt tK;have oV:=Tz.lt;clear bR h3 ie ig eZ wR wS oV qo bQ tK;obtain⟨wR,wS,oV⟩:=Tz.see;go_wp2_with fail
       go_meet
       exact⟨rfl,k2,c2,l2,d2,bk,cn.out.keep (Held.kept (a:=w3) (T:=fun q=>SS q/\q≠wb.heap.size) ((show Held (fun q=>q≠wb.heap.size) w3 _ from aB).mono fun b hb=>hb.2)) (fun b hb _=>hb.1),bk,bk,Xt⟩
      ·have agj:(re==0)=false:=by simpa using hre
       have DA:=Tw.out;rw [if_neg hre,Prod.mk.injEq] at DA;obtain⟨rfl,rfl⟩:=DA;clear hre;go_wp2_with fail
       go_meet
       exact⟨rfl,k1,c1,l1,d1,bk,adY.out.ext Xt,bk,bk,Xt⟩
     ·have CT:(a.k==4)=false:=by simpa using h4
      have DA:(b,(0:Int))=(u,er):=by rw [<-Hu.out];unfold og;rw [if_neg h3,if_neg h4]
      rw [Prod.mk.injEq] at DA;obtain⟨rfl,rfl⟩:=DA;clear h3 h4;go_wp2_with fail
      go_meet
      exact⟨rfl,k1,c1,l1,d1,bk,kV.out.ext Xt,bk,bk,Xt⟩
   case rest=>
    clear hT hA hR hV hU ie ig eZ jH jI hlA AQ AR AU fg;obtain⟨rfl,k4,c4,l4,d4,hU,se,hT,hR,hx⟩:=hcut;have mQ:=ae se;clear se;have oV:=hU.lt;go_upto_region 16 with fail
    have au:∀w',Held (fun b=>b≠w.heap.size+1+1) wc w'-> (w'.cell? ⟨wb.heap.size,0,none⟩=some (.int .i64 u.k)/\w'.cell? ⟨wb.heap.size,1,none⟩=some (.int .i64 u.n)/\w'.cell? ⟨wb.heap.size,2,none⟩=some (.string u.s)/\w'.cell? ⟨wb.heap.size,3,none⟩=some (.slice k4 u.keys.length c4)/\w'.cell? ⟨wb.heap.size,4,none⟩=some (.slice l4 u.l.length d4)/\w'.cell? ⟨w.heap.size,6,none⟩=some (.slice oa t.ows.length oc)):=
     fun w' e=>by have h:=af.held e hU (by simp;omega);have h':=af.held e hT (by simp;omega);exact⟨h.cells 0,h.cells 1,h.cells 2,h.cells 3,h.cells 4,h'.cells 6⟩
    refine nt au (by kernel_rfl) (au _ aB) (fun hHeld=> ?_);refine aJ 0 (h:= ?_);refine aJ 1 (h:= ?_);refine aJ 2 (h:= ?_);refine aJ 3 (h:= ?_);refine aJ 5 (h:= ?_);(try simp only [rl]);refine iw 4 (h:=fun K hK=> ?_);(try simp only [rl]);(try go_simp);(refine(aai u k4 c4 l4 d4 SS t.ows oa oc SS _ (by omega) iz (mQ.out.ext Xt) (How.out.ext Xt) (hl.max.ext Xt)).mono ?_);rintro e w4 ⟨a6,c6,rfl,jP,TA,h4⟩;(try go_simp);have bP:Ext wc w4:=Xt;have adZ:=ae (show cj w4 SS (mH u t.ows) a6 from TA.mono fun q h _=>by rcases h with h|h;exact h.elim;exact cd.out q (by(try simp at h);omega));have Lu:=ae jP;have ad0:=ae (V.In.ext (w':=w4) mQ.out bP);have TC:=af.ext bP hR;have L8:=TC.lt;have CJ:Held (fun b=>b≠w.heap.size+1+1) wc w4:=bP.held _;clear jP TA h4;refine hK.out _ _ (au _ aB) (fun hHeld=> ?_);clear hK K;(try simp only [rl]);obtain⟨hcR,jG,eD⟩:=TC.see;refine iw 6 (h:=fun K hK=> ?_);(try simp only [rl]);go_simp;refine hK.out _ _ (au _ aB) (fun hHeld=> ?_);clear hK K;(try simp only [rl]);refine iw 7 (h:=fun K hK=> ?_);(try simp only [rl]);go_simp;refine hK.out _ _ (au _ aB) (fun hHeld=> ?_);clear hK K;(try simp only [rl]);refine iw 8 (h:=fun K hK=> ?_);(try simp only [rl]);go_simp;refine hK.out _ _ (au _ aB) (fun hHeld=> ?_);clear hK K;(try simp only [rl]);refine wpAnyH_done (by kernel_rfl) ?_ _;go_wp2_with fail;refine aF (h:= ?_);rw [Hr.out];have agk:Ext w w4:=hx.trans bP;exact⟨k4,c4,l4,d4,a6,c6,rfl,ad0.out.keep ((Held.kept (a:=w4) (T:=fun b=>b≠w.heap.size+1+1) aB).mono cT.out) (fun b hb _=>bD.out b hb),Lu.out,adZ.out.keep ((Held.kept (a:=w4) (T:=fun b=>b≠w.heap.size+1+1) aB).mono cT.out) (fun b hb _=>bD.out b hb),Xt⟩
 ·have sW:(be !=0)=true:=by simpa using h0
  have Hr:=ae (lN.out.trans (if_pos h0));clear h0;go_upto_region 3 with fail
  have au:∀w',Held (fun b=>b≠w.heap.size+1+1) wb w'-> (w'.cell? ⟨w.heap.size,1,none⟩=some (.int .i64 t.v.k)/\w'.cell? ⟨w.heap.size,2,none⟩=some (.int .i64 t.v.n)/\w'.cell? ⟨w.heap.size,3,none⟩=some (.string t.v.s)/\w'.cell? ⟨w.heap.size,4,none⟩=some (.slice ka t.v.keys.length kc)/\w'.cell? ⟨w.heap.size,5,none⟩=some (.slice la t.v.l.length lc)/\w'.cell? ⟨w.heap.size,6,none⟩=some (.slice oa t.ows.length oc)):=
   fun w' e=>by have h:=af.held e hT (by simp;omega);exact⟨h.cells 1,h.cells 2,h.cells 3,h.cells 4,h.cells 5,h.cells 6⟩
  refine nt au (by kernel_rfl) (au _ aB) (fun hHeld=> ?_);refine aJ 0 (h:= ?_);refine aJ 1 (h:= ?_);refine aJ 2 (h:= ?_);refine aJ 3 (h:= ?_);refine aJ 4 (h:= ?_);(try simp only [rl]);obtain⟨hcR,jG,eD⟩:=hR.see;refine iw 5 (h:=fun K hK=> ?_);(try simp only [rl]);go_simp;refine hK.out _ _ (au _ aB) (fun hHeld=> ?_);clear hK K;(try simp only [rl]);refine iw 6 (h:=fun K hK=> ?_);(try simp only [rl]);go_simp;refine hK.out _ _ (au _ aB) (fun hHeld=> ?_);clear hK K;(try simp only [rl]);refine iw 7 (h:=fun K hK=> ?_);(try simp only [rl]);go_simp;refine hK.out _ _ (au _ aB) (fun hHeld=> ?_);clear hK K;(try simp only [rl]);refine wpAnyH_done (by kernel_rfl) ?_ _;go_wp2_with fail;refine aF (h:= ?_);rw [Hr.out];have S6:=aO.trans (show Ext wb wb.drew from Xt);refine⟨ka,kc,la,lc,oa,oc,rfl,?_,eK.out,?_,Xt⟩
  ·exact(aH.out.ext (w':=_) Xt).mono fun b hb _=>bD.out b hb
  ·exact(How.out.ext (w':=_) Xt).mono fun b hb _=>bD.out b hb
end Go.Proofs.YtlcebdaghmdkeabGreatDoor
