import Derived.Test.YtlcebdaghmdkeabGreatDoorZ24
import Derived.Test.YtlcebdaghmdkeabGreatDoorZ26
import Derived.Test.YtlcebdaghmdkeabGreatDoorZ32
import Derived.Test.YtlcebdaghmdkeabGreatDoorZ36
set_option linter.all false
set_option maxRecDepth 100000
set_option maxHeartbeats 64000000
namespace Go.Proofs.YtlcebdaghmdkeabGreatDoor
open Go.Proofs.Tryz
open Go.RowKit
attribute [local go_sem↓] Go.wp_at_zero Go.wp_at_succ
theorem XX (v:V) (ka:au) (kc:Nat) (la:au) (lc:Nat) (l:List Ow) (a:au) (c:Nat) (who:ah) (want:V) (kb:au) (kd:Nat) (lb:au) (ld:Nat) (force:Bool) (S:az) (w:World)
 (jH:v.size<=1000000000) (hwz:want.size<=1000000000) (cX:cw l<=2097152) (uX:who.size<=1073741824) (hok:aM a l.length c) (hin:v.In w S ka kc la lc) (hjn:cx w S l a) (hkn:want.In w S kb kd lb ld) (hm:fZ w):
 Calls prog 87 #[v.val ka kc la lc, .slice a l.length c, .string who,want.val kb kd lb ld, .bool force] w (Fp S (ik v l who want force) w):=by
 unfold ik
 cases hb:p6 v l who want with
 |false=>
  rw [if_pos rfl];exact XY v ka kc la lc l a c who want kb kd lb ld force S w jH hwz cX uX hok hin hjn hkn hm hb
 |true=>
  rw [if_neg (by simp)];by_cases hc:ja v l who want≠ []/\force=false
  ·rw [if_pos hc]
   exact XZ v ka kc la lc l a c who want kb kd lb ld force S w jH hwz cX uX hok hin hjn hkn hm hb hc.1 hc.2
  ·rw [if_neg hc]
   exact X0 v ka kc la lc l a c who want kb kd lb ld force S w jH hwz cX uX hok hin hjn hkn hm hb hc
end Go.Proofs.YtlcebdaghmdkeabGreatDoor
namespace Go.Proofs.YtlcebdaghmdkeabGreatDoor
open Go.RowKit
attribute [local go_sem↓] Go.wp_at_zero Go.wp_at_succ
def UJ (S:az) (x:V×List Ow×Int) (w:World) (e:Ending) (w':World):Prop:=
 ∃ka kc la lc oa oc,e= .returned (.tuple #[x.1.val ka kc la lc, .slice oa x.2.1.length oc, .int .i64 x.2.2])/\x.1.In w' (aW S w) ka kc la lc/\aM oa x.2.1.length oc/\cx w' (aW S w) x.2.1 oa/\Ext w w'
theorem Nn (x:V) (key:ah):(x.iH key).size<=x.size+1:=by
 rcases Fe x key with h|h
 ·rw [h,show V.zero.size=1 by decide+kernel];omega
 ·omega
theorem aeP {x:V} {o:bM} (h:x.iQ=some o):o.size<=1+3*(x.size+1)+1:=by
 have h1:=Nn x nz;have h2:=Nn x vP;have h3:=Nn x xN;have l1:=(x.iH nz).Ku;have l2:=(x.iH vP).Ku;have hz:V.zero.size=1:=by decide+kernel
 have he:(⟨#[]⟩:ah).size=0:=rfl;unfold V.iQ V.txt at h;simp only at h
 repeat' (first|(split at h)|(cases h;done))
 all_goals (cases h;unfold bM.size;simp only [hz,he];omega)
theorem UK:∀ {l:List V} {os:List bM} {B:Nat},nA l=some os-> (∀x∈l,x.size<=B)-> (os.map bM.size).sum<=l.length*(3*B+5)/\os.length=l.length
 | [],os,B,h,_=>by cases h;simp
 |x::r,os,B,h,hb=>by
  unfold nA at h
  cases hx:x.iQ with
  |none=>rw [hx] at h;cases h
  |some q=>
   cases hr:nA r with
   |none=>rw [hx,hr] at h;cases h
   |some t=>
    rw [hx,hr] at h;simp only [Option.map_some,Option.some.injEq] at h;subst h;obtain⟨h1,h2⟩:=UK hr (fun y hy=>hb y (List.mem_cons_of_mem _ hy));have h3:=aeP hx;have h4:=hb x (List.mem_cons_self ..);simp only [List.map_cons,List.sum_cons,List.length_cons,h2,and_true];rw [Nat.add_mul];omega
theorem aeQ {x:V} (hx:x.size<=14640):((jM x).1.map bM.size).sum<=4194304/\ (jM x).1.length<=20:=by
 unfold jM
 split
 ·simp
 ·split
  ·simp
  ·rename_i h20
   split
   ·simp
   ·rename_i l hl
    obtain⟨h1,h2⟩:=UK (B:=14640) hl (fun y hy=>by have:=V.yZ hy;omega);have:x.l.length*(3*14640+5)<=20*(3*14640+5):=Nat.mul_le_mul_right _ (by omega);simp only;omega
theorem UL (s:Bytes):(dQ s).1.size<=14640:=by
 by_cases h:(dQ s).2=0
 ·exact oV (ac4 s h).1
 ·rw [ac3 s h];decide+kernel
theorem merge_le {x y:V} (hx:x.size<=14640):(mL x y).1.size<=14640:=by
 unfold mL
 split
 ·exact hx
 ·split
  ·exact hx
  ·rename_i h;exact oV (by simpa using h)
end Go.Proofs.YtlcebdaghmdkeabGreatDoor
namespace Go.Proofs.YtlcebdaghmdkeabGreatDoor
open Go.Proofs.Tryz
open Go.RowKit
attribute [local go_sem↓] Go.wp_at_zero Go.wp_at_succ
theorem ae2 {x:V} {l:List bM} (hx:x.size<=14640):(kK x l).1.size<=14640:=by
 obtain⟨h1,h2⟩:=Zh x l;by_cases h:(kK x l).2=0
 ·rcases h2 h with rfl|h
  ·exact hx
  ·exact oV h
 ·rw [h1 h];exact hx
theorem U1 {v b:V} {k:Int} (hv:v.size<=14640) (hb:b.size<=14640):(oN v b k).1.size<=14640:=by
 unfold oN
 split
 ·exact merge_le hv
 ·split
  ·split
   ·exact ae2 hv
   ·exact hb
  ·exact hb
theorem oX.mono' {w:World} {S T:az} {a:au} {l:List bM} (h:oX w S a l) (hT:∀b,S b->T b):oX w T a l:=h.mono hT
theorem UX (t:Th) (ka:au) (kc:Nat) (la:au) (lc:Nat) (oa:au) (oc:Nat) (a:Ac) (S:az) (w:World) (hin:t.v.In w S ka kc la lc) (hok:aM oa t.ows.length oc) (how:cx w S t.ows oa)
 (jH:t.v.size<=14640) (jt:cw t.ows<=2097152) (hbz:a.body.size<=1048576) (hwz:a.who.size<=1048576) (hl:cM w) (hn:rN w):
 Calls prog 58 #[.agg #[.string t.name, .int .i64 t.v.k, .int .i64 t.v.n, .string t.v.s, .slice ka t.v.keys.length kc, .slice la t.v.l.length lc, .slice oa t.ows.length oc, .int .i64 t.ver, .int .i64 t.gen, .string t.st.sb, .string t.st.cm, .int .i64 t.st.ph, .int .i64 t.st.sp, .int .i64 t.st.wt, .int .i64 t.st.si], .agg #[.int .i64 a.k, .string a.name, .string a.who, .string a.body, .int .i64 a.ver, .int .i64 a.n, .int .i64 a.ord, .bool a.force]] w (UJ S (cL t.v t.ows a) w):=by
 obtain⟨SS,br⟩:∃SS:az,SS=fun b=>(S b/\b<w.heap.size)\/w.heap.size+3<=b:=⟨_,rfl⟩
 have aJ:=ae (show t.v.In w SS ka kc la lc from hin.mono fun b h hl=>by rw [br];exact .inl ⟨h,hl⟩);have How:=ae (show cx w SS t.ows oa from how.mono fun b h hl=>by rw [br];exact .inl ⟨h,hl⟩);have ct:=ae (show∀b,w.heap.size+3<=b->SS b from fun b h=>by rw [br];exact .inr h);have cP:=ae (show∀b,SS b->b≠w.heap.size+1+1 from fun b h=>by rw [br] at h;rcases h with h|h<;>omega);have bI:=ae (show∀b,SS b->aW S w b from fun b h=>by rw [br] at h;exact h.elim (fun h=> .inl h.1) (fun h=> .inr (by omega)));have dN:=ae hok;obtain⟨b,hb⟩:∃b,(dQ a.body.data.toList).1=b:=⟨_,rfl⟩;obtain⟨be,CA⟩:∃be,(dQ a.body.data.toList).2=be:=⟨_,rfl⟩;have hbs:b.size<=14640:=by rw [<-hb];exact UL _
 have Hb:=ae hb;have Hbe:=ae CA;have mo:=ae (show cL t.v t.ows a=if be≠0 then(t.v,t.ows,be) else if a.k=5 then((ik t.v t.ows a.who b a.force).1,(ik t.v t.ows a.who b a.force).2.1,(ik t.v t.ows a.who b a.force).2.2.2) else((oN t.v b a.k).1,np (oN t.v b a.k).1 t.ows,(oN t.v b a.k).2) by unfold cL;rw [hb,CA]);clear br hin how hok hb CA;go_enter func58,ntmps58;go_upto_region 1 with fail
 refine aI (R:=fun wx=>fu wx w.heap.size t ka kc la lc oa oc/\qq wx (w.heap.size+1) a/\aN wx (w.heap.size+1+1)/\Ext w wx) ⟨aj,aj,aj,Xt⟩ ?_;rintro wa ⟨hT,hA,hR,aH⟩;have kG:=hR.lt;obtain⟨jP,jQ,hlA⟩:=hA.see;go_wp2_with fail;(refine(TV a.body _ (by omega) (hl.ext Xt)).mono ?_);rintro e w1 ⟨k1,c1,l1,d1,rfl,eJ,h1⟩;rw [Hb.out,Hbe.out];rw [Hb.out] at eJ;have lM:=ae (show b.In w1 SS k1 c1 l1 d1 from eJ.mono fun q h _=>ct.out q (by(try simp at h);omega));have hT:=af.ext h1 hT;have hA:=af.ext h1 hA;have hR:=af.ext h1 hR;have hx1:Ext w w1:=Xt;clear eJ h1 aH jP jQ hlA;go_upto_region 2 with fail
 refine aI (R:=fun wx=>fu wx w.heap.size t ka kc la lc oa oc/\qq wx (w.heap.size+1) a/\aN wx (w.heap.size+1+1)/\aD wx w1.heap.size b k1 c1 l1 d1/\b.In wx SS k1 c1 l1 d1/\Ext w wx) ⟨aj,aj,aj,aj,lM.out.ext Xt,Xt⟩ ?_;clear hT hA hR lM hx1;rintro wb ⟨hT,hA,hR,hV,xM,aO⟩;have lC:=ae xM;have hzb:=hV.lt;have hz1:=hR.lt;clear xM;by_cases h0:be=0
 ·subst h0
  have hb0:((0:Int) !=0)=false:=rfl;have mo:=ae (mo.out.trans (if_neg (by simp)));obtain⟨BK,BL,BM⟩:=hV.see;go_upto_region 5 with fail
  refine aI (R:=fun wx=>fu wx w.heap.size t ka kc la lc oa oc/\qq wx (w.heap.size+1) a/\aN wx (w.heap.size+1+1)/\aD wx w1.heap.size b k1 c1 l1 d1/\aD wx wb.heap.size b k1 c1 l1 d1/\b.In wx SS k1 c1 l1 d1/\b.In wx (fun q=>SS q/\q≠wb.heap.size) k1 c1 l1 d1/\Ext w wx) ⟨aj,aj,aj,aj,aj,lC.out.ext Xt,(lC.out.mono (T:=fun q=>SS q/\q≠wb.heap.size) fun q h hl=>⟨h,by omega⟩).ext Xt,Xt⟩ ?_;clear hT hA hR hV lC aO BK BL BM;rintro wc ⟨hT,hA,hR,hV,hU,xM,U2,fh⟩;have lC:=ae xM;have U3:=ae U2;have bg:=ae (show t.v.In w (fun q=>SS q/\q≠wb.heap.size) ka kc la lc from aJ.out.mono fun q h hl=>⟨h,by omega⟩);have o9:=hU.lt;clear xM U2;obtain⟨iB,iC,fE⟩:=hT.see;obtain⟨jP,jQ,hlA⟩:=hA.see;obtain⟨BK,BL,BM⟩:=hV.see;by_cases h5:a.k=5
  ·have pT:(a.k==5)=true:=by simpa using h5
   have Hr:=ae (mo.out.trans (if_pos h5));obtain⟨⟨u,m,cf,er⟩,hr⟩:∃z,ik t.v t.ows a.who b a.force=z:=⟨_,rfl⟩;rw [hr] at Hr;have jS:=ae hr;clear h5 hr;go_wp2_with fail;(refine(XX t.v ka kc la lc t.ows oa oc a.who b k1 c1 l1 d1 a.force SS _ (by omega) (by omega) jt (by omega) dN.out (aJ.out.ext Xt) (How.out.ext Xt) (lC.out.ext Xt) (hl.max.ext Xt)).mono ?_);rw [jS.out];rintro e w2 ⟨k2,c2,l2,d2,a5,c5,a6,c6,rfl,bN,il,xW,-,-,h2⟩;have hz2:=h2.size;have bE:=ae (show u.In w2 SS k2 c2 l2 d2 from bN.mono fun q h _=>by rcases h with h|h;exact h;exact ct.out q (by(try simp at h);omega));have Ip:=ae (show cx w2 SS m a5 from xW.mono fun q h _=>by rcases h with h|h;exact h;exact ct.out q (by(try simp at h);omega));have EM:=ae il;have hx2:Ext w w2:=Xt;have bW:=af.ext (w:=wc) (w':=w2) Xt hR;have Nq:=bW.lt;clear bN xW il h2 iB iC fE jP jQ hlA BK BL BM hT hA hR hV hU;obtain⟨hcR,jO,eU⟩:=bW.see;go_wp2_with fail;refine aF (h:= ?_);rw [Hr.out];exact⟨k2,c2,l2,d2,a5,c5,rfl,bE.out.keep ((Held.kept (a:=w2) (T:=fun b=>b≠w.heap.size+1+1) aC).mono cP.out) (fun b hb _=>bI.out b hb),EM.out,Ip.out.keep ((Held.kept (a:=w2) (T:=fun b=>b≠w.heap.size+1+1) aC).mono cP.out) (fun b hb _=>bI.out b hb),Xt⟩
  ·have pT:(a.k==5)=false:=by simpa using h5
   obtain⟨⟨u,er⟩,hu⟩:∃z,oN t.v b a.k=z:=⟨_,rfl⟩;have Hr:=ae (show cL t.v t.ows a=(u,np u t.ows,er) by rw [mo.out,if_neg h5,hu]);have mQ:u.size<=14640:=by have:=U1 (k:=a.k) jH hbs;rw [hu] at this;exact this
   have Hu:=ae hu;clear h5 hu mo;go_upto_block 0 with fail
   go_cut [8] (fun s8 wx=>s8= .int .i64 er/\∃k4 c4 l4 d4,aD wx wb.heap.size u k4 c4 l4 d4/\u.In wx SS k4 c4 l4 d4/\fu wx w.heap.size t ka kc la lc oa oc/\aN wx (w.heap.size+1+1)/\Ext w wx)
   case first=>
    by_cases h3:a.k=3
    ·have K4:(a.k==3)=true:=by simpa using h3
     have Hm:=ae (show mL t.v b=(u,er) by rw [<-Hu.out];unfold oN;rw [if_pos h3]);clear h3;go_wp2_with fail;(refine(Xy t.v ka kc la lc b k1 c1 l1 d1 (fun q=>SS q/\q≠wb.heap.size) _ (by omega) (by omega) (bg.out.ext Xt) (U3.out.ext Xt)).mono ?_);rw [Hm.out];rintro e w2 ⟨k2,c2,l2,d2,rfl,bN,h2⟩;have bE:=ae (show u.In w2 (fun q=>SS q/\q≠wb.heap.size) k2 c2 l2 d2 from bN.mono fun q h _=>by rcases h with h|h;exact h;exact⟨ct.out q (by(try simp at h);omega),by(try simp at h);omega⟩);have hx2:Ext w w2:=Xt;have rB:=af.ext (w:=wc) (w':=w2) Xt hT;have bW:=af.ext (w:=wc) (w':=w2) Xt hR;have uE:=af.ext (w:=wc) (w':=w2) Xt hU;have pL:=uE.lt;clear bN h2 iB iC fE jP jQ hlA BK BL BM hT hA hR hV hU;obtain⟨xX,xY,pL⟩:=uE.see;go_wp2_with fail
     go_meet
     exact⟨rfl,k2,c2,l2,d2,aQ,bE.out.keep (Held.kept (a:=w2) (T:=fun q=>SS q/\q≠wb.heap.size) ((show Held (fun q=>q≠wb.heap.size) w2 _ from aC).mono fun b hb=>hb.2)) (fun b hb _=>hb.1),aQ,aQ,Xt⟩
    ·have K4:(a.k==3)=false:=by simpa using h3
     by_cases h4:a.k=4
     ·have D9:(a.k==4)=true:=by simpa using h4
      obtain⟨⟨os,re⟩,q7⟩:∃z,jM b=z:=⟨_,rfl⟩;have hz:=aeQ hbs;rw [q7] at hz;have Hz:=ae hz;have Hrd:=ae q7;have U4:=ae (show (if re=0 then kK t.v os else(b,re))=(u,er) by rw [<-Hu.out];unfold oN;rw [if_neg h3,if_pos h4,q7]);clear h3 h4 q7 hz;go_wp2_with fail;(refine(adt b k1 c1 l1 d1 (fun q=>SS q/\q≠wb.heap.size) _ (by omega) (hn.ext Xt) (U3.out.ext Xt)).mono ?_);rw [Hrd.out];rintro e w2 ⟨a9,n9,c9,rfl,zt,rT,U5,h2⟩;have U6:=ae (show os.length=n9 from zt);have DM:=ae (show oX w2 (fun q=>SS q/\q≠wb.heap.size) a9 os from U5.mono fun q h=>by rcases h with h|h;exact h;exact⟨ct.out q (by(try simp at h);omega),by(try simp at h);omega⟩);have hx2:Ext w w2:=Xt;have rB:=af.ext (w:=wc) (w':=w2) Xt hT;have bW:=af.ext (w:=wc) (w':=w2) Xt hR;have uE:=af.ext (w:=wc) (w':=w2) Xt hU;have ae3:=ae (V.In.ext (w:=wc) (w':=w2) lC.out Xt);have pL:=uE.lt;clear zt rT U5 h2 iB iC fE jP jQ hlA BK BL BM hT hA hR hV hU;obtain⟨iB,iC,fE⟩:=rB.see;obtain⟨xX,xY,pL⟩:=uE.see;by_cases hre:re=0
      ·subst hre
       have Ha:=ae (show kK t.v os=(u,er) by have:=U4.out;rwa [if_pos rfl] at this);have hn9:n9<=20:=by have:=Hz.out.2;have:=U6.out;simp only at*;omega
       go_wp2_with fail;(refine(aaM t.v ka kc la lc a9 c9 os n9 _ U6 (hl.ext Xt) (by omega) Hz.out.1 (by omega) (fun q=>SS q/\q≠wb.heap.size) (bg.out.ext Xt) (DM.out.ext Xt)).mono ?_);rw [Ha.out];rintro e w3 ⟨k2,c2,l2,d2,rfl,bN,h3⟩;have hz3:=h3.size;have bE:=ae (show u.In w3 (fun q=>SS q/\q≠wb.heap.size) k2 c2 l2 d2 from bN.mono fun q h _=>by rcases h with h|h;exact h;exact⟨ct.out q (by(try simp at h);omega),by(try simp at h);omega⟩);have hx3:Ext w w3:=Xt;have Io:=af.ext (w:=w2) (w':=w3) Xt rB;have bT:=af.ext (w:=w2) (w':=w3) Xt bW;have U7:=af.ext (w:=w2) (w':=w3) Xt uE;have pL:=U7.lt;clear bN h3 iB iC fE xX xY pL rB bW uE;obtain⟨xX,xY,pL⟩:=U7.see;go_wp2_with fail
       go_meet
       exact⟨rfl,k2,c2,l2,d2,aQ,bE.out.keep (Held.kept (a:=w3) (T:=fun q=>SS q/\q≠wb.heap.size) ((show Held (fun q=>q≠wb.heap.size) w3 _ from aC).mono fun b hb=>hb.2)) (fun b hb _=>hb.1),aQ,aQ,Xt⟩
      ·have ahC:(re==0)=false:=by simpa using hre
       have EN:=U4.out;rw [if_neg hre,Prod.mk.injEq] at EN;obtain⟨rfl,rfl⟩:=EN;clear hre;go_wp2_with fail
       go_meet
       exact⟨rfl,k1,c1,l1,d1,aQ,ae3.out.ext Xt,aQ,aQ,Xt⟩
     ·have D9:(a.k==4)=false:=by simpa using h4
      have EN:(b,(0:Int))=(u,er):=by rw [<-Hu.out];unfold oN;rw [if_neg h3,if_neg h4]
      rw [Prod.mk.injEq] at EN;obtain⟨rfl,rfl⟩:=EN;clear h3 h4;go_wp2_with fail
      go_meet
      exact⟨rfl,k1,c1,l1,d1,aQ,lC.out.ext Xt,aQ,aQ,Xt⟩
   case rest=>
    clear hT hA hR hV hU iB iC fE jP jQ hlA BK BL BM fh;obtain⟨rfl,k4,c4,l4,d4,hU,tC,hT,hR,hx⟩:=hcut;have nD:=ae tC;clear tC;have pL:=hU.lt;go_upto_region 16 with fail
    have aq:∀w',Held (fun b=>b≠w.heap.size+1+1) wc w'-> (w'.cell? ⟨wb.heap.size,0,none⟩=some (.int .i64 u.k)/\w'.cell? ⟨wb.heap.size,1,none⟩=some (.int .i64 u.n)/\w'.cell? ⟨wb.heap.size,2,none⟩=some (.string u.s)/\w'.cell? ⟨wb.heap.size,3,none⟩=some (.slice k4 u.keys.length c4)/\w'.cell? ⟨wb.heap.size,4,none⟩=some (.slice l4 u.l.length d4)/\w'.cell? ⟨w.heap.size,6,none⟩=some (.slice oa t.ows.length oc)):=
     fun w' e=>by have h:=af.held e hU (by simp;omega);have h':=af.held e hT (by simp;omega);exact⟨h.cells 0,h.cells 1,h.cells 2,h.cells 3,h.cells 4,h'.cells 6⟩
    refine lO aq (by kernel_rfl) (aq _ aC) (fun hHeld=> ?_);refine aB 0 (h:= ?_);refine aB 1 (h:= ?_);refine aB 2 (h:= ?_);refine aB 3 (h:= ?_);refine aB 5 (h:= ?_);(try simp only [rl]);refine fJ 4 (h:=fun K hK=> ?_);(try simp only [rl]);(try go_simp);(refine(abt u k4 c4 l4 d4 SS t.ows oa oc SS _ (by omega) jt (nD.out.ext Xt) (How.out.ext Xt) (hl.max.ext Xt)).mono ?_);rintro e w4 ⟨a6,c6,rfl,jq,U8,h4⟩;(try go_simp);have bH:Ext wc w4:=Xt;have ae4:=ae (show cx w4 SS (np u t.ows) a6 from U8.mono fun q h _=>by rcases h with h|h;exact h.elim;exact ct.out q (by(try simp at h);omega));have MR:=ae jq;have ae5:=ae (V.In.ext (w':=w4) nD.out bH);have U9:=af.ext bH hR;have Nq:=U9.lt;have DV:Held (fun b=>b≠w.heap.size+1+1) wc w4:=bH.held _;clear jq U8 h4;refine hK.out _ _ (aq _ aC) (fun hHeld=> ?_);clear hK K;(try simp only [rl]);obtain⟨hcR,jO,eU⟩:=U9.see;refine fJ 6 (h:=fun K hK=> ?_);(try simp only [rl]);go_simp;refine hK.out _ _ (aq _ aC) (fun hHeld=> ?_);clear hK K;(try simp only [rl]);refine fJ 7 (h:=fun K hK=> ?_);(try simp only [rl]);go_simp;refine hK.out _ _ (aq _ aC) (fun hHeld=> ?_);clear hK K;(try simp only [rl]);refine fJ 8 (h:=fun K hK=> ?_);(try simp only [rl]);go_simp;refine hK.out _ _ (aq _ aC) (fun hHeld=> ?_);clear hK K;(try simp only [rl]);refine wpAnyH_done (by kernel_rfl) ?_ _;go_wp2_with fail;refine aF (h:= ?_);rw [Hr.out];have ahD:Ext w w4:=hx.trans bH;exact⟨k4,c4,l4,d4,a6,c6,rfl,ae5.out.keep ((Held.kept (a:=w4) (T:=fun b=>b≠w.heap.size+1+1) aC).mono cP.out) (fun b hb _=>bI.out b hb),MR.out,ae4.out.keep ((Held.kept (a:=w4) (T:=fun b=>b≠w.heap.size+1+1) aC).mono cP.out) (fun b hb _=>bI.out b hb),Xt⟩
 ·have r9:(be !=0)=true:=by simpa using h0
  have Hr:=ae (mo.out.trans (if_pos h0));clear h0;go_upto_region 3 with fail
  have aq:∀w',Held (fun b=>b≠w.heap.size+1+1) wb w'-> (w'.cell? ⟨w.heap.size,1,none⟩=some (.int .i64 t.v.k)/\w'.cell? ⟨w.heap.size,2,none⟩=some (.int .i64 t.v.n)/\w'.cell? ⟨w.heap.size,3,none⟩=some (.string t.v.s)/\w'.cell? ⟨w.heap.size,4,none⟩=some (.slice ka t.v.keys.length kc)/\w'.cell? ⟨w.heap.size,5,none⟩=some (.slice la t.v.l.length lc)/\w'.cell? ⟨w.heap.size,6,none⟩=some (.slice oa t.ows.length oc)):=
   fun w' e=>by have h:=af.held e hT (by simp;omega);exact⟨h.cells 1,h.cells 2,h.cells 3,h.cells 4,h.cells 5,h.cells 6⟩
  refine lO aq (by kernel_rfl) (aq _ aC) (fun hHeld=> ?_);refine aB 0 (h:= ?_);refine aB 1 (h:= ?_);refine aB 2 (h:= ?_);refine aB 3 (h:= ?_);refine aB 4 (h:= ?_);(try simp only [rl]);obtain⟨hcR,jO,eU⟩:=hR.see;refine fJ 5 (h:=fun K hK=> ?_);(try simp only [rl]);go_simp;refine hK.out _ _ (aq _ aC) (fun hHeld=> ?_);clear hK K;(try simp only [rl]);refine fJ 6 (h:=fun K hK=> ?_);(try simp only [rl]);go_simp;refine hK.out _ _ (aq _ aC) (fun hHeld=> ?_);clear hK K;(try simp only [rl]);refine fJ 7 (h:=fun K hK=> ?_);(try simp only [rl]);go_simp;refine hK.out _ _ (aq _ aC) (fun hHeld=> ?_);clear hK K;(try simp only [rl]);refine wpAnyH_done (by kernel_rfl) ?_ _;go_wp2_with fail;refine aF (h:= ?_);rw [Hr.out];have pJ:=aO.trans (show Ext wb wb.drew from Xt);refine⟨ka,kc,la,lc,oa,oc,rfl,?_,dN.out,?_,Xt⟩
  ·exact(aJ.out.ext (w':=_) Xt).mono fun b hb _=>bI.out b hb
  ·exact(How.out.ext (w':=_) Xt).mono fun b hb _=>bI.out b hb
end Go.Proofs.YtlcebdaghmdkeabGreatDoor
