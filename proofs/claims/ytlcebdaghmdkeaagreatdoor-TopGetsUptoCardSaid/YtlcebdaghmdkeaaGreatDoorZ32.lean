import Derived.Test.YtlcebdaghmdkeaaGreatDoorZ27
import Derived.Test.YtlcebdaghmdkeaaGreatDoorZ28
import Derived.Test.YtlcebdaghmdkeaaGreatDoorZ30
import Derived.Test.YtlcebdaghmdkeaaGreatDoorZ31
set_option linter.all false
set_option maxRecDepth 100000
set_option maxHeartbeats 64000000
namespace Go.Proofs.YtlcebdaghmdkeaaGreatDoor
open Go.Proofs.Tryz
open Go.RowKit
attribute [local go_sem↓] Go.wp_at_zero Go.wp_at_succ
theorem XG (v:V) (ka:aq) (kc:Nat) (la:aq) (lc:Nat) (l:List Ow) (a:aq) (c:Nat) (who:ah) (want:V) (kb:aq) (kd:Nat) (lb:aq) (ld:Nat) (force:Bool) (S:aA) (w:World)
 (kP:v.size<=1000000000) (hwz:want.size<=1000000000) (cx:cN l<=2097152) (uR:who.size<=1073741824) (hok:aO a l.length c) (hin:v.In w S ka kc la lc) (hjn:cz w S l a) (hkn:want.In w S kb kd lb ld) (hm:fW w):
 Calls prog 49 #[v.val ka kc la lc, .slice a l.length c, .string who,want.val kb kd lb ld, .bool force] w (Fu S (jM v l who want force) w):=by
 unfold jM
 cases hb:pV v l who want with
 |false=>
  rw [if_pos rfl];exact XH v ka kc la lc l a c who want kb kd lb ld force S w kP hwz cx uR hok hin hjn hkn hm hb
 |true=>
  rw [if_neg (by simp)];by_cases hc:jN v l who want≠ []/\force=false
  ·rw [if_pos hc]
   exact XI v ka kc la lc l a c who want kb kd lb ld force S w kP hwz cx uR hok hin hjn hkn hm hb hc.1 hc.2
  ·rw [if_neg hc]
   exact XJ v ka kc la lc l a c who want kb kd lb ld force S w kP hwz cx uR hok hin hjn hkn hm hb hc
end Go.Proofs.YtlcebdaghmdkeaaGreatDoor
namespace Go.Proofs.YtlcebdaghmdkeaaGreatDoor
open Go.RowKit
attribute [local go_sem↓] Go.wp_at_zero Go.wp_at_succ
def UF (S:aA) (x:V×List Ow×Int) (w:World) (e:Ending) (w':World):Prop:=
 ∃ka kc la lc oa oc,e= .returned (.tuple #[x.1.val ka kc la lc, .slice oa x.2.1.length oc, .int .i64 x.2.2])/\x.1.In w' (aW S w) ka kc la lc/\aO oa x.2.1.length oc/\cz w' (aW S w) x.2.1 oa/\Ext w w'
theorem Nr (x:V) (key:ah):(x.iG key).size<=x.size+1:=by
 rcases Fh x key with h|h
 ·rw [h,show V.zero.size=1 by decide+kernel];omega
 ·omega
theorem aeT {x:V} {o:bM} (h:x.iT=some o):o.size<=1+3*(x.size+1)+1:=by
 have h1:=Nr x nK;have h2:=Nr x vH;have h3:=Nr x xt;have l1:=(x.iG nK).Kz;have l2:=(x.iG vH).Kz;have hz:V.zero.size=1:=by decide+kernel
 have he:(⟨#[]⟩:ah).size=0:=rfl;unfold V.iT V.txt at h;simp only at h
 repeat' (first|(split at h)|(cases h;done))
 all_goals (cases h;unfold bM.size;simp only [hz,he];omega)
theorem UG:∀ {l:List V} {os:List bM} {B:Nat},nL l=some os-> (∀x∈l,x.size<=B)-> (os.map bM.size).sum<=l.length*(3*B+5)/\os.length=l.length
 | [],os,B,h,_=>by cases h;simp
 |x::r,os,B,h,hb=>by
  unfold nL at h
  cases hx:x.iT with
  |none=>rw [hx] at h;cases h
  |some q=>
   cases hr:nL r with
   |none=>rw [hx,hr] at h;cases h
   |some t=>
    rw [hx,hr] at h;simp only [Option.map_some,Option.some.injEq] at h;subst h;obtain⟨h1,h2⟩:=UG hr (fun y hy=>hb y (List.mem_cons_of_mem _ hy));have h3:=aeT hx;have h4:=hb x (List.mem_cons_self ..);simp only [List.map_cons,List.sum_cons,List.length_cons,h2,and_true];rw [Nat.add_mul];omega
theorem aeU {x:V} (hx:x.size<=14640):((jW x).1.map bM.size).sum<=4194304/\ (jW x).1.length<=20:=by
 unfold jW
 split
 ·simp
 ·split
  ·simp
  ·rename_i h20
   split
   ·simp
   ·rename_i l hl
    obtain⟨h1,h2⟩:=UG (B:=14640) hl (fun y hy=>by have:=V.yL hy;omega);have:x.l.length*(3*14640+5)<=20*(3*14640+5):=Nat.mul_le_mul_right _ (by omega);simp only;omega
theorem UH (s:Bytes):(dX s).1.size<=14640:=by
 by_cases h:(dX s).2=0
 ·exact qh (ac2 s h).1
 ·rw [ac1 s h];decide+kernel
theorem merge_le {x y:V} (hx:x.size<=14640):(mV x y).1.size<=14640:=by
 unfold mV
 split
 ·exact hx
 ·split
  ·exact hx
  ·rename_i h;exact qh (by simpa using h)
end Go.Proofs.YtlcebdaghmdkeaaGreatDoor
namespace Go.Proofs.YtlcebdaghmdkeaaGreatDoor
open Go.Proofs.Tryz
open Go.RowKit
attribute [local go_sem↓] Go.wp_at_zero Go.wp_at_succ
theorem ae7 {x:V} {l:List bM} (hx:x.size<=14640):(kR x l).1.size<=14640:=by
 obtain⟨h1,h2⟩:=Y6 x l;by_cases h:(kR x l).2=0
 ·rcases h2 h with rfl|h
  ·exact hx
  ·exact qh h
 ·rw [h1 h];exact hx
theorem UW {v b:V} {k:Int} (hv:v.size<=14640) (hb:b.size<=14640):(mJ v b k).1.size<=14640:=by
 unfold mJ
 split
 ·exact merge_le hv
 ·split
  ·split
   ·exact ae7 hv
   ·exact hb
  ·exact hb
theorem pg.mono' {w:World} {S T:aA} {a:aq} {l:List bM} (h:pg w S a l) (hT:∀b,S b->T b):pg w T a l:=h.mono hT
theorem UQ (t:Th) (ka:aq) (kc:Nat) (la:aq) (lc:Nat) (oa:aq) (oc:Nat) (a:Ac) (S:aA) (w:World) (hin:t.v.In w S ka kc la lc) (hok:aO oa t.ows.length oc) (how:cz w S t.ows oa)
 (kP:t.v.size<=14640) (ji:cN t.ows<=2097152) (hbz:a.body.size<=1048576) (hwz:a.who.size<=1048576) (hl:cZ w) (hn:rC w):
 Calls prog 33 #[.agg #[.string t.name, .int .i64 t.v.k, .int .i64 t.v.n, .string t.v.s, .slice ka t.v.keys.length kc, .slice la t.v.l.length lc, .slice oa t.ows.length oc, .int .i64 t.ver, .int .i64 t.gen, .string t.st.sb, .string t.st.cm, .int .i64 t.st.ph, .int .i64 t.st.sp, .int .i64 t.st.wt, .int .i64 t.st.si], .agg #[.int .i64 a.k, .string a.name, .string a.who, .string a.body, .int .i64 a.ver, .int .i64 a.n, .int .i64 a.ord, .bool a.force]] w (UF S (cR t.v t.ows a) w):=by
 obtain⟨SS,bk⟩:∃SS:aA,SS=fun b=>(S b/\b<w.heap.size)\/w.heap.size+3<=b:=⟨_,rfl⟩
 have aJ:=ae (show t.v.In w SS ka kc la lc from hin.mono fun b h hl=>by rw [bk];exact .inl ⟨h,hl⟩);have How:=ae (show cz w SS t.ows oa from how.mono fun b h hl=>by rw [bk];exact .inl ⟨h,hl⟩);have cw:=ae (show∀b,w.heap.size+3<=b->SS b from fun b h=>by rw [bk];exact .inr h);have bP:=ae (show∀b,SS b->b≠w.heap.size+1+1 from fun b h=>by rw [bk] at h;rcases h with h|h<;>omega);have bL:=ae (show∀b,SS b->aW S w b from fun b h=>by rw [bk] at h;exact h.elim (fun h=> .inl h.1) (fun h=> .inr (by omega)));have dv:=ae hok;obtain⟨b,hb⟩:∃b,(dX a.body.data.toList).1=b:=⟨_,rfl⟩;obtain⟨be,Cv⟩:∃be,(dX a.body.data.toList).2=be:=⟨_,rfl⟩;have hbs:b.size<=14640:=by rw [<-hb];exact UH _
 have Hb:=ae hb;have Hbe:=ae Cv;have mA:=ae (show cR t.v t.ows a=if be≠0 then(t.v,t.ows,be) else if a.k=5 then((jM t.v t.ows a.who b a.force).1,(jM t.v t.ows a.who b a.force).2.1,(jM t.v t.ows a.who b a.force).2.2.2) else((mJ t.v b a.k).1,kU (mJ t.v b a.k).1 t.ows,(mJ t.v b a.k).2) by unfold cR;rw [hb,Cv]);clear bk hin how hok hb Cv;go_enter func33,ntmps33;go_upto_region 1 with fail
 refine aI (R:=fun wx=>fx wx w.heap.size t ka kc la lc oa oc/\kY wx (w.heap.size+1) a/\aN wx (w.heap.size+1+1)/\Ext w wx) ⟨aj,aj,aj,Xt⟩ ?_;rintro wa ⟨hT,hA,hR,aF⟩;have mo:=hR.lt;obtain⟨jZ,j3,hlA⟩:=hA.see;go_wp2_with fail;(refine(ac5 a.body _ (by omega) (hl.ext Xt)).mono ?_);rintro e w1 ⟨k1,c1,l1,d1,rfl,fA,h1⟩;rw [Hb.out,Hbe.out];rw [Hb.out] at fA;have og:=ae (show b.In w1 SS k1 c1 l1 d1 from fA.mono fun q h _=>cw.out q (by(try simp at h);omega));have hT:=af.ext h1 hT;have hA:=af.ext h1 hA;have hR:=af.ext h1 hR;have hx1:Ext w w1:=Xt;clear fA h1 aF jZ j3 hlA;go_upto_region 2 with fail
 refine aI (R:=fun wx=>fx wx w.heap.size t ka kc la lc oa oc/\kY wx (w.heap.size+1) a/\aN wx (w.heap.size+1+1)/\aD wx w1.heap.size b k1 c1 l1 d1/\b.In wx SS k1 c1 l1 d1/\Ext w wx) ⟨aj,aj,aj,aj,og.out.ext Xt,Xt⟩ ?_;clear hT hA hR og hx1;rintro wb ⟨hT,hA,hR,hV,xq,aP⟩;have lG:=ae xq;have hzb:=hV.lt;have hz1:=hR.lt;clear xq;by_cases h0:be=0
 ·subst h0
  have hb0:((0:Int) !=0)=false:=rfl;have mA:=ae (mA.out.trans (if_neg (by simp)));obtain⟨BD,BF,BG⟩:=hV.see;go_upto_region 5 with fail
  refine aI (R:=fun wx=>fx wx w.heap.size t ka kc la lc oa oc/\kY wx (w.heap.size+1) a/\aN wx (w.heap.size+1+1)/\aD wx w1.heap.size b k1 c1 l1 d1/\aD wx wb.heap.size b k1 c1 l1 d1/\b.In wx SS k1 c1 l1 d1/\b.In wx (fun q=>SS q/\q≠wb.heap.size) k1 c1 l1 d1/\Ext w wx) ⟨aj,aj,aj,aj,aj,lG.out.ext Xt,(lG.out.mono (T:=fun q=>SS q/\q≠wb.heap.size) fun q h hl=>⟨h,by omega⟩).ext Xt,Xt⟩ ?_;clear hT hA hR hV lG aP BD BF BG;rintro wc ⟨hT,hA,hR,hV,hU,xq,UX,fC⟩;have lG:=ae xq;have UY:=ae UX;have bN:=ae (show t.v.In w (fun q=>SS q/\q≠wb.heap.size) ka kc la lc from aJ.out.mono fun q h hl=>⟨h,by omega⟩);have rN:=hU.lt;clear xq UX;obtain⟨iA,iB,fy⟩:=hT.see;obtain⟨jZ,j3,hlA⟩:=hA.see;obtain⟨BD,BF,BG⟩:=hV.see;by_cases h5:a.k=5
  ·have pP:(a.k==5)=true:=by simpa using h5
   have Hr:=ae (mA.out.trans (if_pos h5));obtain⟨⟨u,m,cf,er⟩,hr⟩:∃z,jM t.v t.ows a.who b a.force=z:=⟨_,rfl⟩;rw [hr] at Hr;have j6:=ae hr;clear h5 hr;go_wp2_with fail;(refine(XG t.v ka kc la lc t.ows oa oc a.who b k1 c1 l1 d1 a.force SS _ (by omega) (by omega) ji (by omega) dv.out (aJ.out.ext Xt) (How.out.ext Xt) (lG.out.ext Xt) (hl.max.ext Xt)).mono ?_);rw [j6.out];rintro e w2 ⟨k2,c2,l2,d2,a5,c5,a6,c6,rfl,bZ,ik,xD,-,-,h2⟩;have hz2:=h2.size;have cE:=ae (show u.In w2 SS k2 c2 l2 d2 from bZ.mono fun q h _=>by rcases h with h|h;exact h;exact cw.out q (by(try simp at h);omega));have II:=ae (show cz w2 SS m a5 from xD.mono fun q h _=>by rcases h with h|h;exact h;exact cw.out q (by(try simp at h);omega));have Ey:=ae ik;have hx2:Ext w w2:=Xt;have bY:=af.ext (w:=wc) (w':=w2) Xt hR;have Nt:=bY.lt;clear bZ xD ik h2 iA iB fy jZ j3 hlA BD BF BG hT hA hR hV hU;obtain⟨hcR,jY,eP⟩:=bY.see;go_wp2_with fail;refine aG (h:= ?_);rw [Hr.out];exact⟨k2,c2,l2,d2,a5,c5,rfl,cE.out.keep ((Held.kept (a:=w2) (T:=fun b=>b≠w.heap.size+1+1) aC).mono bP.out) (fun b hb _=>bL.out b hb),Ey.out,II.out.keep ((Held.kept (a:=w2) (T:=fun b=>b≠w.heap.size+1+1) aC).mono bP.out) (fun b hb _=>bL.out b hb),Xt⟩
  ·have pP:(a.k==5)=false:=by simpa using h5
   obtain⟨⟨u,er⟩,hu⟩:∃z,mJ t.v b a.k=z:=⟨_,rfl⟩;have Hr:=ae (show cR t.v t.ows a=(u,kU u t.ows,er) by rw [mA.out,if_neg h5,hu]);have ng:u.size<=14640:=by have:=UW (k:=a.k) kP hbs;rw [hu] at this;exact this
   have Hu:=ae hu;clear h5 hu mA;go_upto_block 0 with fail
   go_cut [8] (fun s8 wx=>s8= .int .i64 er/\∃k4 c4 l4 d4,aD wx wb.heap.size u k4 c4 l4 d4/\u.In wx SS k4 c4 l4 d4/\fx wx w.heap.size t ka kc la lc oa oc/\aN wx (w.heap.size+1+1)/\Ext w wx)
   case first=>
    by_cases h3:a.k=3
    ·have K8:(a.k==3)=true:=by simpa using h3
     have Hm:=ae (show mV t.v b=(u,er) by rw [<-Hu.out];unfold mJ;rw [if_pos h3]);clear h3;go_wp2_with fail;(refine(Xh t.v ka kc la lc b k1 c1 l1 d1 (fun q=>SS q/\q≠wb.heap.size) _ (by omega) (by omega) (bN.out.ext Xt) (UY.out.ext Xt)).mono ?_);rw [Hm.out];rintro e w2 ⟨k2,c2,l2,d2,rfl,bZ,h2⟩;have cE:=ae (show u.In w2 (fun q=>SS q/\q≠wb.heap.size) k2 c2 l2 d2 from bZ.mono fun q h _=>by rcases h with h|h;exact h;exact⟨cw.out q (by(try simp at h);omega),by(try simp at h);omega⟩);have hx2:Ext w w2:=Xt;have qZ:=af.ext (w:=wc) (w':=w2) Xt hT;have bY:=af.ext (w:=wc) (w':=w2) Xt hR;have uA:=af.ext (w:=wc) (w':=w2) Xt hU;have pM:=uA.lt;clear bZ h2 iA iB fy jZ j3 hlA BD BF BG hT hA hR hV hU;obtain⟨xE,xG,pM⟩:=uA.see;go_wp2_with fail
     go_meet
     exact⟨rfl,k2,c2,l2,d2,aR,cE.out.keep (Held.kept (a:=w2) (T:=fun q=>SS q/\q≠wb.heap.size) ((show Held (fun q=>q≠wb.heap.size) w2 _ from aC).mono fun b hb=>hb.2)) (fun b hb _=>hb.1),aR,aR,Xt⟩
    ·have K8:(a.k==3)=false:=by simpa using h3
     by_cases h4:a.k=4
     ·have DU:(a.k==4)=true:=by simpa using h4
      obtain⟨⟨os,re⟩,qO⟩:∃z,jW b=z:=⟨_,rfl⟩;have hz:=aeU hbs;rw [qO] at hz;have Hz:=ae hz;have Hrd:=ae qO;have UZ:=ae (show (if re=0 then kR t.v os else(b,re))=(u,er) by rw [<-Hu.out];unfold mJ;rw [if_neg h3,if_pos h4,qO]);clear h3 h4 qO hz;go_wp2_with fail;(refine(ads b k1 c1 l1 d1 (fun q=>SS q/\q≠wb.heap.size) _ (by omega) (hn.ext Xt) (UY.out.ext Xt)).mono ?_);rw [Hrd.out];rintro e w2 ⟨a9,n9,c9,rfl,y9,rL,U0,h2⟩;have U1:=ae (show os.length=n9 from y9);have DB:=ae (show pg w2 (fun q=>SS q/\q≠wb.heap.size) a9 os from U0.mono fun q h=>by rcases h with h|h;exact h;exact⟨cw.out q (by(try simp at h);omega),by(try simp at h);omega⟩);have hx2:Ext w w2:=Xt;have qZ:=af.ext (w:=wc) (w':=w2) Xt hT;have bY:=af.ext (w:=wc) (w':=w2) Xt hR;have uA:=af.ext (w:=wc) (w':=w2) Xt hU;have ae8:=ae (V.In.ext (w:=wc) (w':=w2) lG.out Xt);have pM:=uA.lt;clear y9 rL U0 h2 iA iB fy jZ j3 hlA BD BF BG hT hA hR hV hU;obtain⟨iA,iB,fy⟩:=qZ.see;obtain⟨xE,xG,pM⟩:=uA.see;by_cases hre:re=0
      ·subst hre
       have Ha:=ae (show kR t.v os=(u,er) by have:=UZ.out;rwa [if_pos rfl] at this);have hn9:n9<=20:=by have:=Hz.out.2;have:=U1.out;simp only at*;omega
       go_wp2_with fail;(refine(aaM t.v ka kc la lc a9 c9 os n9 _ U1 (hl.ext Xt) (by omega) Hz.out.1 (by omega) (fun q=>SS q/\q≠wb.heap.size) (bN.out.ext Xt) (DB.out.ext Xt)).mono ?_);rw [Ha.out];rintro e w3 ⟨k2,c2,l2,d2,rfl,bZ,h3⟩;have hz3:=h3.size;have cE:=ae (show u.In w3 (fun q=>SS q/\q≠wb.heap.size) k2 c2 l2 d2 from bZ.mono fun q h _=>by rcases h with h|h;exact h;exact⟨cw.out q (by(try simp at h);omega),by(try simp at h);omega⟩);have hx3:Ext w w3:=Xt;have IG:=af.ext (w:=w2) (w':=w3) Xt qZ;have bV:=af.ext (w:=w2) (w':=w3) Xt bY;have U2:=af.ext (w:=w2) (w':=w3) Xt uA;have pM:=U2.lt;clear bZ h3 iA iB fy xE xG pM qZ bY uA;obtain⟨xE,xG,pM⟩:=U2.see;go_wp2_with fail
       go_meet
       exact⟨rfl,k2,c2,l2,d2,aR,cE.out.keep (Held.kept (a:=w3) (T:=fun q=>SS q/\q≠wb.heap.size) ((show Held (fun q=>q≠wb.heap.size) w3 _ from aC).mono fun b hb=>hb.2)) (fun b hb _=>hb.1),aR,aR,Xt⟩
      ·have ahE:(re==0)=false:=by simpa using hre
       have Ez:=UZ.out;rw [if_neg hre,Prod.mk.injEq] at Ez;obtain⟨rfl,rfl⟩:=Ez;clear hre;go_wp2_with fail
       go_meet
       exact⟨rfl,k1,c1,l1,d1,aR,ae8.out.ext Xt,aR,aR,Xt⟩
     ·have DU:(a.k==4)=false:=by simpa using h4
      have Ez:(b,(0:Int))=(u,er):=by rw [<-Hu.out];unfold mJ;rw [if_neg h3,if_neg h4]
      rw [Prod.mk.injEq] at Ez;obtain⟨rfl,rfl⟩:=Ez;clear h3 h4;go_wp2_with fail
      go_meet
      exact⟨rfl,k1,c1,l1,d1,aR,lG.out.ext Xt,aR,aR,Xt⟩
   case rest=>
    clear hT hA hR hV hU iA iB fy jZ j3 hlA BD BF BG fC;obtain⟨rfl,k4,c4,l4,d4,hU,sY,hT,hR,hx⟩:=hcut;have nP:=ae sY;clear sY;have pM:=hU.lt;go_upto_region 16 with fail
    have au:∀w',Held (fun b=>b≠w.heap.size+1+1) wc w'-> (w'.cell? ⟨wb.heap.size,0,none⟩=some (.int .i64 u.k)/\w'.cell? ⟨wb.heap.size,1,none⟩=some (.int .i64 u.n)/\w'.cell? ⟨wb.heap.size,2,none⟩=some (.string u.s)/\w'.cell? ⟨wb.heap.size,3,none⟩=some (.slice k4 u.keys.length c4)/\w'.cell? ⟨wb.heap.size,4,none⟩=some (.slice l4 u.l.length d4)/\w'.cell? ⟨w.heap.size,6,none⟩=some (.slice oa t.ows.length oc)):=
     fun w' e=>by have h:=af.held e hU (by simp;omega);have h':=af.held e hT (by simp;omega);exact⟨h.cells 0,h.cells 1,h.cells 2,h.cells 3,h.cells 4,h'.cells 6⟩
    refine pk au (by kernel_rfl) (au _ aC) (fun hHeld=> ?_);refine aK 0 (h:= ?_);refine aK 1 (h:= ?_);refine aK 2 (h:= ?_);refine aK 3 (h:= ?_);refine aK 5 (h:= ?_);(try simp only [rl]);refine kv 4 (h:=fun K hK=> ?_);(try simp only [rl]);(try go_simp);(refine(abr u k4 c4 l4 d4 SS t.ows oa oc SS _ (by omega) ji (nP.out.ext Xt) (How.out.ext Xt) (hl.max.ext Xt)).mono ?_);rintro e w4 ⟨a6,c6,rfl,gT,U3,h4⟩;(try go_simp);have bX:Ext wc w4:=Xt;have ae9:=ae (show cz w4 SS (kU u t.ows) a6 from U3.mono fun q h _=>by rcases h with h|h;exact h.elim;exact cw.out q (by(try simp at h);omega));have MV:=ae gT;have afa:=ae (V.In.ext (w':=w4) nP.out bX);have U4:=af.ext bX hR;have Nt:=U4.lt;have DI:Held (fun b=>b≠w.heap.size+1+1) wc w4:=bX.held _;clear gT U3 h4;refine hK.out _ _ (au _ aC) (fun hHeld=> ?_);clear hK K;(try simp only [rl]);obtain⟨hcR,jY,eP⟩:=U4.see;refine kv 6 (h:=fun K hK=> ?_);(try simp only [rl]);go_simp;refine hK.out _ _ (au _ aC) (fun hHeld=> ?_);clear hK K;(try simp only [rl]);refine kv 7 (h:=fun K hK=> ?_);(try simp only [rl]);go_simp;refine hK.out _ _ (au _ aC) (fun hHeld=> ?_);clear hK K;(try simp only [rl]);refine kv 8 (h:=fun K hK=> ?_);(try simp only [rl]);go_simp;refine hK.out _ _ (au _ aC) (fun hHeld=> ?_);clear hK K;(try simp only [rl]);refine wpAnyH_done (by kernel_rfl) ?_ _;go_wp2_with fail;refine aG (h:= ?_);rw [Hr.out];have ahF:Ext w w4:=hx.trans bX;exact⟨k4,c4,l4,d4,a6,c6,rfl,afa.out.keep ((Held.kept (a:=w4) (T:=fun b=>b≠w.heap.size+1+1) aC).mono bP.out) (fun b hb _=>bL.out b hb),MV.out,ae9.out.keep ((Held.kept (a:=w4) (T:=fun b=>b≠w.heap.size+1+1) aC).mono bP.out) (fun b hb _=>bL.out b hb),Xt⟩
 ·have rX:(be !=0)=true:=by simpa using h0
  have Hr:=ae (mA.out.trans (if_pos h0));clear h0;go_upto_region 3 with fail
  have au:∀w',Held (fun b=>b≠w.heap.size+1+1) wb w'-> (w'.cell? ⟨w.heap.size,1,none⟩=some (.int .i64 t.v.k)/\w'.cell? ⟨w.heap.size,2,none⟩=some (.int .i64 t.v.n)/\w'.cell? ⟨w.heap.size,3,none⟩=some (.string t.v.s)/\w'.cell? ⟨w.heap.size,4,none⟩=some (.slice ka t.v.keys.length kc)/\w'.cell? ⟨w.heap.size,5,none⟩=some (.slice la t.v.l.length lc)/\w'.cell? ⟨w.heap.size,6,none⟩=some (.slice oa t.ows.length oc)):=
   fun w' e=>by have h:=af.held e hT (by simp;omega);exact⟨h.cells 1,h.cells 2,h.cells 3,h.cells 4,h.cells 5,h.cells 6⟩
  refine pk au (by kernel_rfl) (au _ aC) (fun hHeld=> ?_);refine aK 0 (h:= ?_);refine aK 1 (h:= ?_);refine aK 2 (h:= ?_);refine aK 3 (h:= ?_);refine aK 4 (h:= ?_);(try simp only [rl]);obtain⟨hcR,jY,eP⟩:=hR.see;refine kv 5 (h:=fun K hK=> ?_);(try simp only [rl]);go_simp;refine hK.out _ _ (au _ aC) (fun hHeld=> ?_);clear hK K;(try simp only [rl]);refine kv 6 (h:=fun K hK=> ?_);(try simp only [rl]);go_simp;refine hK.out _ _ (au _ aC) (fun hHeld=> ?_);clear hK K;(try simp only [rl]);refine kv 7 (h:=fun K hK=> ?_);(try simp only [rl]);go_simp;refine hK.out _ _ (au _ aC) (fun hHeld=> ?_);clear hK K;(try simp only [rl]);refine wpAnyH_done (by kernel_rfl) ?_ _;go_wp2_with fail;refine aG (h:= ?_);rw [Hr.out];have Eu:=aP.trans (show Ext wb wb.drew from Xt);refine⟨ka,kc,la,lc,oa,oc,rfl,?_,dv.out,?_,Xt⟩
  ·exact(aJ.out.ext (w':=_) Xt).mono fun b hb _=>bL.out b hb
  ·exact(How.out.ext (w':=_) Xt).mono fun b hb _=>bL.out b hb
end Go.Proofs.YtlcebdaghmdkeaaGreatDoor
