import Derived.Deep.CutBlock
import Derived.Test.YtlcebdaghmdkeabGreatDoorCards
import Derived.Test.YtlcebdaghmdkeabGreatDoorTie
import Derived.Deep.DeepHandedRow
import Derived.Deep.DeepWitnessRowRef
import Derived.Lib.LaidIn
import Derived.Deep.Strs
import Derived.Deep.Slices
import Derived.ChangeArms
import Derived.Test.YtlcebdaghmdkeabGreatDoorZ6
set_option linter.all false
set_option maxRecDepth 100000
set_option maxHeartbeats 64000000
namespace Go.Proofs.YtlcebdaghmdkeabGreatDoor
open Go.Proofs.Tryz
open Go.RowKit
attribute [local go_sem↓] Go.wp_at_zero Go.wp_at_succ
theorem agC (base k m c:Nat) (a:au) (xs:List Value) (w:World) (ho:w.ownsRow base 9 1 (.slice a (m+1) c) (m+1) xs) (hk:k<=m) (h1:∀u∈xs,u.oneCell'=true):
 Calls prog 211 #[.slice a (m+1) c, .int .i64 k, .int .i64 ((k:Int)+1)] w fun e w'=>e= .returned (.slice a m c)/\w'.ownsRow base 9 1 (.slice a m c) m (xs.take k++xs.drop (k+1))/\w.grownBy w' (Value.slice a (m+1) c).ownBlock:=by
 obtain⟨g,cap,cur,hv,hb,hg,hnc,hm,hcs,ht⟩:=uh ho (by omega);simp only [Value.slice.injEq,true_and] at hv;obtain⟨rfl,rfl⟩:=hv;have ht':cur.toList.take (m+1)=xs:=by simpa using ht
 refine(aao base g m c k cur w hb hg (by omega) hm hcs hk (by rw [ht'];exact h1)).mono ?_;rintro e w' ⟨he,h2,h3⟩;rw [ht'] at h2;exact⟨he,h2,h3⟩
theorem Ua (base k m c:Nat) (a:au) (xs:List Value) (w:World) (ho:w.ownsRow base 36 5 (.slice a (m+1) c) (m+1) xs) (hk:k<=m) (h1:∀u∈xs,u.oneCell'=true):
 Calls prog 212 #[.slice a (m+1) c, .int .i64 k, .int .i64 ((k:Int)+1)] w fun e w'=>e= .returned (.slice a m c)/\w'.ownsRow base 36 5 (.slice a m c) m (xs.take (k*5)++xs.drop ((k+1)*5))/\w.grownBy w' (Value.slice a (m+1) c).ownBlock:=by
 obtain⟨g,cap,cur,hv,hb,hg,hnc,hm,hcs,ht⟩:=uh ho (by omega);simp only [Value.slice.injEq,true_and] at hv;obtain⟨rfl,rfl⟩:=hv;refine(aap base g m c k cur w hb hg (by omega) hm hcs hk (by rw [ht];exact h1)).mono ?_;rintro e w' ⟨he,h2,h3⟩;rw [ht] at h2;exact⟨he,h2,h3⟩
theorem agD (nn:Int) (s:ah) (ks:List ah) (l:List V) (m:Nat) (ka:au) (kc:Nat) (la:au) (lc:Nat) (key:ah) (S:az) (w:World) (p:Nat)
 (hks:Hid (ks.length=m+1)) (hll:Hid (l.length=m+1)) (dw:m+1<=1073741824) (ib:aM ka (m+1) kc) (gj:aM la (m+1) lc) (hst:bR w (fun b=>S b/\b<w.heap.size) ka ks) (ic:Rows w (fun b=>S b/\b<w.heap.size) l la)
 (bs:∀w',Ext w w'->Calls prog 68 #[.slice ka (m+1) kc, .string key] w' fun e w''=>e= .returned (.tuple #[.int .i64 p, .bool true])/\Ext w' w'') (hp:p<=m):
 Calls prog 183 #[.agg #[.int .i64 5, .int .i64 nn, .string s, .slice ka (m+1) kc, .slice la (m+1) lc], .string key] w (qA S (.mk 5 nn s (ks.take p++ks.drop (p+1)) (l.take p++l.drop (p+1))) w):=by
 obtain⟨news,hnl,lJ,jD⟩:=Ah ic;have kC:=ae jD;have h1c:=jD.one;have tH:news.length=(m+1)*5:=by rw [hnl,hll.out]
 have yi:m+1=0\/∃ad,la=some ad/\∀j u,news[j]? =some u->w.cell? (ad.add j)=some u:=by rw [<-hll.out];exact lJ
 have yj:=Gc hst;have yl:m+1=0\/∃ad,ka=some ad/\∀j u,(ks.map Value.string)[j]? =some u->w.cell? (ad.add j)=some u:=by rw [<-hks.out];exact yj
 have tI:∀(a:au) (m:Nat) (xs:List Value) (w':World),(m=0\/∃ad,a=some ad/\∀j u,xs[j]? =some u->w.cell? (ad.add j)=some u)->Ext w w'-> (m=0\/∃ad,a=some ad/\∀j u,xs[j]? =some u->w'.cell? (ad.add j)=some u):=by
  rintro a m xs w' (h|⟨ad,h,h'⟩) e
  ·exact .inl h
  ·exact .inr ⟨ad,h,fun j u hj=>e.cell (h' j u hj)⟩
 have ym:∀w',Ext w w'->Calls prog 36 #[.slice ka (m+1) kc] w' fun e w''=>∃a' c',e= .returned (.slice a' (m+1) c')/\aM a' (m+1) c'/\w''.ownsRow w'.heap.size 9 1 (.slice a' (m+1) c') (m+1) (ks.map Value.string)/\Ext w' w'':=
  fun w' e=>Gl ka (m+1) kc _ w' ib dw (by rw [List.length_map,hks.out];omega) (tI _ _ _ _ yl e) (px ks)
 have yn:∀w',Ext w w'->Calls prog 61 #[.slice la (m+1) lc] w' fun e w''=>∃a' c',e= .returned (.slice a' (m+1) c')/\aM a' (m+1) c'/\w''.ownsRow w'.heap.size 36 5 (.slice a' (m+1) c') (m+1) news/\Ext w' w'':=
  fun w' e=>Ai la (m+1) lc news w' gj dw tH (tI _ _ _ _ yi e) h1c
 have kS:=ae h1c;have Ae:=ae ym;have Af:=ae yn;have Bs:=ae bs;have G':=ae tH;clear ic hst jD h1c hnl lJ tH yi yj yl tI ym yn bs ib gj;go_enter func183,ntmps183;go_wp2_with (go_at_call 68;refine(Bs.out _ Xt).mono ?_;rintro e w1 ⟨rfl,h1⟩);refine aI (R:=fun wx=>af wx w.heap.size #[.int .i64 5, .int .i64 nn, .string s, .slice ka (m+1) kc, .slice la (m+1) lc] 36/\aN wx (w.heap.size+1)/\Ext w wx) ⟨aj,aj,Xt⟩ ?_;clear h1;rintro wa ⟨ag,ak,aH⟩;obtain⟨T,hT⟩:∃T:az,T=fun b=>b<wa.heap.size:=⟨_,rfl⟩
 have mB:Hid (∀b,b<wa.heap.size->T b):=by rw [hT];exact fun b h=>h
 have OG:Hid (∀b,wa.heap.size<=b->¬T b):=by rw [hT];exact fun b h h'=>Nat.not_lt.2 h h'
 clear hT
 have aq:∀w',Held T wa w'-> (w'.cell? ⟨w.heap.size,3,none⟩=some (.slice ka (m+1) kc)/\w'.cell? ⟨w.heap.size,4,none⟩=some (.slice la (m+1) lc)):=
  fun w' e=>⟨e.kept.cell (mB.out _ ag.lt) (ag.cells 3),e.kept.cell (mB.out _ ag.lt) (ag.cells 4)⟩
 have OB:=ak.lt;have hp1:(0:Int)<= (p:Int):=by omega
 have hw1:IntKind.i64.wrap ((p:Int)+1)=(p:Int)+1:=by rw [IntKind.wrap_i64];omega
 refine fF aq (c:=15) (by kernel_rfl) ?_;refine aG 0 [15] (hS:=aq _ aC) (h:= ?_);refine aG 1 [15] (hS:=aq _ aC) (h:= ?_);refine aG 3 [15] (hS:=aq _ aC) (h:= ?_);refine aG 4 [15] (hS:=aq _ aC) (h:= ?_);refine aG 5 [15] (hS:=aq _ aC) (h:= ?_);refine aG 7 [15] (hS:=aq _ aC) (h:= ?_);refine aG 8 [15] (hS:=aq _ aC) (h:= ?_);refine aG 10 [13,15] (hS:=aq _ aC) (h:= ?_);refine aG 11 [12,13,15] (hS:=aq _ aC) (h:= ?_);refine aG 12 [13,15] (hS:=aq _ aC) (h:= ?_);(try simp only [rl]);refine aK 2 (h:=fun K hK=> ?_);(try simp only [rl]);(try go_simp);(refine(Ae.out _ Xt).mono ?_);rintro e w2 ⟨a2,c2,rfl,gj,hown2,h2⟩;(try go_simp);have uo:Held T wa w2:=(Held.refl T wa).drew.ext h2;have hx2:Ext w w2:=Xt;have hz2:wa.heap.size<=w2.heap.size:=h2.size;have hb2:∀g,(Value.slice a2 (m+1) c2).ownBlock=some g->wa.heap.size<=g:=fun g hg=>(hown2.lt g hg).1;refine hK.out _ _ (fun _=>aq _ aC) ?_;clear hK K;(try simp only [rl]);refine aK 6 (h:=fun K hK=> ?_);(try simp only [rl]);(try go_simp);(refine(agC _ p m c2 a2 (ks.map Value.string) _ hown2 hp (px ks)).mono ?_);rintro e w4 ⟨rfl,lF,nr⟩;(try go_simp);have DV:Held T wa w4:=Held.grown uo nr (fun k hk=>OG.out _ (hb2 k hk));have bH:Ext w w4:=Ext.grown hx2 nr (fun g hg=>by have:=hb2 g hg;omega);have gJ:=nr.size;have WN:Hid (bR w4 (fun b=>w.heap.size+2<=b/\b<w4.heap.size) a2 (ks.take p++ks.drop (p+1))):=by obtain⟨a4,c4,cO,-,-,hst⟩:=ek.strs (base:=w.heap.size+2) (n:=m) (v:= .slice a2 m c2) (ks:=ks.take p++ks.drop (p+1)) ⟨by simp [hks.out];omega,qw (by simpa [List.map_take,List.map_drop] using lF) (show w.heap.size+2<=wa.drew.heap.size from OB)⟩;simp only [Value.slice.injEq,true_and] at cO;obtain⟨rfl,rfl⟩:=cO;exact hst.keep (fun _ _ _=>rfl) (fun b h hl=>⟨h,hl⟩)
 have Ba:aM a2 m c2:=by obtain⟨a4,c4,cO,h⟩:=fT lF;simp only [Value.slice.injEq,true_and] at cO;obtain⟨rfl,rfl⟩:=cO;exact h
 clear hown2 lF hb2 h2 nr hx2 gj;refine hK.out _ _ (fun _=>aq _ aC) ?_;clear hK K;refine aG 14 [15] (hS:=aq _ aC) (h:= ?_);(try simp only [rl]);refine aK 9 (h:=fun K hK=> ?_);(try simp only [rl]);(try go_simp);(refine(Af.out _ Xt).mono ?_);rintro e w5 ⟨a3,c3,rfl,jI,dR,h5⟩;(try go_simp);have eT:Held T wa w5:=DV.ext h5;have aZ:Ext w w5:=bH.trans h5;have I1:∀g,(Value.slice a3 (m+1) c3).ownBlock=some g->w4.heap.size<=g:=fun g hg=>(dR.lt g hg).1;refine hK.out _ _ (fun _=>aq _ aC) ?_;clear hK K;(try simp only [rl]);refine aK 13 (h:=fun K hK=> ?_);(try simp only [rl]);(try go_simp);(refine(Ua _ p m c3 a3 news _ dR hp kS.out).mono ?_);rintro e w6 ⟨rfl,bF,aY⟩;(try go_simp);have bD:Held T wa w6:=Held.grown eT aY (fun k hk=>OG.out _ (by have:=I1 k hk;omega));have bK:Ext w w6:=Ext.grown aZ aY (fun g hg=>by have:=I1 g hg;have:=bH.size;omega);have uF:bR w6 (fun b=>w.heap.size+2<=b) a2 (ks.take p++ks.drop (p+1)):=WN.out.keep (Held.kept (T:=fun b=>w.heap.size+2<=b/\b<w4.heap.size) (Held.grown (h5.held _) aY (fun k hk h=>by have:=I1 k hk;omega))) (fun b h _=>h.1);have jq:aM a3 m c3:=by obtain⟨a4,c4,cO,h⟩:=fT bF;simp only [Value.slice.injEq,true_and] at cO;obtain⟨rfl,rfl⟩:=cO;exact h
 have hrows:Rows w6 (fun b=>(S b/\b<w.heap.size)\/w.heap.size+2<=b) (l.take p++l.drop (p+1)) a3:=by
  have hcc:=(kC.out.keep (bK.kept _) (fun b h _=>h)).del p;by_cases hm0:m=0
  ·refine .inl (List.eq_nil_of_length_eq_zero ?_)
   simp [hll.out];omega
  ·obtain⟨g7,cur,kD,hgb,hBg,hcz,hits⟩:=qx (by omega) (by simp [hll.out];omega) bF hcc
   exact .inr ⟨g7,0,kD, .inr (by have:=bH.size;omega),fun i hi=>by rw [Nat.zero_add];exact(hits i hi).mono (fun b h=> .inl h)⟩
 have ag:=af.held bD ag (mB.out _ (by omega));have ak:=af.held bD ak (mB.out _ (by omega));have zG:=ae hrows;clear bF aY hrows dR I1 h5 aZ jI WN DV bH eT uo Ae Af Bs aH;refine hK.out _ _ (fun _=>aq _ aC) ?_;clear hK K;(try simp only [rl]);clear aq bD mB OG;obtain⟨hc0,aw,hl0⟩:=ag.see;refine aK 15 (h:=fun K hK=> ?_);(try simp only [rl]);go_simp;refine bz hK (h:= ?_);clear hK K;(try simp only [rl]);refine aK 16 (h:=fun K hK=> ?_);(try simp only [rl]);go_simp;refine bz hK (h:= ?_);clear hK K;(try simp only [rl]);refine aK 17 (h:=fun K hK=> ?_);(try simp only [rl]);go_simp;refine bz hK (h:= ?_);clear hK K;(try simp only [rl]);refine cZ (by kernel_rfl) ?_ _;go_upto_region 6 with fail
 refine aI (R:=fun wy=>af wy w.heap.size #[.int .i64 5, .int .i64 nn, .string s, .slice a2 m c2, .slice a3 m c3] 36/\aN wy (w.heap.size+1)/\Held (fun b=>b≠w.heap.size) w6 wy/\Ext w wy) ⟨aj,aj,aC,Xt⟩ ?_;clear ag ak hc0 aw hl0;rintro wy ⟨ag,ak,l9,hxy⟩;obtain⟨hc0,aw,hl0⟩:=ag.see;obtain⟨hc2,hf2,hl2⟩:=ak.see;go_wp2_with fail;refine aF (h:= ?_);have e1:(ks.take p++ks.drop (p+1)).length=m:=by simp [hks.out];omega
 have e2:(l.take p++l.drop (p+1)).length=m:=by simp [hll.out];omega
 refine⟨a2,c2,a3,c3,?_,(V.dz ..).2 ⟨?_,?_,?_,?_⟩,Xt⟩
 ·simp only [V.val,V.gi,V.dZ,V.uI,V.uJ,V.kz,e1,e2]
 ·rw [V.gi,e1];exact Ba
 ·rw [V.dZ,e2];exact jq
 ·have h1:Held (fun b=>w.heap.size+2<=b) w6 wy:=l9.mono (fun b h=>by simp;omega)
  exact uF.keep (Held.kept (a:=w6) (T:=fun b=>w.heap.size+2<=b) aC) (fun b h _=> .inr (by omega))
 ·have h1:Held (fun b=>(S b/\b<w.heap.size)\/w.heap.size+2<=b) w6 wy:=l9.mono (fun b h=>by simp;omega)
  exact zG.out.keep (Held.kept (a:=w6) (T:=fun b=>(S b/\b<w.heap.size)\/w.heap.size+2<=b) aC) (fun b h _=>by rcases h with h|h;exact .inl h.1;exact .inr (by omega))
theorem agE (x:V) (ka:au) (kc:Nat) (la:au) (lc:Nat) (key:ah) (S:az) (w:World) (p:Nat) (h5:x.k=5) (iq:x.keys.length=x.l.length) (hin:x.In w S ka kc la lc)
 (bs:∀w',Ext w w'->Calls prog 68 #[.slice ka x.keys.length kc, .string key] w' fun e w''=>e= .returned (.tuple #[.int .i64 p, .bool false])/\Ext w' w''):
 Calls prog 183 #[x.val ka kc la lc, .string key] w (qA S x w):=by
 have kA:(x.k==5)=true:=by simpa using h5
 have I0:(x.k !=5)=false:=by simpa using h5
 have hlen:((x.keys.length:Int)==(x.l.length:Int))=true:=by simpa using congrArg Int.ofNat iq
 have WL:((x.keys.length:Int) !=(x.l.length:Int))=false:=by simpa using congrArg Int.ofNat iq
 have Bs:=ae bs;clear iq h5 bs;go_enter func183,ntmps183;go_upto_region 6 with(go_at_call 68;refine(Bs.out _ Xt).mono ?_;rintro e w1 ⟨rfl,h1⟩)
 refine aI (R:=fun wx=>aD wx w.heap.size x ka kc la lc/\aN wx (w.heap.size+1)/\Ext w wx) ⟨aj,aj,Xt⟩ ?_;clear h1;rintro wa ⟨ag,ak,aH⟩;obtain⟨hc0,aw,hl0⟩:=ag.see;obtain⟨hc2,hf2,hl2⟩:=ak.see;go_wp2_with fail;refine aF (h:= ?_);exact⟨ka,kc,la,lc,rfl,(hin.ext Xt).mono (fun b h _=> .inl h),Xt⟩
theorem agF (x:V) (ka:au) (kc:Nat) (la:au) (lc:Nat) (key:ah) (S:az) (w:World) (hx:¬(x.k=5/\x.keys.length=x.l.length)) (hin:x.In w S ka kc la lc):
 Calls prog 183 #[x.val ka kc la lc, .string key] w (qA S x w):=by
 by_cases h5:x.k=5
 ·have iq:x.keys.length≠x.l.length:=fun h=>hx ⟨h5,h⟩
  have kA:(x.k==5)=true:=by simpa using h5
  have I0:(x.k !=5)=false:=by simpa using h5
  have hlen:((x.keys.length:Int)==(x.l.length:Int))=false:=by simpa using fun h=>iq (by omega)
  have WL:((x.keys.length:Int) !=(x.l.length:Int))=true:=by simpa using fun h=>iq (by omega)
  clear iq h5 hx;go_enter func183,ntmps183;go_wp2_with fail;refine aF (h:= ?_);exact⟨ka,kc,la,lc,rfl,(hin.ext Xt).mono (fun b h _=> .inl h),Xt⟩
 ·have kA:(x.k==5)=false:=by simpa using h5
  have I0:(x.k !=5)=true:=by simpa using h5
  clear h5 hx;go_enter func183,ntmps183;go_wp2_with fail;refine aF (h:= ?_);exact⟨ka,kc,la,lc,rfl,(hin.ext Xt).mono (fun b h _=> .inl h),Xt⟩
theorem Cq (x:V) (ka:au) (kc:Nat) (la:au) (lc:Nat) (key:ah) (S:az) (w:World) (hsz:x.size<=1073741824) (hr:cz x.keys) (hin:x.In w S ka kc la lc):
 Calls prog 183 #[x.val ka kc la lc, .string key] w (qA S (x.del key) w):=by
 by_cases hx:x.k=5/\x.keys.length=x.l.length
 ·have hin':=hin.mono (T:=fun b=>S b/\b<w.heap.size) fun b h hl=>⟨h,hl⟩
  obtain⟨h1,h2,h3,h4⟩:=(V.dz ..).1 hin';have hl:=x.kB;have hle:=tW x.keys key
  cases hb:hasB x.keys key with
  |true=>
   rw [A5 hx hb,hx.1];have hlt:=tR hb;obtain⟨m,hm⟩:∃m,x.l.length=m+1:=⟨x.l.length-1,by omega⟩;have hv:x.val ka kc la lc= .agg #[.int .i64 5, .int .i64 x.n, .string x.s, .slice ka (m+1) kc, .slice la (m+1) lc]:=by rw [V.val,hx.1,hx.2,hm]
   rw [hx.2,hm] at h1;rw [hm] at h2;rw [hv];refine agD x.n x.s x.keys x.l m ka kc la lc key S w (posOf x.keys key) (by show x.keys.length=m+1;omega) hm (by omega) h1 h2 h3 h4 ?_ (by omega);intro w' e;have:=Ao ka (m+1) kc x.keys _ key w' (by omega) (h3.ext e) hr (by omega);rw [hb] at this;exact this
  |false=>
   rw [A6 hb];refine agE x ka kc la lc key S w (posOf x.keys key) hx.1 hx.2 hin ?_;intro w' e;have:=Ao ka x.keys.length kc x.keys _ key w' rfl (h3.ext e) hr (by omega);rw [hb] at this;exact this
 ·rw [KD hx]
  exact agF x ka kc la lc key S w hx hin
end Go.Proofs.YtlcebdaghmdkeabGreatDoor
namespace Go.Proofs.YtlcebdaghmdkeabGreatDoor.start
open Go.Proofs.Tryz
def b32:List Int:= [0,1,28,2,29,14,24,3,30,22,20,15,25,17,4,8,31,27,13,23,21,19,16,7,26,12,18,6,11,5,10,9]
def b64:List Int:= [0,1,56,2,57,49,28,3,61,58,42,50,38,29,17,4,62,47,59,36,45,43,51,22,53,39,33,30,24,18,12,5,63,55,48,27,60,41,37,16,46,35,44,21,52,32,23,11,54,26,40,15,34,20,31,10,25,14,19,9,13,8,7,6]
def p10:List Int:= [1,10,100,1000,10000,100000,1000000,10000000,100000000,1000000000,10000000000,100000000000,1000000000000,10000000000000,100000000000000,1000000000000000,10000000000000000,100000000000000000,1000000000000000000,10000000000000000000]
def acc:List Int:= [128,191,160,191,128,159,144,191,128,143,0,0,0,0,0,0,0,0,0,0,0,0,0,0,0,0,0,0,0,0,0,0]
def aaq:List Int:=Go.Pinned.utf8FirstZ.map Int.ofNat
def nm:List (List UInt8):= [[], [97,100,100], [114,101,109,111,118,101], [114,101,112,108,97,99,101], [109,111,118,101], [99,111,112,121], [116,101,115,116]]
noncomputable def qQ (os:Os):World:=
 let N:=(World.settled prog os).heap.size
 let w0:=World.holding prog os ⟨#[.cells #[.string ⟨#[118,97,108,117,101,32,111,117,116,32,111,102,32,114,97,110,103,101]⟩] 280, .cells #[.string ⟨#[105,110,118,97,108,105,100,32,115,121,110,116,97,120]⟩] 280], #[], []⟩
 let put (h:Array Obj) (g:Nat) (cs:Array Value):Array Obj:=h.modify g fun
  | .cells _ t frozen=> .cells cs t frozen
  |o=>o
 let h0:=put (put w0.heap 5 #[.iface 278 (.pointer (some ⟨N,0,none⟩))]) 4 #[.iface 278 (.pointer (some ⟨N+1,0,none⟩))]
 let h1:=put (put (put h0 6 (p10.map (Value.int .u64)).toArray) 7 (b32.map (Value.int .u8)).toArray) 8 (b64.map (Value.int .u8)).toArray
 let h2:=put (put h1 2 (aaq.map (Value.int .u8)).toArray) 3 (acc.map (Value.int .u8)).toArray
 let h3:=put h2 1 (nm.map fun s=>Value.string ⟨s.toArray⟩).toArray
 {w0 with heap:=h3}
noncomputable abbrev N0:Nat:=(World.settled prog default).heap.size
theorem aar (os:Os) (args:Array Value):LaidIn prog ((qQ os).forCall (fun _ _=>0) ⟨#[],args, []⟩).memory Rows.topWeightsUptoRow.laid [7,8,6,3,5,N0,4,N0+1,1,2]:=
 LaidIn.of_run [7,8,6,3,5,N0,4,N0+1,1,2] 10 (by kernel_rfl) (by kernel_rfl) (by kernel_rfl) (by kernel_rfl)
theorem Dv (os:Os) (args:Array Value):laidMet prog Rows.topWeightsUptoRow.laid ((qQ os).forCall (fun _ _=>0) ⟨#[],args, []⟩).memory:=(aar os args).met
end Go.Proofs.YtlcebdaghmdkeabGreatDoor.start
namespace Go.Proofs.YtlcebdaghmdkeabGreatDoor
open Go.Proofs.Tryz
open Go.ChangeShapes Go.WideShapes Go.ChangeAt Go.RowKit Go.Deep Go.Joins
open Go.ChangeMaps (open_string shut_string)
def Old (w:World):az:=fun b=>b<w.heap.size
theorem XF {H:Type} (d:DataW H):1<=Rows.uptoBulk d:=by
 cases d with
 |lit l=>cases l<;>simp [Rows.uptoBulk]
 |nil=>simp [Rows.uptoBulk]
 |ptr d=>simp [Rows.uptoBulk]
 |slice elems spare=>simp [Rows.uptoBulk]
 |agg parts=>simp [Rows.uptoBulk]
 |iface t d=>simp [Rows.uptoBulk]
 |map entries=>simp [Rows.uptoBulk]
 |held h=>simp [Rows.uptoBulk]
theorem Pg {H:Type} (l:List (DataW H)):Rows.uptoBulkAll l=(l.map Rows.uptoBulk).sum:=by
 induction l with
 |nil=>simp [Rows.uptoBulkAll]
 |cons x r ih=>simp [Rows.uptoBulkAll,ih]
theorem XI {α β:Type} (l:List α) (m:List β) (f:α->Nat) (g:β->Nat) (hlen:l.length=m.length) (h:∀i (hi:i<l.length) (hj:i<m.length),f l[i]<=g m[i]):(l.map f).sum<= (m.map g).sum:=by
 induction l generalizing m with
 |nil=>simp
 |cons y r ih=>
  cases m with
  |nil=>simp at hlen
  |cons z t=>
   have a0:=h 0 (by simp) (by simp);have a1:=ih t (by simpa using hlen) (fun i hi hj=>by have:=h (i+1) (by simpa using hi) (by simpa using hj);simpa using this);simp only [List.map_cons,List.sum_cons];simp only [List.getElem_cons_zero] at a0;omega
theorem XH {α:Type} {n:Nat} {P:Nat->α->Prop} (h:∀i,i<n->∃x,P i x):∃l:List α,l.length=n/\∀i (hi:i<l.length),P i l[i]:=by
 induction n with
 |zero=>exact⟨[],rfl,fun i hi=>by simp at hi⟩
 |succ n ih=>
  obtain⟨l,h1,h2⟩:=ih (fun i hi=>h i (by omega));obtain⟨x,hx⟩:=h n (by omega);refine⟨l++ [x],by simp [h1],fun i hi=> ?_⟩;by_cases e:i<l.length
  ·rw [List.getElem_append_left e];exact h2 i e
  ·have:i=n:=by simp at hi;omega
   subst this;rw [List.getElem_append_right (by omega)];simpa [h1] using hx
end Go.Proofs.YtlcebdaghmdkeabGreatDoor
