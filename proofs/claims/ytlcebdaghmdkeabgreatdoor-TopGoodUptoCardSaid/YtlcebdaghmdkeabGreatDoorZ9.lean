import Derived.Deep.CutBlock
import Derived.Test.YtlcebdaghmdkeabGreatDoorZ6
set_option linter.all false
set_option maxRecDepth 100000
set_option maxHeartbeats 64000000
namespace Go.Proofs.YtlcebdaghmdkeabGreatDoor
open Go.Proofs.Tryz
open Go.RowKit
attribute [local go_sem↓] Go.wp_at_zero Go.wp_at_succ
theorem agz (nn:Int) (s:ah) (ks:List ah) (l:List V) (n:Nat) (ka:au) (kc:Nat) (la:au) (lc:Nat) (key:ah) (y:V) (kb:au) (kd:Nat) (lb:au) (ld:Nat) (S:az) (w:World) (p:Nat)
 (hks:Hid (ks.length=n)) (hll:Hid (l.length=n)) (dw:n<=1073741824) (ib:aM ka n kc) (gj:aM la n lc) (hst:bR w (fun b=>S b/\b<w.heap.size) ka ks) (ic:Rows w (fun b=>S b/\b<w.heap.size) l la) (hjn:y.In w (fun b=>S b/\b<w.heap.size) kb kd lb ld)
 (bs:∀w',Ext w w'->Calls prog 68 #[.slice ka n kc, .string key] w' fun e w''=>e= .returned (.tuple #[.int .i64 p, .bool true])/\Ext w' w'') (hp:p<n):
 Calls prog 184 #[.agg #[.int .i64 5, .int .i64 nn, .string s, .slice ka n kc, .slice la n lc], .string key,y.val kb kd lb ld] w (qA S (.mk 5 nn s ks (l.set p y)) w):=by
 obtain⟨news,hnl,lJ,jD⟩:=Ah ic;have kC:=ae jD;have h1c:=jD.one;have tH:news.length=n*5:=by rw [hnl,hll.out]
 have yi:n=0\/∃ad,la=some ad/\∀j u,news[j]? =some u->w.cell? (ad.add j)=some u:=by rw [<-hll.out];exact lJ
 have yj:=Gc hst;have yl:n=0\/∃ad,ka=some ad/\∀j u,(ks.map Value.string)[j]? =some u->w.cell? (ad.add j)=some u:=by rw [<-hks.out];exact yj
 have tI:∀(a:au) (m:Nat) (xs:List Value) (w':World),(m=0\/∃ad,a=some ad/\∀j u,xs[j]? =some u->w.cell? (ad.add j)=some u)->Ext w w'-> (m=0\/∃ad,a=some ad/\∀j u,xs[j]? =some u->w'.cell? (ad.add j)=some u):=by
  rintro a m xs w' (h|⟨ad,h,h'⟩) e
  ·exact .inl h
  ·exact .inr ⟨ad,h,fun j u hj=>e.cell (h' j u hj)⟩
 have ym:∀w',Ext w w'->Calls prog 36 #[.slice ka n kc] w' fun e w''=>∃a' c',e= .returned (.slice a' n c')/\aM a' n c'/\w''.ownsRow w'.heap.size 9 1 (.slice a' n c') n (ks.map Value.string)/\Ext w' w'':=
  fun w' e=>Gl ka n kc _ w' ib dw (by rw [List.length_map,hks.out];omega) (tI _ _ _ _ yl e) (px ks)
 have yn:∀w',Ext w w'->Calls prog 61 #[.slice la n lc] w' fun e w''=>∃a' c',e= .returned (.slice a' n c')/\aM a' n c'/\w''.ownsRow w'.heap.size 36 5 (.slice a' n c') n news/\Ext w' w'':=
  fun w' e=>Ai la n lc news w' gj dw tH (tI _ _ _ _ yi e) h1c
 have kS:=ae h1c;have Ae:=ae ym;have Af:=ae yn;have Bs:=ae bs;have G':=ae tH;clear ic hst jD h1c hnl lJ tH yi yj yl tI ym yn bs ib gj;go_enter func184,ntmps184;go_wp2_with (go_at_call 68;refine(Bs.out _ Xt).mono ?_;rintro e w1 ⟨rfl,h1⟩);refine aI (R:=fun wx=>af wx w.heap.size #[.int .i64 5, .int .i64 nn, .string s, .slice ka n kc, .slice la n lc] 36/\aD wx (w.heap.size+1) y kb kd lb ld/\aN wx (w.heap.size+2)/\Ext w wx) ⟨aj,aj,aj,Xt⟩ ?_;clear h1;rintro wa ⟨ag,ai,ak,aH⟩;have aq:∀w',Ext wa w'-> (w'.cell? ⟨w.heap.size,3,none⟩=some (.slice ka n kc)/\w'.cell? ⟨w.heap.size,4,none⟩=some (.slice la n lc)):=fun w' e=>⟨e.cell (ag.cells 3),e.cell (ag.cells 4)⟩;have OB:=ak.lt;obtain⟨hc0,aw,hl0⟩:=ag.see;refine fF aq (c:=7) (by kernel_rfl) ?_;refine aG 0 [7] (hS:=aq _ Xt) (h:= ?_);refine aG 1 [7] (hS:=aq _ Xt) (h:= ?_);refine aG 3 [7] (hS:=aq _ Xt) (h:= ?_);refine aG 4 [7] (hS:=aq _ Xt) (h:= ?_);(try simp only [rl]);refine aK 2 (h:=fun K hK=> ?_);(try simp only [rl]);(try go_simp);(refine(Ae.out _ Xt).mono ?_);rintro e w2 ⟨a2,c2,rfl,gj,hown2,h2⟩;(try go_simp);refine hK.out _ _ (fun _=>aq _ Xt) ?_;clear hK K;refine aG 6 [7] (hS:=aq _ Xt) (h:= ?_);(try simp only [rl]);refine aK 5 (h:=fun K hK=> ?_);(try simp only [rl]);(try go_simp);(refine(Af.out _ Xt).mono ?_);rintro e w3 ⟨a3,c3,rfl,jI,eH,h3⟩;(try go_simp);refine hK.out _ _ (fun _=>aq _ Xt) ?_;clear hK K;(try simp only [rl]);have iN:af w3 w.heap.size #[.int .i64 5, .int .i64 nn, .string s, .slice ka n kc, .slice la n lc] 36:=af.ext (w:=wa) Xt ag;have lL:aD w3 (w.heap.size+1) y kb kd lb ld:=af.ext (w:=wa) Xt ai;have OC:aN w3 (w.heap.size+2):=af.ext (w:=wa) Xt ak;have kG:wa.heap.size<=w2.heap.size:=Ext.size (a:=wa) Xt;have hx2:Ext w w2:=Xt;have hx3:Ext w w3:=Xt;have hz2:=h2.size;have hz3:=h3.size;have OD:bR w3 (fun b=>w.heap.size+3<=b/\b<w2.heap.size) a2 ks:=by obtain⟨a4,c4,cO,-,-,hst⟩:=ek.strs (base:=w.heap.size+3) (ks:=ks) ⟨hks.out,qw hown2 (by simp;omega)⟩;simp only [Value.slice.injEq,true_and] at cO;obtain⟨rfl,rfl⟩:=cO;exact hst.keep (h3.kept _) (fun b h hl=>⟨h,hl⟩)
 have dK:=ae (eD (qw (b0:=w.heap.size+3) hown2 (by simp;omega)) h3);have ql:=ae (qw (b0:=w.heap.size+3) eH (by omega));have hapart:∀g,(Value.slice a2 n c2).ownBlock=some g->g<w2.heap.size:=fun g hg=>(hown2.lt g hg).2;have EX:∀g,(Value.slice a3 n c3).ownBlock=some g->w2.heap.size<=g/\g<w3.heap.size:=fun g hg=>eH.lt g hg;have OE:=ae hapart;have IZ:=ae EX;clear hown2 eH hapart EX hc0 aw hl0 ag ai ak aq h2 h3 aH;obtain⟨hc0,aw,hl0⟩:=iN.see;refine aK 7 (h:=fun K hK=> ?_);(try simp only [rl]);go_simp;refine bz hK (h:= ?_);clear hK K;(try simp only [rl]);refine aK 8 (h:=fun K hK=> ?_);(try simp only [rl]);go_simp;refine bz hK (h:= ?_);clear hK K;(try simp only [rl]);refine aK 9 (h:=fun K hK=> ?_);(try simp only [rl]);go_simp;refine bz hK (h:= ?_);clear hK K;(try simp only [rl]);refine cZ (by kernel_rfl) ?_ _;have BF:=kC.out.keep (hx3.kept _) (fun b h _=>h);obtain⟨g,cur,rfl,hgb,hBg,hcz,hits⟩:=qx (by omega) hll.out ql.out BF;have hg2:=(IZ.out g rfl).1;have gp:=ae hits;clear hits BF;go_upto_region 6 with fail
 refine aI (R:=fun wx=>af wx w.heap.size #[.int .i64 5, .int .i64 nn, .string s, .slice a2 n c2, .slice (some ⟨g,0,none⟩) n c3] 36/\aD wx (w.heap.size+1) y kb kd lb ld/\aN wx (w.heap.size+2)/\af wx g cur 36/\Held (fun b=>b≠w.heap.size) w3 wx/\Ext w wx) ⟨aj,aj,aj,aj,aC,Xt⟩ ?_;clear iN lL OC hBg hc0 aw hl0;rintro wx ⟨ag,ai,ak,hBg,gy,nU⟩;have r7:Hid (∀i (h:i<l.length),V.Item wx (fun b=>S b/\b<w.heap.size) g (i*5) l[i]):=fun i h=>(gp.out i h).keep' (show (fun b=>b≠w.heap.size) g from by simp;omega) gy.kept (fun b h=>by simp;omega);obtain⟨hc0,aw,hl0⟩:=ag.see;obtain⟨hc1,aA,ay⟩:=ai.see;obtain⟨zj,zk,zl⟩:=hBg.see;have hp0:(0:Int)<= (p:Int):=by omega
 have hp1:(p:Int)<(n:Int):=by omega
 have kM:Hid (wx.there g (p*5) 5):=Gp hBg (by omega);clear zj zk;go_upto_region 8 with(refine wpList_store_mid rfl 36 _ _ rfl g (p*5) #[.int .i64 y.k, .int .i64 y.n, .string y.s, .slice kb y.keys.length kd, .slice lb y.l.length ld] (by rfl) (by rfl) (by exact kM.out) Tryz.Gq (all_oneCell_toArray (y.mH kb kd lb ld)) ?_)
 have r8:∀i (h:i<(l.set p y).length),V.Item (wx.setCells g (p*5) (y.five kb kd lb ld)) (fun b=>S b/\b<w.heap.size) g (i*5) (l.set p y)[i]:=
  Gn hBg r7.out (by rw [hll.out];exact hp) (by rw [hll.out];exact hcz) (hjn.ext nU) (hBg.gh _ _ _ _ _ _) (Held.kept (Held.gh (Held.refl _ _) (by simp;omega) _ _))
 refine aI (R:=fun wy=>af wy w.heap.size #[.int .i64 5, .int .i64 nn, .string s, .slice a2 n c2, .slice (some ⟨g,0,none⟩) n c3] 36/\aN wy (w.heap.size+2)/\ (∀i (h:i<(l.set p y).length),V.Item wy (fun b=>S b/\b<w.heap.size) g (i*5) (l.set p y)[i])/\Held (fun b=>b≠w.heap.size/\b≠g) w3 wy/\Ext w wy)
  ⟨ag.nj (by omega) _ _,ak.nj (by omega) _ _,r8,(gy.mono (fun b h=>h.1)).gh (by simp) _ _,nU.gh (by omega) _ _⟩ ?_
 clear ag ai ak hBg hc0 aw hl0 hc1 aA ay zl r8 gy nU kM gp r7;rintro wy ⟨ag,ak,hits,gy,hxy⟩;obtain⟨hc0,aw,hl0⟩:=ag.see;obtain⟨hc2,hf2,hl2⟩:=ak.see;have gp:=ae hits;clear hits;go_wp2_with fail;refine aF (h:= ?_);refine⟨a2,c2,some ⟨g,0,none⟩,c3,?_,(V.dz ..).2 ⟨?_,?_,OD.keep (Held.kept (a:=w3) (T:=fun b=>w.heap.size+3<=b/\b<w2.heap.size) ?_) (fun b h _=> .inr (by omega)), .inr ⟨g,0,rfl, .inr (by omega),fun i hi=> ?_⟩⟩,Xt⟩
 ·have e1:=hks.out
  have e2:=hll.out;simp [V.val,e1,e2]
 ·rw [V.gi,hks.out];exact gj
 ·rw [V.dZ,List.length_set,hll.out];exact jI
 ·have h1:Held (fun b=>w.heap.size+3<=b/\b<w2.heap.size) w3 wy:=gy.mono (fun b h=>by simp;omega)
  exact aC
 ·rw [Nat.zero_add]
  exact((gp.out i hi).keep' (T:=fun b=>b≠w.heap.size+2) (by simp;omega) (Held.kept (a:=wy) aC) (fun b h=>by simp;omega)).mono (fun b h=> .inl h.1)
theorem agA (nn:Int) (s:ah) (ks:List ah) (l:List V) (n:Nat) (ka:au) (kc:Nat) (la:au) (lc:Nat) (key:ah) (y:V) (kb:au) (kd:Nat) (lb:au) (ld:Nat) (S:az) (w:World) (p:Nat)
 (hks:Hid (ks.length=n)) (hll:Hid (l.length=n)) (dw:n<=1073741824) (ib:aM ka n kc) (gj:aM la n lc) (hst:bR w (fun b=>S b/\b<w.heap.size) ka ks) (ic:Rows w (fun b=>S b/\b<w.heap.size) l la) (hjn:y.In w (fun b=>S b/\b<w.heap.size) kb kd lb ld)
 (bs:∀w',Ext w w'->Calls prog 68 #[.slice ka n kc, .string key] w' fun e w''=>e= .returned (.tuple #[.int .i64 p, .bool false])/\Ext w' w'') (hp:p<=n):
 Calls prog 184 #[.agg #[.int .i64 5, .int .i64 nn, .string s, .slice ka n kc, .slice la n lc], .string key,y.val kb kd lb ld] w (qA S (.mk 5 nn s (ks.take p++key::ks.drop p) (l.take p++y::l.drop p)) w):=by
 obtain⟨news,hnl,lJ,jD⟩:=Ah ic;have kC:=ae jD;have h1c:=jD.one;have tH:news.length=n*5:=by rw [hnl,hll.out]
 have yi:n=0\/∃ad,la=some ad/\∀j u,news[j]? =some u->w.cell? (ad.add j)=some u:=by rw [<-hll.out];exact lJ
 have yj:=Gc hst;have yl:n=0\/∃ad,ka=some ad/\∀j u,(ks.map Value.string)[j]? =some u->w.cell? (ad.add j)=some u:=by rw [<-hks.out];exact yj
 have tI:∀(a:au) (m:Nat) (xs:List Value) (w':World),(m=0\/∃ad,a=some ad/\∀j u,xs[j]? =some u->w.cell? (ad.add j)=some u)->Ext w w'-> (m=0\/∃ad,a=some ad/\∀j u,xs[j]? =some u->w'.cell? (ad.add j)=some u):=by
  rintro a m xs w' (h|⟨ad,h,h'⟩) e
  ·exact .inl h
  ·exact .inr ⟨ad,h,fun j u hj=>e.cell (h' j u hj)⟩
 have ym:∀w',Ext w w'->Calls prog 36 #[.slice ka n kc] w' fun e w''=>∃a' c',e= .returned (.slice a' n c')/\aM a' n c'/\w''.ownsRow w'.heap.size 9 1 (.slice a' n c') n (ks.map Value.string)/\Ext w' w'':=
  fun w' e=>Gl ka n kc _ w' ib dw (by rw [List.length_map,hks.out];omega) (tI _ _ _ _ yl e) (px ks)
 have yn:∀w',Ext w w'->Calls prog 61 #[.slice la n lc] w' fun e w''=>∃a' c',e= .returned (.slice a' n c')/\aM a' n c'/\w''.ownsRow w'.heap.size 36 5 (.slice a' n c') n news/\Ext w' w'':=
  fun w' e=>Ai la n lc news w' gj dw tH (tI _ _ _ _ yi e) h1c
 have kS:=ae h1c;have Ae:=ae ym;have Af:=ae yn;have Bs:=ae bs;have G':=ae tH;clear ic hst jD h1c hnl lJ tH yi yj yl tI ym yn bs ib gj;go_enter func184,ntmps184;go_wp2_with (go_at_call 68;refine(Bs.out _ Xt).mono ?_;rintro e w1 ⟨rfl,h1⟩);refine aI (R:=fun wx=>af wx w.heap.size #[.int .i64 5, .int .i64 nn, .string s, .slice ka n kc, .slice la n lc] 36/\aD wx (w.heap.size+1) y kb kd lb ld/\aN wx (w.heap.size+2)/\Ext w wx) ⟨aj,aj,aj,Xt⟩ ?_;clear h1;rintro wa ⟨ag,ai,ak,aH⟩;have aq:∀w',Ext wa w'-> (w'.cell? ⟨w.heap.size,3,none⟩=some (.slice ka n kc)/\w'.cell? ⟨w.heap.size,4,none⟩=some (.slice la n lc)):=fun w' e=>⟨e.cell (ag.cells 3),e.cell (ag.cells 4)⟩;have OB:=ak.lt;obtain⟨hc0,aw,hl0⟩:=ag.see;refine fF aq (c:=7) (by kernel_rfl) ?_;refine aG 0 [7] (hS:=aq _ Xt) (h:= ?_);refine aG 1 [7] (hS:=aq _ Xt) (h:= ?_);refine aG 3 [7] (hS:=aq _ Xt) (h:= ?_);refine aG 4 [7] (hS:=aq _ Xt) (h:= ?_);(try simp only [rl]);refine aK 2 (h:=fun K hK=> ?_);(try simp only [rl]);(try go_simp);(refine(Ae.out _ Xt).mono ?_);rintro e w2 ⟨a2,c2,rfl,gj,hown2,h2⟩;(try go_simp);refine hK.out _ _ (fun _=>aq _ Xt) ?_;clear hK K;refine aG 6 [7] (hS:=aq _ Xt) (h:= ?_);(try simp only [rl]);refine aK 5 (h:=fun K hK=> ?_);(try simp only [rl]);(try go_simp);(refine(Af.out _ Xt).mono ?_);rintro e w3 ⟨a3,c3,rfl,jI,eH,h3⟩;(try go_simp);refine hK.out _ _ (fun _=>aq _ Xt) ?_;clear hK K;(try simp only [rl]);have iN:af w3 w.heap.size #[.int .i64 5, .int .i64 nn, .string s, .slice ka n kc, .slice la n lc] 36:=af.ext (w:=wa) Xt ag;have lL:aD w3 (w.heap.size+1) y kb kd lb ld:=af.ext (w:=wa) Xt ai;have OC:aN w3 (w.heap.size+2):=af.ext (w:=wa) Xt ak;have kG:wa.heap.size<=w2.heap.size:=Ext.size (a:=wa) Xt;have hx2:Ext w w2:=Xt;have hx3:Ext w w3:=Xt;have hz2:=h2.size;have hz3:=h3.size;have OD:bR w3 (fun b=>w.heap.size+3<=b/\b<w2.heap.size) a2 ks:=by obtain⟨a4,c4,cO,-,-,hst⟩:=ek.strs (base:=w.heap.size+3) (ks:=ks) ⟨hks.out,qw hown2 (by simp;omega)⟩;simp only [Value.slice.injEq,true_and] at cO;obtain⟨rfl,rfl⟩:=cO;exact hst.keep (h3.kept _) (fun b h hl=>⟨h,hl⟩)
 have dK:=ae (eD (qw (b0:=w.heap.size+3) hown2 (by simp;omega)) h3);have ql:=ae (qw (b0:=w.heap.size+3) eH (by omega));have hapart:∀g,(Value.slice a2 n c2).ownBlock=some g->g<w2.heap.size:=fun g hg=>(hown2.lt g hg).2;have EX:∀g,(Value.slice a3 n c3).ownBlock=some g->w2.heap.size<=g/\g<w3.heap.size:=fun g hg=>eH.lt g hg;have OE:=ae hapart;have IZ:=ae EX;clear hown2 eH hapart EX hc0 aw hl0 ag ai ak aq h2 h3 aH;obtain⟨hc0,aw,hl0⟩:=iN.see;refine aK 7 (h:=fun K hK=> ?_);(try simp only [rl]);go_simp;refine bz hK (h:= ?_);clear hK K;(try simp only [rl]);refine aK 8 (h:=fun K hK=> ?_);(try simp only [rl]);go_simp;refine bz hK (h:= ?_);clear hK K;(try simp only [rl]);refine aK 9 (h:=fun K hK=> ?_);(try simp only [rl]);go_simp;refine bz hK (h:= ?_);clear hK K;(try simp only [rl]);refine cZ (by kernel_rfl) ?_ _;go_upto_region 7 with fail
 refine aI (R:=fun wx=>af wx w.heap.size #[.int .i64 5, .int .i64 nn, .string s, .slice a2 n c2, .slice a3 n c3] 36/\aD wx (w.heap.size+1) y kb kd lb ld/\aN wx (w.heap.size+2)/\Held (fun b=>b≠w.heap.size) w3 wx/\Ext w wx) ⟨aj,aj,aj,aC,Xt⟩ ?_;clear iN lL OC hc0 aw hl0 OD;rintro wb ⟨ag,ai,ak,gy,aO⟩;have kT:=ae (dX dK.out (fun b hb hg=>gy.block b (by have:=(dK.out.lt b hg).1;simp;omega) hb));have rf:=ae (dX ql.out (fun b hb hg=>gy.block b (by have:=(ql.out.lt b hg).1;simp;omega) hb));have dV:Hid (∀g,(Value.slice a2 n c2).ownBlock=some g->w.heap.size+3<=g/\g<wb.heap.size):=kT.out.lt;have fP:Hid (∀g,(Value.slice a3 n c3).ownBlock=some g->w.heap.size+3<=g/\g<wb.heap.size):=rf.out.lt;have dW:Hid (∀g,(Value.slice a2 n c2).ownBlock=some g-> (Value.slice a3 n c3).ownBlock≠some g):=fun g h h'=>by have h1:=OE.out g h;have h2:=(IZ.out g h').1;omega
 obtain⟨T,hT⟩:∃T:az,T=fun b=>(Value.slice a2 n c2).ownBlock≠some b/\ (Value.slice a3 n c3).ownBlock≠some b:=⟨_,rfl⟩
 have sL:Hid (∀k,(Value.slice a2 n c2).ownBlock=some k->¬T k):=by rw [hT];exact fun k h h'=>h'.1 h
 have sM:Hid (∀k,(Value.slice a3 n c3).ownBlock=some k->¬T k):=by rw [hT];exact fun k h h'=>h'.2 h
 have hT0:Hid (∀b,b<w.heap.size+3->T b):=by rw [hT];exact fun b hb=>⟨fun h=>by have:=(dV.out b h).1;omega,fun h=>by have:=(fP.out b h).1;omega⟩
 clear hT dK ql OE IZ Ae Af Bs
 have aq:∀w',Held T wb w'-> (w'.cell? ⟨w.heap.size,3,none⟩=some (.slice a2 n c2)/\w'.cell? ⟨w.heap.size,4,none⟩=some (.slice a3 n c3)/\w'.cell? ⟨w.heap.size+1,0,none⟩=some (.int .i64 y.k)/\w'.cell? ⟨w.heap.size+1,1,none⟩=some (.int .i64 y.n)/\w'.cell? ⟨w.heap.size+1,2,none⟩=some (.string y.s)/\w'.cell? ⟨w.heap.size+1,3,none⟩=some (.slice kb y.keys.length kd)/\w'.cell? ⟨w.heap.size+1,4,none⟩=some (.slice lb y.l.length ld)):=
  fun w' e=>⟨e.kept.cell (hT0.out _ (by simp)) (ag.cells 3),e.kept.cell (hT0.out _ (by simp)) (ag.cells 4),e.kept.cell (hT0.out _ (by simp)) (ai.cells 0),e.kept.cell (hT0.out _ (by simp)) (ai.cells 1),e.kept.cell (hT0.out _ (by simp)) (ai.cells 2),e.kept.cell (hT0.out _ (by simp)) (ai.cells 3),e.kept.cell (hT0.out _ (by simp)) (ai.cells 4)⟩
 have hbl:=ak.lt;refine fF aq (c:=13) (by kernel_rfl) ?_;refine aG 0 [13] (hS:=aq _ aC) (h:= ?_);refine aG 1 [13] (hS:=aq _ aC) (h:= ?_);refine aG 2 [13] (hS:=aq _ aC) (h:= ?_);refine aG 3 [13] (hS:=aq _ aC) (h:= ?_);refine aG 6 [13] (hS:=aq _ aC) (h:= ?_);refine aG 7 [13] (hS:=aq _ aC) (h:= ?_);refine aG 8 [11,13] (hS:=aq _ aC) (h:= ?_);refine aG 9 [10,11,13] (hS:=aq _ aC) (h:= ?_);(try simp only [rl]);refine lK (rs:= [4,10]) (by kernel_rfl) (by simp) ?_;refine cj.cons (Array.getElem?_eq_getElem (by decide)) (fun K hK=> ?_) (cj.cons (Array.getElem?_eq_getElem (by decide)) (fun K hK=> ?_) cj.nil)
 · (try simp only [rl])
   go_simp;refine hK.out _ _ (fun _=>aq _ aC) ?_;clear hK K;(try simp only [rl]);refine lK (rs:= [5,10]) (by kernel_rfl) (by simp) ?_;refine cj.cons (Array.getElem?_eq_getElem (by decide)) (fun K hK=> ?_) (cj.cons (Array.getElem?_eq_getElem (by decide)) (fun K hK=> ?_) cj.nil)
   · (try simp only [rl])
     (try go_simp);(refine(vO (w.heap.size+3) n p _ _ (.slice a2 n c2) (ks.map Value.string) [.string key] _ 9 ?_ ?_ dw hp ?_ ?_ rfl (px ks) (by simp [Value.oneCell'])).mono ?_);(focus(simp;omega));(focus(exact eD kT.out Xt));(focus(exact aj));(focus(intro h;have h':=(dV.out _ h).2;(first|omega|(simp at h';omega)|(simp at h';done))));rintro e w5 ⟨g5,cY,rfl,dR,cE,fQ⟩;have eT:Held T wb w5:=Held.grown aC cE sL.out;have aZ:Ext w w5:=Ext.grown Xt cE (fun g hg=>by have:=(dV.out g hg).1;omega);have mC:=ae (dX rf.out (fun b hb hg=>Held.block (T:=fun c=>(Value.slice a2 n c2).ownBlock≠some c) (Held.grown aC cE (fun k hk h=>h hk)) b (fun h=>dW.out b h hg) hb));have fN:(Value.slice a3 n c3).ownBlock≠some g5:=fun h=>by
      rcases fQ with h'|h'
      ·exact dW.out _ h' h
      ·have h2:=(fP.out _ h).2;simp at h';omega
     have fA:wb.heap.size<=w5.heap.size:=eT.size;have yo:Hid (bR w5 (fun b=>w.heap.size+3<=b/\ (Value.slice a3 n c3).ownBlock≠some b) (some ⟨g5,0,none⟩) (ks.take p++key::ks.drop p)):=by
      obtain⟨a4,c4,cO,-,-,hst⟩:=ek.strs (base:=w.heap.size+3) (n:=n+1) (v:= .slice (some ⟨g5,0,none⟩) (n+1) cY) (ks:=ks.take p++key::ks.drop p) ⟨by simp [hks.out];omega,by simpa [List.map_take,List.map_drop] using dR⟩;simp only [Value.slice.injEq,true_and] at cO;obtain⟨rfl,rfl⟩:=cO;rcases hst with h|⟨b,o,he,h1,h2⟩
      ·exact .inl h
      ·simp only [Option.some.injEq,Addr.mk.injEq,and_true] at he
       obtain⟨rfl,rfl⟩:=he;exact .inr ⟨_,_,rfl,⟨h1,fN⟩,h2⟩
     have il:aM (some (⟨g5,0,none⟩:Addr)) (n+1) cY:=by obtain⟨a4,c4,cO,h⟩:=fT dR;simp only [Value.slice.injEq,true_and] at cO;obtain⟨rfl,rfl⟩:=cO;exact h
     clear dR fQ fN;(try go_simp);refine hK.out _ _ (fun _=>aq _ aC) ?_;clear hK K;refine aG 12 [13] (hS:=aq _ aC) (h:= ?_);(try simp only [rl]);refine aK 10 (h:=fun K hK=> ?_);(try simp only [rl]);go_simp;refine hK.out _ _ (fun _=>aq _ aC) ?_;clear hK K;(try simp only [rl]);refine aK 11 (h:=fun K hK=> ?_);(try simp only [rl]);(try go_simp);(refine(rG (w.heap.size+3) n p _ _ (.slice a3 n c3) news (y.five kb kd lb ld) _ 36 ?_ ?_ dw hp ?_ ?_ rfl kS.out (y.mH kb kd lb ld)).mono ?_);(focus(first|(simp;omega)|omega));(focus(exact eD mC.out Xt));(focus(exact aj));(focus(intro h;have h':=(fP.out _ h).2;(first|omega|(simp at h';omega)|(simp at h';done))));rintro e w6 ⟨g6,bA,rfl,bF,aY,ck⟩;have bD:Held T wb w6:=Held.grown aC aY sM.out;(try go_simp);refine hK.out _ _ (fun _=>aq _ bD) ?_;clear hK K;(try simp only [rl]);have bK:Ext w w6:=Ext.grown Xt aY (fun g hg=>by have:=(fP.out g hg).1;omega);have uF:bR w6 (fun b=>w.heap.size+3<=b) (some ⟨g5,0,none⟩) (ks.take p++key::ks.drop p):=yo.out.keep (Held.kept (T:=fun b=>w.heap.size+3<=b/\ (Value.slice a3 n c3).ownBlock≠some b) (Held.grown aC aY (fun k hk h=>h.2 hk))) (fun b h _=>h.1);have hcc:=(kC.out.keep (bK.kept _) (fun b h _=>h)).ins p (hjn.ext bK);obtain⟨g7,cur,kD,hgb,hBg,hcz,hits⟩:=qx (Nat.succ_pos n) (by simp [hll.out];omega) bF hcc;have jq:aM (some (⟨g6,0,none⟩:Addr)) (n+1) bA:=by obtain⟨a4,c4,cO,h⟩:=fT bF;simp only [Value.slice.injEq,true_and] at cO;obtain⟨rfl,rfl⟩:=cO;exact h
     simp only [Option.some.injEq,Addr.mk.injEq,and_true] at kD;obtain rfl:=kD;have ag:=af.held bD ag (hT0.out _ (by omega));have ak:=af.held bD ak (hT0.out _ (by omega));have gp:=ae hits;clear bF aY ck hcc hits hBg aq ai cE eT aZ gy aO yo;obtain⟨hc0,aw,hl0⟩:=ag.see;refine aK 13 (h:=fun K hK=> ?_);(try simp only [rl]);go_simp;refine bz hK (h:= ?_);clear hK K;(try simp only [rl]);refine aK 14 (h:=fun K hK=> ?_);(try simp only [rl]);go_simp;refine bz hK (h:= ?_);clear hK K;(try simp only [rl]);refine aK 15 (h:=fun K hK=> ?_);(try simp only [rl]);go_simp;refine bz hK (h:= ?_);clear hK K;(try simp only [rl]);refine cZ (by kernel_rfl) ?_ _;go_upto_region 8 with fail
     refine aI (R:=fun wy=>af wy w.heap.size #[.int .i64 5, .int .i64 nn, .string s, .slice (some ⟨g5,0,none⟩) (n+1) cY, .slice (some ⟨g6,0,none⟩) (n+1) bA] 36/\aN wy (w.heap.size+2)/\Held (fun b=>b≠w.heap.size) w6 wy/\Ext w wy) ⟨aj,aj,aC,Xt⟩ ?_;clear ag ak hc0 aw hl0;rintro wy ⟨ag,ak,l9,hxy⟩;obtain⟨hc0,aw,hl0⟩:=ag.see;obtain⟨hc2,hf2,hl2⟩:=ak.see;go_wp2_with fail;refine aF (h:= ?_);refine⟨some ⟨g5,0,none⟩,cY,some ⟨g6,0,none⟩,bA,?_,(V.dz ..).2 ⟨?_,?_,?_, .inr ⟨g6,0,rfl, .inr (by omega),fun i hi=> ?_⟩⟩,Xt⟩
     ·have e1:(ks.take p++key::ks.drop p).length=n+1:=by simp [hks.out];omega
      have e2:(l.take p++y::l.drop p).length=n+1:=by simp [hll.out];omega
      simp only [V.val,V.gi,V.dZ,V.uI,V.uJ,V.kz,e1,e2]
     ·have e1:(ks.take p++key::ks.drop p).length=n+1:=by simp [hks.out];omega
      rw [V.gi,e1];exact il
     ·have e2:(l.take p++y::l.drop p).length=n+1:=by simp [hll.out];omega
      rw [V.dZ,e2];exact jq
     ·have h1:Held (fun b=>w.heap.size+3<=b) w6 wy:=l9.mono (fun b h=>by simp;omega)
      exact uF.keep (Held.kept (a:=w6) (T:=fun b=>w.heap.size+3<=b) aC) (fun b h _=> .inr (by omega))
     ·rw [Nat.zero_add]
      have h1:Held (fun b=>b≠w.heap.size/\b≠w.heap.size+2) w6 wy:=l9.mono (fun b h=>h.1);exact((gp.out i hi).keep' (T:=fun b=>b≠w.heap.size/\b≠w.heap.size+2) (by simp;omega) (Held.kept (a:=w6) aC) (fun b h=>by simp;omega)).mono (fun b h=> .inl h.1)
   · (try simp only [rl])
     go_simp;refine hK.out _ _ (fun _=>aq _ aC) ?_;clear hK K;(try simp only [rl]);refine aK 5 (h:=fun K hK=> ?_);(try simp only [rl]);(try go_simp);(refine(vO (w.heap.size+3) n p _ _ (.slice a2 n c2) (ks.map Value.string) [.string key] _ 9 ?_ ?_ dw hp ?_ ?_ rfl (px ks) (by simp [Value.oneCell'])).mono ?_);(focus(simp;omega));(focus(exact eD kT.out Xt));(focus(exact aj));(focus(intro h;have h':=(dV.out _ h).2;(first|omega|(simp at h';omega)|(simp at h';done))));rintro e w5 ⟨g5,cY,rfl,dR,cE,fQ⟩;have eT:Held T wb w5:=Held.grown aC cE sL.out;have aZ:Ext w w5:=Ext.grown Xt cE (fun g hg=>by have:=(dV.out g hg).1;omega);have mC:=ae (dX rf.out (fun b hb hg=>Held.block (T:=fun c=>(Value.slice a2 n c2).ownBlock≠some c) (Held.grown aC cE (fun k hk h=>h hk)) b (fun h=>dW.out b h hg) hb));have fN:(Value.slice a3 n c3).ownBlock≠some g5:=fun h=>by
      rcases fQ with h'|h'
      ·exact dW.out _ h' h
      ·have h2:=(fP.out _ h).2;simp at h';omega
     have fA:wb.heap.size<=w5.heap.size:=eT.size;have yo:Hid (bR w5 (fun b=>w.heap.size+3<=b/\ (Value.slice a3 n c3).ownBlock≠some b) (some ⟨g5,0,none⟩) (ks.take p++key::ks.drop p)):=by
      obtain⟨a4,c4,cO,-,-,hst⟩:=ek.strs (base:=w.heap.size+3) (n:=n+1) (v:= .slice (some ⟨g5,0,none⟩) (n+1) cY) (ks:=ks.take p++key::ks.drop p) ⟨by simp [hks.out];omega,by simpa [List.map_take,List.map_drop] using dR⟩;simp only [Value.slice.injEq,true_and] at cO;obtain⟨rfl,rfl⟩:=cO;rcases hst with h|⟨b,o,he,h1,h2⟩
      ·exact .inl h
      ·simp only [Option.some.injEq,Addr.mk.injEq,and_true] at he
       obtain⟨rfl,rfl⟩:=he;exact .inr ⟨_,_,rfl,⟨h1,fN⟩,h2⟩
     have il:aM (some (⟨g5,0,none⟩:Addr)) (n+1) cY:=by obtain⟨a4,c4,cO,h⟩:=fT dR;simp only [Value.slice.injEq,true_and] at cO;obtain⟨rfl,rfl⟩:=cO;exact h
     have El:af w5 (wb.heap.size+1) (y.five kb kd lb ld).toArray 36:=af.grown (w':=w5) aj cE (fun e=>by have h':=(dV.out _ e.symm).2;omega);clear dR fQ fN;(try go_simp);refine hK.out _ _ (fun _=>aq _ aC) ?_;clear hK K;refine aG 12 [13] (hS:=aq _ aC) (h:= ?_);(try simp only [rl]);refine aK 11 (h:=fun K hK=> ?_);(try simp only [rl]);(try go_simp);(refine(rG (w.heap.size+3) n p _ _ (.slice a3 n c3) news (y.five kb kd lb ld) _ 36 ?_ ?_ dw hp ?_ ?_ rfl kS.out (y.mH kb kd lb ld)).mono ?_);(focus(first|(simp;omega)|omega));(focus(exact eD mC.out Xt));(focus(exact aj));(focus(intro h;have h':=(fP.out _ h).2;(first|omega|(simp at h';omega)|(simp at h';done))));rintro e w6 ⟨g6,bA,rfl,bF,aY,ck⟩;have bD:Held T wb w6:=Held.grown aC aY sM.out;(try go_simp);refine hK.out _ _ (fun _=>aq _ bD) ?_;clear hK K;(try simp only [rl]);have bK:Ext w w6:=Ext.grown Xt aY (fun g hg=>by have:=(fP.out g hg).1;omega);have uF:bR w6 (fun b=>w.heap.size+3<=b) (some ⟨g5,0,none⟩) (ks.take p++key::ks.drop p):=yo.out.keep (Held.kept (T:=fun b=>w.heap.size+3<=b/\ (Value.slice a3 n c3).ownBlock≠some b) (Held.grown aC aY (fun k hk h=>h.2 hk))) (fun b h _=>h.1);have hcc:=(kC.out.keep (bK.kept _) (fun b h _=>h)).ins p (hjn.ext bK);obtain⟨g7,cur,kD,hgb,hBg,hcz,hits⟩:=qx (Nat.succ_pos n) (by simp [hll.out];omega) bF hcc;have jq:aM (some (⟨g6,0,none⟩:Addr)) (n+1) bA:=by obtain⟨a4,c4,cO,h⟩:=fT bF;simp only [Value.slice.injEq,true_and] at cO;obtain⟨rfl,rfl⟩:=cO;exact h
     simp only [Option.some.injEq,Addr.mk.injEq,and_true] at kD;obtain rfl:=kD;have ag:=af.held bD ag (hT0.out _ (by omega));have ak:=af.held bD ak (hT0.out _ (by omega));have gp:=ae hits;clear bF aY ck hcc hits hBg aq ai cE eT aZ gy aO yo;obtain⟨hc0,aw,hl0⟩:=ag.see;refine aK 13 (h:=fun K hK=> ?_);(try simp only [rl]);go_simp;refine bz hK (h:= ?_);clear hK K;(try simp only [rl]);refine aK 14 (h:=fun K hK=> ?_);(try simp only [rl]);go_simp;refine bz hK (h:= ?_);clear hK K;(try simp only [rl]);refine aK 15 (h:=fun K hK=> ?_);(try simp only [rl]);go_simp;refine bz hK (h:= ?_);clear hK K;(try simp only [rl]);refine cZ (by kernel_rfl) ?_ _;go_upto_region 8 with fail
     refine aI (R:=fun wy=>af wy w.heap.size #[.int .i64 5, .int .i64 nn, .string s, .slice (some ⟨g5,0,none⟩) (n+1) cY, .slice (some ⟨g6,0,none⟩) (n+1) bA] 36/\aN wy (w.heap.size+2)/\Held (fun b=>b≠w.heap.size) w6 wy/\Ext w wy) ⟨aj,aj,aC,Xt⟩ ?_;clear ag ak hc0 aw hl0;rintro wy ⟨ag,ak,l9,hxy⟩;obtain⟨hc0,aw,hl0⟩:=ag.see;obtain⟨hc2,hf2,hl2⟩:=ak.see;go_wp2_with fail;refine aF (h:= ?_);refine⟨some ⟨g5,0,none⟩,cY,some ⟨g6,0,none⟩,bA,?_,(V.dz ..).2 ⟨?_,?_,?_, .inr ⟨g6,0,rfl, .inr (by omega),fun i hi=> ?_⟩⟩,Xt⟩
     ·have e1:(ks.take p++key::ks.drop p).length=n+1:=by simp [hks.out];omega
      have e2:(l.take p++y::l.drop p).length=n+1:=by simp [hll.out];omega
      simp only [V.val,V.gi,V.dZ,V.uI,V.uJ,V.kz,e1,e2]
     ·have e1:(ks.take p++key::ks.drop p).length=n+1:=by simp [hks.out];omega
      rw [V.gi,e1];exact il
     ·have e2:(l.take p++y::l.drop p).length=n+1:=by simp [hll.out];omega
      rw [V.dZ,e2];exact jq
     ·have h1:Held (fun b=>w.heap.size+3<=b) w6 wy:=l9.mono (fun b h=>by simp;omega)
      exact uF.keep (Held.kept (a:=w6) (T:=fun b=>w.heap.size+3<=b) aC) (fun b h _=> .inr (by omega))
     ·rw [Nat.zero_add]
      have h1:Held (fun b=>b≠w.heap.size/\b≠w.heap.size+2) w6 wy:=l9.mono (fun b h=>h.1);exact((gp.out i hi).keep' (T:=fun b=>b≠w.heap.size/\b≠w.heap.size+2) (by simp;omega) (Held.kept (a:=w6) aC) (fun b h=>by simp;omega)).mono (fun b h=> .inl h.1)
 · (try simp only [rl])
   go_simp;refine hK.out _ _ (fun _=>aq _ aC) ?_;clear hK K;(try simp only [rl]);refine aK 4 (h:=fun K hK=> ?_);(try simp only [rl]);go_simp;refine hK.out _ _ (fun _=>aq _ aC) ?_;clear hK K;(try simp only [rl]);refine aK 5 (h:=fun K hK=> ?_);(try simp only [rl]);(try go_simp);(refine(vO (w.heap.size+3) n p _ _ (.slice a2 n c2) (ks.map Value.string) [.string key] _ 9 ?_ ?_ dw hp ?_ ?_ rfl (px ks) (by simp [Value.oneCell'])).mono ?_);(focus(simp;omega));(focus(exact eD kT.out Xt));(focus(exact aj));(focus(intro h;have h':=(dV.out _ h).2;(first|omega|(simp at h';omega)|(simp at h';done))));rintro e w5 ⟨g5,cY,rfl,dR,cE,fQ⟩;have eT:Held T wb w5:=Held.grown aC cE sL.out;have aZ:Ext w w5:=Ext.grown Xt cE (fun g hg=>by have:=(dV.out g hg).1;omega);have mC:=ae (dX rf.out (fun b hb hg=>Held.block (T:=fun c=>(Value.slice a2 n c2).ownBlock≠some c) (Held.grown aC cE (fun k hk h=>h hk)) b (fun h=>dW.out b h hg) hb));have fN:(Value.slice a3 n c3).ownBlock≠some g5:=fun h=>by
    rcases fQ with h'|h'
    ·exact dW.out _ h' h
    ·have h2:=(fP.out _ h).2;simp at h';omega
   have fA:wb.heap.size<=w5.heap.size:=eT.size;have yo:Hid (bR w5 (fun b=>w.heap.size+3<=b/\ (Value.slice a3 n c3).ownBlock≠some b) (some ⟨g5,0,none⟩) (ks.take p++key::ks.drop p)):=by
    obtain⟨a4,c4,cO,-,-,hst⟩:=ek.strs (base:=w.heap.size+3) (n:=n+1) (v:= .slice (some ⟨g5,0,none⟩) (n+1) cY) (ks:=ks.take p++key::ks.drop p) ⟨by simp [hks.out];omega,by simpa [List.map_take,List.map_drop] using dR⟩;simp only [Value.slice.injEq,true_and] at cO;obtain⟨rfl,rfl⟩:=cO;rcases hst with h|⟨b,o,he,h1,h2⟩
    ·exact .inl h
    ·simp only [Option.some.injEq,Addr.mk.injEq,and_true] at he
     obtain⟨rfl,rfl⟩:=he;exact .inr ⟨_,_,rfl,⟨h1,fN⟩,h2⟩
   have il:aM (some (⟨g5,0,none⟩:Addr)) (n+1) cY:=by obtain⟨a4,c4,cO,h⟩:=fT dR;simp only [Value.slice.injEq,true_and] at cO;obtain⟨rfl,rfl⟩:=cO;exact h
   have El:af w5 (wb.heap.size) (y.five kb kd lb ld).toArray 36:=af.grown (w':=w5) aj cE (fun e=>by have h':=(dV.out _ e.symm).2;omega);clear dR fQ fN;(try go_simp);refine hK.out _ _ (fun _=>aq _ aC) ?_;clear hK K;refine aG 12 [13] (hS:=aq _ aC) (h:= ?_);(try simp only [rl]);refine aK 11 (h:=fun K hK=> ?_);(try simp only [rl]);(try go_simp);(refine(rG (w.heap.size+3) n p _ _ (.slice a3 n c3) news (y.five kb kd lb ld) _ 36 ?_ ?_ dw hp ?_ ?_ rfl kS.out (y.mH kb kd lb ld)).mono ?_);(focus(first|(simp;omega)|omega));(focus(exact eD mC.out Xt));(focus(exact aj));(focus(intro h;have h':=(fP.out _ h).2;(first|omega|(simp at h';omega)|(simp at h';done))));rintro e w6 ⟨g6,bA,rfl,bF,aY,ck⟩;have bD:Held T wb w6:=Held.grown aC aY sM.out;(try go_simp);refine hK.out _ _ (fun _=>aq _ bD) ?_;clear hK K;(try simp only [rl]);have bK:Ext w w6:=Ext.grown Xt aY (fun g hg=>by have:=(fP.out g hg).1;omega);have uF:bR w6 (fun b=>w.heap.size+3<=b) (some ⟨g5,0,none⟩) (ks.take p++key::ks.drop p):=yo.out.keep (Held.kept (T:=fun b=>w.heap.size+3<=b/\ (Value.slice a3 n c3).ownBlock≠some b) (Held.grown aC aY (fun k hk h=>h.2 hk))) (fun b h _=>h.1);have hcc:=(kC.out.keep (bK.kept _) (fun b h _=>h)).ins p (hjn.ext bK);obtain⟨g7,cur,kD,hgb,hBg,hcz,hits⟩:=qx (Nat.succ_pos n) (by simp [hll.out];omega) bF hcc;have jq:aM (some (⟨g6,0,none⟩:Addr)) (n+1) bA:=by obtain⟨a4,c4,cO,h⟩:=fT bF;simp only [Value.slice.injEq,true_and] at cO;obtain⟨rfl,rfl⟩:=cO;exact h
   simp only [Option.some.injEq,Addr.mk.injEq,and_true] at kD;obtain rfl:=kD;have ag:=af.held bD ag (hT0.out _ (by omega));have ak:=af.held bD ak (hT0.out _ (by omega));have gp:=ae hits;clear bF aY ck hcc hits hBg aq ai cE eT aZ gy aO yo;obtain⟨hc0,aw,hl0⟩:=ag.see;refine aK 13 (h:=fun K hK=> ?_);(try simp only [rl]);go_simp;refine bz hK (h:= ?_);clear hK K;(try simp only [rl]);refine aK 14 (h:=fun K hK=> ?_);(try simp only [rl]);go_simp;refine bz hK (h:= ?_);clear hK K;(try simp only [rl]);refine aK 15 (h:=fun K hK=> ?_);(try simp only [rl]);go_simp;refine bz hK (h:= ?_);clear hK K;(try simp only [rl]);refine cZ (by kernel_rfl) ?_ _;go_upto_region 8 with fail
   refine aI (R:=fun wy=>af wy w.heap.size #[.int .i64 5, .int .i64 nn, .string s, .slice (some ⟨g5,0,none⟩) (n+1) cY, .slice (some ⟨g6,0,none⟩) (n+1) bA] 36/\aN wy (w.heap.size+2)/\Held (fun b=>b≠w.heap.size) w6 wy/\Ext w wy) ⟨aj,aj,aC,Xt⟩ ?_;clear ag ak hc0 aw hl0;rintro wy ⟨ag,ak,l9,hxy⟩;obtain⟨hc0,aw,hl0⟩:=ag.see;obtain⟨hc2,hf2,hl2⟩:=ak.see;go_wp2_with fail;refine aF (h:= ?_);refine⟨some ⟨g5,0,none⟩,cY,some ⟨g6,0,none⟩,bA,?_,(V.dz ..).2 ⟨?_,?_,?_, .inr ⟨g6,0,rfl, .inr (by omega),fun i hi=> ?_⟩⟩,Xt⟩
   ·have e1:(ks.take p++key::ks.drop p).length=n+1:=by simp [hks.out];omega
    have e2:(l.take p++y::l.drop p).length=n+1:=by simp [hll.out];omega
    simp only [V.val,V.gi,V.dZ,V.uI,V.uJ,V.kz,e1,e2]
   ·have e1:(ks.take p++key::ks.drop p).length=n+1:=by simp [hks.out];omega
    rw [V.gi,e1];exact il
   ·have e2:(l.take p++y::l.drop p).length=n+1:=by simp [hll.out];omega
    rw [V.dZ,e2];exact jq
   ·have h1:Held (fun b=>w.heap.size+3<=b) w6 wy:=l9.mono (fun b h=>by simp;omega)
    exact uF.keep (Held.kept (a:=w6) (T:=fun b=>w.heap.size+3<=b) aC) (fun b h _=> .inr (by omega))
   ·rw [Nat.zero_add]
    have h1:Held (fun b=>b≠w.heap.size/\b≠w.heap.size+2) w6 wy:=l9.mono (fun b h=>h.1);exact((gp.out i hi).keep' (T:=fun b=>b≠w.heap.size/\b≠w.heap.size+2) (by simp;omega) (Held.kept (a:=w6) aC) (fun b h=>by simp;omega)).mono (fun b h=> .inl h.1)
theorem agB (x:V) (ka:au) (kc:Nat) (la:au) (lc:Nat) (key:ah) (y:V) (kb:au) (kd:Nat) (lb:au) (ld:Nat) (S:az) (w:World) (hx:¬(x.k=5/\x.keys.length=x.l.length)) (hin:x.In w S ka kc la lc):
 Calls prog 184 #[x.val ka kc la lc, .string key,y.val kb kd lb ld] w (qA S x w):=by
 by_cases h5:x.k=5
 ·have iq:x.keys.length≠x.l.length:=fun h=>hx ⟨h5,h⟩
  have kA:(x.k==5)=true:=by simpa using h5
  have I0:(x.k !=5)=false:=by simpa using h5
  have hlen:((x.keys.length:Int)==(x.l.length:Int))=false:=by simpa using fun h=>iq (by omega)
  have WL:((x.keys.length:Int) !=(x.l.length:Int))=true:=by simpa using fun h=>iq (by omega)
  clear iq h5 hx;go_enter func184,ntmps184;go_wp2_with fail;refine aF (h:= ?_);exact⟨ka,kc,la,lc,rfl,(hin.ext Xt).mono (fun b h _=> .inl h),Xt⟩
 ·have kA:(x.k==5)=false:=by simpa using h5
  have I0:(x.k !=5)=true:=by simpa using h5
  clear h5 hx;go_enter func184,ntmps184;go_wp2_with fail;refine aF (h:= ?_);exact⟨ka,kc,la,lc,rfl,(hin.ext Xt).mono (fun b h _=> .inl h),Xt⟩
theorem uH (x:V) (ka:au) (kc:Nat) (la:au) (lc:Nat) (key:ah) (y:V) (kb:au) (kd:Nat) (lb:au) (ld:Nat) (S:az) (w:World) (hsz:x.size<=1073741824) (hr:cz x.keys) (hin:x.In w S ka kc la lc) (hjn:y.In w S kb kd lb ld):
 Calls prog 184 #[x.val ka kc la lc, .string key,y.val kb kd lb ld] w (qA S (x.put key y) w):=by
 by_cases hx:x.k=5/\x.keys.length=x.l.length
 ·have hin':=hin.mono (T:=fun b=>S b/\b<w.heap.size) fun b h hl=>⟨h,hl⟩
  have WM:=hjn.mono (T:=fun b=>S b/\b<w.heap.size) fun b h hl=>⟨h,hl⟩;obtain⟨h1,h2,h3,h4⟩:=(V.dz ..).1 hin';have hl:=x.kB;have hle:=tW x.keys key;have hv:x.val ka kc la lc= .agg #[.int .i64 5, .int .i64 x.n, .string x.s, .slice ka x.l.length kc, .slice la x.l.length lc]:=by rw [V.val,hx.1,hx.2]
  rw [hx.2] at h1;rw [hv]
  cases hb:hasB x.keys key with
  |true=>
   rw [y7 hx hb,hx.1];refine agz x.n x.s x.keys x.l x.l.length ka kc la lc key y kb kd lb ld S w (posOf x.keys key) hx.2 rfl (by omega) h1 h2 h3 h4 WM ?_ (by have:=tR hb;omega);intro w' e;have:=Ao ka x.l.length kc x.keys _ key w' hx.2 (h3.ext e) hr (by omega);rw [hb] at this;exact this
  |false=>
   rw [y8 hx hb,hx.1];refine agA x.n x.s x.keys x.l x.l.length ka kc la lc key y kb kd lb ld S w (posOf x.keys key) hx.2 rfl (by omega) h1 h2 h3 h4 WM ?_ (by omega);intro w' e;have:=Ao ka x.l.length kc x.keys _ key w' hx.2 (h3.ext e) hr (by omega);rw [hb] at this;exact this
 ·rw [Qx hx]
  exact agB x ka kc la lc key y kb kd lb ld S w hx hin
end Go.Proofs.YtlcebdaghmdkeabGreatDoor
