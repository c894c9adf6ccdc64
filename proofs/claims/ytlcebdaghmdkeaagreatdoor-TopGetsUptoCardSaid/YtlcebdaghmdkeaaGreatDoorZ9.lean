import Derived.Deep.CutBlock
import Derived.Test.YtlcebdaghmdkeaaGreatDoorZ7
set_option linter.all false
set_option maxRecDepth 100000
set_option maxHeartbeats 64000000
namespace Go.Proofs.YtlcebdaghmdkeaaGreatDoor
open Go.Proofs.Tryz
open Go.RowKit
attribute [local go_sem↓] Go.wp_at_zero Go.wp_at_succ
theorem agz (nn:Int) (s:ah) (ks:List ah) (l:List V) (n:Nat) (ka:aq) (kc:Nat) (la:aq) (lc:Nat) (key:ah) (y:V) (kb:aq) (kd:Nat) (lb:aq) (ld:Nat) (S:aA) (w:World) (p:Nat)
 (hks:Hid (ks.length=n)) (hll:Hid (l.length=n)) (dx:n<=1073741824) (ib:aO ka n kc) (gj:aO la n lc) (hst:bT w (fun b=>S b/\b<w.heap.size) ka ks) (ic:Rows w (fun b=>S b/\b<w.heap.size) l la) (hjn:y.In w (fun b=>S b/\b<w.heap.size) kb kd lb ld)
 (bs:∀w',Ext w w'->Calls prog 140 #[.slice ka n kc, .string key] w' fun e w''=>e= .returned (.tuple #[.int .i64 p, .bool true])/\Ext w' w'') (hp:p<n):
 Calls prog 124 #[.agg #[.int .i64 5, .int .i64 nn, .string s, .slice ka n kc, .slice la n lc], .string key,y.val kb kd lb ld] w (qm S (.mk 5 nn s ks (l.set p y)) w):=by
 obtain⟨news,hnl,lM,jG⟩:=zW ic;have kJ:=ae jG;have h1c:=jG.one;have tC:news.length=n*5:=by rw [hnl,hll.out]
 have xR:n=0\/∃ad,la=some ad/\∀j u,news[j]? =some u->w.cell? (ad.add j)=some u:=by rw [<-hll.out];exact lM
 have xS:=Gn hst;have xU:n=0\/∃ad,ka=some ad/\∀j u,(ks.map Value.string)[j]? =some u->w.cell? (ad.add j)=some u:=by rw [<-hks.out];exact xS
 have tD:∀(a:aq) (m:Nat) (xs:List Value) (w':World),(m=0\/∃ad,a=some ad/\∀j u,xs[j]? =some u->w.cell? (ad.add j)=some u)->Ext w w'-> (m=0\/∃ad,a=some ad/\∀j u,xs[j]? =some u->w'.cell? (ad.add j)=some u):=by
  rintro a m xs w' (h|⟨ad,h,h'⟩) e
  ·exact .inl h
  ·exact .inr ⟨ad,h,fun j u hj=>e.cell (h' j u hj)⟩
 have xV:∀w',Ext w w'->Calls prog 26 #[.slice ka n kc] w' fun e w''=>∃a' c',e= .returned (.slice a' n c')/\aO a' n c'/\w''.ownsRow w'.heap.size 9 1 (.slice a' n c') n (ks.map Value.string)/\Ext w' w'':=
  fun w' e=>Gx ka n kc _ w' ib dx (by rw [List.length_map,hks.out];omega) (tD _ _ _ _ xU e) (pz ks)
 have xW:∀w',Ext w w'->Calls prog 41 #[.slice la n lc] w' fun e w''=>∃a' c',e= .returned (.slice a' n c')/\aO a' n c'/\w''.ownsRow w'.heap.size 41 5 (.slice a' n c') n news/\Ext w' w'':=
  fun w' e=>zX la n lc news w' gj dx tC (tD _ _ _ _ xR e) h1c
 have lh:=ae h1c;have zS:=ae xV;have zT:=ae xW;have Bs:=ae bs;have Ib:=ae tC;clear ic hst jG h1c hnl lM tC xR xS xU tD xV xW bs ib gj;go_enter func124,ntmps124;go_wp2_with (go_at_call 140;refine(Bs.out _ Xt).mono ?_;rintro e w1 ⟨rfl,h1⟩);refine aI (R:=fun wx=>af wx w.heap.size #[.int .i64 5, .int .i64 nn, .string s, .slice ka n kc, .slice la n lc] 41/\aD wx (w.heap.size+1) y kb kd lb ld/\aN wx (w.heap.size+2)/\Ext w wx) ⟨aj,aj,aj,Xt⟩ ?_;clear h1;rintro wa ⟨ag,ai,ak,aF⟩;have au:∀w',Ext wa w'-> (w'.cell? ⟨w.heap.size,3,none⟩=some (.slice ka n kc)/\w'.cell? ⟨w.heap.size,4,none⟩=some (.slice la n lc)):=fun w' e=>⟨e.cell (ag.cells 3),e.cell (ag.cells 4)⟩;have Ol:=ak.lt;obtain⟨hc0,aw,hl0⟩:=ag.see;refine fN au (c:=7) (by kernel_rfl) ?_;refine aH 0 [7] (hS:=au _ Xt) (h:= ?_);refine aH 1 [7] (hS:=au _ Xt) (h:= ?_);refine aH 3 [7] (hS:=au _ Xt) (h:= ?_);refine aH 4 [7] (hS:=au _ Xt) (h:= ?_);(try simp only [rl]);refine aM 2 (h:=fun K hK=> ?_);(try simp only [rl]);(try go_simp);(refine(zS.out _ Xt).mono ?_);rintro e w2 ⟨a2,c2,rfl,gj,hown2,h2⟩;(try go_simp);refine hK.out _ _ (fun _=>au _ Xt) ?_;clear hK K;refine aH 6 [7] (hS:=au _ Xt) (h:= ?_);(try simp only [rl]);refine aM 5 (h:=fun K hK=> ?_);(try simp only [rl]);(try go_simp);(refine(zT.out _ Xt).mono ?_);rintro e w3 ⟨a3,c3,rfl,gK,eH,h3⟩;(try go_simp);refine hK.out _ _ (fun _=>au _ Xt) ?_;clear hK K;(try simp only [rl]);have iQ:af w3 w.heap.size #[.int .i64 5, .int .i64 nn, .string s, .slice ka n kc, .slice la n lc] 41:=af.ext (w:=wa) Xt ag;have lN:aD w3 (w.heap.size+1) y kb kd lb ld:=af.ext (w:=wa) Xt ai;have Om:aN w3 (w.heap.size+2):=af.ext (w:=wa) Xt ak;have mo:wa.heap.size<=w2.heap.size:=Ext.size (a:=wa) Xt;have hx2:Ext w w2:=Xt;have hx3:Ext w w3:=Xt;have hz2:=h2.size;have hz3:=h3.size;have Oo:bT w3 (fun b=>w.heap.size+3<=b/\b<w2.heap.size) a2 ks:=by obtain⟨a4,c4,cU,-,-,hst⟩:=ek.strs (base:=w.heap.size+3) (ks:=ks) ⟨hks.out,qd hown2 (by simp;omega)⟩;simp only [Value.slice.injEq,true_and] at cU;obtain⟨rfl,rfl⟩:=cU;exact hst.keep (h3.kept _) (fun b h hl=>⟨h,hl⟩)
 have dL:=ae (eT (qd (b0:=w.heap.size+3) hown2 (by simp;omega)) h3);have p6:=ae (qd (b0:=w.heap.size+3) eH (by omega));have hapart:∀g,(Value.slice a2 n c2).ownBlock=some g->g<w2.heap.size:=fun g hg=>(hown2.lt g hg).2;have EZ:∀g,(Value.slice a3 n c3).ownBlock=some g->w2.heap.size<=g/\g<w3.heap.size:=fun g hg=>eH.lt g hg;have Oq:=ae hapart;have I4:=ae EZ;clear hown2 eH hapart EZ hc0 aw hl0 ag ai ak au h2 h3 aF;obtain⟨hc0,aw,hl0⟩:=iQ.see;refine aM 7 (h:=fun K hK=> ?_);(try simp only [rl]);go_simp;refine bD hK (h:= ?_);clear hK K;(try simp only [rl]);refine aM 8 (h:=fun K hK=> ?_);(try simp only [rl]);go_simp;refine bD hK (h:= ?_);clear hK K;(try simp only [rl]);refine aM 9 (h:=fun K hK=> ?_);(try simp only [rl]);go_simp;refine bD hK (h:= ?_);clear hK K;(try simp only [rl]);refine dE (by kernel_rfl) ?_ _;have Bw:=kJ.out.keep (hx3.kept _) (fun b h _=>h);obtain⟨g,cur,rfl,hgb,hBg,hcz,hits⟩:=qg (by omega) hll.out p6.out Bw;have hg2:=(I4.out g rfl).1;have gp:=ae hits;clear hits Bw;go_upto_region 6 with fail
 refine aI (R:=fun wx=>af wx w.heap.size #[.int .i64 5, .int .i64 nn, .string s, .slice a2 n c2, .slice (some ⟨g,0,none⟩) n c3] 41/\aD wx (w.heap.size+1) y kb kd lb ld/\aN wx (w.heap.size+2)/\af wx g cur 41/\Held (fun b=>b≠w.heap.size) w3 wx/\Ext w wx) ⟨aj,aj,aj,aj,aC,Xt⟩ ?_;clear iQ lN Om hBg hc0 aw hl0;rintro wx ⟨ag,ai,ak,hBg,iq,qH⟩;have rV:Hid (∀i (h:i<l.length),V.Item wx (fun b=>S b/\b<w.heap.size) g (i*5) l[i]):=fun i h=>(gp.out i h).keep' (show (fun b=>b≠w.heap.size) g from by simp;omega) iq.kept (fun b h=>by simp;omega);obtain⟨hc0,aw,hl0⟩:=ag.see;obtain⟨hc1,aB,az⟩:=ai.see;obtain⟨yT,yU,yV⟩:=hBg.see;have hp0:(0:Int)<= (p:Int):=by omega
 have hp1:(p:Int)<(n:Int):=by omega
 have jP:Hid (wx.there g (p*5) 5):=GA hBg (by omega);clear yT yU;go_upto_region 8 with(refine wpList_store_mid rfl 41 _ _ rfl g (p*5) #[.int .i64 y.k, .int .i64 y.n, .string y.s, .slice kb y.keys.length kd, .slice lb y.l.length ld] (by rfl) (by rfl) (by exact jP.out) Tryz.GD (all_oneCell_toArray (y.mR kb kd lb ld)) ?_)
 have rW:∀i (h:i<(l.set p y).length),V.Item (wx.setCells g (p*5) (y.five kb kd lb ld)) (fun b=>S b/\b<w.heap.size) g (i*5) (l.set p y)[i]:=
  Gz hBg rV.out (by rw [hll.out];exact hp) (by rw [hll.out];exact hcz) (hjn.ext qH) (hBg.kA _ _ _ _ _ _) (Held.kept (Held.kA (Held.refl _ _) (by simp;omega) _ _))
 refine aI (R:=fun wy=>af wy w.heap.size #[.int .i64 5, .int .i64 nn, .string s, .slice a2 n c2, .slice (some ⟨g,0,none⟩) n c3] 41/\aN wy (w.heap.size+2)/\ (∀i (h:i<(l.set p y).length),V.Item wy (fun b=>S b/\b<w.heap.size) g (i*5) (l.set p y)[i])/\Held (fun b=>b≠w.heap.size/\b≠g) w3 wy/\Ext w wy)
  ⟨ag.nG (by omega) _ _,ak.nG (by omega) _ _,rW,(iq.mono (fun b h=>h.1)).kA (by simp) _ _,qH.kA (by omega) _ _⟩ ?_
 clear ag ai ak hBg hc0 aw hl0 hc1 aB az yV rW iq qH jP gp rV;rintro wy ⟨ag,ak,hits,iq,hxy⟩;obtain⟨hc0,aw,hl0⟩:=ag.see;obtain⟨hc2,hf2,hl2⟩:=ak.see;have gp:=ae hits;clear hits;go_wp2_with fail;refine aG (h:= ?_);refine⟨a2,c2,some ⟨g,0,none⟩,c3,?_,(V.dD ..).2 ⟨?_,?_,Oo.keep (Held.kept (a:=w3) (T:=fun b=>w.heap.size+3<=b/\b<w2.heap.size) ?_) (fun b h _=> .inr (by omega)), .inr ⟨g,0,rfl, .inr (by omega),fun i hi=> ?_⟩⟩,Xt⟩
 ·have e1:=hks.out
  have e2:=hll.out;simp [V.val,e1,e2]
 ·rw [V.gi,hks.out];exact gj
 ·rw [V.ej,List.length_set,hll.out];exact gK
 ·have h1:Held (fun b=>w.heap.size+3<=b/\b<w2.heap.size) w3 wy:=iq.mono (fun b h=>by simp;omega)
  exact aC
 ·rw [Nat.zero_add]
  exact((gp.out i hi).keep' (T:=fun b=>b≠w.heap.size+2) (by simp;omega) (Held.kept (a:=wy) aC) (fun b h=>by simp;omega)).mono (fun b h=> .inl h.1)
theorem agA (nn:Int) (s:ah) (ks:List ah) (l:List V) (n:Nat) (ka:aq) (kc:Nat) (la:aq) (lc:Nat) (key:ah) (y:V) (kb:aq) (kd:Nat) (lb:aq) (ld:Nat) (S:aA) (w:World) (p:Nat)
 (hks:Hid (ks.length=n)) (hll:Hid (l.length=n)) (dx:n<=1073741824) (ib:aO ka n kc) (gj:aO la n lc) (hst:bT w (fun b=>S b/\b<w.heap.size) ka ks) (ic:Rows w (fun b=>S b/\b<w.heap.size) l la) (hjn:y.In w (fun b=>S b/\b<w.heap.size) kb kd lb ld)
 (bs:∀w',Ext w w'->Calls prog 140 #[.slice ka n kc, .string key] w' fun e w''=>e= .returned (.tuple #[.int .i64 p, .bool false])/\Ext w' w'') (hp:p<=n):
 Calls prog 124 #[.agg #[.int .i64 5, .int .i64 nn, .string s, .slice ka n kc, .slice la n lc], .string key,y.val kb kd lb ld] w (qm S (.mk 5 nn s (ks.take p++key::ks.drop p) (l.take p++y::l.drop p)) w):=by
 obtain⟨news,hnl,lM,jG⟩:=zW ic;have kJ:=ae jG;have h1c:=jG.one;have tC:news.length=n*5:=by rw [hnl,hll.out]
 have xR:n=0\/∃ad,la=some ad/\∀j u,news[j]? =some u->w.cell? (ad.add j)=some u:=by rw [<-hll.out];exact lM
 have xS:=Gn hst;have xU:n=0\/∃ad,ka=some ad/\∀j u,(ks.map Value.string)[j]? =some u->w.cell? (ad.add j)=some u:=by rw [<-hks.out];exact xS
 have tD:∀(a:aq) (m:Nat) (xs:List Value) (w':World),(m=0\/∃ad,a=some ad/\∀j u,xs[j]? =some u->w.cell? (ad.add j)=some u)->Ext w w'-> (m=0\/∃ad,a=some ad/\∀j u,xs[j]? =some u->w'.cell? (ad.add j)=some u):=by
  rintro a m xs w' (h|⟨ad,h,h'⟩) e
  ·exact .inl h
  ·exact .inr ⟨ad,h,fun j u hj=>e.cell (h' j u hj)⟩
 have xV:∀w',Ext w w'->Calls prog 26 #[.slice ka n kc] w' fun e w''=>∃a' c',e= .returned (.slice a' n c')/\aO a' n c'/\w''.ownsRow w'.heap.size 9 1 (.slice a' n c') n (ks.map Value.string)/\Ext w' w'':=
  fun w' e=>Gx ka n kc _ w' ib dx (by rw [List.length_map,hks.out];omega) (tD _ _ _ _ xU e) (pz ks)
 have xW:∀w',Ext w w'->Calls prog 41 #[.slice la n lc] w' fun e w''=>∃a' c',e= .returned (.slice a' n c')/\aO a' n c'/\w''.ownsRow w'.heap.size 41 5 (.slice a' n c') n news/\Ext w' w'':=
  fun w' e=>zX la n lc news w' gj dx tC (tD _ _ _ _ xR e) h1c
 have lh:=ae h1c;have zS:=ae xV;have zT:=ae xW;have Bs:=ae bs;have Ib:=ae tC;clear ic hst jG h1c hnl lM tC xR xS xU tD xV xW bs ib gj;go_enter func124,ntmps124;go_wp2_with (go_at_call 140;refine(Bs.out _ Xt).mono ?_;rintro e w1 ⟨rfl,h1⟩);refine aI (R:=fun wx=>af wx w.heap.size #[.int .i64 5, .int .i64 nn, .string s, .slice ka n kc, .slice la n lc] 41/\aD wx (w.heap.size+1) y kb kd lb ld/\aN wx (w.heap.size+2)/\Ext w wx) ⟨aj,aj,aj,Xt⟩ ?_;clear h1;rintro wa ⟨ag,ai,ak,aF⟩;have au:∀w',Ext wa w'-> (w'.cell? ⟨w.heap.size,3,none⟩=some (.slice ka n kc)/\w'.cell? ⟨w.heap.size,4,none⟩=some (.slice la n lc)):=fun w' e=>⟨e.cell (ag.cells 3),e.cell (ag.cells 4)⟩;have Ol:=ak.lt;obtain⟨hc0,aw,hl0⟩:=ag.see;refine fN au (c:=7) (by kernel_rfl) ?_;refine aH 0 [7] (hS:=au _ Xt) (h:= ?_);refine aH 1 [7] (hS:=au _ Xt) (h:= ?_);refine aH 3 [7] (hS:=au _ Xt) (h:= ?_);refine aH 4 [7] (hS:=au _ Xt) (h:= ?_);(try simp only [rl]);refine aM 2 (h:=fun K hK=> ?_);(try simp only [rl]);(try go_simp);(refine(zS.out _ Xt).mono ?_);rintro e w2 ⟨a2,c2,rfl,gj,hown2,h2⟩;(try go_simp);refine hK.out _ _ (fun _=>au _ Xt) ?_;clear hK K;refine aH 6 [7] (hS:=au _ Xt) (h:= ?_);(try simp only [rl]);refine aM 5 (h:=fun K hK=> ?_);(try simp only [rl]);(try go_simp);(refine(zT.out _ Xt).mono ?_);rintro e w3 ⟨a3,c3,rfl,gK,eH,h3⟩;(try go_simp);refine hK.out _ _ (fun _=>au _ Xt) ?_;clear hK K;(try simp only [rl]);have iQ:af w3 w.heap.size #[.int .i64 5, .int .i64 nn, .string s, .slice ka n kc, .slice la n lc] 41:=af.ext (w:=wa) Xt ag;have lN:aD w3 (w.heap.size+1) y kb kd lb ld:=af.ext (w:=wa) Xt ai;have Om:aN w3 (w.heap.size+2):=af.ext (w:=wa) Xt ak;have mo:wa.heap.size<=w2.heap.size:=Ext.size (a:=wa) Xt;have hx2:Ext w w2:=Xt;have hx3:Ext w w3:=Xt;have hz2:=h2.size;have hz3:=h3.size;have Oo:bT w3 (fun b=>w.heap.size+3<=b/\b<w2.heap.size) a2 ks:=by obtain⟨a4,c4,cU,-,-,hst⟩:=ek.strs (base:=w.heap.size+3) (ks:=ks) ⟨hks.out,qd hown2 (by simp;omega)⟩;simp only [Value.slice.injEq,true_and] at cU;obtain⟨rfl,rfl⟩:=cU;exact hst.keep (h3.kept _) (fun b h hl=>⟨h,hl⟩)
 have dL:=ae (eT (qd (b0:=w.heap.size+3) hown2 (by simp;omega)) h3);have p6:=ae (qd (b0:=w.heap.size+3) eH (by omega));have hapart:∀g,(Value.slice a2 n c2).ownBlock=some g->g<w2.heap.size:=fun g hg=>(hown2.lt g hg).2;have EZ:∀g,(Value.slice a3 n c3).ownBlock=some g->w2.heap.size<=g/\g<w3.heap.size:=fun g hg=>eH.lt g hg;have Oq:=ae hapart;have I4:=ae EZ;clear hown2 eH hapart EZ hc0 aw hl0 ag ai ak au h2 h3 aF;obtain⟨hc0,aw,hl0⟩:=iQ.see;refine aM 7 (h:=fun K hK=> ?_);(try simp only [rl]);go_simp;refine bD hK (h:= ?_);clear hK K;(try simp only [rl]);refine aM 8 (h:=fun K hK=> ?_);(try simp only [rl]);go_simp;refine bD hK (h:= ?_);clear hK K;(try simp only [rl]);refine aM 9 (h:=fun K hK=> ?_);(try simp only [rl]);go_simp;refine bD hK (h:= ?_);clear hK K;(try simp only [rl]);refine dE (by kernel_rfl) ?_ _;go_upto_region 7 with fail
 refine aI (R:=fun wx=>af wx w.heap.size #[.int .i64 5, .int .i64 nn, .string s, .slice a2 n c2, .slice a3 n c3] 41/\aD wx (w.heap.size+1) y kb kd lb ld/\aN wx (w.heap.size+2)/\Held (fun b=>b≠w.heap.size) w3 wx/\Ext w wx) ⟨aj,aj,aj,aC,Xt⟩ ?_;clear iQ lN Om hc0 aw hl0 Oo;rintro wb ⟨ag,ai,ak,iq,aP⟩;have lj:=ae (eo dL.out (fun b hb hg=>iq.block b (by have:=(dL.out.lt b hg).1;simp;omega) hb));have qR:=ae (eo p6.out (fun b hb hg=>iq.block b (by have:=(p6.out.lt b hg).1;simp;omega) hb));have dV:Hid (∀g,(Value.slice a2 n c2).ownBlock=some g->w.heap.size+3<=g/\g<wb.heap.size):=lj.out.lt;have fI:Hid (∀g,(Value.slice a3 n c3).ownBlock=some g->w.heap.size+3<=g/\g<wb.heap.size):=qR.out.lt;have dW:Hid (∀g,(Value.slice a2 n c2).ownBlock=some g-> (Value.slice a3 n c3).ownBlock≠some g):=fun g h h'=>by have h1:=Oq.out g h;have h2:=(I4.out g h').1;omega
 obtain⟨T,hT⟩:∃T:aA,T=fun b=>(Value.slice a2 n c2).ownBlock≠some b/\ (Value.slice a3 n c3).ownBlock≠some b:=⟨_,rfl⟩
 have sB:Hid (∀k,(Value.slice a2 n c2).ownBlock=some k->¬T k):=by rw [hT];exact fun k h h'=>h'.1 h
 have sD:Hid (∀k,(Value.slice a3 n c3).ownBlock=some k->¬T k):=by rw [hT];exact fun k h h'=>h'.2 h
 have hT0:Hid (∀b,b<w.heap.size+3->T b):=by rw [hT];exact fun b hb=>⟨fun h=>by have:=(dV.out b h).1;omega,fun h=>by have:=(fI.out b h).1;omega⟩
 clear hT dL p6 Oq I4 zS zT Bs
 have au:∀w',Held T wb w'-> (w'.cell? ⟨w.heap.size,3,none⟩=some (.slice a2 n c2)/\w'.cell? ⟨w.heap.size,4,none⟩=some (.slice a3 n c3)/\w'.cell? ⟨w.heap.size+1,0,none⟩=some (.int .i64 y.k)/\w'.cell? ⟨w.heap.size+1,1,none⟩=some (.int .i64 y.n)/\w'.cell? ⟨w.heap.size+1,2,none⟩=some (.string y.s)/\w'.cell? ⟨w.heap.size+1,3,none⟩=some (.slice kb y.keys.length kd)/\w'.cell? ⟨w.heap.size+1,4,none⟩=some (.slice lb y.l.length ld)):=
  fun w' e=>⟨e.kept.cell (hT0.out _ (by simp)) (ag.cells 3),e.kept.cell (hT0.out _ (by simp)) (ag.cells 4),e.kept.cell (hT0.out _ (by simp)) (ai.cells 0),e.kept.cell (hT0.out _ (by simp)) (ai.cells 1),e.kept.cell (hT0.out _ (by simp)) (ai.cells 2),e.kept.cell (hT0.out _ (by simp)) (ai.cells 3),e.kept.cell (hT0.out _ (by simp)) (ai.cells 4)⟩
 have hbl:=ak.lt;refine fN au (c:=13) (by kernel_rfl) ?_;refine aH 0 [13] (hS:=au _ aC) (h:= ?_);refine aH 1 [13] (hS:=au _ aC) (h:= ?_);refine aH 2 [13] (hS:=au _ aC) (h:= ?_);refine aH 3 [13] (hS:=au _ aC) (h:= ?_);refine aH 6 [13] (hS:=au _ aC) (h:= ?_);refine aH 7 [13] (hS:=au _ aC) (h:= ?_);refine aH 8 [11,13] (hS:=au _ aC) (h:= ?_);refine aH 9 [10,11,13] (hS:=au _ aC) (h:= ?_);(try simp only [rl]);refine mQ (rs:= [4,10]) (by kernel_rfl) (by simp) ?_;refine cT.cons (Array.getElem?_eq_getElem (by decide)) (fun K hK=> ?_) (cT.cons (Array.getElem?_eq_getElem (by decide)) (fun K hK=> ?_) cT.nil)
 · (try simp only [rl])
   go_simp;refine hK.out _ _ (fun _=>au _ aC) ?_;clear hK K;(try simp only [rl]);refine mQ (rs:= [5,10]) (by kernel_rfl) (by simp) ?_;refine cT.cons (Array.getElem?_eq_getElem (by decide)) (fun K hK=> ?_) (cT.cons (Array.getElem?_eq_getElem (by decide)) (fun K hK=> ?_) cT.nil)
   · (try simp only [rl])
     (try go_simp);(refine(vG (w.heap.size+3) n p _ _ (.slice a2 n c2) (ks.map Value.string) [.string key] _ 9 ?_ ?_ dx hp ?_ ?_ rfl (pz ks) (by simp [Value.oneCell'])).mono ?_);(focus(simp;omega));(focus(exact eT lj.out Xt));(focus(exact aj));(focus(intro h;have h':=(dV.out _ h).2;(first|omega|(simp at h';omega)|(simp at h';done))));rintro e w5 ⟨g5,dh,rfl,dR,cG,fJ⟩;have eN:Held T wb w5:=Held.grown aC cG sB.out;have bG:Ext w w5:=Ext.grown Xt cG (fun g hg=>by have:=(dV.out g hg).1;omega);have mG:=ae (eo qR.out (fun b hb hg=>Held.block (T:=fun c=>(Value.slice a2 n c2).ownBlock≠some c) (Held.grown aC cG (fun k hk h=>h hk)) b (fun h=>dW.out b h hg) hb));have fG:(Value.slice a3 n c3).ownBlock≠some g5:=fun h=>by
      rcases fJ with h'|h'
      ·exact dW.out _ h' h
      ·have h2:=(fI.out _ h).2;simp at h';omega
     have fX:wb.heap.size<=w5.heap.size:=eN.size;have xX:Hid (bT w5 (fun b=>w.heap.size+3<=b/\ (Value.slice a3 n c3).ownBlock≠some b) (some ⟨g5,0,none⟩) (ks.take p++key::ks.drop p)):=by
      obtain⟨a4,c4,cU,-,-,hst⟩:=ek.strs (base:=w.heap.size+3) (n:=n+1) (v:= .slice (some ⟨g5,0,none⟩) (n+1) dh) (ks:=ks.take p++key::ks.drop p) ⟨by simp [hks.out];omega,by simpa [List.map_take,List.map_drop] using dR⟩;simp only [Value.slice.injEq,true_and] at cU;obtain⟨rfl,rfl⟩:=cU;rcases hst with h|⟨b,o,he,h1,h2⟩
      ·exact .inl h
      ·simp only [Option.some.injEq,Addr.mk.injEq,and_true] at he
       obtain⟨rfl,rfl⟩:=he;exact .inr ⟨_,_,rfl,⟨h1,fG⟩,h2⟩
     have ik:aO (some (⟨g5,0,none⟩:Addr)) (n+1) dh:=by obtain⟨a4,c4,cU,h⟩:=gU dR;simp only [Value.slice.injEq,true_and] at cU;obtain⟨rfl,rfl⟩:=cU;exact h
     clear dR fJ fG;(try go_simp);refine hK.out _ _ (fun _=>au _ aC) ?_;clear hK K;refine aH 12 [13] (hS:=au _ aC) (h:= ?_);(try simp only [rl]);refine aM 10 (h:=fun K hK=> ?_);(try simp only [rl]);go_simp;refine hK.out _ _ (fun _=>au _ aC) ?_;clear hK K;(try simp only [rl]);refine aM 11 (h:=fun K hK=> ?_);(try simp only [rl]);(try go_simp);(refine(rf (w.heap.size+3) n p _ _ (.slice a3 n c3) news (y.five kb kd lb ld) _ 41 ?_ ?_ dx hp ?_ ?_ rfl lh.out (y.mR kb kd lb ld)).mono ?_);(focus(first|(simp;omega)|omega));(focus(exact eT mG.out Xt));(focus(exact aj));(focus(intro h;have h':=(fI.out _ h).2;(first|omega|(simp at h';omega)|(simp at h';done))));rintro e w6 ⟨g6,bA,rfl,bF,aY,cp⟩;have bE:Held T wb w6:=Held.grown aC aY sD.out;(try go_simp);refine hK.out _ _ (fun _=>au _ bE) ?_;clear hK K;(try simp only [rl]);have bS:Ext w w6:=Ext.grown Xt aY (fun g hg=>by have:=(fI.out g hg).1;omega);have zU:bT w6 (fun b=>w.heap.size+3<=b) (some ⟨g5,0,none⟩) (ks.take p++key::ks.drop p):=xX.out.keep (Held.kept (T:=fun b=>w.heap.size+3<=b/\ (Value.slice a3 n c3).ownBlock≠some b) (Held.grown aC aY (fun k hk h=>h.2 hk))) (fun b h _=>h.1);have hcc:=(kJ.out.keep (bS.kept _) (fun b h _=>h)).ins p (hjn.ext bS);obtain⟨g7,cur,kK,hgb,hBg,hcz,hits⟩:=qg (Nat.succ_pos n) (by simp [hll.out];omega) bF hcc;have gT:aO (some (⟨g6,0,none⟩:Addr)) (n+1) bA:=by obtain⟨a4,c4,cU,h⟩:=gU bF;simp only [Value.slice.injEq,true_and] at cU;obtain⟨rfl,rfl⟩:=cU;exact h
     simp only [Option.some.injEq,Addr.mk.injEq,and_true] at kK;obtain rfl:=kK;have ag:=af.held bE ag (hT0.out _ (by omega));have ak:=af.held bE ak (hT0.out _ (by omega));have gp:=ae hits;clear bF aY cp hcc hits hBg au ai cG eN bG iq aP xX;obtain⟨hc0,aw,hl0⟩:=ag.see;refine aM 13 (h:=fun K hK=> ?_);(try simp only [rl]);go_simp;refine bD hK (h:= ?_);clear hK K;(try simp only [rl]);refine aM 14 (h:=fun K hK=> ?_);(try simp only [rl]);go_simp;refine bD hK (h:= ?_);clear hK K;(try simp only [rl]);refine aM 15 (h:=fun K hK=> ?_);(try simp only [rl]);go_simp;refine bD hK (h:= ?_);clear hK K;(try simp only [rl]);refine dE (by kernel_rfl) ?_ _;go_upto_region 8 with fail
     refine aI (R:=fun wy=>af wy w.heap.size #[.int .i64 5, .int .i64 nn, .string s, .slice (some ⟨g5,0,none⟩) (n+1) dh, .slice (some ⟨g6,0,none⟩) (n+1) bA] 41/\aN wy (w.heap.size+2)/\Held (fun b=>b≠w.heap.size) w6 wy/\Ext w wy) ⟨aj,aj,aC,Xt⟩ ?_;clear ag ak hc0 aw hl0;rintro wy ⟨ag,ak,mf,hxy⟩;obtain⟨hc0,aw,hl0⟩:=ag.see;obtain⟨hc2,hf2,hl2⟩:=ak.see;go_wp2_with fail;refine aG (h:= ?_);refine⟨some ⟨g5,0,none⟩,dh,some ⟨g6,0,none⟩,bA,?_,(V.dD ..).2 ⟨?_,?_,?_, .inr ⟨g6,0,rfl, .inr (by omega),fun i hi=> ?_⟩⟩,Xt⟩
     ·have e1:(ks.take p++key::ks.drop p).length=n+1:=by simp [hks.out];omega
      have e2:(l.take p++y::l.drop p).length=n+1:=by simp [hll.out];omega
      simp only [V.val,V.gi,V.ej,V.uE,V.uF,V.kH,e1,e2]
     ·have e1:(ks.take p++key::ks.drop p).length=n+1:=by simp [hks.out];omega
      rw [V.gi,e1];exact ik
     ·have e2:(l.take p++y::l.drop p).length=n+1:=by simp [hll.out];omega
      rw [V.ej,e2];exact gT
     ·have h1:Held (fun b=>w.heap.size+3<=b) w6 wy:=mf.mono (fun b h=>by simp;omega)
      exact zU.keep (Held.kept (a:=w6) (T:=fun b=>w.heap.size+3<=b) aC) (fun b h _=> .inr (by omega))
     ·rw [Nat.zero_add]
      have h1:Held (fun b=>b≠w.heap.size/\b≠w.heap.size+2) w6 wy:=mf.mono (fun b h=>h.1);exact((gp.out i hi).keep' (T:=fun b=>b≠w.heap.size/\b≠w.heap.size+2) (by simp;omega) (Held.kept (a:=w6) aC) (fun b h=>by simp;omega)).mono (fun b h=> .inl h.1)
   · (try simp only [rl])
     go_simp;refine hK.out _ _ (fun _=>au _ aC) ?_;clear hK K;(try simp only [rl]);refine aM 5 (h:=fun K hK=> ?_);(try simp only [rl]);(try go_simp);(refine(vG (w.heap.size+3) n p _ _ (.slice a2 n c2) (ks.map Value.string) [.string key] _ 9 ?_ ?_ dx hp ?_ ?_ rfl (pz ks) (by simp [Value.oneCell'])).mono ?_);(focus(simp;omega));(focus(exact eT lj.out Xt));(focus(exact aj));(focus(intro h;have h':=(dV.out _ h).2;(first|omega|(simp at h';omega)|(simp at h';done))));rintro e w5 ⟨g5,dh,rfl,dR,cG,fJ⟩;have eN:Held T wb w5:=Held.grown aC cG sB.out;have bG:Ext w w5:=Ext.grown Xt cG (fun g hg=>by have:=(dV.out g hg).1;omega);have mG:=ae (eo qR.out (fun b hb hg=>Held.block (T:=fun c=>(Value.slice a2 n c2).ownBlock≠some c) (Held.grown aC cG (fun k hk h=>h hk)) b (fun h=>dW.out b h hg) hb));have fG:(Value.slice a3 n c3).ownBlock≠some g5:=fun h=>by
      rcases fJ with h'|h'
      ·exact dW.out _ h' h
      ·have h2:=(fI.out _ h).2;simp at h';omega
     have fX:wb.heap.size<=w5.heap.size:=eN.size;have xX:Hid (bT w5 (fun b=>w.heap.size+3<=b/\ (Value.slice a3 n c3).ownBlock≠some b) (some ⟨g5,0,none⟩) (ks.take p++key::ks.drop p)):=by
      obtain⟨a4,c4,cU,-,-,hst⟩:=ek.strs (base:=w.heap.size+3) (n:=n+1) (v:= .slice (some ⟨g5,0,none⟩) (n+1) dh) (ks:=ks.take p++key::ks.drop p) ⟨by simp [hks.out];omega,by simpa [List.map_take,List.map_drop] using dR⟩;simp only [Value.slice.injEq,true_and] at cU;obtain⟨rfl,rfl⟩:=cU;rcases hst with h|⟨b,o,he,h1,h2⟩
      ·exact .inl h
      ·simp only [Option.some.injEq,Addr.mk.injEq,and_true] at he
       obtain⟨rfl,rfl⟩:=he;exact .inr ⟨_,_,rfl,⟨h1,fG⟩,h2⟩
     have ik:aO (some (⟨g5,0,none⟩:Addr)) (n+1) dh:=by obtain⟨a4,c4,cU,h⟩:=gU dR;simp only [Value.slice.injEq,true_and] at cU;obtain⟨rfl,rfl⟩:=cU;exact h
     have D9:af w5 (wb.heap.size+1) (y.five kb kd lb ld).toArray 41:=af.grown (w':=w5) aj cG (fun e=>by have h':=(dV.out _ e.symm).2;omega);clear dR fJ fG;(try go_simp);refine hK.out _ _ (fun _=>au _ aC) ?_;clear hK K;refine aH 12 [13] (hS:=au _ aC) (h:= ?_);(try simp only [rl]);refine aM 11 (h:=fun K hK=> ?_);(try simp only [rl]);(try go_simp);(refine(rf (w.heap.size+3) n p _ _ (.slice a3 n c3) news (y.five kb kd lb ld) _ 41 ?_ ?_ dx hp ?_ ?_ rfl lh.out (y.mR kb kd lb ld)).mono ?_);(focus(first|(simp;omega)|omega));(focus(exact eT mG.out Xt));(focus(exact aj));(focus(intro h;have h':=(fI.out _ h).2;(first|omega|(simp at h';omega)|(simp at h';done))));rintro e w6 ⟨g6,bA,rfl,bF,aY,cp⟩;have bE:Held T wb w6:=Held.grown aC aY sD.out;(try go_simp);refine hK.out _ _ (fun _=>au _ bE) ?_;clear hK K;(try simp only [rl]);have bS:Ext w w6:=Ext.grown Xt aY (fun g hg=>by have:=(fI.out g hg).1;omega);have zU:bT w6 (fun b=>w.heap.size+3<=b) (some ⟨g5,0,none⟩) (ks.take p++key::ks.drop p):=xX.out.keep (Held.kept (T:=fun b=>w.heap.size+3<=b/\ (Value.slice a3 n c3).ownBlock≠some b) (Held.grown aC aY (fun k hk h=>h.2 hk))) (fun b h _=>h.1);have hcc:=(kJ.out.keep (bS.kept _) (fun b h _=>h)).ins p (hjn.ext bS);obtain⟨g7,cur,kK,hgb,hBg,hcz,hits⟩:=qg (Nat.succ_pos n) (by simp [hll.out];omega) bF hcc;have gT:aO (some (⟨g6,0,none⟩:Addr)) (n+1) bA:=by obtain⟨a4,c4,cU,h⟩:=gU bF;simp only [Value.slice.injEq,true_and] at cU;obtain⟨rfl,rfl⟩:=cU;exact h
     simp only [Option.some.injEq,Addr.mk.injEq,and_true] at kK;obtain rfl:=kK;have ag:=af.held bE ag (hT0.out _ (by omega));have ak:=af.held bE ak (hT0.out _ (by omega));have gp:=ae hits;clear bF aY cp hcc hits hBg au ai cG eN bG iq aP xX;obtain⟨hc0,aw,hl0⟩:=ag.see;refine aM 13 (h:=fun K hK=> ?_);(try simp only [rl]);go_simp;refine bD hK (h:= ?_);clear hK K;(try simp only [rl]);refine aM 14 (h:=fun K hK=> ?_);(try simp only [rl]);go_simp;refine bD hK (h:= ?_);clear hK K;(try simp only [rl]);refine aM 15 (h:=fun K hK=> ?_);(try simp only [rl]);go_simp;refine bD hK (h:= ?_);clear hK K;(try simp only [rl]);refine dE (by kernel_rfl) ?_ _;go_upto_region 8 with fail
     refine aI (R:=fun wy=>af wy w.heap.size #[.int .i64 5, .int .i64 nn, .string s, .slice (some ⟨g5,0,none⟩) (n+1) dh, .slice (some ⟨g6,0,none⟩) (n+1) bA] 41/\aN wy (w.heap.size+2)/\Held (fun b=>b≠w.heap.size) w6 wy/\Ext w wy) ⟨aj,aj,aC,Xt⟩ ?_;clear ag ak hc0 aw hl0;rintro wy ⟨ag,ak,mf,hxy⟩;obtain⟨hc0,aw,hl0⟩:=ag.see;obtain⟨hc2,hf2,hl2⟩:=ak.see;go_wp2_with fail;refine aG (h:= ?_);refine⟨some ⟨g5,0,none⟩,dh,some ⟨g6,0,none⟩,bA,?_,(V.dD ..).2 ⟨?_,?_,?_, .inr ⟨g6,0,rfl, .inr (by omega),fun i hi=> ?_⟩⟩,Xt⟩
     ·have e1:(ks.take p++key::ks.drop p).length=n+1:=by simp [hks.out];omega
      have e2:(l.take p++y::l.drop p).length=n+1:=by simp [hll.out];omega
      simp only [V.val,V.gi,V.ej,V.uE,V.uF,V.kH,e1,e2]
     ·have e1:(ks.take p++key::ks.drop p).length=n+1:=by simp [hks.out];omega
      rw [V.gi,e1];exact ik
     ·have e2:(l.take p++y::l.drop p).length=n+1:=by simp [hll.out];omega
      rw [V.ej,e2];exact gT
     ·have h1:Held (fun b=>w.heap.size+3<=b) w6 wy:=mf.mono (fun b h=>by simp;omega)
      exact zU.keep (Held.kept (a:=w6) (T:=fun b=>w.heap.size+3<=b) aC) (fun b h _=> .inr (by omega))
     ·rw [Nat.zero_add]
      have h1:Held (fun b=>b≠w.heap.size/\b≠w.heap.size+2) w6 wy:=mf.mono (fun b h=>h.1);exact((gp.out i hi).keep' (T:=fun b=>b≠w.heap.size/\b≠w.heap.size+2) (by simp;omega) (Held.kept (a:=w6) aC) (fun b h=>by simp;omega)).mono (fun b h=> .inl h.1)
 · (try simp only [rl])
   go_simp;refine hK.out _ _ (fun _=>au _ aC) ?_;clear hK K;(try simp only [rl]);refine aM 4 (h:=fun K hK=> ?_);(try simp only [rl]);go_simp;refine hK.out _ _ (fun _=>au _ aC) ?_;clear hK K;(try simp only [rl]);refine aM 5 (h:=fun K hK=> ?_);(try simp only [rl]);(try go_simp);(refine(vG (w.heap.size+3) n p _ _ (.slice a2 n c2) (ks.map Value.string) [.string key] _ 9 ?_ ?_ dx hp ?_ ?_ rfl (pz ks) (by simp [Value.oneCell'])).mono ?_);(focus(simp;omega));(focus(exact eT lj.out Xt));(focus(exact aj));(focus(intro h;have h':=(dV.out _ h).2;(first|omega|(simp at h';omega)|(simp at h';done))));rintro e w5 ⟨g5,dh,rfl,dR,cG,fJ⟩;have eN:Held T wb w5:=Held.grown aC cG sB.out;have bG:Ext w w5:=Ext.grown Xt cG (fun g hg=>by have:=(dV.out g hg).1;omega);have mG:=ae (eo qR.out (fun b hb hg=>Held.block (T:=fun c=>(Value.slice a2 n c2).ownBlock≠some c) (Held.grown aC cG (fun k hk h=>h hk)) b (fun h=>dW.out b h hg) hb));have fG:(Value.slice a3 n c3).ownBlock≠some g5:=fun h=>by
    rcases fJ with h'|h'
    ·exact dW.out _ h' h
    ·have h2:=(fI.out _ h).2;simp at h';omega
   have fX:wb.heap.size<=w5.heap.size:=eN.size;have xX:Hid (bT w5 (fun b=>w.heap.size+3<=b/\ (Value.slice a3 n c3).ownBlock≠some b) (some ⟨g5,0,none⟩) (ks.take p++key::ks.drop p)):=by
    obtain⟨a4,c4,cU,-,-,hst⟩:=ek.strs (base:=w.heap.size+3) (n:=n+1) (v:= .slice (some ⟨g5,0,none⟩) (n+1) dh) (ks:=ks.take p++key::ks.drop p) ⟨by simp [hks.out];omega,by simpa [List.map_take,List.map_drop] using dR⟩;simp only [Value.slice.injEq,true_and] at cU;obtain⟨rfl,rfl⟩:=cU;rcases hst with h|⟨b,o,he,h1,h2⟩
    ·exact .inl h
    ·simp only [Option.some.injEq,Addr.mk.injEq,and_true] at he
     obtain⟨rfl,rfl⟩:=he;exact .inr ⟨_,_,rfl,⟨h1,fG⟩,h2⟩
   have ik:aO (some (⟨g5,0,none⟩:Addr)) (n+1) dh:=by obtain⟨a4,c4,cU,h⟩:=gU dR;simp only [Value.slice.injEq,true_and] at cU;obtain⟨rfl,rfl⟩:=cU;exact h
   have D9:af w5 (wb.heap.size) (y.five kb kd lb ld).toArray 41:=af.grown (w':=w5) aj cG (fun e=>by have h':=(dV.out _ e.symm).2;omega);clear dR fJ fG;(try go_simp);refine hK.out _ _ (fun _=>au _ aC) ?_;clear hK K;refine aH 12 [13] (hS:=au _ aC) (h:= ?_);(try simp only [rl]);refine aM 11 (h:=fun K hK=> ?_);(try simp only [rl]);(try go_simp);(refine(rf (w.heap.size+3) n p _ _ (.slice a3 n c3) news (y.five kb kd lb ld) _ 41 ?_ ?_ dx hp ?_ ?_ rfl lh.out (y.mR kb kd lb ld)).mono ?_);(focus(first|(simp;omega)|omega));(focus(exact eT mG.out Xt));(focus(exact aj));(focus(intro h;have h':=(fI.out _ h).2;(first|omega|(simp at h';omega)|(simp at h';done))));rintro e w6 ⟨g6,bA,rfl,bF,aY,cp⟩;have bE:Held T wb w6:=Held.grown aC aY sD.out;(try go_simp);refine hK.out _ _ (fun _=>au _ bE) ?_;clear hK K;(try simp only [rl]);have bS:Ext w w6:=Ext.grown Xt aY (fun g hg=>by have:=(fI.out g hg).1;omega);have zU:bT w6 (fun b=>w.heap.size+3<=b) (some ⟨g5,0,none⟩) (ks.take p++key::ks.drop p):=xX.out.keep (Held.kept (T:=fun b=>w.heap.size+3<=b/\ (Value.slice a3 n c3).ownBlock≠some b) (Held.grown aC aY (fun k hk h=>h.2 hk))) (fun b h _=>h.1);have hcc:=(kJ.out.keep (bS.kept _) (fun b h _=>h)).ins p (hjn.ext bS);obtain⟨g7,cur,kK,hgb,hBg,hcz,hits⟩:=qg (Nat.succ_pos n) (by simp [hll.out];omega) bF hcc;have gT:aO (some (⟨g6,0,none⟩:Addr)) (n+1) bA:=by obtain⟨a4,c4,cU,h⟩:=gU bF;simp only [Value.slice.injEq,true_and] at cU;obtain⟨rfl,rfl⟩:=cU;exact h
   simp only [Option.some.injEq,Addr.mk.injEq,and_true] at kK;obtain rfl:=kK;have ag:=af.held bE ag (hT0.out _ (by omega));have ak:=af.held bE ak (hT0.out _ (by omega));have gp:=ae hits;clear bF aY cp hcc hits hBg au ai cG eN bG iq aP xX;obtain⟨hc0,aw,hl0⟩:=ag.see;refine aM 13 (h:=fun K hK=> ?_);(try simp only [rl]);go_simp;refine bD hK (h:= ?_);clear hK K;(try simp only [rl]);refine aM 14 (h:=fun K hK=> ?_);(try simp only [rl]);go_simp;refine bD hK (h:= ?_);clear hK K;(try simp only [rl]);refine aM 15 (h:=fun K hK=> ?_);(try simp only [rl]);go_simp;refine bD hK (h:= ?_);clear hK K;(try simp only [rl]);refine dE (by kernel_rfl) ?_ _;go_upto_region 8 with fail
   refine aI (R:=fun wy=>af wy w.heap.size #[.int .i64 5, .int .i64 nn, .string s, .slice (some ⟨g5,0,none⟩) (n+1) dh, .slice (some ⟨g6,0,none⟩) (n+1) bA] 41/\aN wy (w.heap.size+2)/\Held (fun b=>b≠w.heap.size) w6 wy/\Ext w wy) ⟨aj,aj,aC,Xt⟩ ?_;clear ag ak hc0 aw hl0;rintro wy ⟨ag,ak,mf,hxy⟩;obtain⟨hc0,aw,hl0⟩:=ag.see;obtain⟨hc2,hf2,hl2⟩:=ak.see;go_wp2_with fail;refine aG (h:= ?_);refine⟨some ⟨g5,0,none⟩,dh,some ⟨g6,0,none⟩,bA,?_,(V.dD ..).2 ⟨?_,?_,?_, .inr ⟨g6,0,rfl, .inr (by omega),fun i hi=> ?_⟩⟩,Xt⟩
   ·have e1:(ks.take p++key::ks.drop p).length=n+1:=by simp [hks.out];omega
    have e2:(l.take p++y::l.drop p).length=n+1:=by simp [hll.out];omega
    simp only [V.val,V.gi,V.ej,V.uE,V.uF,V.kH,e1,e2]
   ·have e1:(ks.take p++key::ks.drop p).length=n+1:=by simp [hks.out];omega
    rw [V.gi,e1];exact ik
   ·have e2:(l.take p++y::l.drop p).length=n+1:=by simp [hll.out];omega
    rw [V.ej,e2];exact gT
   ·have h1:Held (fun b=>w.heap.size+3<=b) w6 wy:=mf.mono (fun b h=>by simp;omega)
    exact zU.keep (Held.kept (a:=w6) (T:=fun b=>w.heap.size+3<=b) aC) (fun b h _=> .inr (by omega))
   ·rw [Nat.zero_add]
    have h1:Held (fun b=>b≠w.heap.size/\b≠w.heap.size+2) w6 wy:=mf.mono (fun b h=>h.1);exact((gp.out i hi).keep' (T:=fun b=>b≠w.heap.size/\b≠w.heap.size+2) (by simp;omega) (Held.kept (a:=w6) aC) (fun b h=>by simp;omega)).mono (fun b h=> .inl h.1)
theorem agB (x:V) (ka:aq) (kc:Nat) (la:aq) (lc:Nat) (key:ah) (y:V) (kb:aq) (kd:Nat) (lb:aq) (ld:Nat) (S:aA) (w:World) (hx:¬(x.k=5/\x.keys.length=x.l.length)) (hin:x.In w S ka kc la lc):
 Calls prog 124 #[x.val ka kc la lc, .string key,y.val kb kd lb ld] w (qm S x w):=by
 by_cases h5:x.k=5
 ·have il:x.keys.length≠x.l.length:=fun h=>hx ⟨h5,h⟩
  have mP:(x.k==5)=true:=by simpa using h5
  have I5:(x.k !=5)=false:=by simpa using h5
  have hlen:((x.keys.length:Int)==(x.l.length:Int))=false:=by simpa using fun h=>il (by omega)
  have Wv:((x.keys.length:Int) !=(x.l.length:Int))=true:=by simpa using fun h=>il (by omega)
  clear il h5 hx;go_enter func124,ntmps124;go_wp2_with fail;refine aG (h:= ?_);exact⟨ka,kc,la,lc,rfl,(hin.ext Xt).mono (fun b h _=> .inl h),Xt⟩
 ·have mP:(x.k==5)=false:=by simpa using h5
  have I5:(x.k !=5)=true:=by simpa using h5
  clear h5 hx;go_enter func124,ntmps124;go_wp2_with fail;refine aG (h:= ?_);exact⟨ka,kc,la,lc,rfl,(hin.ext Xt).mono (fun b h _=> .inl h),Xt⟩
theorem uD (x:V) (ka:aq) (kc:Nat) (la:aq) (lc:Nat) (key:ah) (y:V) (kb:aq) (kd:Nat) (lb:aq) (ld:Nat) (S:aA) (w:World) (hsz:x.size<=1073741824) (hr:cn x.keys) (hin:x.In w S ka kc la lc) (hjn:y.In w S kb kd lb ld):
 Calls prog 124 #[x.val ka kc la lc, .string key,y.val kb kd lb ld] w (qm S (x.put key y) w):=by
 by_cases hx:x.k=5/\x.keys.length=x.l.length
 ·have hin':=hin.mono (T:=fun b=>S b/\b<w.heap.size) fun b h hl=>⟨h,hl⟩
  have Ww:=hjn.mono (T:=fun b=>S b/\b<w.heap.size) fun b h hl=>⟨h,hl⟩;obtain⟨h1,h2,h3,h4⟩:=(V.dD ..).1 hin';have hl:=x.kI;have hle:=tR x.keys key;have hv:x.val ka kc la lc= .agg #[.int .i64 5, .int .i64 x.n, .string x.s, .slice ka x.l.length kc, .slice la x.l.length lc]:=by rw [V.val,hx.1,hx.2]
  rw [hx.2] at h1;rw [hv]
  cases hb:hasB x.keys key with
  |true=>
   rw [yN hx hb,hx.1];refine agz x.n x.s x.keys x.l x.l.length ka kc la lc key y kb kd lb ld S w (posOf x.keys key) hx.2 rfl (by omega) h1 h2 h3 h4 Ww ?_ (by have:=tM hb;omega);intro w' e;have:=Aa ka x.l.length kc x.keys _ key w' hx.2 (h3.ext e) hr (by omega);rw [hb] at this;exact this
  |false=>
   rw [yO hx hb,hx.1];refine agA x.n x.s x.keys x.l x.l.length ka kc la lc key y kb kd lb ld S w (posOf x.keys key) hx.2 rfl (by omega) h1 h2 h3 h4 Ww ?_ (by omega);intro w' e;have:=Aa ka x.l.length kc x.keys _ key w' hx.2 (h3.ext e) hr (by omega);rw [hb] at this;exact this
 ·rw [Qp hx]
  exact agB x ka kc la lc key y kb kd lb ld S w hx hin
end Go.Proofs.YtlcebdaghmdkeaaGreatDoor
