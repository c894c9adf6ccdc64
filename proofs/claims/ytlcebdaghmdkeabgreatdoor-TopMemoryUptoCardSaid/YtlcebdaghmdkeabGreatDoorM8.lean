import Derived.Deep.CutBlock
import Derived.Test.YtlcebdaghmdkeabGreatDoorCards
import Derived.Test.YtlcebdaghmdkeabGreatDoorTie
import Derived.Deep.DeepHandedRow
import Derived.Deep.DeepWitnessRowRef
import Derived.Lib.LaidIn
import Derived.Lib.SmallJoins
import Derived.Deep.Strs
import Derived.Deep.Slices
import Derived.ChangeArms
import Derived.Test.YtlcebdaghmdkeabGreatDoorM3
set_option linter.all false
set_option maxRecDepth 100000
set_option maxHeartbeats 64000000
namespace Go.Proofs.YtlcebdaghmdkeabGreatDoor
open Go.Proofs.Tryz
open Go.RowKit
attribute [local go_sem↓] Go.wp_at_zero Go.wp_at_succ
theorem afd (nn:Int) (s:ah) (ks:List ah) (l:List V) (n:Nat) (ka:aq) (kc:Nat) (la:aq) (lc:Nat) (key:ah) (y:V) (kb:aq) (kd:Nat) (lb:aq) (ld:Nat) (S:aw) (w:World) (p:Nat)
 (hks:Hid (ks.length=n)) (hll:Hid (l.length=n)) (cZ:n<=1073741824) (gP:aM ka n kc) (fU:aM la n lc) (hst:bC w (fun b=>S b/\b<w.heap.size) ka ks) (gQ:Rows w (fun b=>S b/\b<w.heap.size) l la) (hjn:y.In w (fun b=>S b/\b<w.heap.size) kb kd lb ld)
 (bs:∀w',Ext w w'->Calls prog 68 #[.slice ka n kc, .string key] w' fun e w''=>e= .returned (.tuple #[.int .i64 p, .bool true])/\Ext w' w'') (hp:p<n):
 Calls prog 184 #[.agg #[.int .i64 5, .int .i64 nn, .string s, .slice ka n kc, .slice la n lc], .string key,y.val kb kd lb ld] w (qL S (.mk 5 nn s ks (l.set p y)) w):=by
 obtain⟨news,hnl,lg,jn⟩:=zm gQ;have kj:=ae jn;have h1c:=jn.one;have sj:news.length=n*5:=by rw [hnl,hll.out]
 have xa:n=0\/∃ad,la=some ad/\∀j u,news[j]? =some u->w.cell? (ad.add j)=some u:=by rw [<-hll.out];exact lg
 have xc:=E1 hst;have xd:n=0\/∃ad,ka=some ad/\∀j u,(ks.map Value.string)[j]? =some u->w.cell? (ad.add j)=some u:=by rw [<-hks.out];exact xc
 have sk:∀(a:aq) (m:Nat) (xs:List Value) (w':World),(m=0\/∃ad,a=some ad/\∀j u,xs[j]? =some u->w.cell? (ad.add j)=some u)->Ext w w'-> (m=0\/∃ad,a=some ad/\∀j u,xs[j]? =some u->w'.cell? (ad.add j)=some u):=by
  rintro a m xs w' (h|⟨ad,h,h'⟩) e
  ·exact .inl h
  ·exact .inr ⟨ad,h,fun j u hj=>e.cell (h' j u hj)⟩
 have xe:∀w',Ext w w'->Calls prog 36 #[.slice ka n kc] w' fun e w''=>∃a' c',e= .returned (.slice a' n c')/\aM a' n c'/\w''.ownsRow w'.heap.size 9 1 (.slice a' n c') n (ks.map Value.string)/\Ext w' w'':=
  fun w' e=>Fa ka n kc _ w' gP cZ (by rw [List.length_map,hks.out];omega) (sk _ _ _ _ xd e) (oG ks)
 have xf:∀w',Ext w w'->Calls prog 61 #[.slice la n lc] w' fun e w''=>∃a' c',e= .returned (.slice a' n c')/\aM a' n c'/\w''.ownsRow w'.heap.size 36 5 (.slice a' n c') n news/\Ext w' w'':=
  fun w' e=>zn la n lc news w' fU cZ sj (sk _ _ _ _ xa e) h1c
 have kI:=ae h1c;have zi:=ae xe;have zj:=ae xf;have Bs:=ae bs;have FY:=ae sj;clear gQ hst jn h1c hnl lg sj xa xc xd sk xe xf bs gP fU;go_enter func184,ntmps184;go_wp2_with (go_at_call 68;refine(Bs.out _ Xt).mono ?_;rintro e w1 ⟨rfl,h1⟩);refine aI (R:=fun wx=>af wx w.heap.size #[.int .i64 5, .int .i64 nn, .string s, .slice ka n kc, .slice la n lc] 36/\aC wx (w.heap.size+1) y kb kd lb ld/\aN wx (w.heap.size+2)/\Ext w wx) ⟨aj,aj,aj,Xt⟩ ?_;clear h1;rintro wa ⟨ag,ai,ak,aD⟩;have au:∀w',Ext wa w'-> (w'.cell? ⟨w.heap.size,3,none⟩=some (.slice ka n kc)/\w'.cell? ⟨w.heap.size,4,none⟩=some (.slice la n lc)):=fun w' e=>⟨e.cell (ag.cells 3),e.cell (ag.cells 4)⟩;have MK:=ak.lt;obtain⟨hc0,ax,hl0⟩:=ag.see;refine fC au (c:=7) (by kernel_rfl) ?_;refine aG 0 [7] (hS:=au _ Xt) (h:= ?_);refine aG 1 [7] (hS:=au _ Xt) (h:= ?_);refine aG 3 [7] (hS:=au _ Xt) (h:= ?_);refine aG 4 [7] (hS:=au _ Xt) (h:= ?_);(try simp only [rl]);refine aL 2 (h:=fun K hK=> ?_);(try simp only [rl]);(try go_simp);(refine(zi.out _ Xt).mono ?_);rintro e w2 ⟨a2,c2,rfl,fU,hown2,h2⟩;(try go_simp);refine hK.out _ _ (fun _=>au _ Xt) ?_;clear hK K;refine aG 6 [7] (hS:=au _ Xt) (h:= ?_);(try simp only [rl]);refine aL 5 (h:=fun K hK=> ?_);(try simp only [rl]);(try go_simp);(refine(zj.out _ Xt).mono ?_);rintro e w3 ⟨a3,c3,rfl,jw,eo,h3⟩;(try go_simp);refine hK.out _ _ (fun _=>au _ Xt) ?_;clear hK K;(try simp only [rl]);have iD:af w3 w.heap.size #[.int .i64 5, .int .i64 nn, .string s, .slice ka n kc, .slice la n lc] 36:=af.ext (w:=wa) Xt ag;have lh:aC w3 (w.heap.size+1) y kb kd lb ld:=af.ext (w:=wa) Xt ai;have ML:aN w3 (w.heap.size+2):=af.ext (w:=wa) Xt ak;have kM:wa.heap.size<=w2.heap.size:=Ext.size (a:=wa) Xt;have hx2:Ext w w2:=Xt;have hx3:Ext w w3:=Xt;have hz2:=h2.size;have hz3:=h3.size;have MN:bC w3 (fun b=>w.heap.size+3<=b/\b<w2.heap.size) a2 ks:=by obtain⟨a4,c4,cM,-,-,hst⟩:=dK.strs (base:=w.heap.size+3) (ks:=ks) ⟨hks.out,pI hown2 (by simp;omega)⟩;simp only [Value.slice.injEq,true_and] at cM;obtain⟨rfl,rfl⟩:=cM;exact hst.keep (h3.kept _) (fun b h hl=>⟨h,hl⟩)
 have dC:=ae (eu (pI (b0:=w.heap.size+3) hown2 (by simp;omega)) h3);have pC:=ae (pI (b0:=w.heap.size+3) eo (by omega));have hapart:∀g,(Value.slice a2 n c2).ownBlock=some g->g<w2.heap.size:=fun g hg=>(hown2.lt g hg).2;have DN:∀g,(Value.slice a3 n c3).ownBlock=some g->w2.heap.size<=g/\g<w3.heap.size:=fun g hg=>eo.lt g hg;have MO:=ae hapart;have GH:=ae DN;clear hown2 eo hapart DN hc0 ax hl0 ag ai ak au h2 h3 aD;obtain⟨hc0,ax,hl0⟩:=iD.see;refine aL 7 (h:=fun K hK=> ?_);(try simp only [rl]);go_simp;refine br hK (h:= ?_);clear hK K;(try simp only [rl]);refine aL 8 (h:=fun K hK=> ?_);(try simp only [rl]);go_simp;refine br hK (h:= ?_);clear hK K;(try simp only [rl]);refine aL 9 (h:=fun K hK=> ?_);(try simp only [rl]);go_simp;refine br hK (h:= ?_);clear hK K;(try simp only [rl]);refine dw (by kernel_rfl) ?_ _;have AH:=kj.out.keep (hx3.kept _) (fun b h _=>h);obtain⟨g,cur,rfl,hgb,hBg,hcz,hits⟩:=pJ (by omega) hll.out pC.out AH;have hg2:=(GH.out g rfl).1;have fV:=ae hits;clear hits AH;go_upto_region 6 with fail
 refine aI (R:=fun wx=>af wx w.heap.size #[.int .i64 5, .int .i64 nn, .string s, .slice a2 n c2, .slice (some ⟨g,0,none⟩) n c3] 36/\aC wx (w.heap.size+1) y kb kd lb ld/\aN wx (w.heap.size+2)/\af wx g cur 36/\Held (fun b=>b≠w.heap.size) w3 wx/\Ext w wx) ⟨aj,aj,aj,aj,aB,Xt⟩ ?_;clear iD lh ML hBg hc0 ax hl0;rintro wx ⟨ag,ai,ak,hBg,gX,nC⟩;have rb:Hid (∀i (h:i<l.length),V.Item wx (fun b=>S b/\b<w.heap.size) g (i*5) l[i]):=fun i h=>(fV.out i h).keep' (show (fun b=>b≠w.heap.size) g from by simp;omega) gX.kept (fun b h=>by simp;omega);obtain⟨hc0,ax,hl0⟩:=ag.see;obtain⟨hc1,aA,ay⟩:=ai.see;obtain⟨yl,ym,yo⟩:=hBg.see;have hp0:(0:Int)<= (p:Int):=by omega
 have hp1:(p:Int)<(n:Int):=by omega
 have kD:Hid (wx.there g (p*5) 5):=Ff hBg (by omega);clear yl ym;go_upto_region 8 with(refine wpList_store_mid rfl 36 _ _ rfl g (p*5) #[.int .i64 y.k, .int .i64 y.n, .string y.s, .slice kb y.keys.length kd, .slice lb y.l.length ld] (by rfl) (by rfl) (by exact kD.out) Tryz.Fg (all_oneCell_toArray (y.lY kb kd lb ld)) ?_)
 have rf:∀i (h:i<(l.set p y).length),V.Item (wx.setCells g (p*5) (y.five kb kd lb ld)) (fun b=>S b/\b<w.heap.size) g (i*5) (l.set p y)[i]:=
  Fe hBg rb.out (by rw [hll.out];exact hp) (by rw [hll.out];exact hcz) (hjn.ext nC) (hBg.jx _ _ _ _ _ _) (Held.kept (Held.jx (Held.refl _ _) (by simp;omega) _ _))
 refine aI (R:=fun wy=>af wy w.heap.size #[.int .i64 5, .int .i64 nn, .string s, .slice a2 n c2, .slice (some ⟨g,0,none⟩) n c3] 36/\aN wy (w.heap.size+2)/\ (∀i (h:i<(l.set p y).length),V.Item wy (fun b=>S b/\b<w.heap.size) g (i*5) (l.set p y)[i])/\Held (fun b=>b≠w.heap.size/\b≠g) w3 wy/\Ext w wy)
  ⟨ag.mG (by omega) _ _,ak.mG (by omega) _ _,rf,(gX.mono (fun b h=>h.1)).jx (by simp) _ _,nC.jx (by omega) _ _⟩ ?_
 clear ag ai ak hBg hc0 ax hl0 hc1 aA ay yo rf gX nC kD fV rb;rintro wy ⟨ag,ak,hits,gX,hxy⟩;obtain⟨hc0,ax,hl0⟩:=ag.see;obtain⟨hc2,hf2,hl2⟩:=ak.see;have fV:=ae hits;clear hits;go_wp2_with fail;refine aF (h:= ?_);refine⟨a2,c2,some ⟨g,0,none⟩,c3,?_,(V.df ..).2 ⟨?_,?_,MN.keep (Held.kept (a:=w3) (T:=fun b=>w.heap.size+3<=b/\b<w2.heap.size) ?_) (fun b h _=> .inr (by omega)), .inr ⟨g,0,rfl, .inr (by omega),fun i hi=> ?_⟩⟩,Xt⟩
 ·have e1:=hks.out
  have e2:=hll.out;simp [V.val,e1,e2]
 ·rw [V.fT,hks.out];exact fU
 ·rw [V.dV,List.length_set,hll.out];exact jw
 ·have h1:Held (fun b=>w.heap.size+3<=b/\b<w2.heap.size) w3 wy:=gX.mono (fun b h=>by simp;omega)
  exact aB
 ·rw [Nat.zero_add]
  exact((fV.out i hi).keep' (T:=fun b=>b≠w.heap.size+2) (by simp;omega) (Held.kept (a:=wy) aB) (fun b h=>by simp;omega)).mono (fun b h=> .inl h.1)
theorem afe (nn:Int) (s:ah) (ks:List ah) (l:List V) (n:Nat) (ka:aq) (kc:Nat) (la:aq) (lc:Nat) (key:ah) (y:V) (kb:aq) (kd:Nat) (lb:aq) (ld:Nat) (S:aw) (w:World) (p:Nat)
 (hks:Hid (ks.length=n)) (hll:Hid (l.length=n)) (cZ:n<=1073741824) (gP:aM ka n kc) (fU:aM la n lc) (hst:bC w (fun b=>S b/\b<w.heap.size) ka ks) (gQ:Rows w (fun b=>S b/\b<w.heap.size) l la) (hjn:y.In w (fun b=>S b/\b<w.heap.size) kb kd lb ld)
 (bs:∀w',Ext w w'->Calls prog 68 #[.slice ka n kc, .string key] w' fun e w''=>e= .returned (.tuple #[.int .i64 p, .bool false])/\Ext w' w'') (hp:p<=n):
 Calls prog 184 #[.agg #[.int .i64 5, .int .i64 nn, .string s, .slice ka n kc, .slice la n lc], .string key,y.val kb kd lb ld] w (qL S (.mk 5 nn s (ks.take p++key::ks.drop p) (l.take p++y::l.drop p)) w):=by
 obtain⟨news,hnl,lg,jn⟩:=zm gQ;have kj:=ae jn;have h1c:=jn.one;have sj:news.length=n*5:=by rw [hnl,hll.out]
 have xa:n=0\/∃ad,la=some ad/\∀j u,news[j]? =some u->w.cell? (ad.add j)=some u:=by rw [<-hll.out];exact lg
 have xc:=E1 hst;have xd:n=0\/∃ad,ka=some ad/\∀j u,(ks.map Value.string)[j]? =some u->w.cell? (ad.add j)=some u:=by rw [<-hks.out];exact xc
 have sk:∀(a:aq) (m:Nat) (xs:List Value) (w':World),(m=0\/∃ad,a=some ad/\∀j u,xs[j]? =some u->w.cell? (ad.add j)=some u)->Ext w w'-> (m=0\/∃ad,a=some ad/\∀j u,xs[j]? =some u->w'.cell? (ad.add j)=some u):=by
  rintro a m xs w' (h|⟨ad,h,h'⟩) e
  ·exact .inl h
  ·exact .inr ⟨ad,h,fun j u hj=>e.cell (h' j u hj)⟩
 have xe:∀w',Ext w w'->Calls prog 36 #[.slice ka n kc] w' fun e w''=>∃a' c',e= .returned (.slice a' n c')/\aM a' n c'/\w''.ownsRow w'.heap.size 9 1 (.slice a' n c') n (ks.map Value.string)/\Ext w' w'':=
  fun w' e=>Fa ka n kc _ w' gP cZ (by rw [List.length_map,hks.out];omega) (sk _ _ _ _ xd e) (oG ks)
 have xf:∀w',Ext w w'->Calls prog 61 #[.slice la n lc] w' fun e w''=>∃a' c',e= .returned (.slice a' n c')/\aM a' n c'/\w''.ownsRow w'.heap.size 36 5 (.slice a' n c') n news/\Ext w' w'':=
  fun w' e=>zn la n lc news w' fU cZ sj (sk _ _ _ _ xa e) h1c
 have kI:=ae h1c;have zi:=ae xe;have zj:=ae xf;have Bs:=ae bs;have FY:=ae sj;clear gQ hst jn h1c hnl lg sj xa xc xd sk xe xf bs gP fU;go_enter func184,ntmps184;go_wp2_with (go_at_call 68;refine(Bs.out _ Xt).mono ?_;rintro e w1 ⟨rfl,h1⟩);refine aI (R:=fun wx=>af wx w.heap.size #[.int .i64 5, .int .i64 nn, .string s, .slice ka n kc, .slice la n lc] 36/\aC wx (w.heap.size+1) y kb kd lb ld/\aN wx (w.heap.size+2)/\Ext w wx) ⟨aj,aj,aj,Xt⟩ ?_;clear h1;rintro wa ⟨ag,ai,ak,aD⟩;have au:∀w',Ext wa w'-> (w'.cell? ⟨w.heap.size,3,none⟩=some (.slice ka n kc)/\w'.cell? ⟨w.heap.size,4,none⟩=some (.slice la n lc)):=fun w' e=>⟨e.cell (ag.cells 3),e.cell (ag.cells 4)⟩;have MK:=ak.lt;obtain⟨hc0,ax,hl0⟩:=ag.see;refine fC au (c:=7) (by kernel_rfl) ?_;refine aG 0 [7] (hS:=au _ Xt) (h:= ?_);refine aG 1 [7] (hS:=au _ Xt) (h:= ?_);refine aG 3 [7] (hS:=au _ Xt) (h:= ?_);refine aG 4 [7] (hS:=au _ Xt) (h:= ?_);(try simp only [rl]);refine aL 2 (h:=fun K hK=> ?_);(try simp only [rl]);(try go_simp);(refine(zi.out _ Xt).mono ?_);rintro e w2 ⟨a2,c2,rfl,fU,hown2,h2⟩;(try go_simp);refine hK.out _ _ (fun _=>au _ Xt) ?_;clear hK K;refine aG 6 [7] (hS:=au _ Xt) (h:= ?_);(try simp only [rl]);refine aL 5 (h:=fun K hK=> ?_);(try simp only [rl]);(try go_simp);(refine(zj.out _ Xt).mono ?_);rintro e w3 ⟨a3,c3,rfl,jw,eo,h3⟩;(try go_simp);refine hK.out _ _ (fun _=>au _ Xt) ?_;clear hK K;(try simp only [rl]);have iD:af w3 w.heap.size #[.int .i64 5, .int .i64 nn, .string s, .slice ka n kc, .slice la n lc] 36:=af.ext (w:=wa) Xt ag;have lh:aC w3 (w.heap.size+1) y kb kd lb ld:=af.ext (w:=wa) Xt ai;have ML:aN w3 (w.heap.size+2):=af.ext (w:=wa) Xt ak;have kM:wa.heap.size<=w2.heap.size:=Ext.size (a:=wa) Xt;have hx2:Ext w w2:=Xt;have hx3:Ext w w3:=Xt;have hz2:=h2.size;have hz3:=h3.size;have MN:bC w3 (fun b=>w.heap.size+3<=b/\b<w2.heap.size) a2 ks:=by obtain⟨a4,c4,cM,-,-,hst⟩:=dK.strs (base:=w.heap.size+3) (ks:=ks) ⟨hks.out,pI hown2 (by simp;omega)⟩;simp only [Value.slice.injEq,true_and] at cM;obtain⟨rfl,rfl⟩:=cM;exact hst.keep (h3.kept _) (fun b h hl=>⟨h,hl⟩)
 have dC:=ae (eu (pI (b0:=w.heap.size+3) hown2 (by simp;omega)) h3);have pC:=ae (pI (b0:=w.heap.size+3) eo (by omega));have hapart:∀g,(Value.slice a2 n c2).ownBlock=some g->g<w2.heap.size:=fun g hg=>(hown2.lt g hg).2;have DN:∀g,(Value.slice a3 n c3).ownBlock=some g->w2.heap.size<=g/\g<w3.heap.size:=fun g hg=>eo.lt g hg;have MO:=ae hapart;have GH:=ae DN;clear hown2 eo hapart DN hc0 ax hl0 ag ai ak au h2 h3 aD;obtain⟨hc0,ax,hl0⟩:=iD.see;refine aL 7 (h:=fun K hK=> ?_);(try simp only [rl]);go_simp;refine br hK (h:= ?_);clear hK K;(try simp only [rl]);refine aL 8 (h:=fun K hK=> ?_);(try simp only [rl]);go_simp;refine br hK (h:= ?_);clear hK K;(try simp only [rl]);refine aL 9 (h:=fun K hK=> ?_);(try simp only [rl]);go_simp;refine br hK (h:= ?_);clear hK K;(try simp only [rl]);refine dw (by kernel_rfl) ?_ _;go_upto_region 7 with fail
 refine aI (R:=fun wx=>af wx w.heap.size #[.int .i64 5, .int .i64 nn, .string s, .slice a2 n c2, .slice a3 n c3] 36/\aC wx (w.heap.size+1) y kb kd lb ld/\aN wx (w.heap.size+2)/\Held (fun b=>b≠w.heap.size) w3 wx/\Ext w wx) ⟨aj,aj,aj,aB,Xt⟩ ?_;clear iD lh ML hc0 ax hl0 MN;rintro wb ⟨ag,ai,ak,gX,aO⟩;have kJ:=ae (dL dC.out (fun b hb hg=>gX.block b (by have:=(dC.out.lt b hg).1;simp;omega) hb));have qh:=ae (dL pC.out (fun b hb hg=>gX.block b (by have:=(pC.out.lt b hg).1;simp;omega) hb));have dQ:Hid (∀g,(Value.slice a2 n c2).ownBlock=some g->w.heap.size+3<=g/\g<wb.heap.size):=kJ.out.lt;have fw:Hid (∀g,(Value.slice a3 n c3).ownBlock=some g->w.heap.size+3<=g/\g<wb.heap.size):=qh.out.lt;have dS:Hid (∀g,(Value.slice a2 n c2).ownBlock=some g-> (Value.slice a3 n c3).ownBlock≠some g):=fun g h h'=>by have h1:=MO.out g h;have h2:=(GH.out g h').1;omega
 obtain⟨T,hT⟩:∃T:aw,T=fun b=>(Value.slice a2 n c2).ownBlock≠some b/\ (Value.slice a3 n c3).ownBlock≠some b:=⟨_,rfl⟩
 have rL:Hid (∀k,(Value.slice a2 n c2).ownBlock=some k->¬T k):=by rw [hT];exact fun k h h'=>h'.1 h
 have rM:Hid (∀k,(Value.slice a3 n c3).ownBlock=some k->¬T k):=by rw [hT];exact fun k h h'=>h'.2 h
 have hT0:Hid (∀b,b<w.heap.size+3->T b):=by rw [hT];exact fun b hb=>⟨fun h=>by have:=(dQ.out b h).1;omega,fun h=>by have:=(fw.out b h).1;omega⟩
 clear hT dC pC MO GH zi zj Bs
 have au:∀w',Held T wb w'-> (w'.cell? ⟨w.heap.size,3,none⟩=some (.slice a2 n c2)/\w'.cell? ⟨w.heap.size,4,none⟩=some (.slice a3 n c3)/\w'.cell? ⟨w.heap.size+1,0,none⟩=some (.int .i64 y.k)/\w'.cell? ⟨w.heap.size+1,1,none⟩=some (.int .i64 y.n)/\w'.cell? ⟨w.heap.size+1,2,none⟩=some (.string y.s)/\w'.cell? ⟨w.heap.size+1,3,none⟩=some (.slice kb y.keys.length kd)/\w'.cell? ⟨w.heap.size+1,4,none⟩=some (.slice lb y.l.length ld)):=
  fun w' e=>⟨e.kept.cell (hT0.out _ (by simp)) (ag.cells 3),e.kept.cell (hT0.out _ (by simp)) (ag.cells 4),e.kept.cell (hT0.out _ (by simp)) (ai.cells 0),e.kept.cell (hT0.out _ (by simp)) (ai.cells 1),e.kept.cell (hT0.out _ (by simp)) (ai.cells 2),e.kept.cell (hT0.out _ (by simp)) (ai.cells 3),e.kept.cell (hT0.out _ (by simp)) (ai.cells 4)⟩
 have hbl:=ak.lt;refine fC au (c:=13) (by kernel_rfl) ?_;refine aG 0 [13] (hS:=au _ aB) (h:= ?_);refine aG 1 [13] (hS:=au _ aB) (h:= ?_);refine aG 2 [13] (hS:=au _ aB) (h:= ?_);refine aG 3 [13] (hS:=au _ aB) (h:= ?_);refine aG 6 [13] (hS:=au _ aB) (h:= ?_);refine aG 7 [13] (hS:=au _ aB) (h:= ?_);refine aG 8 [11,13] (hS:=au _ aB) (h:= ?_);refine aG 9 [10,11,13] (hS:=au _ aB) (h:= ?_);(try simp only [rl]);refine lX (rs:= [4,10]) (by kernel_rfl) (by simp) ?_;refine cL.cons (Array.getElem?_eq_getElem (by decide)) (fun K hK=> ?_) (cL.cons (Array.getElem?_eq_getElem (by decide)) (fun K hK=> ?_) cL.nil)
 · (try simp only [rl])
   go_simp;refine hK.out _ _ (fun _=>au _ aB) ?_;clear hK K;(try simp only [rl]);refine lX (rs:= [5,10]) (by kernel_rfl) (by simp) ?_;refine cL.cons (Array.getElem?_eq_getElem (by decide)) (fun K hK=> ?_) (cL.cons (Array.getElem?_eq_getElem (by decide)) (fun K hK=> ?_) cL.nil)
   · (try simp only [rl])
     (try go_simp);(refine(uH (w.heap.size+3) n p _ _ (.slice a2 n c2) (ks.map Value.string) [.string key] _ 9 ?_ ?_ cZ hp ?_ ?_ rfl (oG ks) (by simp [Value.oneCell'])).mono ?_);(focus(simp;omega));(focus(exact eu kJ.out Xt));(focus(exact aj));(focus(intro h;have h':=(dQ.out _ h).2;(first|omega|(simp at h';omega)|(simp at h';done))));rintro e w5 ⟨g5,cV,rfl,dM,cz,fx⟩;have eA:Held T wb w5:=Held.grown aB cz rL.out;have bG:Ext w w5:=Ext.grown Xt cz (fun g hg=>by have:=(dQ.out g hg).1;omega);have lU:=ae (dL qh.out (fun b hb hg=>Held.block (T:=fun c=>(Value.slice a2 n c2).ownBlock≠some c) (Held.grown aB cz (fun k hk h=>h hk)) b (fun h=>dS.out b h hg) hb));have ft:(Value.slice a3 n c3).ownBlock≠some g5:=fun h=>by
      rcases fx with h'|h'
      ·exact dS.out _ h' h
      ·have h2:=(fw.out _ h).2;simp at h';omega
     have gq:wb.heap.size<=w5.heap.size:=eA.size;have xg:Hid (bC w5 (fun b=>w.heap.size+3<=b/\ (Value.slice a3 n c3).ownBlock≠some b) (some ⟨g5,0,none⟩) (ks.take p++key::ks.drop p)):=by
      obtain⟨a4,c4,cM,-,-,hst⟩:=dK.strs (base:=w.heap.size+3) (n:=n+1) (v:= .slice (some ⟨g5,0,none⟩) (n+1) cV) (ks:=ks.take p++key::ks.drop p) ⟨by simp [hks.out];omega,by simpa [List.map_take,List.map_drop] using dM⟩;simp only [Value.slice.injEq,true_and] at cM;obtain⟨rfl,rfl⟩:=cM;rcases hst with h|⟨b,o,he,h1,h2⟩
      ·exact .inl h
      ·simp only [Option.some.injEq,Addr.mk.injEq,and_true] at he
       obtain⟨rfl,rfl⟩:=he;exact .inr ⟨_,_,rfl,⟨h1,ft⟩,h2⟩
     have gV:aM (some (⟨g5,0,none⟩:Addr)) (n+1) cV:=by obtain⟨a4,c4,cM,h⟩:=fG dM;simp only [Value.slice.injEq,true_and] at cM;obtain⟨rfl,rfl⟩:=cM;exact h
     clear dM fx ft;(try go_simp);refine hK.out _ _ (fun _=>au _ aB) ?_;clear hK K;refine aG 12 [13] (hS:=au _ aB) (h:= ?_);(try simp only [rl]);refine aL 10 (h:=fun K hK=> ?_);(try simp only [rl]);go_simp;refine hK.out _ _ (fun _=>au _ aB) ?_;clear hK K;(try simp only [rl]);refine aL 11 (h:=fun K hK=> ?_);(try simp only [rl]);(try go_simp);(refine(qB (w.heap.size+3) n p _ _ (.slice a3 n c3) news (y.five kb kd lb ld) _ 36 ?_ ?_ cZ hp ?_ ?_ rfl kI.out (y.lY kb kd lb ld)).mono ?_);(focus(first|(simp;omega)|omega));(focus(exact eu lU.out Xt));(focus(exact aj));(focus(intro h;have h':=(fw.out _ h).2;(first|omega|(simp at h';omega)|(simp at h';done))));rintro e w6 ⟨g6,bp,rfl,bz,aW,bX⟩;have bw:Held T wb w6:=Held.grown aB aW rM.out;(try go_simp);refine hK.out _ _ (fun _=>au _ bw) ?_;clear hK K;(try simp only [rl]);have bS:Ext w w6:=Ext.grown Xt aW (fun g hg=>by have:=(fw.out g hg).1;omega);have zk:bC w6 (fun b=>w.heap.size+3<=b) (some ⟨g5,0,none⟩) (ks.take p++key::ks.drop p):=xg.out.keep (Held.kept (T:=fun b=>w.heap.size+3<=b/\ (Value.slice a3 n c3).ownBlock≠some b) (Held.grown aB aW (fun k hk h=>h.2 hk))) (fun b h _=>h.1);have hcc:=(kj.out.keep (bS.kept _) (fun b h _=>h)).ins p (hjn.ext bS);obtain⟨g7,cur,km,hgb,hBg,hcz,hits⟩:=pJ (Nat.succ_pos n) (by simp [hll.out];omega) bz hcc;have jP:aM (some (⟨g6,0,none⟩:Addr)) (n+1) bp:=by obtain⟨a4,c4,cM,h⟩:=fG bz;simp only [Value.slice.injEq,true_and] at cM;obtain⟨rfl,rfl⟩:=cM;exact h
     simp only [Option.some.injEq,Addr.mk.injEq,and_true] at km;obtain rfl:=km;have ag:=af.held bw ag (hT0.out _ (by omega));have ak:=af.held bw ak (hT0.out _ (by omega));have fV:=ae hits;clear bz aW bX hcc hits hBg au ai cz eA bG gX aO xg;obtain⟨hc0,ax,hl0⟩:=ag.see;refine aL 13 (h:=fun K hK=> ?_);(try simp only [rl]);go_simp;refine br hK (h:= ?_);clear hK K;(try simp only [rl]);refine aL 14 (h:=fun K hK=> ?_);(try simp only [rl]);go_simp;refine br hK (h:= ?_);clear hK K;(try simp only [rl]);refine aL 15 (h:=fun K hK=> ?_);(try simp only [rl]);go_simp;refine br hK (h:= ?_);clear hK K;(try simp only [rl]);refine dw (by kernel_rfl) ?_ _;go_upto_region 8 with fail
     refine aI (R:=fun wy=>af wy w.heap.size #[.int .i64 5, .int .i64 nn, .string s, .slice (some ⟨g5,0,none⟩) (n+1) cV, .slice (some ⟨g6,0,none⟩) (n+1) bp] 36/\aN wy (w.heap.size+2)/\Held (fun b=>b≠w.heap.size) w6 wy/\Ext w wy) ⟨aj,aj,aB,Xt⟩ ?_;clear ag ak hc0 ax hl0;rintro wy ⟨ag,ak,lI,hxy⟩;obtain⟨hc0,ax,hl0⟩:=ag.see;obtain⟨hc2,hf2,hl2⟩:=ak.see;go_wp2_with fail;refine aF (h:= ?_);refine⟨some ⟨g5,0,none⟩,cV,some ⟨g6,0,none⟩,bp,?_,(V.df ..).2 ⟨?_,?_,?_, .inr ⟨g6,0,rfl, .inr (by omega),fun i hi=> ?_⟩⟩,Xt⟩
     ·have e1:(ks.take p++key::ks.drop p).length=n+1:=by simp [hks.out];omega
      have e2:(l.take p++y::l.drop p).length=n+1:=by simp [hll.out];omega
      simp only [V.val,V.fT,V.dV,V.tN,V.tO,V.ki,e1,e2]
     ·have e1:(ks.take p++key::ks.drop p).length=n+1:=by simp [hks.out];omega
      rw [V.fT,e1];exact gV
     ·have e2:(l.take p++y::l.drop p).length=n+1:=by simp [hll.out];omega
      rw [V.dV,e2];exact jP
     ·have h1:Held (fun b=>w.heap.size+3<=b) w6 wy:=lI.mono (fun b h=>by simp;omega)
      exact zk.keep (Held.kept (a:=w6) (T:=fun b=>w.heap.size+3<=b) aB) (fun b h _=> .inr (by omega))
     ·rw [Nat.zero_add]
      have h1:Held (fun b=>b≠w.heap.size/\b≠w.heap.size+2) w6 wy:=lI.mono (fun b h=>h.1);exact((fV.out i hi).keep' (T:=fun b=>b≠w.heap.size/\b≠w.heap.size+2) (by simp;omega) (Held.kept (a:=w6) aB) (fun b h=>by simp;omega)).mono (fun b h=> .inl h.1)
   · (try simp only [rl])
     go_simp;refine hK.out _ _ (fun _=>au _ aB) ?_;clear hK K;(try simp only [rl]);refine aL 5 (h:=fun K hK=> ?_);(try simp only [rl]);(try go_simp);(refine(uH (w.heap.size+3) n p _ _ (.slice a2 n c2) (ks.map Value.string) [.string key] _ 9 ?_ ?_ cZ hp ?_ ?_ rfl (oG ks) (by simp [Value.oneCell'])).mono ?_);(focus(simp;omega));(focus(exact eu kJ.out Xt));(focus(exact aj));(focus(intro h;have h':=(dQ.out _ h).2;(first|omega|(simp at h';omega)|(simp at h';done))));rintro e w5 ⟨g5,cV,rfl,dM,cz,fx⟩;have eA:Held T wb w5:=Held.grown aB cz rL.out;have bG:Ext w w5:=Ext.grown Xt cz (fun g hg=>by have:=(dQ.out g hg).1;omega);have lU:=ae (dL qh.out (fun b hb hg=>Held.block (T:=fun c=>(Value.slice a2 n c2).ownBlock≠some c) (Held.grown aB cz (fun k hk h=>h hk)) b (fun h=>dS.out b h hg) hb));have ft:(Value.slice a3 n c3).ownBlock≠some g5:=fun h=>by
      rcases fx with h'|h'
      ·exact dS.out _ h' h
      ·have h2:=(fw.out _ h).2;simp at h';omega
     have gq:wb.heap.size<=w5.heap.size:=eA.size;have xg:Hid (bC w5 (fun b=>w.heap.size+3<=b/\ (Value.slice a3 n c3).ownBlock≠some b) (some ⟨g5,0,none⟩) (ks.take p++key::ks.drop p)):=by
      obtain⟨a4,c4,cM,-,-,hst⟩:=dK.strs (base:=w.heap.size+3) (n:=n+1) (v:= .slice (some ⟨g5,0,none⟩) (n+1) cV) (ks:=ks.take p++key::ks.drop p) ⟨by simp [hks.out];omega,by simpa [List.map_take,List.map_drop] using dM⟩;simp only [Value.slice.injEq,true_and] at cM;obtain⟨rfl,rfl⟩:=cM;rcases hst with h|⟨b,o,he,h1,h2⟩
      ·exact .inl h
      ·simp only [Option.some.injEq,Addr.mk.injEq,and_true] at he
       obtain⟨rfl,rfl⟩:=he;exact .inr ⟨_,_,rfl,⟨h1,ft⟩,h2⟩
     have gV:aM (some (⟨g5,0,none⟩:Addr)) (n+1) cV:=by obtain⟨a4,c4,cM,h⟩:=fG dM;simp only [Value.slice.injEq,true_and] at cM;obtain⟨rfl,rfl⟩:=cM;exact h
     have C8:af w5 (wb.heap.size+1) (y.five kb kd lb ld).toArray 36:=af.grown (w':=w5) aj cz (fun e=>by have h':=(dQ.out _ e.symm).2;omega);clear dM fx ft;(try go_simp);refine hK.out _ _ (fun _=>au _ aB) ?_;clear hK K;refine aG 12 [13] (hS:=au _ aB) (h:= ?_);(try simp only [rl]);refine aL 11 (h:=fun K hK=> ?_);(try simp only [rl]);(try go_simp);(refine(qB (w.heap.size+3) n p _ _ (.slice a3 n c3) news (y.five kb kd lb ld) _ 36 ?_ ?_ cZ hp ?_ ?_ rfl kI.out (y.lY kb kd lb ld)).mono ?_);(focus(first|(simp;omega)|omega));(focus(exact eu lU.out Xt));(focus(exact aj));(focus(intro h;have h':=(fw.out _ h).2;(first|omega|(simp at h';omega)|(simp at h';done))));rintro e w6 ⟨g6,bp,rfl,bz,aW,bX⟩;have bw:Held T wb w6:=Held.grown aB aW rM.out;(try go_simp);refine hK.out _ _ (fun _=>au _ bw) ?_;clear hK K;(try simp only [rl]);have bS:Ext w w6:=Ext.grown Xt aW (fun g hg=>by have:=(fw.out g hg).1;omega);have zk:bC w6 (fun b=>w.heap.size+3<=b) (some ⟨g5,0,none⟩) (ks.take p++key::ks.drop p):=xg.out.keep (Held.kept (T:=fun b=>w.heap.size+3<=b/\ (Value.slice a3 n c3).ownBlock≠some b) (Held.grown aB aW (fun k hk h=>h.2 hk))) (fun b h _=>h.1);have hcc:=(kj.out.keep (bS.kept _) (fun b h _=>h)).ins p (hjn.ext bS);obtain⟨g7,cur,km,hgb,hBg,hcz,hits⟩:=pJ (Nat.succ_pos n) (by simp [hll.out];omega) bz hcc;have jP:aM (some (⟨g6,0,none⟩:Addr)) (n+1) bp:=by obtain⟨a4,c4,cM,h⟩:=fG bz;simp only [Value.slice.injEq,true_and] at cM;obtain⟨rfl,rfl⟩:=cM;exact h
     simp only [Option.some.injEq,Addr.mk.injEq,and_true] at km;obtain rfl:=km;have ag:=af.held bw ag (hT0.out _ (by omega));have ak:=af.held bw ak (hT0.out _ (by omega));have fV:=ae hits;clear bz aW bX hcc hits hBg au ai cz eA bG gX aO xg;obtain⟨hc0,ax,hl0⟩:=ag.see;refine aL 13 (h:=fun K hK=> ?_);(try simp only [rl]);go_simp;refine br hK (h:= ?_);clear hK K;(try simp only [rl]);refine aL 14 (h:=fun K hK=> ?_);(try simp only [rl]);go_simp;refine br hK (h:= ?_);clear hK K;(try simp only [rl]);refine aL 15 (h:=fun K hK=> ?_);(try simp only [rl]);go_simp;refine br hK (h:= ?_);clear hK K;(try simp only [rl]);refine dw (by kernel_rfl) ?_ _;go_upto_region 8 with fail
     refine aI (R:=fun wy=>af wy w.heap.size #[.int .i64 5, .int .i64 nn, .string s, .slice (some ⟨g5,0,none⟩) (n+1) cV, .slice (some ⟨g6,0,none⟩) (n+1) bp] 36/\aN wy (w.heap.size+2)/\Held (fun b=>b≠w.heap.size) w6 wy/\Ext w wy) ⟨aj,aj,aB,Xt⟩ ?_;clear ag ak hc0 ax hl0;rintro wy ⟨ag,ak,lI,hxy⟩;obtain⟨hc0,ax,hl0⟩:=ag.see;obtain⟨hc2,hf2,hl2⟩:=ak.see;go_wp2_with fail;refine aF (h:= ?_);refine⟨some ⟨g5,0,none⟩,cV,some ⟨g6,0,none⟩,bp,?_,(V.df ..).2 ⟨?_,?_,?_, .inr ⟨g6,0,rfl, .inr (by omega),fun i hi=> ?_⟩⟩,Xt⟩
     ·have e1:(ks.take p++key::ks.drop p).length=n+1:=by simp [hks.out];omega
      have e2:(l.take p++y::l.drop p).length=n+1:=by simp [hll.out];omega
      simp only [V.val,V.fT,V.dV,V.tN,V.tO,V.ki,e1,e2]
     ·have e1:(ks.take p++key::ks.drop p).length=n+1:=by simp [hks.out];omega
      rw [V.fT,e1];exact gV
     ·have e2:(l.take p++y::l.drop p).length=n+1:=by simp [hll.out];omega
      rw [V.dV,e2];exact jP
     ·have h1:Held (fun b=>w.heap.size+3<=b) w6 wy:=lI.mono (fun b h=>by simp;omega)
      exact zk.keep (Held.kept (a:=w6) (T:=fun b=>w.heap.size+3<=b) aB) (fun b h _=> .inr (by omega))
     ·rw [Nat.zero_add]
      have h1:Held (fun b=>b≠w.heap.size/\b≠w.heap.size+2) w6 wy:=lI.mono (fun b h=>h.1);exact((fV.out i hi).keep' (T:=fun b=>b≠w.heap.size/\b≠w.heap.size+2) (by simp;omega) (Held.kept (a:=w6) aB) (fun b h=>by simp;omega)).mono (fun b h=> .inl h.1)
 · (try simp only [rl])
   go_simp;refine hK.out _ _ (fun _=>au _ aB) ?_;clear hK K;(try simp only [rl]);refine aL 4 (h:=fun K hK=> ?_);(try simp only [rl]);go_simp;refine hK.out _ _ (fun _=>au _ aB) ?_;clear hK K;(try simp only [rl]);refine aL 5 (h:=fun K hK=> ?_);(try simp only [rl]);(try go_simp);(refine(uH (w.heap.size+3) n p _ _ (.slice a2 n c2) (ks.map Value.string) [.string key] _ 9 ?_ ?_ cZ hp ?_ ?_ rfl (oG ks) (by simp [Value.oneCell'])).mono ?_);(focus(simp;omega));(focus(exact eu kJ.out Xt));(focus(exact aj));(focus(intro h;have h':=(dQ.out _ h).2;(first|omega|(simp at h';omega)|(simp at h';done))));rintro e w5 ⟨g5,cV,rfl,dM,cz,fx⟩;have eA:Held T wb w5:=Held.grown aB cz rL.out;have bG:Ext w w5:=Ext.grown Xt cz (fun g hg=>by have:=(dQ.out g hg).1;omega);have lU:=ae (dL qh.out (fun b hb hg=>Held.block (T:=fun c=>(Value.slice a2 n c2).ownBlock≠some c) (Held.grown aB cz (fun k hk h=>h hk)) b (fun h=>dS.out b h hg) hb));have ft:(Value.slice a3 n c3).ownBlock≠some g5:=fun h=>by
    rcases fx with h'|h'
    ·exact dS.out _ h' h
    ·have h2:=(fw.out _ h).2;simp at h';omega
   have gq:wb.heap.size<=w5.heap.size:=eA.size;have xg:Hid (bC w5 (fun b=>w.heap.size+3<=b/\ (Value.slice a3 n c3).ownBlock≠some b) (some ⟨g5,0,none⟩) (ks.take p++key::ks.drop p)):=by
    obtain⟨a4,c4,cM,-,-,hst⟩:=dK.strs (base:=w.heap.size+3) (n:=n+1) (v:= .slice (some ⟨g5,0,none⟩) (n+1) cV) (ks:=ks.take p++key::ks.drop p) ⟨by simp [hks.out];omega,by simpa [List.map_take,List.map_drop] using dM⟩;simp only [Value.slice.injEq,true_and] at cM;obtain⟨rfl,rfl⟩:=cM;rcases hst with h|⟨b,o,he,h1,h2⟩
    ·exact .inl h
    ·simp only [Option.some.injEq,Addr.mk.injEq,and_true] at he
     obtain⟨rfl,rfl⟩:=he;exact .inr ⟨_,_,rfl,⟨h1,ft⟩,h2⟩
   have gV:aM (some (⟨g5,0,none⟩:Addr)) (n+1) cV:=by obtain⟨a4,c4,cM,h⟩:=fG dM;simp only [Value.slice.injEq,true_and] at cM;obtain⟨rfl,rfl⟩:=cM;exact h
   have C8:af w5 (wb.heap.size) (y.five kb kd lb ld).toArray 36:=af.grown (w':=w5) aj cz (fun e=>by have h':=(dQ.out _ e.symm).2;omega);clear dM fx ft;(try go_simp);refine hK.out _ _ (fun _=>au _ aB) ?_;clear hK K;refine aG 12 [13] (hS:=au _ aB) (h:= ?_);(try simp only [rl]);refine aL 11 (h:=fun K hK=> ?_);(try simp only [rl]);(try go_simp);(refine(qB (w.heap.size+3) n p _ _ (.slice a3 n c3) news (y.five kb kd lb ld) _ 36 ?_ ?_ cZ hp ?_ ?_ rfl kI.out (y.lY kb kd lb ld)).mono ?_);(focus(first|(simp;omega)|omega));(focus(exact eu lU.out Xt));(focus(exact aj));(focus(intro h;have h':=(fw.out _ h).2;(first|omega|(simp at h';omega)|(simp at h';done))));rintro e w6 ⟨g6,bp,rfl,bz,aW,bX⟩;have bw:Held T wb w6:=Held.grown aB aW rM.out;(try go_simp);refine hK.out _ _ (fun _=>au _ bw) ?_;clear hK K;(try simp only [rl]);have bS:Ext w w6:=Ext.grown Xt aW (fun g hg=>by have:=(fw.out g hg).1;omega);have zk:bC w6 (fun b=>w.heap.size+3<=b) (some ⟨g5,0,none⟩) (ks.take p++key::ks.drop p):=xg.out.keep (Held.kept (T:=fun b=>w.heap.size+3<=b/\ (Value.slice a3 n c3).ownBlock≠some b) (Held.grown aB aW (fun k hk h=>h.2 hk))) (fun b h _=>h.1);have hcc:=(kj.out.keep (bS.kept _) (fun b h _=>h)).ins p (hjn.ext bS);obtain⟨g7,cur,km,hgb,hBg,hcz,hits⟩:=pJ (Nat.succ_pos n) (by simp [hll.out];omega) bz hcc;have jP:aM (some (⟨g6,0,none⟩:Addr)) (n+1) bp:=by obtain⟨a4,c4,cM,h⟩:=fG bz;simp only [Value.slice.injEq,true_and] at cM;obtain⟨rfl,rfl⟩:=cM;exact h
   simp only [Option.some.injEq,Addr.mk.injEq,and_true] at km;obtain rfl:=km;have ag:=af.held bw ag (hT0.out _ (by omega));have ak:=af.held bw ak (hT0.out _ (by omega));have fV:=ae hits;clear bz aW bX hcc hits hBg au ai cz eA bG gX aO xg;obtain⟨hc0,ax,hl0⟩:=ag.see;refine aL 13 (h:=fun K hK=> ?_);(try simp only [rl]);go_simp;refine br hK (h:= ?_);clear hK K;(try simp only [rl]);refine aL 14 (h:=fun K hK=> ?_);(try simp only [rl]);go_simp;refine br hK (h:= ?_);clear hK K;(try simp only [rl]);refine aL 15 (h:=fun K hK=> ?_);(try simp only [rl]);go_simp;refine br hK (h:= ?_);clear hK K;(try simp only [rl]);refine dw (by kernel_rfl) ?_ _;go_upto_region 8 with fail
   refine aI (R:=fun wy=>af wy w.heap.size #[.int .i64 5, .int .i64 nn, .string s, .slice (some ⟨g5,0,none⟩) (n+1) cV, .slice (some ⟨g6,0,none⟩) (n+1) bp] 36/\aN wy (w.heap.size+2)/\Held (fun b=>b≠w.heap.size) w6 wy/\Ext w wy) ⟨aj,aj,aB,Xt⟩ ?_;clear ag ak hc0 ax hl0;rintro wy ⟨ag,ak,lI,hxy⟩;obtain⟨hc0,ax,hl0⟩:=ag.see;obtain⟨hc2,hf2,hl2⟩:=ak.see;go_wp2_with fail;refine aF (h:= ?_);refine⟨some ⟨g5,0,none⟩,cV,some ⟨g6,0,none⟩,bp,?_,(V.df ..).2 ⟨?_,?_,?_, .inr ⟨g6,0,rfl, .inr (by omega),fun i hi=> ?_⟩⟩,Xt⟩
   ·have e1:(ks.take p++key::ks.drop p).length=n+1:=by simp [hks.out];omega
    have e2:(l.take p++y::l.drop p).length=n+1:=by simp [hll.out];omega
    simp only [V.val,V.fT,V.dV,V.tN,V.tO,V.ki,e1,e2]
   ·have e1:(ks.take p++key::ks.drop p).length=n+1:=by simp [hks.out];omega
    rw [V.fT,e1];exact gV
   ·have e2:(l.take p++y::l.drop p).length=n+1:=by simp [hll.out];omega
    rw [V.dV,e2];exact jP
   ·have h1:Held (fun b=>w.heap.size+3<=b) w6 wy:=lI.mono (fun b h=>by simp;omega)
    exact zk.keep (Held.kept (a:=w6) (T:=fun b=>w.heap.size+3<=b) aB) (fun b h _=> .inr (by omega))
   ·rw [Nat.zero_add]
    have h1:Held (fun b=>b≠w.heap.size/\b≠w.heap.size+2) w6 wy:=lI.mono (fun b h=>h.1);exact((fV.out i hi).keep' (T:=fun b=>b≠w.heap.size/\b≠w.heap.size+2) (by simp;omega) (Held.kept (a:=w6) aB) (fun b h=>by simp;omega)).mono (fun b h=> .inl h.1)
theorem aff (x:V) (ka:aq) (kc:Nat) (la:aq) (lc:Nat) (key:ah) (y:V) (kb:aq) (kd:Nat) (lb:aq) (ld:Nat) (S:aw) (w:World) (hx:¬(x.k=5/\x.keys.length=x.l.length)) (hin:x.In w S ka kc la lc):
 Calls prog 184 #[x.val ka kc la lc, .string key,y.val kb kd lb ld] w (qL S x w):=by
 by_cases h5:x.k=5
 ·have gW:x.keys.length≠x.l.length:=fun h=>hx ⟨h5,h⟩
  have mU:(x.k==5)=true:=by simpa using h5
  have GI:(x.k !=5)=false:=by simpa using h5
  have hlen:((x.keys.length:Int)==(x.l.length:Int))=false:=by simpa using fun h=>gW (by omega)
  have Vb:((x.keys.length:Int) !=(x.l.length:Int))=true:=by simpa using fun h=>gW (by omega)
  clear gW h5 hx;go_enter func184,ntmps184;go_wp2_with fail;refine aF (h:= ?_);exact⟨ka,kc,la,lc,rfl,(hin.ext Xt).mono (fun b h _=> .inl h),Xt⟩
 ·have mU:(x.k==5)=false:=by simpa using h5
  have GI:(x.k !=5)=true:=by simpa using h5
  clear h5 hx;go_enter func184,ntmps184;go_wp2_with fail;refine aF (h:= ?_);exact⟨ka,kc,la,lc,rfl,(hin.ext Xt).mono (fun b h _=> .inl h),Xt⟩
theorem tM (x:V) (ka:aq) (kc:Nat) (la:aq) (lc:Nat) (key:ah) (y:V) (kb:aq) (kd:Nat) (lb:aq) (ld:Nat) (S:aw) (w:World) (hsz:x.size<=1073741824) (hr:cG x.keys) (hin:x.In w S ka kc la lc) (hjn:y.In w S kb kd lb ld):
 Calls prog 184 #[x.val ka kc la lc, .string key,y.val kb kd lb ld] w (qL S (x.put key y) w):=by
 by_cases hx:x.k=5/\x.keys.length=x.l.length
 ·have hin':=hin.mono (T:=fun b=>S b/\b<w.heap.size) fun b h hl=>⟨h,hl⟩
  have Vc:=hjn.mono (T:=fun b=>S b/\b<w.heap.size) fun b h hl=>⟨h,hl⟩;obtain⟨h1,h2,h3,h4⟩:=(V.df ..).1 hin';have hl:=x.jO;have hle:=sK x.keys key;have hv:x.val ka kc la lc= .agg #[.int .i64 5, .int .i64 x.n, .string x.s, .slice ka x.l.length kc, .slice la x.l.length lc]:=by rw [V.val,hx.1,hx.2]
  rw [hx.2] at h1;rw [hv]
  cases hb:hasB x.keys key with
  |true=>
   rw [x9 hx hb,hx.1];refine afd x.n x.s x.keys x.l x.l.length ka kc la lc key y kb kd lb ld S w (posOf x.keys key) hx.2 rfl (by omega) h1 h2 h3 h4 Vc ?_ (by have:=sG hb;omega);intro w' e;have:=zw ka x.l.length kc x.keys _ key w' hx.2 (h3.ext e) hr (by omega);rw [hb] at this;exact this
  |false=>
   rw [ya hx hb,hx.1];refine afe x.n x.s x.keys x.l x.l.length ka kc la lc key y kb kd lb ld S w (posOf x.keys key) hx.2 rfl (by omega) h1 h2 h3 h4 Vc ?_ (by omega);intro w' e;have:=zw ka x.l.length kc x.keys _ key w' hx.2 (h3.ext e) hr (by omega);rw [hb] at this;exact this
 ·rw [OP hx]
  exact aff x ka kc la lc key y kb kd lb ld S w hx hin
theorem afg (base k m c:Nat) (a:aq) (xs:List Value) (w:World) (ho:w.ownsRow base 9 1 (.slice a (m+1) c) (m+1) xs) (hk:k<=m) (h1:∀u∈xs,u.oneCell'=true):
 Calls prog 211 #[.slice a (m+1) c, .int .i64 k, .int .i64 ((k:Int)+1)] w fun e w'=>e= .returned (.slice a m c)/\w'.ownsRow base 9 1 (.slice a m c) m (xs.take k++xs.drop (k+1))/\w.grownBy w' (Value.slice a (m+1) c).ownBlock:=by
 obtain⟨g,cap,cur,hv,hb,hg,hnc,hm,hcs,ht⟩:=pz ho (by omega);simp only [Value.slice.injEq,true_and] at hv;obtain⟨rfl,rfl⟩:=hv;have ht':cur.toList.take (m+1)=xs:=by simpa using ht
 refine(Y5 base g m c k cur w hb hg (by omega) hm hcs hk (by rw [ht'];exact h1)).mono ?_;rintro e w' ⟨he,h2,h3⟩;rw [ht'] at h2;exact⟨he,h2,h3⟩
theorem Si (base k m c:Nat) (a:aq) (xs:List Value) (w:World) (ho:w.ownsRow base 36 5 (.slice a (m+1) c) (m+1) xs) (hk:k<=m) (h1:∀u∈xs,u.oneCell'=true):
 Calls prog 212 #[.slice a (m+1) c, .int .i64 k, .int .i64 ((k:Int)+1)] w fun e w'=>e= .returned (.slice a m c)/\w'.ownsRow base 36 5 (.slice a m c) m (xs.take (k*5)++xs.drop ((k+1)*5))/\w.grownBy w' (Value.slice a (m+1) c).ownBlock:=by
 obtain⟨g,cap,cur,hv,hb,hg,hnc,hm,hcs,ht⟩:=pz ho (by omega);simp only [Value.slice.injEq,true_and] at hv;obtain⟨rfl,rfl⟩:=hv;refine(Y6 base g m c k cur w hb hg (by omega) hm hcs hk (by rw [ht];exact h1)).mono ?_;rintro e w' ⟨he,h2,h3⟩;rw [ht] at h2;exact⟨he,h2,h3⟩
theorem afh (nn:Int) (s:ah) (ks:List ah) (l:List V) (m:Nat) (ka:aq) (kc:Nat) (la:aq) (lc:Nat) (key:ah) (S:aw) (w:World) (p:Nat)
 (hks:Hid (ks.length=m+1)) (hll:Hid (l.length=m+1)) (cZ:m+1<=1073741824) (gP:aM ka (m+1) kc) (fU:aM la (m+1) lc) (hst:bC w (fun b=>S b/\b<w.heap.size) ka ks) (gQ:Rows w (fun b=>S b/\b<w.heap.size) l la)
 (bs:∀w',Ext w w'->Calls prog 68 #[.slice ka (m+1) kc, .string key] w' fun e w''=>e= .returned (.tuple #[.int .i64 p, .bool true])/\Ext w' w'') (hp:p<=m):
 Calls prog 183 #[.agg #[.int .i64 5, .int .i64 nn, .string s, .slice ka (m+1) kc, .slice la (m+1) lc], .string key] w (qL S (.mk 5 nn s (ks.take p++ks.drop (p+1)) (l.take p++l.drop (p+1))) w):=by
 obtain⟨news,hnl,lg,jn⟩:=zm gQ;have kj:=ae jn;have h1c:=jn.one;have sj:news.length=(m+1)*5:=by rw [hnl,hll.out]
 have xa:m+1=0\/∃ad,la=some ad/\∀j u,news[j]? =some u->w.cell? (ad.add j)=some u:=by rw [<-hll.out];exact lg
 have xc:=E1 hst;have xd:m+1=0\/∃ad,ka=some ad/\∀j u,(ks.map Value.string)[j]? =some u->w.cell? (ad.add j)=some u:=by rw [<-hks.out];exact xc
 have sk:∀(a:aq) (m:Nat) (xs:List Value) (w':World),(m=0\/∃ad,a=some ad/\∀j u,xs[j]? =some u->w.cell? (ad.add j)=some u)->Ext w w'-> (m=0\/∃ad,a=some ad/\∀j u,xs[j]? =some u->w'.cell? (ad.add j)=some u):=by
  rintro a m xs w' (h|⟨ad,h,h'⟩) e
  ·exact .inl h
  ·exact .inr ⟨ad,h,fun j u hj=>e.cell (h' j u hj)⟩
 have xe:∀w',Ext w w'->Calls prog 36 #[.slice ka (m+1) kc] w' fun e w''=>∃a' c',e= .returned (.slice a' (m+1) c')/\aM a' (m+1) c'/\w''.ownsRow w'.heap.size 9 1 (.slice a' (m+1) c') (m+1) (ks.map Value.string)/\Ext w' w'':=
  fun w' e=>Fa ka (m+1) kc _ w' gP cZ (by rw [List.length_map,hks.out];omega) (sk _ _ _ _ xd e) (oG ks)
 have xf:∀w',Ext w w'->Calls prog 61 #[.slice la (m+1) lc] w' fun e w''=>∃a' c',e= .returned (.slice a' (m+1) c')/\aM a' (m+1) c'/\w''.ownsRow w'.heap.size 36 5 (.slice a' (m+1) c') (m+1) news/\Ext w' w'':=
  fun w' e=>zn la (m+1) lc news w' fU cZ sj (sk _ _ _ _ xa e) h1c
 have kI:=ae h1c;have zi:=ae xe;have zj:=ae xf;have Bs:=ae bs;have FY:=ae sj;clear gQ hst jn h1c hnl lg sj xa xc xd sk xe xf bs gP fU;go_enter func183,ntmps183;go_wp2_with (go_at_call 68;refine(Bs.out _ Xt).mono ?_;rintro e w1 ⟨rfl,h1⟩);refine aI (R:=fun wx=>af wx w.heap.size #[.int .i64 5, .int .i64 nn, .string s, .slice ka (m+1) kc, .slice la (m+1) lc] 36/\aN wx (w.heap.size+1)/\Ext w wx) ⟨aj,aj,Xt⟩ ?_;clear h1;rintro wa ⟨ag,ak,aD⟩;obtain⟨T,hT⟩:∃T:aw,T=fun b=>b<wa.heap.size:=⟨_,rfl⟩
 have lT:Hid (∀b,b<wa.heap.size->T b):=by rw [hT];exact fun b h=>h
 have MP:Hid (∀b,wa.heap.size<=b->¬T b):=by rw [hT];exact fun b h h'=>Nat.not_lt.2 h h'
 clear hT
 have au:∀w',Held T wa w'-> (w'.cell? ⟨w.heap.size,3,none⟩=some (.slice ka (m+1) kc)/\w'.cell? ⟨w.heap.size,4,none⟩=some (.slice la (m+1) lc)):=
  fun w' e=>⟨e.kept.cell (lT.out _ ag.lt) (ag.cells 3),e.kept.cell (lT.out _ ag.lt) (ag.cells 4)⟩
 have MK:=ak.lt;have hp1:(0:Int)<= (p:Int):=by omega
 have hw1:IntKind.i64.wrap ((p:Int)+1)=(p:Int)+1:=by rw [IntKind.wrap_i64];omega
 refine fC au (c:=15) (by kernel_rfl) ?_;refine aG 0 [15] (hS:=au _ aB) (h:= ?_);refine aG 1 [15] (hS:=au _ aB) (h:= ?_);refine aG 3 [15] (hS:=au _ aB) (h:= ?_);refine aG 4 [15] (hS:=au _ aB) (h:= ?_);refine aG 5 [15] (hS:=au _ aB) (h:= ?_);refine aG 7 [15] (hS:=au _ aB) (h:= ?_);refine aG 8 [15] (hS:=au _ aB) (h:= ?_);refine aG 10 [13,15] (hS:=au _ aB) (h:= ?_);refine aG 11 [12,13,15] (hS:=au _ aB) (h:= ?_);refine aG 12 [13,15] (hS:=au _ aB) (h:= ?_);(try simp only [rl]);refine aL 2 (h:=fun K hK=> ?_);(try simp only [rl]);(try go_simp);(refine(zi.out _ Xt).mono ?_);rintro e w2 ⟨a2,c2,rfl,fU,hown2,h2⟩;(try go_simp);have tq:Held T wa w2:=(Held.refl T wa).drew.ext h2;have hx2:Ext w w2:=Xt;have hz2:wa.heap.size<=w2.heap.size:=h2.size;have hb2:∀g,(Value.slice a2 (m+1) c2).ownBlock=some g->wa.heap.size<=g:=fun g hg=>(hown2.lt g hg).1;refine hK.out _ _ (fun _=>au _ aB) ?_;clear hK K;(try simp only [rl]);refine aL 6 (h:=fun K hK=> ?_);(try simp only [rl]);(try go_simp);(refine(afg _ p m c2 a2 (ks.map Value.string) _ hown2 hp (oG ks)).mono ?_);rintro e w4 ⟨rfl,kW,mJ⟩;(try go_simp);have CJ:Held T wa w4:=Held.grown tq mJ (fun k hk=>MP.out _ (hb2 k hk));have bP:Ext w w4:=Ext.grown hx2 mJ (fun g hg=>by have:=hb2 g hg;omega);have iu:=mJ.size;have Vd:Hid (bC w4 (fun b=>w.heap.size+2<=b/\b<w4.heap.size) a2 (ks.take p++ks.drop (p+1))):=by obtain⟨a4,c4,cM,-,-,hst⟩:=dK.strs (base:=w.heap.size+2) (n:=m) (v:= .slice a2 m c2) (ks:=ks.take p++ks.drop (p+1)) ⟨by simp [hks.out];omega,pI (by simpa [List.map_take,List.map_drop] using kW) (show w.heap.size+2<=wa.drew.heap.size from MK)⟩;simp only [Value.slice.injEq,true_and] at cM;obtain⟨rfl,rfl⟩:=cM;exact hst.keep (fun _ _ _=>rfl) (fun b h hl=>⟨h,hl⟩)
 have z8:aM a2 m c2:=by obtain⟨a4,c4,cM,h⟩:=fG kW;simp only [Value.slice.injEq,true_and] at cM;obtain⟨rfl,rfl⟩:=cM;exact h
 clear hown2 kW hb2 h2 mJ hx2 fU;refine hK.out _ _ (fun _=>au _ aB) ?_;clear hK K;refine aG 14 [15] (hS:=au _ aB) (h:= ?_);(try simp only [rl]);refine aL 9 (h:=fun K hK=> ?_);(try simp only [rl]);(try go_simp);(refine(zj.out _ Xt).mono ?_);rintro e w5 ⟨a3,c3,rfl,jw,dM,h5⟩;(try go_simp);have eA:Held T wa w5:=CJ.ext h5;have bG:Ext w w5:=bP.trans h5;have GJ:∀g,(Value.slice a3 (m+1) c3).ownBlock=some g->w4.heap.size<=g:=fun g hg=>(dM.lt g hg).1;refine hK.out _ _ (fun _=>au _ aB) ?_;clear hK K;(try simp only [rl]);refine aL 13 (h:=fun K hK=> ?_);(try simp only [rl]);(try go_simp);(refine(Si _ p m c3 a3 news _ dM hp kI.out).mono ?_);rintro e w6 ⟨rfl,bz,aW⟩;(try go_simp);have bw:Held T wa w6:=Held.grown eA aW (fun k hk=>MP.out _ (by have:=GJ k hk;omega));have bS:Ext w w6:=Ext.grown bG aW (fun g hg=>by have:=GJ g hg;have:=bP.size;omega);have zk:bC w6 (fun b=>w.heap.size+2<=b) a2 (ks.take p++ks.drop (p+1)):=Vd.out.keep (Held.kept (T:=fun b=>w.heap.size+2<=b/\b<w4.heap.size) (Held.grown (h5.held _) aW (fun k hk h=>by have:=GJ k hk;omega))) (fun b h _=>h.1);have jP:aM a3 m c3:=by obtain⟨a4,c4,cM,h⟩:=fG bz;simp only [Value.slice.injEq,true_and] at cM;obtain⟨rfl,rfl⟩:=cM;exact h
 have hrows:Rows w6 (fun b=>(S b/\b<w.heap.size)\/w.heap.size+2<=b) (l.take p++l.drop (p+1)) a3:=by
  have hcc:=(kj.out.keep (bS.kept _) (fun b h _=>h)).del p;by_cases hm0:m=0
  ·refine .inl (List.eq_nil_of_length_eq_zero ?_)
   simp [hll.out];omega
  ·obtain⟨g7,cur,km,hgb,hBg,hcz,hits⟩:=pJ (by omega) (by simp [hll.out];omega) bz hcc
   exact .inr ⟨g7,0,km, .inr (by have:=bP.size;omega),fun i hi=>by rw [Nat.zero_add];exact(hits i hi).mono (fun b h=> .inl h)⟩
 have ag:=af.held bw ag (lT.out _ (by omega));have ak:=af.held bw ak (lT.out _ (by omega));have yK:=ae hrows;clear bz aW hrows dM GJ h5 bG jw Vd CJ bP eA tq zi zj Bs aD;refine hK.out _ _ (fun _=>au _ aB) ?_;clear hK K;(try simp only [rl]);clear au bw lT MP;obtain⟨hc0,ax,hl0⟩:=ag.see;refine aL 15 (h:=fun K hK=> ?_);(try simp only [rl]);go_simp;refine br hK (h:= ?_);clear hK K;(try simp only [rl]);refine aL 16 (h:=fun K hK=> ?_);(try simp only [rl]);go_simp;refine br hK (h:= ?_);clear hK K;(try simp only [rl]);refine aL 17 (h:=fun K hK=> ?_);(try simp only [rl]);go_simp;refine br hK (h:= ?_);clear hK K;(try simp only [rl]);refine dw (by kernel_rfl) ?_ _;go_upto_region 6 with fail
 refine aI (R:=fun wy=>af wy w.heap.size #[.int .i64 5, .int .i64 nn, .string s, .slice a2 m c2, .slice a3 m c3] 36/\aN wy (w.heap.size+1)/\Held (fun b=>b≠w.heap.size) w6 wy/\Ext w wy) ⟨aj,aj,aB,Xt⟩ ?_;clear ag ak hc0 ax hl0;rintro wy ⟨ag,ak,lI,hxy⟩;obtain⟨hc0,ax,hl0⟩:=ag.see;obtain⟨hc2,hf2,hl2⟩:=ak.see;go_wp2_with fail;refine aF (h:= ?_);have e1:(ks.take p++ks.drop (p+1)).length=m:=by simp [hks.out];omega
 have e2:(l.take p++l.drop (p+1)).length=m:=by simp [hll.out];omega
 refine⟨a2,c2,a3,c3,?_,(V.df ..).2 ⟨?_,?_,?_,?_⟩,Xt⟩
 ·simp only [V.val,V.fT,V.dV,V.tN,V.tO,V.ki,e1,e2]
 ·rw [V.fT,e1];exact z8
 ·rw [V.dV,e2];exact jP
 ·have h1:Held (fun b=>w.heap.size+2<=b) w6 wy:=lI.mono (fun b h=>by simp;omega)
  exact zk.keep (Held.kept (a:=w6) (T:=fun b=>w.heap.size+2<=b) aB) (fun b h _=> .inr (by omega))
 ·have h1:Held (fun b=>(S b/\b<w.heap.size)\/w.heap.size+2<=b) w6 wy:=lI.mono (fun b h=>by simp;omega)
  exact yK.out.keep (Held.kept (a:=w6) (T:=fun b=>(S b/\b<w.heap.size)\/w.heap.size+2<=b) aB) (fun b h _=>by rcases h with h|h;exact .inl h.1;exact .inr (by omega))
theorem afi (x:V) (ka:aq) (kc:Nat) (la:aq) (lc:Nat) (key:ah) (S:aw) (w:World) (p:Nat) (h5:x.k=5) (gW:x.keys.length=x.l.length) (hin:x.In w S ka kc la lc)
 (bs:∀w',Ext w w'->Calls prog 68 #[.slice ka x.keys.length kc, .string key] w' fun e w''=>e= .returned (.tuple #[.int .i64 p, .bool false])/\Ext w' w''):
 Calls prog 183 #[x.val ka kc la lc, .string key] w (qL S x w):=by
 have mU:(x.k==5)=true:=by simpa using h5
 have GI:(x.k !=5)=false:=by simpa using h5
 have hlen:((x.keys.length:Int)==(x.l.length:Int))=true:=by simpa using congrArg Int.ofNat gW
 have Vb:((x.keys.length:Int) !=(x.l.length:Int))=false:=by simpa using congrArg Int.ofNat gW
 have Bs:=ae bs;clear gW h5 bs;go_enter func183,ntmps183;go_upto_region 6 with(go_at_call 68;refine(Bs.out _ Xt).mono ?_;rintro e w1 ⟨rfl,h1⟩)
 refine aI (R:=fun wx=>aC wx w.heap.size x ka kc la lc/\aN wx (w.heap.size+1)/\Ext w wx) ⟨aj,aj,Xt⟩ ?_;clear h1;rintro wa ⟨ag,ak,aD⟩;obtain⟨hc0,ax,hl0⟩:=ag.see;obtain⟨hc2,hf2,hl2⟩:=ak.see;go_wp2_with fail;refine aF (h:= ?_);exact⟨ka,kc,la,lc,rfl,(hin.ext Xt).mono (fun b h _=> .inl h),Xt⟩
theorem afj (x:V) (ka:aq) (kc:Nat) (la:aq) (lc:Nat) (key:ah) (S:aw) (w:World) (hx:¬(x.k=5/\x.keys.length=x.l.length)) (hin:x.In w S ka kc la lc):
 Calls prog 183 #[x.val ka kc la lc, .string key] w (qL S x w):=by
 by_cases h5:x.k=5
 ·have gW:x.keys.length≠x.l.length:=fun h=>hx ⟨h5,h⟩
  have mU:(x.k==5)=true:=by simpa using h5
  have GI:(x.k !=5)=false:=by simpa using h5
  have hlen:((x.keys.length:Int)==(x.l.length:Int))=false:=by simpa using fun h=>gW (by omega)
  have Vb:((x.keys.length:Int) !=(x.l.length:Int))=true:=by simpa using fun h=>gW (by omega)
  clear gW h5 hx;go_enter func183,ntmps183;go_wp2_with fail;refine aF (h:= ?_);exact⟨ka,kc,la,lc,rfl,(hin.ext Xt).mono (fun b h _=> .inl h),Xt⟩
 ·have mU:(x.k==5)=false:=by simpa using h5
  have GI:(x.k !=5)=true:=by simpa using h5
  clear h5 hx;go_enter func183,ntmps183;go_wp2_with fail;refine aF (h:= ?_);exact⟨ka,kc,la,lc,rfl,(hin.ext Xt).mono (fun b h _=> .inl h),Xt⟩
theorem Bc (x:V) (ka:aq) (kc:Nat) (la:aq) (lc:Nat) (key:ah) (S:aw) (w:World) (hsz:x.size<=1073741824) (hr:cG x.keys) (hin:x.In w S ka kc la lc):
 Calls prog 183 #[x.val ka kc la lc, .string key] w (qL S (x.del key) w):=by
 by_cases hx:x.k=5/\x.keys.length=x.l.length
 ·have hin':=hin.mono (T:=fun b=>S b/\b<w.heap.size) fun b h hl=>⟨h,hl⟩
  obtain⟨h1,h2,h3,h4⟩:=(V.df ..).1 hin';have hl:=x.jO;have hle:=sK x.keys key
  cases hb:hasB x.keys key with
  |true=>
   rw [zX hx hb,hx.1];have hlt:=sG hb;obtain⟨m,hm⟩:∃m,x.l.length=m+1:=⟨x.l.length-1,by omega⟩;have hv:x.val ka kc la lc= .agg #[.int .i64 5, .int .i64 x.n, .string x.s, .slice ka (m+1) kc, .slice la (m+1) lc]:=by rw [V.val,hx.1,hx.2,hm]
   rw [hx.2,hm] at h1;rw [hm] at h2;rw [hv];refine afh x.n x.s x.keys x.l m ka kc la lc key S w (posOf x.keys key) (by show x.keys.length=m+1;omega) hm (by omega) h1 h2 h3 h4 ?_ (by omega);intro w' e;have:=zw ka (m+1) kc x.keys _ key w' (by omega) (h3.ext e) hr (by omega);rw [hb] at this;exact this
  |false=>
   rw [zY hb];refine afi x ka kc la lc key S w (posOf x.keys key) hx.1 hx.2 hin ?_;intro w' e;have:=zw ka x.keys.length kc x.keys _ key w' rfl (h3.ext e) hr (by omega);rw [hb] at this;exact this
 ·rw [Jt hx]
  exact afj x ka kc la lc key S w hx hin
end Go.Proofs.YtlcebdaghmdkeabGreatDoor
namespace Go.Proofs.YtlcebdaghmdkeabGreatDoor.start
open Go.Proofs.Tryz
def b32:List Int:= [0,1,28,2,29,14,24,3,30,22,20,15,25,17,4,8,31,27,13,23,21,19,16,7,26,12,18,6,11,5,10,9]
def b64:List Int:= [0,1,56,2,57,49,28,3,61,58,42,50,38,29,17,4,62,47,59,36,45,43,51,22,53,39,33,30,24,18,12,5,63,55,48,27,60,41,37,16,46,35,44,21,52,32,23,11,54,26,40,15,34,20,31,10,25,14,19,9,13,8,7,6]
def Y7:List Int:= [1,10,100,1000,10000,100000,1000000,10000000,100000000,1000000000,10000000000,100000000000,1000000000000,10000000000000,100000000000000,1000000000000000,10000000000000000,100000000000000000,1000000000000000000,10000000000000000000]
def acc:List Int:= [128,191,160,191,128,159,144,191,128,143,0,0,0,0,0,0,0,0,0,0,0,0,0,0,0,0,0,0,0,0,0,0]
def Y8:List Int:=Go.Pinned.utf8FirstZ.map Int.ofNat
def nm:List (List UInt8):= [[], [97,100,100], [114,101,109,111,118,101], [114,101,112,108,97,99,101], [109,111,118,101], [99,111,112,121], [116,101,115,116]]
noncomputable def Fh (os:Os):World:=
 let N:=(World.settled prog os).heap.size
 let w0:=World.holding prog os ⟨#[.cells #[.string ⟨#[118,97,108,117,101,32,111,117,116,32,111,102,32,114,97,110,103,101]⟩] 280, .cells #[.string ⟨#[105,110,118,97,108,105,100,32,115,121,110,116,97,120]⟩] 280], #[], []⟩
 let put (h:Array Obj) (g:Nat) (cs:Array Value):Array Obj:=h.modify g fun
  | .cells _ t frozen=> .cells cs t frozen
  |o=>o
 let h0:=put (put w0.heap 5 #[.iface 278 (.pointer (some ⟨N,0,none⟩))]) 4 #[.iface 278 (.pointer (some ⟨N+1,0,none⟩))]
 let h1:=put (put (put h0 6 (Y7.map (Value.int .u64)).toArray) 7 (b32.map (Value.int .u8)).toArray) 8 (b64.map (Value.int .u8)).toArray
 let h2:=put (put h1 2 (Y8.map (Value.int .u8)).toArray) 3 (acc.map (Value.int .u8)).toArray
 let h3:=put h2 1 (nm.map fun s=>Value.string ⟨s.toArray⟩).toArray
 {w0 with heap:=h3}
noncomputable abbrev N0:Nat:=(World.settled prog default).heap.size
theorem Y9 (os:Os) (args:Array Value):LaidIn prog ((Fh os).forCall (fun _ _=>0) ⟨#[],args, []⟩).memory Rows.topWeightsUptoRow.laid [7,8,6,3,5,N0,4,N0+1,1,2]:=
 LaidIn.of_run [7,8,6,3,5,N0,4,N0+1,1,2] 10 (by kernel_rfl) (by kernel_rfl) (by kernel_rfl) (by kernel_rfl)
theorem Za (os:Os) (args:Array Value):laidMet prog Rows.topWeightsUptoRow.laid ((Fh os).forCall (fun _ _=>0) ⟨#[],args, []⟩).memory:=(Y9 os args).met
end Go.Proofs.YtlcebdaghmdkeabGreatDoor.start
namespace Go.Proofs.YtlcebdaghmdkeabGreatDoor
open Go.Proofs.Tryz
open Go.ChangeShapes Go.WideShapes Go.ChangeAt Go.RowKit Go.Deep Go.Joins
open Go.ChangeMaps (open_string shut_string)
def Old (w:World):aw:=fun b=>b<w.heap.size
theorem V5 {H:Type} (d:DataW H):1<=Rows.uptoBulk d:=by
 cases d with
 |lit l=>cases l<;>simp [Rows.uptoBulk]
 |nil=>simp [Rows.uptoBulk]
 |ptr d=>simp [Rows.uptoBulk]
 |slice elems spare=>simp [Rows.uptoBulk]
 |agg parts=>simp [Rows.uptoBulk]
 |iface t d=>simp [Rows.uptoBulk]
 |map entries=>simp [Rows.uptoBulk]
 |held h=>simp [Rows.uptoBulk]
theorem Nr {H:Type} (l:List (DataW H)):Rows.uptoBulkAll l=(l.map Rows.uptoBulk).sum:=by
 induction l with
 |nil=>simp [Rows.uptoBulkAll]
 |cons x r ih=>simp [Rows.uptoBulkAll,ih]
theorem V8 {α β:Type} (l:List α) (m:List β) (f:α->Nat) (g:β->Nat) (hlen:l.length=m.length) (h:∀i (hi:i<l.length) (hj:i<m.length),f l[i]<=g m[i]):(l.map f).sum<= (m.map g).sum:=by
 induction l generalizing m with
 |nil=>simp
 |cons y r ih=>
  cases m with
  |nil=>simp at hlen
  |cons z t=>
   have a0:=h 0 (by simp) (by simp);have a1:=ih t (by simpa using hlen) (fun i hi hj=>by have:=h (i+1) (by simpa using hi) (by simpa using hj);simpa using this);simp only [List.map_cons,List.sum_cons];simp only [List.getElem_cons_zero] at a0;omega
theorem V7 {α:Type} {n:Nat} {P:Nat->α->Prop} (h:∀i,i<n->∃x,P i x):∃l:List α,l.length=n/\∀i (hi:i<l.length),P i l[i]:=by
 induction n with
 |zero=>exact⟨[],rfl,fun i hi=>by simp at hi⟩
 |succ n ih=>
  obtain⟨l,h1,h2⟩:=ih (fun i hi=>h i (by omega));obtain⟨x,hx⟩:=h n (by omega);refine⟨l++ [x],by simp [h1],fun i hi=> ?_⟩;by_cases e:i<l.length
  ·rw [List.getElem_append_left e];exact h2 i e
  ·have:i=n:=by simp at hi;omega
   subst this;rw [List.getElem_append_right (by omega)];simpa [h1] using hx
end Go.Proofs.YtlcebdaghmdkeabGreatDoor
