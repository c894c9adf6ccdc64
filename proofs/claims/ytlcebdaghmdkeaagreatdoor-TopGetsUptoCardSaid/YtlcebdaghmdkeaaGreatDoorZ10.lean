import Derived.Deep.CutBlock
import Derived.Test.YtlcebdaghmdkeaaGreatDoorZ7
set_option linter.all false
set_option maxRecDepth 100000
set_option maxHeartbeats 64000000
namespace Go.Proofs.YtlcebdaghmdkeaaGreatDoor
open Go.Proofs.Tryz
open Go.RowKit
attribute [local go_sem↓] Go.wp_at_zero Go.wp_at_succ
theorem agC (base k m c:Nat) (a:aq) (xs:List Value) (w:World) (ho:w.ownsRow base 9 1 (.slice a (m+1) c) (m+1) xs) (hk:k<=m) (h1:∀u∈xs,u.oneCell'=true):
 Calls prog 153 #[.slice a (m+1) c, .int .i64 k, .int .i64 ((k:Int)+1)] w fun e w'=>e= .returned (.slice a m c)/\w'.ownsRow base 9 1 (.slice a m c) m (xs.take k++xs.drop (k+1))/\w.grownBy w' (Value.slice a (m+1) c).ownBlock:=by
 obtain⟨g,cap,cur,hv,hb,hg,hnc,hm,hcs,ht⟩:=tZ ho (by omega);simp only [Value.slice.injEq,true_and] at hv;obtain⟨rfl,rfl⟩:=hv;have ht':cur.toList.take (m+1)=xs:=by simpa using ht
 refine(aao base g m c k cur w hb hg (by omega) hm hcs hk (by rw [ht'];exact h1)).mono ?_;rintro e w' ⟨he,h2,h3⟩;rw [ht'] at h2;exact⟨he,h2,h3⟩
theorem T8 (base k m c:Nat) (a:aq) (xs:List Value) (w:World) (ho:w.ownsRow base 41 5 (.slice a (m+1) c) (m+1) xs) (hk:k<=m) (h1:∀u∈xs,u.oneCell'=true):
 Calls prog 154 #[.slice a (m+1) c, .int .i64 k, .int .i64 ((k:Int)+1)] w fun e w'=>e= .returned (.slice a m c)/\w'.ownsRow base 41 5 (.slice a m c) m (xs.take (k*5)++xs.drop ((k+1)*5))/\w.grownBy w' (Value.slice a (m+1) c).ownBlock:=by
 obtain⟨g,cap,cur,hv,hb,hg,hnc,hm,hcs,ht⟩:=tZ ho (by omega);simp only [Value.slice.injEq,true_and] at hv;obtain⟨rfl,rfl⟩:=hv;refine(aap base g m c k cur w hb hg (by omega) hm hcs hk (by rw [ht];exact h1)).mono ?_;rintro e w' ⟨he,h2,h3⟩;rw [ht] at h2;exact⟨he,h2,h3⟩
theorem agD (nn:Int) (s:ah) (ks:List ah) (l:List V) (m:Nat) (ka:aq) (kc:Nat) (la:aq) (lc:Nat) (key:ah) (S:aA) (w:World) (p:Nat)
 (hks:Hid (ks.length=m+1)) (hll:Hid (l.length=m+1)) (dx:m+1<=1073741824) (ib:aO ka (m+1) kc) (gj:aO la (m+1) lc) (hst:bT w (fun b=>S b/\b<w.heap.size) ka ks) (ic:Rows w (fun b=>S b/\b<w.heap.size) l la)
 (bs:∀w',Ext w w'->Calls prog 140 #[.slice ka (m+1) kc, .string key] w' fun e w''=>e= .returned (.tuple #[.int .i64 p, .bool true])/\Ext w' w'') (hp:p<=m):
 Calls prog 123 #[.agg #[.int .i64 5, .int .i64 nn, .string s, .slice ka (m+1) kc, .slice la (m+1) lc], .string key] w (qm S (.mk 5 nn s (ks.take p++ks.drop (p+1)) (l.take p++l.drop (p+1))) w):=by
 obtain⟨news,hnl,lM,jG⟩:=zW ic;have kJ:=ae jG;have h1c:=jG.one;have tC:news.length=(m+1)*5:=by rw [hnl,hll.out]
 have xR:m+1=0\/∃ad,la=some ad/\∀j u,news[j]? =some u->w.cell? (ad.add j)=some u:=by rw [<-hll.out];exact lM
 have xS:=Gn hst;have xU:m+1=0\/∃ad,ka=some ad/\∀j u,(ks.map Value.string)[j]? =some u->w.cell? (ad.add j)=some u:=by rw [<-hks.out];exact xS
 have tD:∀(a:aq) (m:Nat) (xs:List Value) (w':World),(m=0\/∃ad,a=some ad/\∀j u,xs[j]? =some u->w.cell? (ad.add j)=some u)->Ext w w'-> (m=0\/∃ad,a=some ad/\∀j u,xs[j]? =some u->w'.cell? (ad.add j)=some u):=by
  rintro a m xs w' (h|⟨ad,h,h'⟩) e
  ·exact .inl h
  ·exact .inr ⟨ad,h,fun j u hj=>e.cell (h' j u hj)⟩
 have xV:∀w',Ext w w'->Calls prog 26 #[.slice ka (m+1) kc] w' fun e w''=>∃a' c',e= .returned (.slice a' (m+1) c')/\aO a' (m+1) c'/\w''.ownsRow w'.heap.size 9 1 (.slice a' (m+1) c') (m+1) (ks.map Value.string)/\Ext w' w'':=
  fun w' e=>Gx ka (m+1) kc _ w' ib dx (by rw [List.length_map,hks.out];omega) (tD _ _ _ _ xU e) (pz ks)
 have xW:∀w',Ext w w'->Calls prog 41 #[.slice la (m+1) lc] w' fun e w''=>∃a' c',e= .returned (.slice a' (m+1) c')/\aO a' (m+1) c'/\w''.ownsRow w'.heap.size 41 5 (.slice a' (m+1) c') (m+1) news/\Ext w' w'':=
  fun w' e=>zX la (m+1) lc news w' gj dx tC (tD _ _ _ _ xR e) h1c
 have lh:=ae h1c;have zS:=ae xV;have zT:=ae xW;have Bs:=ae bs;have Ib:=ae tC;clear ic hst jG h1c hnl lM tC xR xS xU tD xV xW bs ib gj;go_enter func123,ntmps123;go_wp2_with (go_at_call 140;refine(Bs.out _ Xt).mono ?_;rintro e w1 ⟨rfl,h1⟩);refine aI (R:=fun wx=>af wx w.heap.size #[.int .i64 5, .int .i64 nn, .string s, .slice ka (m+1) kc, .slice la (m+1) lc] 41/\aN wx (w.heap.size+1)/\Ext w wx) ⟨aj,aj,Xt⟩ ?_;clear h1;rintro wa ⟨ag,ak,aF⟩;obtain⟨T,hT⟩:∃T:aA,T=fun b=>b<wa.heap.size:=⟨_,rfl⟩
 have mF:Hid (∀b,b<wa.heap.size->T b):=by rw [hT];exact fun b h=>h
 have Ot:Hid (∀b,wa.heap.size<=b->¬T b):=by rw [hT];exact fun b h h'=>Nat.not_lt.2 h h'
 clear hT
 have au:∀w',Held T wa w'-> (w'.cell? ⟨w.heap.size,3,none⟩=some (.slice ka (m+1) kc)/\w'.cell? ⟨w.heap.size,4,none⟩=some (.slice la (m+1) lc)):=
  fun w' e=>⟨e.kept.cell (mF.out _ ag.lt) (ag.cells 3),e.kept.cell (mF.out _ ag.lt) (ag.cells 4)⟩
 have Ol:=ak.lt;have hp1:(0:Int)<= (p:Int):=by omega
 have hw1:IntKind.i64.wrap ((p:Int)+1)=(p:Int)+1:=by rw [IntKind.wrap_i64];omega
 refine fN au (c:=15) (by kernel_rfl) ?_;refine aH 0 [15] (hS:=au _ aC) (h:= ?_);refine aH 1 [15] (hS:=au _ aC) (h:= ?_);refine aH 3 [15] (hS:=au _ aC) (h:= ?_);refine aH 4 [15] (hS:=au _ aC) (h:= ?_);refine aH 5 [15] (hS:=au _ aC) (h:= ?_);refine aH 7 [15] (hS:=au _ aC) (h:= ?_);refine aH 8 [15] (hS:=au _ aC) (h:= ?_);refine aH 10 [13,15] (hS:=au _ aC) (h:= ?_);refine aH 11 [12,13,15] (hS:=au _ aC) (h:= ?_);refine aH 12 [13,15] (hS:=au _ aC) (h:= ?_);(try simp only [rl]);refine aM 2 (h:=fun K hK=> ?_);(try simp only [rl]);(try go_simp);(refine(zS.out _ Xt).mono ?_);rintro e w2 ⟨a2,c2,rfl,gj,hown2,h2⟩;(try go_simp);have ug:Held T wa w2:=(Held.refl T wa).drew.ext h2;have hx2:Ext w w2:=Xt;have hz2:wa.heap.size<=w2.heap.size:=h2.size;have hb2:∀g,(Value.slice a2 (m+1) c2).ownBlock=some g->wa.heap.size<=g:=fun g hg=>(hown2.lt g hg).1;refine hK.out _ _ (fun _=>au _ aC) ?_;clear hK K;(try simp only [rl]);refine aM 6 (h:=fun K hK=> ?_);(try simp only [rl]);(try go_simp);(refine(agC _ p m c2 a2 (ks.map Value.string) _ hown2 hp (pz ks)).mono ?_);rintro e w4 ⟨rfl,lI,nH⟩;(try go_simp);have DI:Held T wa w4:=Held.grown ug nH (fun k hk=>Ot.out _ (hb2 k hk));have bX:Ext w w4:=Ext.grown hx2 nH (fun g hg=>by have:=hb2 g hg;omega);have ij:=nH.size;have Wx:Hid (bT w4 (fun b=>w.heap.size+2<=b/\b<w4.heap.size) a2 (ks.take p++ks.drop (p+1))):=by obtain⟨a4,c4,cU,-,-,hst⟩:=ek.strs (base:=w.heap.size+2) (n:=m) (v:= .slice a2 m c2) (ks:=ks.take p++ks.drop (p+1)) ⟨by simp [hks.out];omega,qd (by simpa [List.map_take,List.map_drop] using lI) (show w.heap.size+2<=wa.drew.heap.size from Ol)⟩;simp only [Value.slice.injEq,true_and] at cU;obtain⟨rfl,rfl⟩:=cU;exact hst.keep (fun _ _ _=>rfl) (fun b h hl=>⟨h,hl⟩)
 have AV:aO a2 m c2:=by obtain⟨a4,c4,cU,h⟩:=gU lI;simp only [Value.slice.injEq,true_and] at cU;obtain⟨rfl,rfl⟩:=cU;exact h
 clear hown2 lI hb2 h2 nH hx2 gj;refine hK.out _ _ (fun _=>au _ aC) ?_;clear hK K;refine aH 14 [15] (hS:=au _ aC) (h:= ?_);(try simp only [rl]);refine aM 9 (h:=fun K hK=> ?_);(try simp only [rl]);(try go_simp);(refine(zT.out _ Xt).mono ?_);rintro e w5 ⟨a3,c3,rfl,gK,dR,h5⟩;(try go_simp);have eN:Held T wa w5:=DI.ext h5;have bG:Ext w w5:=bX.trans h5;have I6:∀g,(Value.slice a3 (m+1) c3).ownBlock=some g->w4.heap.size<=g:=fun g hg=>(dR.lt g hg).1;refine hK.out _ _ (fun _=>au _ aC) ?_;clear hK K;(try simp only [rl]);refine aM 13 (h:=fun K hK=> ?_);(try simp only [rl]);(try go_simp);(refine(T8 _ p m c3 a3 news _ dR hp lh.out).mono ?_);rintro e w6 ⟨rfl,bF,aY⟩;(try go_simp);have bE:Held T wa w6:=Held.grown eN aY (fun k hk=>Ot.out _ (by have:=I6 k hk;omega));have bS:Ext w w6:=Ext.grown bG aY (fun g hg=>by have:=I6 g hg;have:=bX.size;omega);have zU:bT w6 (fun b=>w.heap.size+2<=b) a2 (ks.take p++ks.drop (p+1)):=Wx.out.keep (Held.kept (T:=fun b=>w.heap.size+2<=b/\b<w4.heap.size) (Held.grown (h5.held _) aY (fun k hk h=>by have:=I6 k hk;omega))) (fun b h _=>h.1);have gT:aO a3 m c3:=by obtain⟨a4,c4,cU,h⟩:=gU bF;simp only [Value.slice.injEq,true_and] at cU;obtain⟨rfl,rfl⟩:=cU;exact h
 have hrows:Rows w6 (fun b=>(S b/\b<w.heap.size)\/w.heap.size+2<=b) (l.take p++l.drop (p+1)) a3:=by
  have hcc:=(kJ.out.keep (bS.kept _) (fun b h _=>h)).del p;by_cases hm0:m=0
  ·refine .inl (List.eq_nil_of_length_eq_zero ?_)
   simp [hll.out];omega
  ·obtain⟨g7,cur,kK,hgb,hBg,hcz,hits⟩:=qg (by omega) (by simp [hll.out];omega) bF hcc
   exact .inr ⟨g7,0,kK, .inr (by have:=bX.size;omega),fun i hi=>by rw [Nat.zero_add];exact(hits i hi).mono (fun b h=> .inl h)⟩
 have ag:=af.held bE ag (mF.out _ (by omega));have ak:=af.held bE ak (mF.out _ (by omega));have zo:=ae hrows;clear bF aY hrows dR I6 h5 bG gK Wx DI bX eN ug zS zT Bs aF;refine hK.out _ _ (fun _=>au _ aC) ?_;clear hK K;(try simp only [rl]);clear au bE mF Ot;obtain⟨hc0,aw,hl0⟩:=ag.see;refine aM 15 (h:=fun K hK=> ?_);(try simp only [rl]);go_simp;refine bD hK (h:= ?_);clear hK K;(try simp only [rl]);refine aM 16 (h:=fun K hK=> ?_);(try simp only [rl]);go_simp;refine bD hK (h:= ?_);clear hK K;(try simp only [rl]);refine aM 17 (h:=fun K hK=> ?_);(try simp only [rl]);go_simp;refine bD hK (h:= ?_);clear hK K;(try simp only [rl]);refine dE (by kernel_rfl) ?_ _;go_upto_region 6 with fail
 refine aI (R:=fun wy=>af wy w.heap.size #[.int .i64 5, .int .i64 nn, .string s, .slice a2 m c2, .slice a3 m c3] 41/\aN wy (w.heap.size+1)/\Held (fun b=>b≠w.heap.size) w6 wy/\Ext w wy) ⟨aj,aj,aC,Xt⟩ ?_;clear ag ak hc0 aw hl0;rintro wy ⟨ag,ak,mf,hxy⟩;obtain⟨hc0,aw,hl0⟩:=ag.see;obtain⟨hc2,hf2,hl2⟩:=ak.see;go_wp2_with fail;refine aG (h:= ?_);have e1:(ks.take p++ks.drop (p+1)).length=m:=by simp [hks.out];omega
 have e2:(l.take p++l.drop (p+1)).length=m:=by simp [hll.out];omega
 refine⟨a2,c2,a3,c3,?_,(V.dD ..).2 ⟨?_,?_,?_,?_⟩,Xt⟩
 ·simp only [V.val,V.gi,V.ej,V.uE,V.uF,V.kH,e1,e2]
 ·rw [V.gi,e1];exact AV
 ·rw [V.ej,e2];exact gT
 ·have h1:Held (fun b=>w.heap.size+2<=b) w6 wy:=mf.mono (fun b h=>by simp;omega)
  exact zU.keep (Held.kept (a:=w6) (T:=fun b=>w.heap.size+2<=b) aC) (fun b h _=> .inr (by omega))
 ·have h1:Held (fun b=>(S b/\b<w.heap.size)\/w.heap.size+2<=b) w6 wy:=mf.mono (fun b h=>by simp;omega)
  exact zo.out.keep (Held.kept (a:=w6) (T:=fun b=>(S b/\b<w.heap.size)\/w.heap.size+2<=b) aC) (fun b h _=>by rcases h with h|h;exact .inl h.1;exact .inr (by omega))
theorem agE (x:V) (ka:aq) (kc:Nat) (la:aq) (lc:Nat) (key:ah) (S:aA) (w:World) (p:Nat) (h5:x.k=5) (il:x.keys.length=x.l.length) (hin:x.In w S ka kc la lc)
 (bs:∀w',Ext w w'->Calls prog 140 #[.slice ka x.keys.length kc, .string key] w' fun e w''=>e= .returned (.tuple #[.int .i64 p, .bool false])/\Ext w' w''):
 Calls prog 123 #[x.val ka kc la lc, .string key] w (qm S x w):=by
 have mP:(x.k==5)=true:=by simpa using h5
 have I5:(x.k !=5)=false:=by simpa using h5
 have hlen:((x.keys.length:Int)==(x.l.length:Int))=true:=by simpa using congrArg Int.ofNat il
 have Wv:((x.keys.length:Int) !=(x.l.length:Int))=false:=by simpa using congrArg Int.ofNat il
 have Bs:=ae bs;clear il h5 bs;go_enter func123,ntmps123;go_upto_region 6 with(go_at_call 140;refine(Bs.out _ Xt).mono ?_;rintro e w1 ⟨rfl,h1⟩)
 refine aI (R:=fun wx=>aD wx w.heap.size x ka kc la lc/\aN wx (w.heap.size+1)/\Ext w wx) ⟨aj,aj,Xt⟩ ?_;clear h1;rintro wa ⟨ag,ak,aF⟩;obtain⟨hc0,aw,hl0⟩:=ag.see;obtain⟨hc2,hf2,hl2⟩:=ak.see;go_wp2_with fail;refine aG (h:= ?_);exact⟨ka,kc,la,lc,rfl,(hin.ext Xt).mono (fun b h _=> .inl h),Xt⟩
theorem agF (x:V) (ka:aq) (kc:Nat) (la:aq) (lc:Nat) (key:ah) (S:aA) (w:World) (hx:¬(x.k=5/\x.keys.length=x.l.length)) (hin:x.In w S ka kc la lc):
 Calls prog 123 #[x.val ka kc la lc, .string key] w (qm S x w):=by
 by_cases h5:x.k=5
 ·have il:x.keys.length≠x.l.length:=fun h=>hx ⟨h5,h⟩
  have mP:(x.k==5)=true:=by simpa using h5
  have I5:(x.k !=5)=false:=by simpa using h5
  have hlen:((x.keys.length:Int)==(x.l.length:Int))=false:=by simpa using fun h=>il (by omega)
  have Wv:((x.keys.length:Int) !=(x.l.length:Int))=true:=by simpa using fun h=>il (by omega)
  clear il h5 hx;go_enter func123,ntmps123;go_wp2_with fail;refine aG (h:= ?_);exact⟨ka,kc,la,lc,rfl,(hin.ext Xt).mono (fun b h _=> .inl h),Xt⟩
 ·have mP:(x.k==5)=false:=by simpa using h5
  have I5:(x.k !=5)=true:=by simpa using h5
  clear h5 hx;go_enter func123,ntmps123;go_wp2_with fail;refine aG (h:= ?_);exact⟨ka,kc,la,lc,rfl,(hin.ext Xt).mono (fun b h _=> .inl h),Xt⟩
theorem Ci (x:V) (ka:aq) (kc:Nat) (la:aq) (lc:Nat) (key:ah) (S:aA) (w:World) (hsz:x.size<=1073741824) (hr:cn x.keys) (hin:x.In w S ka kc la lc):
 Calls prog 123 #[x.val ka kc la lc, .string key] w (qm S (x.del key) w):=by
 by_cases hx:x.k=5/\x.keys.length=x.l.length
 ·have hin':=hin.mono (T:=fun b=>S b/\b<w.heap.size) fun b h hl=>⟨h,hl⟩
  obtain⟨h1,h2,h3,h4⟩:=(V.dD ..).1 hin';have hl:=x.kI;have hle:=tR x.keys key
  cases hb:hasB x.keys key with
  |true=>
   rw [AL hx hb,hx.1];have hlt:=tM hb;obtain⟨m,hm⟩:∃m,x.l.length=m+1:=⟨x.l.length-1,by omega⟩;have hv:x.val ka kc la lc= .agg #[.int .i64 5, .int .i64 x.n, .string x.s, .slice ka (m+1) kc, .slice la (m+1) lc]:=by rw [V.val,hx.1,hx.2,hm]
   rw [hx.2,hm] at h1;rw [hm] at h2;rw [hv];refine agD x.n x.s x.keys x.l m ka kc la lc key S w (posOf x.keys key) (by show x.keys.length=m+1;omega) hm (by omega) h1 h2 h3 h4 ?_ (by omega);intro w' e;have:=Aa ka (m+1) kc x.keys _ key w' (by omega) (h3.ext e) hr (by omega);rw [hb] at this;exact this
  |false=>
   rw [AO hb];refine agE x ka kc la lc key S w (posOf x.keys key) hx.1 hx.2 hin ?_;intro w' e;have:=Aa ka x.keys.length kc x.keys _ key w' rfl (h3.ext e) hr (by omega);rw [hb] at this;exact this
 ·rw [KH hx]
  exact agF x ka kc la lc key S w hx hin
theorem Uk {s:ah} (h:s.toList≠ []):s.toList.isEmpty=false:=by cases hs:s.toList with|nil=>exact absurd hs h|cons=>rfl
theorem aei {x p:V} {key:ah} (hp:(x.member key).getD V.zero=p) (ka:aq) (kc:Nat) (la:aq) (lc:Nat) (S:aA) (w:World) (hsz:x.size<=1073741824) (hin:x.In w S ka kc la lc):
 Calls prog 38 #[x.val ka kc la lc, .string key] w (eY S p (.bool (x.member key).isSome) w):=by
 cases hm:x.member key with
 |some y=>
  rw [hm] at hp;simp only [Option.getD_some] at hp;subst hp;exact wV hm ka kc la lc S w hsz hin
 |none=>
  rw [hm] at hp;simp only [Option.getD_none] at hp;subst hp;refine(Gp hm ka kc la lc S w hsz hin).mono ?_;rintro e w' ⟨rfl,h⟩;exact⟨none,0,none,0,rfl,V.nX _ _,h⟩
theorem aej (x:V) (ka:aq) (kc:Nat) (la:aq) (lc:Nat) (S:aA) (w:World) (hsz:x.size<=1073741824) (hin:x.In w S ka kc la lc)
 (hn:x.fine=false\/ (x.fine=true/\ (x.member ur=none\/∃i,x.member ur=some i/\¬(i.k=3/\i.s.toList≠ [])))):
 Calls prog 19 #[x.val ka kc la lc] w (uo none w):=by
 rcases hn with hf|⟨hf,hi|⟨i,hi,hni⟩⟩
 ·go_enter func19,ntmps19
  go_wp2_with fail;(with_reducible refine(df x ka kc la lc S _ hsz (hin.ext Xt)).mono ?_);rintro e w1 ⟨rfl,h1⟩;obtain⟨nY,nZ,iF⟩:=cu h1;(try simp at iF);(try have Eh:w.heap.size<w1.heap.size:=by omega);(try have Ei:w.heap.size+1<w1.heap.size:=by omega);(try have Ej:w.heap.size+2<w1.heap.size:=by omega);rw [hf];go_wp2_with fail;refine aG (h:= ?_);exact .inr ⟨rfl,rfl,Xt⟩
 ·go_enter func19,ntmps19
  go_wp2_with fail;(with_reducible refine(df x ka kc la lc S _ hsz (hin.ext Xt)).mono ?_);rintro e w1 ⟨rfl,h1⟩;obtain⟨nY,nZ,iF⟩:=cu h1;(try simp at iF);(try have Eh:w.heap.size<w1.heap.size:=by omega);(try have Ei:w.heap.size+1<w1.heap.size:=by omega);(try have Ej:w.heap.size+2<w1.heap.size:=by omega);rw [hf];go_wp2_with fail;(refine(Gp hi ka kc la lc S _ hsz (hin.ext Xt)).mono ?_);rintro e w2 ⟨rfl,h2⟩;obtain⟨rz,rA,mg⟩:=cu h2;(try simp at mg);(try have Iw:w.heap.size<w2.heap.size:=by omega);(try have Ix:w.heap.size+1<w2.heap.size:=by omega);(try have Iy:w.heap.size+2<w2.heap.size:=by omega);go_wp2_with fail;refine aG (h:= ?_);exact .inr ⟨rfl,rfl,Xt⟩
 ·go_enter func19,ntmps19
  go_wp2_with fail;(with_reducible refine(df x ka kc la lc S _ hsz (hin.ext Xt)).mono ?_);rintro e w1 ⟨rfl,h1⟩;obtain⟨nY,nZ,iF⟩:=cu h1;(try simp at iF);(try have Eh:w.heap.size<w1.heap.size:=by omega);(try have Ei:w.heap.size+1<w1.heap.size:=by omega);(try have Ej:w.heap.size+2<w1.heap.size:=by omega);rw [hf];go_wp2_with fail;(refine(wV hi _ _ _ _ _ _ (by omega) (hin.ext Xt)).mono ?_);rintro e w2 ⟨cI,cJ,cK,cL,rfl,bZ,h2⟩;obtain⟨rz,rA,mg⟩:=cu h2;(try simp at mg);(try have Iw:w.heap.size<w2.heap.size:=by omega);(try have Ix:w.heap.size+1<w2.heap.size:=by omega);(try have Iy:w.heap.size+2<w2.heap.size:=by omega);by_cases q:i.k=3
  ·have q0:(i.k==3)=true:=by simpa using q
   have q1:(i.k !=3)=false:=by simpa using q
   have q2:i.s.toList= []:=Classical.byContradiction fun h=>hni ⟨q,h⟩;have q3:i.s.toList.isEmpty=true:=by rw [q2];rfl
   go_wp2_with fail;refine aG (h:= ?_);exact .inr ⟨rfl,rfl,Xt⟩
  ·have q0:(i.k==3)=false:=by simpa using q
   have q1:(i.k !=3)=true:=by simpa using q
   go_wp2_with fail;refine aG (h:= ?_);exact .inr ⟨rfl,rfl,Xt⟩
theorem aek (x i:V) (ka:aq) (kc:Nat) (la:aq) (lc:Nat) (S:aA) (w:World) (hsz:x.size<=1073741824) (hin:x.In w S ka kc la lc)
 (hf:x.fine=true) (hi:x.member ur=some i) (q:i.k=3) (hs:i.s.toList≠ []) (r:Option (ah×List (Int×Int)))
 (hn:(x.member vL=none/\r=some (i.s, []))\/ (∃t,x.member vL=some t/\¬(t.k=4/\t.l.length<=8)/\r=none)):
 Calls prog 19 #[x.val ka kc la lc] w (uo r w):=by
 have q0:(i.k==3)=true:=by simpa using q
 have q1:(i.k !=3)=false:=by simpa using q
 have q3:=Uk hs;rcases hn with⟨ht,rfl⟩|⟨t,ht,hnt,rfl⟩
 ·go_enter func19,ntmps19
  go_upto_region 1 with fail
  refine aI (R:=fun wx=>aD wx w.heap.size x ka kc la lc/\af wx (w.heap.size+1) #[.string ⟨#[]⟩, .slice none 0 0] 53/\Ext w wx) ⟨aj,aj,Xt⟩ ?_;rintro wa ⟨ai,ak,aF⟩;obtain⟨hc1,aB,az⟩:=ai.see;go_wp2_with fail;(with_reducible refine(df x ka kc la lc _ _ hsz (hin.ext Xt)).mono ?_);rintro e w1 ⟨rfl,h1⟩;obtain⟨nY,nZ,iF⟩:=cu h1;(try simp at iF);(try have Eh:w.heap.size<w1.heap.size:=by omega);(try have Ei:w.heap.size+1<w1.heap.size:=by omega);(try have Ej:w.heap.size+2<w1.heap.size:=by omega);rw [hf];have ai:=af.ext h1 ai;have ak:=af.ext h1 ak;have hx1:Ext w w1:=Xt;clear hc1 aB az;clear aF h1;obtain⟨hc1,aB,az⟩:=ai.see;go_wp2_with fail;(refine(wV hi _ _ _ _ _ _ (by omega) (hin.ext Xt)).mono ?_);rintro e w2 ⟨cI,cJ,cK,cL,rfl,bZ,h2⟩;obtain⟨rz,rA,mg⟩:=cu h2;(try simp at mg);(try have Iw:w.heap.size<w2.heap.size:=by omega);(try have Ix:w.heap.size+1<w2.heap.size:=by omega);(try have Iy:w.heap.size+2<w2.heap.size:=by omega);have ai:=af.ext h2 ai;have ak:=af.ext h2 ak;have hw2:=ak.lt;have hx2:Ext w w2:=Xt;clear hc1 aB az rz rA nY nZ;clear hx1 h2;go_upto_region 7 with fail
  refine aI (R:=fun wx=>aD wx w.heap.size x ka kc la lc/\af wx (w.heap.size+1) #[.string ⟨#[]⟩, .slice none 0 0] 53/\af wx (w2.heap.size+1) #[.string i.s, .slice none 0 0] 53/\Ext w wx) ⟨aj,aj,aj,Xt⟩ ?_;rintro wb ⟨ai,ak,bH,aP⟩;obtain⟨hc1,aB,az⟩:=ai.see;obtain⟨hc2,hf2,hl2⟩:=ak.see;obtain⟨jR,jS,jT⟩:=bH.see;go_wp2_with fail;(refine(Gp ht ka kc la lc S _ hsz (hin.ext Xt)).mono ?_);rintro e w3 ⟨rfl,h3⟩;obtain⟨Bw,M9,Ek⟩:=cu h3;(try simp at Ek);(try have Ul:w.heap.size<w3.heap.size:=by omega);(try have Um:w.heap.size+1<w3.heap.size:=by omega);(try have Un:w.heap.size+2<w3.heap.size:=by omega);have ak:=af.ext h3 ak;have bH:=af.ext h3 bH;have hx3:Ext w w3:=Xt;clear hc1 aB az hc2 hf2 hl2 jR jS jT ai;clear h3 aP;obtain⟨hc2,hf2,hl2⟩:=ak.see;obtain⟨jR,jS,jT⟩:=bH.see;go_wp2_with fail;refine aG (h:= ?_);exact .inl ⟨_,_,_,_,_,rfl,rfl,rfl, .inl rfl,(fun _ h=>by cases h),Xt⟩
 ·have Hnt:=ae hnt
  have hts:=Uj ht;have htl:=t.kI;go_enter func19,ntmps19;go_upto_region 1 with fail
  refine aI (R:=fun wx=>aD wx w.heap.size x ka kc la lc/\af wx (w.heap.size+1) #[.string ⟨#[]⟩, .slice none 0 0] 53/\Ext w wx) ⟨aj,aj,Xt⟩ ?_;rintro wa ⟨ai,ak,aF⟩;obtain⟨hc1,aB,az⟩:=ai.see;go_wp2_with fail;(with_reducible refine(df x ka kc la lc _ _ hsz (hin.ext Xt)).mono ?_);rintro e w1 ⟨rfl,h1⟩;obtain⟨nY,nZ,iF⟩:=cu h1;(try simp at iF);(try have Eh:w.heap.size<w1.heap.size:=by omega);(try have Ei:w.heap.size+1<w1.heap.size:=by omega);(try have Ej:w.heap.size+2<w1.heap.size:=by omega);rw [hf];have ai:=af.ext h1 ai;have ak:=af.ext h1 ak;have hx1:Ext w w1:=Xt;clear hc1 aB az;clear aF h1;obtain⟨hc1,aB,az⟩:=ai.see;go_wp2_with fail;(refine(wV hi _ _ _ _ _ _ (by omega) (hin.ext Xt)).mono ?_);rintro e w2 ⟨cI,cJ,cK,cL,rfl,bZ,h2⟩;obtain⟨rz,rA,mg⟩:=cu h2;(try simp at mg);(try have Iw:w.heap.size<w2.heap.size:=by omega);(try have Ix:w.heap.size+1<w2.heap.size:=by omega);(try have Iy:w.heap.size+2<w2.heap.size:=by omega);have ai:=af.ext h2 ai;have ak:=af.ext h2 ak;have hw2:=ak.lt;have hx2:Ext w w2:=Xt;clear hc1 aB az rz rA nY nZ;clear hx1 h2;go_upto_region 7 with fail
  refine aI (R:=fun wx=>aD wx w.heap.size x ka kc la lc/\af wx (w.heap.size+1) #[.string ⟨#[]⟩, .slice none 0 0] 53/\af wx (w2.heap.size+1) #[.string i.s, .slice none 0 0] 53/\Ext w wx) ⟨aj,aj,aj,Xt⟩ ?_;rintro wb ⟨ai,ak,bH,aP⟩;obtain⟨hc1,aB,az⟩:=ai.see;obtain⟨hc2,hf2,hl2⟩:=ak.see;obtain⟨jR,jS,jT⟩:=bH.see;go_wp2_with fail;(refine(wV ht _ _ _ _ _ _ (by omega) (hin.ext Xt)).mono ?_);rintro e w3 ⟨aZ,bf,bg,bh,rfl,bj,h3⟩;obtain⟨Bw,M9,Ek⟩:=cu h3;(try simp at Ek);(try have Ul:w.heap.size<w3.heap.size:=by omega);(try have Um:w.heap.size+1<w3.heap.size:=by omega);(try have Un:w.heap.size+2<w3.heap.size:=by omega);have ak:=af.ext h3 ak;have hx3:Ext w w3:=Xt;clear hc1 aB az hc2 hf2 hl2 jR jS jT ai bH;clear h3 aP;obtain⟨hc2,hf2,hl2⟩:=ak.see;by_cases p:t.k=4
  ·have p0:(t.k==4)=true:=by simpa using p
   have p1:(t.k !=4)=false:=by simpa using p
   have p2:(8:Int)<(t.l.length:Int):=by have:=Hnt.out;omega
   go_wp2_with fail;refine aG (h:= ?_);exact .inr ⟨rfl,rfl,Xt⟩
  ·have p0:(t.k==4)=false:=by simpa using p
   have p1:(t.k !=4)=true:=by simpa using p
   go_wp2_with fail;refine aG (h:= ?_);exact .inr ⟨rfl,rfl,Xt⟩
theorem ael (x i t:V) (ka:aq) (kc:Nat) (la:aq) (lc:Nat) (S0:aA) (w:World) (hsz:x.size<=1073741824) (ki:x.In w S0 ka kc la lc)
 (hf:x.fine=true) (hi:x.member ur=some i) (q:i.k=3) (hs:i.s.toList≠ []) (ht:x.member vL=some t) (p:t.k=4) (hlen:t.l.length<=8)
 (hsp:cy x=match nN t.l with|some xs=>some (i.s,xs)|none=>none):
 Calls prog 19 #[x.val ka kc la lc] w (uo (cy x) w):=by
 have hin:x.In w (fun b=>b<w.heap.size) ka kc la lc:=ki.mono fun b _ h=>h;clear ki;obtain⟨j0,hj,hy0,hy1,hy2⟩:=info_parts aef;have q0:(i.k==3)=true:=by simpa using q
 have q1:(i.k !=3)=false:=by simpa using q
 have q3:=Uk hs;have hts:=Uj ht;have htl:=t.kI;have p0:(t.k==4)=true:=by simpa using p
 have p1:(t.k !=4)=false:=by simpa using p
 have p2:¬(8:Int)<(t.l.length:Int):=by omega
 have p3:(t.l.length:Int)<=8:=by omega
 have uu:=ae hsp;clear hsp q hs p;go_enter func19,ntmps19;go_upto_region 1 with fail
 refine aI (R:=fun wx=>aD wx w.heap.size x ka kc la lc/\af wx (w.heap.size+1) #[.string ⟨#[]⟩, .slice none 0 0] 53/\Ext w wx) ⟨aj,aj,Xt⟩ ?_;rintro wa ⟨ai,ak,aF⟩;obtain⟨hc1,aB,az⟩:=ai.see;go_wp2_with fail;(with_reducible refine(df x ka kc la lc _ _ hsz (hin.ext Xt)).mono ?_);rintro e w1 ⟨rfl,h1⟩;obtain⟨nY,nZ,iF⟩:=cu h1;(try simp at iF);(try have Eh:w.heap.size<w1.heap.size:=by omega);(try have Ei:w.heap.size+1<w1.heap.size:=by omega);(try have Ej:w.heap.size+2<w1.heap.size:=by omega);rw [hf];have ai:=af.ext h1 ai;have ak:=af.ext h1 ak;have hx1:Ext w w1:=Xt;clear hc1 aB az;clear aF h1;obtain⟨hc1,aB,az⟩:=ai.see;go_wp2_with fail;(refine(wV hi _ _ _ _ _ _ (by omega) (hin.ext Xt)).mono ?_);rintro e w2 ⟨cI,cJ,cK,cL,rfl,bZ,h2⟩;obtain⟨rz,rA,mg⟩:=cu h2;(try simp at mg);(try have Iw:w.heap.size<w2.heap.size:=by omega);(try have Ix:w.heap.size+1<w2.heap.size:=by omega);(try have Iy:w.heap.size+2<w2.heap.size:=by omega);have ai:=af.ext h2 ai;have ak:=af.ext h2 ak;have hw2:=ak.lt;have hx2:Ext w w2:=Xt;clear hc1 aB az rz rA nY nZ;clear hx1 h2;go_upto_region 7 with fail
 refine aI (R:=fun wx=>aD wx w.heap.size x ka kc la lc/\af wx (w.heap.size+1) #[.string ⟨#[]⟩, .slice none 0 0] 53/\af wx (w2.heap.size+1) #[.string i.s, .slice none 0 0] 53/\Ext w wx) ⟨aj,aj,aj,Xt⟩ ?_;rintro wb ⟨ai,ak,bH,aP⟩;obtain⟨hc1,aB,az⟩:=ai.see;obtain⟨hc2,hf2,hl2⟩:=ak.see;obtain⟨jR,jS,jT⟩:=bH.see;go_wp2_with fail;(refine(wV ht _ _ _ _ _ _ (by omega) (hin.ext Xt)).mono ?_);rintro e w3 ⟨aZ,bf,bg,bh,rfl,bj,h3⟩;obtain⟨Bw,M9,Ek⟩:=cu h3;(try simp at Ek);(try have Ul:w.heap.size<w3.heap.size:=by omega);(try have Um:w.heap.size+1<w3.heap.size:=by omega);(try have Un:w.heap.size+2<w3.heap.size:=by omega);have hw3:w2.heap.size+1<wb.heap.size:=bH.lt;have ak:=af.ext h3 ak;have bH:=af.ext h3 bH;have hx3:Ext w w3:=Xt;clear hc1 aB az hc2 hf2 hl2 jR jS jT ai;clear h3 aP;go_upto_region 13 with fail
 refine aI (R:=fun wx=>∃P:aA,(∀b,P b->b≠w2.heap.size+1)/\t.In wx P aZ bf bg bh/\af wx (w.heap.size+1) #[.string ⟨#[]⟩, .slice none 0 0] 53/\af wx (w2.heap.size+1) #[.string i.s, .slice none 0 0] 53/\Ext w wx) ⟨_,fun b hb=>by simp only [aW] at hb;omega,bj.ext Xt,aj,aj,Xt⟩ ?_;rintro wx ⟨P,hP,hint,ak,bH,hx⟩;have Jk:=ak.lt;have hlv:=bH.lt;have HP:=ae hP;clear hP bj Bw M9
 go_loopg [9,10,11,12,59] t.l.length (fun g _ _ _ _ i' wr=>∃(k:Nat) (a2:aq) (c2:Nat) (xs:List (Int×Int)),k<=t.l.length/\i'= .int .i64 k/\g=t.l.length-k/\vM t.l k xs/\wr.ownsRow wx.heap.size 57 2 (.slice a2 k c2) k (qU xs)/\
  af wr (w.heap.size+1) #[.string ⟨#[]⟩, .slice none 0 0] 53/\af wr (w2.heap.size+1) #[.string i.s, .slice a2 k c2] 53/\Ext w wr/\Held (fun b=>b<wx.heap.size/\b≠w2.heap.size+1) wx wr)
 case atStart=>exact⟨0,none,0, [],by omega,rfl,rfl,vM.nil _,World.ownsRow_nil _ _ _ _,ak,bH,hx,Held.refl _ _⟩
 case round=>
  clear ak bH hx;obtain⟨k,a2,c2,xs,hk,rfl,rfl,hst,hown,ak,bH,hx,hh⟩:=hrel;have aQ:=ae hst;have ck:=ae hown;have ahs:=hh.size;clear hst hown;obtain⟨hc2,hf2,hl2⟩:=ak.see;obtain⟨jR,jS,jT⟩:=bH.see;by_cases hlt:k<t.l.length
  ·have hK:Kept P wx wr:=fun b hb hl=>hh.block b ⟨hl,HP.out b hb⟩ hl
   obtain⟨bb,o,rfl,hS,iC,iD,jc,iE,⟨d0,d1,d2,d3,d4⟩,hin'⟩:=hint.item hlt;have d0:=hK.cell hS d0;have d1:=hK.cell hS d1;have d2:=hK.cell hS d2;have d3:=hK.cell hS d3;have d4:=hK.cell hS d4;have hin':=hin'.keep hK (fun _ h _=>h);have hnb:∀b,b<wx.heap.size->some b≠(Value.slice a2 k c2).ownBlock:=fun b hb he=>by have:=(ck.out.lt b he.symm).1;omega
   have lq:=ae hnb;clear hnb;have cP:=V.qi hlt;by_cases k5:(t.l[k]).k=5
   ·have k5b:((t.l[k]).k==5)=true:=by simpa using k5
    obtain⟨p,hp⟩:∃p,((t.l[k]).member M8).getD V.zero=p:=⟨_,rfl⟩;have pT:=ae (show stepOf t.l[k]=if p.k=2/\0<=p.n/\l9 (-1) p.n=true then some (-1,p.n) else none by rw [stepOf,if_pos k5,<-hp];cases (t.l[k]).member M8<;>simp [V.zero]);clear k5;go_wp2_with fail;(refine(aei hp _ _ _ _ _ _ (by omega) (hin'.ext Xt)).mono ?_);rintro e w4 ⟨vY,vZ,wh,wk,rfl,dm,h4⟩;obtain⟨aem,aen,aeo⟩:=cu h4;(try simp at aeo);(try have aht:w.heap.size<w4.heap.size:=by omega);(try have ahu:w.heap.size+1<w4.heap.size:=by omega);(try have ahv:w.heap.size+2<w4.heap.size:=by omega);clear aem aen;go_upto_region 18 with fail
    refine aI (R:=fun wy=>af wy wr.heap.size #[.int .i64 t.l[k].k, .int .i64 t.l[k].n, .string t.l[k].s, .slice iC t.l[k].keys.length iD, .slice jc t.l[k].l.length iE] 41/\af wy (wr.heap.size+1) #[.int .i64 (t.l[k]).n, .int .i64 0] 57/\aD wy w4.heap.size p vY vZ wh wk/\Ext wr wy) ⟨aj,aj,aj,Xt⟩ ?_;rintro wy ⟨pZ,jy,A5,hy⟩;have ahw:=af.ext hy ak;have ahx:=af.ext hy bH;clear hc2 hf2 hl2 jR jS jT;obtain⟨GV,GX,y9⟩:=pZ.see;obtain⟨oz,oC,oD⟩:=jy.see;obtain⟨LD,LF,LG⟩:=A5.see;have n1:¬w4.heap.size=wr.heap.size:=by omega
    have n2:¬w4.heap.size=wr.heap.size+1:=by omega
    have n3:¬wr.heap.size=w4.heap.size:=by omega
    have n4:¬wr.heap.size+1=w4.heap.size:=by omega
    go_region_held3 (fun w'=>w'.cell? ⟨w4.heap.size,0,none⟩=some (.int .i64 p.k)/\w'.cell? ⟨w4.heap.size,1,none⟩=some (.int .i64 p.n)/\w'.cell? ⟨w4.heap.size,2,none⟩=some (.string p.s)/\w'.cell? ⟨w4.heap.size,3,none⟩=some (.slice vY p.keys.length vZ)/\w'.cell? ⟨w4.heap.size,4,none⟩=some (.slice wh p.l.length wk))
     (go_keep)
     (fail)
    all_goals
     go_upto_region 19 with fail
     refine aI (R:=fun wz=>aD wz wr.heap.size p vY vZ wh wk/\af wz (wr.heap.size+1) #[.int .i64 (-1), .int .i64 p.n] 57/\Ext wr wz) ⟨?_,?_,Xt⟩ ?_
     ·refine af.to (af.drew ?_) (vs:= #[.int .i64 p.k, .int .i64 p.n, .string p.s, .slice vY p.keys.length vZ, .slice wh p.l.length wk]) rfl
      exact(((((((pZ.other (p:=⟨wr.heap.size+1,0,none⟩) (by simp) _).other (p:=⟨wr.heap.size+1,1,none⟩) (by simp) _).set 0 _).set 1 _).set 2 _).set 3 _).set 4 _).to rfl
     ·refine af.drew ?_
      exact(((((((jy.set 0 _).set 1 _).other (p:=⟨wr.heap.size,0,none⟩) (by simp) _).other (p:=⟨wr.heap.size,1,none⟩) (by simp) _).other (p:=⟨wr.heap.size,2,none⟩) (by simp) _).other (p:=⟨wr.heap.size,3,none⟩) (by simp) _).other (p:=⟨wr.heap.size,4,none⟩) (by simp) _).to rfl
     clear pZ jy A5 GV GX y9 oz oC oD LD LF LG hy;rintro wz ⟨pZ,El,hz⟩;have Em:=af.ext hz ak;have Na:=af.ext hz bH;obtain⟨hc2,hf2,hl2⟩:=Em.see;obtain⟨GV,GX,y9⟩:=pZ.see;obtain⟨oz,oC,oD⟩:=El.see;by_cases q1:p.k=2
     ·have Bo:(p.k==2)=true:=by simpa using q1
      have Nb:(p.k !=2)=false:=by simpa using q1
      by_cases q2:0<=p.n
      ·have Nc:¬p.n<0:=by omega
       cases q3:l9 (-1) (p.n)
       ·go_wp2_with fail
        (with_reducible refine(En (-1) (p.n) _).mono ?_);rintro e w5 ⟨rfl,h5⟩;obtain⟨Nf,Ng,zA⟩:=cu h5;(try simp at zA);(try have Nh:w.heap.size<w5.heap.size:=by omega);(try have Ni:w.heap.size+1<w5.heap.size:=by omega);(try have Nj:w.heap.size+2<w5.heap.size:=by omega);rw [q3];go_wp2_with fail;refine aG (h:= ?_);refine .inr ⟨?_,rfl,Xt⟩;rw [uu.out,Bv hlt];rw [pT.out,if_neg];rw [q3];simp
       ·have oH:=ae (show stepOf t.l[k]=some (-1,p.n) by rw [pT.out,if_pos ⟨q1,q2,q3⟩])
        go_wp2_with fail;(with_reducible refine(En (-1) (p.n) _).mono ?_);rintro e w5 ⟨rfl,h5⟩;obtain⟨Nf,Ng,zA⟩:=cu h5;(try simp at zA);(try have Nh:w.heap.size<w5.heap.size:=by omega);(try have Ni:w.heap.size+1<w5.heap.size:=by omega);(try have Nj:w.heap.size+2<w5.heap.size:=by omega);rw [q3];have bG:Ext wr w5:=Xt;have iR:=ae (eT ck.out bG);have Eo:=af.ext h5 Na;have jy:=af.ext h5 El;obtain⟨aep,aeq,aer⟩:=Eo.see;obtain⟨oz,oC,oD⟩:=jy.see;go_wp2_with ((at_builtin;refine wpList_append_lies _ (by rfl) _ _ 51 (by rfl) wx.heap.size 57 j0 _ 2 16 underlying51 hj hy0 hy1 hy2 rfl (by decide) (.slice a2 k c2) k (qU xs) (by rfl) (iR.out.alloc _) ⟨w5.heap.size,0,none⟩ 1 1 [.int .i64 (-1), .int .i64 (p.n)] (by rfl) (by rfl) (World.news_of_block (cs:= #[.int .i64 (-1), .int .i64 (p.n)]) (t:=57) (fr:=(0,0)) (heap_alloc_new w5 _)) (by simp [Value.oneCell']) (by omega) (by unfold maxLen;omega) (by omega) (by simp;omega) _ rfl ?_;intro g6 bA w6 bF aY cp tY;have Nk:=af.grown (af.alloc Eo _) aY (lq.out _ (by omega));obtain⟨aes,aeu,aev⟩:=Nk.see;have iP:=ae aY;have gZ:=ae bF;have fS:=ae cp;clear aY bF cp));have aew:=af.grown (af.alloc (af.ext h5 Em) (.cells #[.int .i64 (-1), .int .i64 (p.n)] 57)) iP.out (lq.out _ (by omega));have bS:Ext w w6:=Ext.grown (b:=w5.alloc _) Xt iP.out (fun g hg=>by have:=(ck.out.lt g hg).1;omega);have bE:Held (fun b=>b<wx.heap.size/\b≠w2.heap.size+1) wx w6:=Held.grown (b:=w5.alloc _) aC iP.out (fun g hg hT=>by have:=(ck.out.lt g hg).1;omega);go_roundg (t.l.length-(k+1))
        case measure=>omega
        case rel=>exact⟨k+1,_,_,xs++ [(-1,p.n)],by omega,by go_num,rfl,aQ.out.snoc hlt oH.out,by rw [Ui];exact eo gZ.out (fun b hb he=>by have:=(gZ.out.lt b he).1;rw [Below.heap_setCell _ _ _ _ (by simp;omega)]),aj,aj,Xt,aC⟩
      ·have Nc:p.n<0:=by omega
       go_wp2_with fail;refine aG (h:= ?_);refine .inr ⟨?_,rfl,Xt⟩;rw [uu.out,Bv hlt];rw [pT.out,if_neg];rintro⟨-,h,-⟩;omega
     ·have Bo:(p.k==2)=false:=by simpa using q1
      have Nb:(p.k !=2)=true:=by simpa using q1
      go_wp2_with fail;refine aG (h:= ?_);refine .inr ⟨?_,rfl,Xt⟩;rw [uu.out,Bv hlt];rw [pT.out,if_neg];rintro⟨h,-⟩;exact q1 h
   ·have k5b:((t.l[k]).k==5)=false:=by simpa using k5
    have pT:=ae (show stepOf t.l[k]=if(t.l[k]).k=2/\0<= (t.l[k]).n/\l9 (t.l[k]).n 0=true then some ((t.l[k]).n,0) else none by rw [stepOf,if_neg k5]);clear k5;go_upto_region 19 with fail
    refine aI (R:=fun wz=>af wz wr.heap.size #[.int .i64 t.l[k].k, .int .i64 t.l[k].n, .string t.l[k].s, .slice iC t.l[k].keys.length iD, .slice jc t.l[k].l.length iE] 41/\af wz (wr.heap.size+1) #[.int .i64 (t.l[k]).n, .int .i64 0] 57/\Ext wr wz) ⟨aj,aj,Xt⟩ ?_;rintro wz ⟨pZ,El,hz⟩;have Em:=af.ext hz ak;have Na:=af.ext hz bH;clear hc2 hf2 hl2 jR jS jT;obtain⟨hc2,hf2,hl2⟩:=Em.see;obtain⟨GV,GX,y9⟩:=pZ.see;obtain⟨oz,oC,oD⟩:=El.see;by_cases q1:(t.l[k]).k=2
    ·have Bo:((t.l[k]).k==2)=true:=by simpa using q1
     have Nb:((t.l[k]).k !=2)=false:=by simpa using q1
     by_cases q2:0<= (t.l[k]).n
     ·have Nc:¬(t.l[k]).n<0:=by omega
      cases q3:l9 ((t.l[k]).n) (0)
      ·go_wp2_with fail
       (with_reducible refine(En ((t.l[k]).n) (0) _).mono ?_);rintro e w5 ⟨rfl,h5⟩;obtain⟨Nf,Ng,zA⟩:=cu h5;(try simp at zA);(try have Nh:w.heap.size<w5.heap.size:=by omega);(try have Ni:w.heap.size+1<w5.heap.size:=by omega);(try have Nj:w.heap.size+2<w5.heap.size:=by omega);rw [q3];go_wp2_with fail;refine aG (h:= ?_);refine .inr ⟨?_,rfl,Xt⟩;rw [uu.out,Bv hlt];rw [pT.out,if_neg];rw [q3];simp
      ·have oH:=ae (show stepOf t.l[k]=some ((t.l[k]).n,0) by rw [pT.out,if_pos ⟨q1,q2,q3⟩])
       go_wp2_with fail;(with_reducible refine(En ((t.l[k]).n) (0) _).mono ?_);rintro e w5 ⟨rfl,h5⟩;obtain⟨Nf,Ng,zA⟩:=cu h5;(try simp at zA);(try have Nh:w.heap.size<w5.heap.size:=by omega);(try have Ni:w.heap.size+1<w5.heap.size:=by omega);(try have Nj:w.heap.size+2<w5.heap.size:=by omega);rw [q3];have bG:Ext wr w5:=Xt;have iR:=ae (eT ck.out bG);have Eo:=af.ext h5 Na;have jy:=af.ext h5 El;obtain⟨aep,aeq,aer⟩:=Eo.see;obtain⟨oz,oC,oD⟩:=jy.see;go_wp2_with ((at_builtin;refine wpList_append_lies _ (by rfl) _ _ 51 (by rfl) wx.heap.size 57 j0 _ 2 16 underlying51 hj hy0 hy1 hy2 rfl (by decide) (.slice a2 k c2) k (qU xs) (by rfl) (iR.out.alloc _) ⟨w5.heap.size,0,none⟩ 1 1 [.int .i64 ((t.l[k]).n), .int .i64 (0)] (by rfl) (by rfl) (World.news_of_block (cs:= #[.int .i64 ((t.l[k]).n), .int .i64 (0)]) (t:=57) (fr:=(0,0)) (heap_alloc_new w5 _)) (by simp [Value.oneCell']) (by omega) (by unfold maxLen;omega) (by omega) (by simp;omega) _ rfl ?_;intro g6 bA w6 bF aY cp tY;have Nk:=af.grown (af.alloc Eo _) aY (lq.out _ (by omega));obtain⟨aes,aeu,aev⟩:=Nk.see;have iP:=ae aY;have gZ:=ae bF;have fS:=ae cp;clear aY bF cp));have aew:=af.grown (af.alloc (af.ext h5 Em) (.cells #[.int .i64 ((t.l[k]).n), .int .i64 (0)] 57)) iP.out (lq.out _ (by omega));have bS:Ext w w6:=Ext.grown (b:=w5.alloc _) Xt iP.out (fun g hg=>by have:=(ck.out.lt g hg).1;omega);have bE:Held (fun b=>b<wx.heap.size/\b≠w2.heap.size+1) wx w6:=Held.grown (b:=w5.alloc _) aC iP.out (fun g hg hT=>by have:=(ck.out.lt g hg).1;omega);go_roundg (t.l.length-(k+1))
       case measure=>omega
       case rel=>exact⟨k+1,_,_,xs++ [((t.l[k]).n,0)],by omega,by go_num,rfl,aQ.out.snoc hlt oH.out,by rw [Ui];exact eo gZ.out (fun b hb he=>by have:=(gZ.out.lt b he).1;rw [Below.heap_setCell _ _ _ _ (by simp;omega)]),aj,aj,Xt,aC⟩
     ·have Nc:(t.l[k]).n<0:=by omega
      go_wp2_with fail;refine aG (h:= ?_);refine .inr ⟨?_,rfl,Xt⟩;rw [uu.out,Bv hlt];rw [pT.out,if_neg];rintro⟨-,h,-⟩;omega
    ·have Bo:((t.l[k]).k==2)=false:=by simpa using q1
     have Nb:((t.l[k]).k !=2)=true:=by simpa using q1
     go_wp2_with fail;refine aG (h:= ?_);refine .inr ⟨?_,rfl,Xt⟩;rw [uu.out,Bv hlt];rw [pT.out,if_neg];rintro⟨h,-⟩;exact q1 h
  ·obtain rfl:k=t.l.length:=by omega
   go_wp2_with fail;refine aG (h:= ?_)
   exact .inl ⟨i.s,xs,a2,t.l.length,c2,by rw [uu.out,aQ.out.all],aQ.out.1,rfl,aeh (eo ck.out (fun b hb he=>by
    have:=(ck.out.lt b he).1
    rw [Below.heap_setCell _ _ _ _ (by simp;omega),Below.heap_setCell _ _ _ _ (by simp;omega)])) aQ.out.1,(fun p hp=>by have:=(ck.out.lt p.block (by rw [hp];rfl)).1;omega),Xt⟩
theorem aex {x i t:V} (hf:x.fine=true) (hi:x.member ur=some i) (q:i.k=3) (hs:i.s.toList≠ []) (ht:x.member vL=some t) (p:t.k=4) (hlen:t.l.length<=8):
 cy x=match nN t.l with|some xs=>some (i.s,xs)|none=>none:=by
 unfold cy;rw [if_pos hf,hi];simp only;rw [if_pos ⟨q,hs⟩,ht];simp only;rw [if_pos ⟨p,hlen⟩];cases nN t.l<;>rfl
theorem aey (x:V):(cy x=none/\ (x.fine=false\/ (x.fine=true/\ (x.member ur=none\/∃i,x.member ur=some i/\¬(i.k=3/\i.s.toList≠ [])))))\/
 ∃i,x.fine=true/\x.member ur=some i/\i.k=3/\i.s.toList≠ []/\
  (((x.member vL=none/\cy x=some (i.s, []))\/ (∃t,x.member vL=some t/\¬(t.k=4/\t.l.length<=8)/\cy x=none))\/
    ∃t,x.member vL=some t/\t.k=4/\t.l.length<=8):=by
 by_cases hf:x.fine=true
 ·cases hi:x.member ur with
  |none=>exact .inl ⟨by unfold cy;rw [if_pos hf,hi], .inr ⟨hf, .inl rfl⟩⟩
  |some i=>
   by_cases hq:i.k=3/\i.s.toList≠ []
   ·refine .inr ⟨i,hf,rfl,hq.1,hq.2,?_⟩
    cases ht:x.member vL with
    |none=>exact .inl (.inl ⟨rfl,by unfold cy;rw [if_pos hf,hi];simp only;rw [if_pos hq,ht]⟩)
    |some t=>
     by_cases hp:t.k=4/\t.l.length<=8
     ·exact .inr ⟨t,rfl,hp.1,hp.2⟩
     ·exact .inl (.inr ⟨t,rfl,hp,by unfold cy;rw [if_pos hf,hi];simp only;rw [if_pos hq,ht];simp only;rw [if_neg hp]⟩)
   ·exact .inl ⟨by unfold cy;rw [if_pos hf,hi];simp only;rw [if_neg hq], .inr ⟨hf, .inr ⟨i,rfl,hq⟩⟩⟩
 ·have hf:x.fine=false:=by simpa using hf
  exact .inl ⟨by unfold cy;rw [hf];simp, .inl hf⟩
theorem Iz (x:V) (ka:aq) (kc:Nat) (la:aq) (lc:Nat) (S:aA) (w:World) (hsz:x.size<=1073741824) (hin:x.In w S ka kc la lc):
 Calls prog 19 #[x.val ka kc la lc] w (uo (cy x) w):=by
 rcases aey x with⟨h,hn⟩|⟨i,hf,hi,q,hs,hn|⟨t,ht,p,hlen⟩⟩
 ·rw [h];exact aej x ka kc la lc S w hsz hin hn
 ·exact aek x i ka kc la lc S w hsz hin hf hi q hs _ (hn.imp (fun h=>⟨h.1,h.2⟩) (fun⟨t,h1,h2,h3⟩=>⟨t,h1,h2,h3⟩))
 ·exact ael x i t ka kc la lc S w hsz hin hf hi q hs ht p hlen (aex hf hi q hs ht p hlen)
end Go.Proofs.YtlcebdaghmdkeaaGreatDoor
