import Derived.Test.YtlcebdaghmdkeabGreatDoorZ10
import Derived.Test.YtlcebdaghmdkeabGreatDoorZ11
set_option linter.all false
set_option maxRecDepth 100000
set_option maxHeartbeats 64000000
namespace Go.Proofs.YtlcebdaghmdkeabGreatDoor
open Go.Proofs.Tryz
open Go.RowKit
attribute [local go_sem↓] Go.wp_at_zero Go.wp_at_succ
theorem adu (x:V) (ka:au) (kc:Nat) (la:au) (lc:Nat) (name:ah) (S:az) (w:World) (hl:cM w) (cN:x.sound) (hsz:x.size<=1073741824) (hn:name.size<=8000) (hin:x.In w S ka kc la lc) (hc:Hid (x.child name=none)):
 Calls prog 216 #[x.val ka kc la lc, .string name] w (fe S x (.int .i64 3) w):=by
 have aJ:=ae hin;clear hin;go_enter func216,ntmps216;go_upto_region 1 with fail
 refine aI (R:=fun wx=>aD wx w.heap.size x ka kc la lc/\aN wx (w.heap.size+1)/\Ext w wx) ⟨aj,aj,Xt⟩ ?_;rintro wa ⟨ag,ai,aH⟩;obtain⟨hc0,aw,hl0⟩:=ag.see;go_wp2_with fail;(refine(uK x ka kc la lc _ name _ cN hsz (by omega) (aJ.out.ext Xt) (hl.ext Xt)).mono ?_);rintro e w1 ⟨q,rfl,-,h1⟩;rw [hc.out];have ag:=af.ext h1 ag;have ai:=af.ext h1 ai;have hx1:Ext w w1:=Xt;clear h1 aH hc0 aw hl0;obtain⟨hc0,aw,hl0⟩:=ag.see;obtain⟨hc1,aA,ay⟩:=ai.see;go_wp2_with fail;refine aF (h:= ?_);exact⟨ka,kc,la,lc,rfl,(aJ.out.ext Xt).mono (fun b h _=> .inl h),Xt⟩
theorem adv (x:V) (ka:au) (kc:Nat) (la:au) (lc:Nat) (name:ah) (S:az) (w:World) (fS:Hid (∀b,S b->b<w.heap.size)) (hl:cM w) (cN:x.sound) (hsz:x.size<=1073741824) (hn:name.size<=8000) (hin:x.In w S ka kc la lc) (i:Nat) (hc:Hid (x.child name=some i)) (h5:x.k=5):
 Calls prog 216 #[x.val ka kc la lc, .string name] w (fe S (x.del name) (.int .i64 0) w):=by
 have aJ:=ae hin;have Hr:=ae cN.flat.dL;have kA:(x.k==5)=true:=by simpa using h5
 clear hin h5;go_enter func216,ntmps216;go_upto_region 1 with fail
 refine aI (R:=fun wx=>aD wx w.heap.size x ka kc la lc/\aN wx (w.heap.size+1)/\Ext w wx) ⟨aj,aj,Xt⟩ ?_;rintro wa ⟨ag,ai,aH⟩;obtain⟨hc0,aw,hl0⟩:=ag.see;go_wp2_with fail;(refine(uK x ka kc la lc _ name _ cN hsz (by omega) (aJ.out.ext Xt) (hl.ext Xt)).mono ?_);rintro e w1 ⟨q,rfl,-,h1⟩;rw [hc.out];have ag:=af.ext h1 ag;have ai:=af.ext h1 ai;have hx1:Ext w w1:=Xt;clear h1 aH hc0 aw hl0;obtain⟨hc0,aw,hl0⟩:=ag.see;go_wp2_with fail;(refine(Cq x ka kc la lc name S _ hsz Hr.out (aJ.out.ext Xt)).mono ?_);rintro e w2 ⟨iR,iT,iU,iV,rfl,eJ,h2⟩;have ay:=ai.lt;have bN:(x.del name).In w2 (fun b=>S b\/w.heap.size+2<=b) iR iT iU iV:=eJ.mono (fun b h _=>by rcases h with h|h;exact .inl h;exact .inr (by(try simp at h);omega));have ai:=af.ext (w:=w1) (w':=w2) Xt ai;have hx2:Ext w w2:=Xt;have bE:=ae bN;clear h2 hx1 hc0 aw hl0 eJ bN ag;obtain⟨hc1,aA,ay⟩:=ai.see;go_wp2_with fail;refine aF (h:= ?_);exact⟨iR,iT,iU,iV,rfl,bE.out.keep (Held.kept (Held.mono (S:=fun b=>b≠w.heap.size+1) (a:=w2) aC (fun b h=>by rcases h with h|h;(have:=fS.out b h;simp;omega);(simp;omega)))) (fun b h _=>by rcases h with h|h;exact .inl h;exact .inr (by omega)),Xt⟩
theorem adw (x:V) (ka:au) (kc:Nat) (la:au) (lc:Nat) (name:ah) (S:az) (w:World) (fS:Hid (∀b,S b->b<w.heap.size)) (hl:cM w) (cN:x.sound) (hsz:x.size<=1073741824) (hn:name.size<=8000) (hin:x.In w S ka kc la lc) (i m:Nat) (hc:Hid (x.child name=some i)) (hm:Hid (x.l.length=m+1)) (him:i<=m) (h5:x.k≠5):
 Calls prog 216 #[.agg #[.int .i64 x.k, .int .i64 x.n, .string x.s, .slice ka x.keys.length kc, .slice la (m+1) lc], .string name] w (fe S (x.B6 i) (.int .i64 0) w):=by
 have kA:(x.k==5)=false:=by simpa using h5
 have ahp:m+1<=1073741824:=by have:=x.kB;have:=hm.out;omega
 obtain⟨ib,gj,hst,ic⟩:=(V.dz ..).1 hin;obtain⟨news,hnl,lJ,jD⟩:=Ah ic;rw [hm.out] at hnl lJ gj;have h1c:=jD.one;have cl:∀w',Ext w w'->Calls prog 61 #[.slice la (m+1) lc] w' fun e w''=>∃a' c',e= .returned (.slice a' (m+1) c')/\aM a' (m+1) c'/\w''.ownsRow w'.heap.size 36 5 (.slice a' (m+1) c') (m+1) news/\Ext w' w'':=fun w' e=>
  Ai la (m+1) lc news w' gj (by omega) hnl (by rcases lJ with h|⟨ad,h,h'⟩;exact .inl h;exact .inr ⟨ad,h,fun j u hj=>e.cell (h' j u hj)⟩) h1c
 have T9:∀w',Ext w w'->Calls prog 46 #[.agg #[.int .i64 x.k, .int .i64 x.n, .string x.s, .slice ka x.keys.length kc, .slice la (m+1) lc], .string name] w' (OQ (x.child name) w'):=fun w' e=>by have:=uK x ka kc la lc _ name w' cN hsz (by omega) (hin.ext e) (hl.ext e);rw [V.val,hm.out] at this;exact this
 have Cl:=ae cl;have Chd:=ae T9;have kS:=ae h1c;have kC:=ae jD;have aP:=ae hst;clear cl T9 h1c jD hst hin hnl lJ ic h5;have hi0:(0:Int)<= (i:Int):=by omega
 have hw1:IntKind.i64.wrap ((i:Int)+1)=(i:Int)+1:=by rw [IntKind.wrap_i64];omega
 go_enter func216,ntmps216;go_upto_region 1 with fail
 refine aI (R:=fun wx=>af wx w.heap.size #[.int .i64 x.k, .int .i64 x.n, .string x.s, .slice ka x.keys.length kc, .slice la (m+1) lc] 36/\aN wx (w.heap.size+1)/\Ext w wx) ⟨aj,aj,Xt⟩ ?_;rintro wa ⟨ag,ai,aH⟩;obtain⟨hc0,aw,hl0⟩:=ag.see;go_wp2_with fail;(refine(Chd.out _ Xt).mono ?_);rintro e w1 ⟨q,rfl,hq,h1⟩;obtain rfl:=hq i hc.out;rw [hc.out];have ag:=af.ext h1 ag;have ai:=af.ext h1 ai;have adx:w.heap.size+2<=w1.heap.size:=ai.lt;have hx1:Ext w w1:=Xt;clear h1 aH hc0 aw hl0 hq;obtain⟨hc0,aw,hl0⟩:=ag.see;go_wp2_with fail;(refine(Cl.out _ Xt).mono ?_);rintro e w2 ⟨a2,c2,rfl,jI,hown2,h2⟩;have hx2:Ext w w2:=Xt;have hb2:Ext w1 w2:=Xt;have ag:=af.ext hb2 ag;have ai:=af.ext hb2 ai;have ay:=ai.lt;have dV:Hid (∀g,(Value.slice a2 (m+1) c2).ownBlock=some g->w1.heap.size<=g):=fun g hg=>(hown2.lt g hg).1;have kT:=ae (qw (b0:=w.heap.size+2) hown2 adx);clear h2 hx1 hc0 aw hl0 hown2;go_wp2_with fail;(refine(Ua _ q m c2 a2 news _ kT.out him kS.out).mono ?_);rintro e w3 ⟨rfl,eH,jK⟩;have hx3:Ext w w3:=Ext.grown hx2 jK (fun g hg=>by have:=dV.out g hg;omega);have ag:=af.grown ag jK (fun e=>by have:=dV.out _ e.symm;omega);have ai:=af.grown ai jK (fun e=>by have:=dV.out _ e.symm;omega);have jq:aM a2 m c2:=by obtain⟨a4,c4,cO,h⟩:=fT eH;simp only [Value.slice.injEq,true_and] at cO;obtain⟨rfl,rfl⟩:=cO;exact h
 have hrows:Rows w3 (fun b=>S b\/w.heap.size+2<=b) (x.l.take q++x.l.drop (q+1)) a2:=by
  have hcc:=(kC.out.keep (hx3.kept _) (fun b h _=>h)).del q;by_cases hm0:m=0
  ·refine .inl (List.eq_nil_of_length_eq_zero ?_)
   simp [hm.out];omega
  ·obtain⟨g7,cur,kD,hgb,hBg,hcz,hits⟩:=qx (by omega) (by simp [hm.out];omega) eH hcc
   exact .inr ⟨g7,0,kD, .inr (by omega),fun i hi=>by rw [Nat.zero_add];exact(hits i hi).mono (fun b h=> .inl h)⟩
 have zG:=ae hrows;clear eH jK hrows dV kT hb2 hx2;obtain⟨hc0,aw,hl0⟩:=ag.see;go_upto_region 7 with fail
 refine aI (R:=fun wy=>af wy w.heap.size #[.int .i64 x.k, .int .i64 x.n, .string x.s, .slice ka x.keys.length kc, .slice a2 m c2] 36/\aN wy (w.heap.size+1)/\Held (fun b=>b≠w.heap.size) w3 wy/\Ext w wy) ⟨aj,aj,aC,Xt⟩ ?_;clear ag ai hc0 aw hl0;rintro wy ⟨ag,ai,l9,hxy⟩;obtain⟨hc0,aw,hl0⟩:=ag.see;obtain⟨hc1,aA,ay⟩:=ai.see;go_wp2_with fail;refine aF (h:= ?_);have e2:(x.l.take q++x.l.drop (q+1)).length=m:=by simp [hm.out];omega
 refine⟨ka,kc,a2,c2,?_,(V.dz ..).2 ⟨ib,?_,aP.out.keep (Ext.kept Xt _) (fun b h _=> .inl h),?_⟩,Xt⟩
 ·simp only [V.val,V.B6,V.gi,V.dZ,V.uI,V.uJ,V.kz,e2]
 ·simp only [V.B6,V.dZ,e2];exact jq
 ·have h1:Held (fun b=>b≠w.heap.size/\b≠w.heap.size+1) w3 wy:=l9.mono (fun b h=>h.1)
  exact zG.out.keep (Held.kept (Held.mono (S:=fun b=>b≠w.heap.size/\b≠w.heap.size+1) (a:=w3) aC (fun b h=>by rcases h with h|h;(have:=fS.out b h;simp;omega);(simp;omega)))) (fun b h _=>by rcases h with h|h;exact .inl h;exact .inr (by omega))
theorem WY (S:az) (w0:World) (hS:∀b,S b->b<w0.heap.size) (hl:cM w0):Does pR S 216 #[] w0:=by
 intro x ka kc la lc name w' hw cN hsz hn hin;have fS:∀b,S b->b<w'.heap.size:=fun b h=>Nat.lt_of_lt_of_le (hS b h) hw.size;show Calls prog 216 #[x.val ka kc la lc, .string name] w' (fe S (pR x name).1 (.int .i64 (pR x name).2) w');unfold pR
 cases hc:x.child name with
 |none=>exact adu x ka kc la lc name S w' (hl.ext hw) cN hsz hn hin hc
 |some i=>
  have hi:=wG cN hc;by_cases h5:x.k=5
  ·simp only [if_pos h5]
   exact adv x ka kc la lc name S w' fS (hl.ext hw) cN hsz hn hin i hc h5
  ·simp only [if_neg h5]
   obtain⟨m,hm⟩:∃m,x.l.length=m+1:=⟨x.l.length-1,by omega⟩;have:=adw x ka kc la lc name S w' fS (hl.ext hw) cN hsz hn hin i m hc hm (by omega) h5;rw [V.val,hm];exact this
theorem WX (args:Array Value) (w:World):(callFunc 216 args).run prog w= .ok (.enter 216 args) w:=enters func216 (by kernel_rfl) (by rfl) args w
theorem W5 (y:V) (kb:au) (kd:Nat) (lb:au) (ld:Nat) (bx:Nat) (x:V) (ka:au) (kc:Nat) (la:au) (lc:Nat) (name:ah) (S:az) (w:World) (fS:Hid (∀b,S b->b<w.heap.size)) (dI:aD w bx y kb kd lb ld) (hjn:y.In w S kb kd lb ld) (hl:cM w)
 (hsz:x.size<=1073741824) (hn:name.size<=8000) (hin:x.In w S ka kc la lc) (h4:x.k=4) (p:Nat) (hi:Hid (jC name x.l.length=some p)) (hp:p<=x.l.length):
 Calls prog 215 #[x.val ka kc la lc, .string name, .pointer (some ⟨bx,0,none⟩)] w (fe S (x.nG p y) (.int .i64 0) w):=by
 have OI:=dI.lt;have kA:(x.k==5)=false:=by simpa using (show x.k≠5 by omega)
 have hk4:(x.k==4)=true:=by simpa using h4
 have hle:(p:Int)<= (x.l.length:Int):=by omega
 have W4:¬(x.l.length:Int)<(p:Int):=by omega
 have hll:=x.kB;obtain⟨ib,gj,hst,ic⟩:=(V.dz ..).1 hin;obtain⟨news,hnl,lJ,jD⟩:=Ah ic;have h1c:=jD.one;have cl:∀w',Ext w w'->Calls prog 61 #[.slice la x.l.length lc] w' fun e w''=>∃a' c',e= .returned (.slice a' x.l.length c')/\aM a' x.l.length c'/\w''.ownsRow w'.heap.size 36 5 (.slice a' x.l.length c') x.l.length news/\Ext w' w'':=fun w' e=>
  Ai la x.l.length lc news w' gj (by omega) hnl (by rcases lJ with h|⟨ad,h,h'⟩;exact .inl h;exact .inr ⟨ad,h,fun j u hj=>e.cell (h' j u hj)⟩) h1c
 have Cl:=ae cl;have kS:=ae h1c;have kC:=ae jD;have aP:=ae hst;have aU:=ae hjn;have aJ:=ae hin;clear cl h1c jD hst hjn hin hnl lJ ic h4;go_enter func215,ntmps215;go_upto_region 5 with fail
 refine aI (R:=fun wx=>aD wx w.heap.size x ka kc la lc/\aN wx (w.heap.size+1)/\Ext w wx) ⟨aj,aj,Xt⟩ ?_;rintro wa ⟨ag,ai,aH⟩;obtain⟨hc0,aw,hl0⟩:=ag.see;go_wp2_with fail;(refine(Cb name x.l.length (by omega) (by omega) _ (hl.ext Xt)).mono ?_);rintro e w1 ⟨rfl,h1⟩;rw [hi.out];have ag:=af.ext (w:=wa) (w':=w1) Xt ag;have ai:=af.ext (w:=wa) (w':=w1) Xt ai;have hx1:Ext w w1:=Xt;clear h1 aH hc0 aw hl0;obtain⟨hc0,aw,hl0⟩:=ag.see;go_upto_region 7 with fail
 refine aI (R:=fun wx=>aD wx w.heap.size x ka kc la lc/\aN wx (w.heap.size+1)/\Ext w wx) ⟨aj,aj,Xt⟩ ?_;clear ag ai hx1 hc0 aw hl0;rintro wb ⟨ag,ai,aO⟩;have dU:=af.ext aO dI;have hbl:=ai.lt
 have aq:∀w',Ext wb w'-> (w'.cell? ⟨w.heap.size,4,none⟩=some (.slice la x.l.length lc)/\w'.cell? ⟨bx,0,none⟩=some (.int .i64 y.k)/\w'.cell? ⟨bx,1,none⟩=some (.int .i64 y.n)/\w'.cell? ⟨bx,2,none⟩=some (.string y.s)/\w'.cell? ⟨bx,3,none⟩=some (.slice kb y.keys.length kd)/\w'.cell? ⟨bx,4,none⟩=some (.slice lb y.l.length ld)):=
  fun w' e=>⟨e.cell (ag.cells 4),e.cell (dU.cells 0),e.cell (dU.cells 1),e.cell (dU.cells 2),e.cell (dU.cells 3),e.cell (dU.cells 4)⟩
 clear dU;refine fF aq (c:=8) (by kernel_rfl) ?_;refine aG 0 [8] (hS:=aq _ Xt) (h:= ?_);refine aG 1 [8] (hS:=aq _ Xt) (h:= ?_);refine aG 3 [8] (hS:=aq _ Xt) (h:= ?_);refine aG 4 [8] (hS:=aq _ Xt) (h:= ?_);(try simp only [rl]);refine lK (rs:= [2,5]) (by kernel_rfl) (by simp) ?_;refine cj.cons (Array.getElem?_eq_getElem (by decide)) (fun K hK=> ?_) (cj.cons (Array.getElem?_eq_getElem (by decide)) (fun K hK=> ?_) cj.nil)
 · (try simp only [rl])
   (try go_simp);(refine(Cl.out _ Xt).mono ?_);rintro e w2 ⟨a2,c2,rfl,-,hown2,h2⟩;(try go_simp);have hb2:Ext wb w2:=Xt;have hz2:=hb2.size;have dV:Hid (∀g,(Value.slice a2 x.l.length c2).ownBlock=some g->wb.heap.size<=g/\g<w2.heap.size):=fun g hg=>hown2.lt g hg;have kT:=ae (qw (b0:=w.heap.size+2) hown2 (by(try simp);omega));clear hown2 h2;refine hK.out _ _ (fun _=>aq _ Xt) ?_;clear hK K;(try simp only [rl]);refine aK 5 (h:=fun K hK=> ?_);(try simp only [rl]);go_simp;refine hK.out _ _ (fun _=>aq _ Xt) ?_;clear hK K;(try simp only [rl]);refine aK 6 (h:=fun K hK=> ?_);(try simp only [rl]);(try go_simp);(refine(rG (w.heap.size+2) x.l.length p _ _ (.slice a2 x.l.length c2) news (y.five kb kd lb ld) _ 36 ?_ ?_ (by omega) hp ?_ ?_ rfl kS.out (y.mH kb kd lb ld)).mono ?_);(focus(first|(simp;omega)|omega));(focus(exact eD kT.out Xt));(focus(exact aj));(focus(intro h;have h':=(dV.out _ h).2;(first|omega|(simp at h';omega)|(simp at h';done))));rintro e w6 ⟨g6,bA,rfl,bF,aY,ck⟩;have bK:Ext wb w6:=Ext.grown Xt aY (fun g hg=>(dV.out g hg).1);(try go_simp);refine hK.out _ _ (fun _=>aq _ bK) ?_;clear hK K;(try simp only [rl]);refine aG 7 [8] (hS:=aq _ Xt) (h:= ?_);(try simp only [rl]);have yr:=af.ext bK ag;have yt:=af.ext bK ai;have dJ:Ext w w6:=aO.trans bK;have hcc:=(kC.out.keep (dJ.kept _) (fun b h _=>h)).ins p (aU.out.ext dJ);obtain⟨g7,cur,kD,hgb,hBg,hcz,hits⟩:=qx (Nat.succ_pos x.l.length) (by simp;omega) bF hcc;have jq:aM (some (⟨g6,0,none⟩:Addr)) (x.l.length+1) bA:=by obtain⟨a4,c4,cO,h⟩:=fT bF;simp only [Value.slice.injEq,true_and] at cO;obtain⟨rfl,rfl⟩:=cO;exact h
   simp only [Option.some.injEq,Addr.mk.injEq,and_true] at kD;obtain rfl:=kD;have gp:=ae hits;clear bF aY ck hcc hits hBg aq ag ai bK;obtain⟨hc0,aw,hl0⟩:=yr.see;refine aK 8 (h:=fun K hK=> ?_);(try simp only [rl]);go_simp;refine bz hK (h:= ?_);clear hK K;(try simp only [rl]);refine cZ (by kernel_rfl) ?_ _;go_upto_region 8 with fail
   refine aI (R:=fun wy=>af wy w.heap.size #[.int .i64 x.k, .int .i64 x.n, .string x.s, .slice ka x.keys.length kc, .slice (some ⟨g6,0,none⟩) (x.l.length+1) bA] 36/\aN wy (w.heap.size+1)/\Held (fun b=>b≠w.heap.size) w6 wy/\Ext w wy) ⟨aj,aj,aC,Xt⟩ ?_;clear yr yt hc0 aw hl0;rintro wy ⟨ag,ai,l9,hxy⟩;obtain⟨hc0,aw,hl0⟩:=ag.see;obtain⟨hc1,aA,ay⟩:=ai.see;go_wp2_with fail;refine aF (h:= ?_);have e2:(x.l.take p++y::x.l.drop p).length=x.l.length+1:=by simp;omega
   refine⟨ka,kc,some ⟨g6,0,none⟩,bA,?_,(V.dz ..).2 ⟨ib,?_,aP.out.keep (Ext.kept Xt _) (fun b h _=> .inl h), .inr ⟨g6,0,rfl, .inr (by omega),fun i hi=> ?_⟩⟩,Xt⟩
   ·simp only [V.val,V.nG,V.gi,V.dZ,V.uI,V.uJ,V.kz,e2]
   ·simp only [V.nG,V.dZ,e2];exact jq
   ·rw [Nat.zero_add]
    have h1:Held (fun b=>b≠w.heap.size/\b≠w.heap.size+1) w6 wy:=l9.mono (fun b h=>h.1);exact((gp.out i hi).keep' (T:=fun b=>b≠w.heap.size/\b≠w.heap.size+1) (by simp;omega) (Held.kept (a:=w6) aC) (fun b h=>by have:=fS.out b h;simp;omega)).mono (fun b h=> .inl h)
 · (try simp only [rl])
   go_simp;refine hK.out _ _ (fun _=>aq _ Xt) ?_;clear hK K;(try simp only [rl]);refine aK 2 (h:=fun K hK=> ?_);(try simp only [rl]);(try go_simp);(refine(Cl.out _ Xt).mono ?_);rintro e w2 ⟨a2,c2,rfl,-,hown2,h2⟩;(try go_simp);have hb2:Ext wb w2:=Xt;have hz2:=hb2.size;have hBn:af w2 wb.heap.size (y.five kb kd lb ld).toArray 36:=af.ext h2 aj;have dV:Hid (∀g,(Value.slice a2 x.l.length c2).ownBlock=some g->wb.heap.size<=g/\wb.heap.size<g):=fun g hg=>by have:=(hown2.lt g hg).1;simp at this;omega
   have kT:=ae (qw (b0:=w.heap.size+2) hown2 (by(try simp);omega));clear hown2 h2;refine hK.out _ _ (fun _=>aq _ Xt) ?_;clear hK K;(try simp only [rl]);refine aK 6 (h:=fun K hK=> ?_);(try simp only [rl]);(try go_simp);(refine(rG (w.heap.size+2) x.l.length p _ _ (.slice a2 x.l.length c2) news (y.five kb kd lb ld) _ 36 ?_ ?_ (by omega) hp ?_ ?_ rfl kS.out (y.mH kb kd lb ld)).mono ?_);(focus(first|(simp;omega)|omega));(focus(exact eD kT.out Xt));(focus(exact aj));(focus(intro h;have h':=(dV.out _ h).2;(first|omega|(simp at h';omega)|(simp at h';done))));rintro e w6 ⟨g6,bA,rfl,bF,aY,ck⟩;have bK:Ext wb w6:=Ext.grown Xt aY (fun g hg=>(dV.out g hg).1);(try go_simp);refine hK.out _ _ (fun _=>aq _ bK) ?_;clear hK K;(try simp only [rl]);refine aG 7 [8] (hS:=aq _ Xt) (h:= ?_);(try simp only [rl]);have yr:=af.ext bK ag;have yt:=af.ext bK ai;have dJ:Ext w w6:=aO.trans bK;have hcc:=(kC.out.keep (dJ.kept _) (fun b h _=>h)).ins p (aU.out.ext dJ);obtain⟨g7,cur,kD,hgb,hBg,hcz,hits⟩:=qx (Nat.succ_pos x.l.length) (by simp;omega) bF hcc;have jq:aM (some (⟨g6,0,none⟩:Addr)) (x.l.length+1) bA:=by obtain⟨a4,c4,cO,h⟩:=fT bF;simp only [Value.slice.injEq,true_and] at cO;obtain⟨rfl,rfl⟩:=cO;exact h
   simp only [Option.some.injEq,Addr.mk.injEq,and_true] at kD;obtain rfl:=kD;have gp:=ae hits;clear bF aY ck hcc hits hBg aq ag ai bK;obtain⟨hc0,aw,hl0⟩:=yr.see;refine aK 8 (h:=fun K hK=> ?_);(try simp only [rl]);go_simp;refine bz hK (h:= ?_);clear hK K;(try simp only [rl]);refine cZ (by kernel_rfl) ?_ _;go_upto_region 8 with fail
   refine aI (R:=fun wy=>af wy w.heap.size #[.int .i64 x.k, .int .i64 x.n, .string x.s, .slice ka x.keys.length kc, .slice (some ⟨g6,0,none⟩) (x.l.length+1) bA] 36/\aN wy (w.heap.size+1)/\Held (fun b=>b≠w.heap.size) w6 wy/\Ext w wy) ⟨aj,aj,aC,Xt⟩ ?_;clear yr yt hc0 aw hl0;rintro wy ⟨ag,ai,l9,hxy⟩;obtain⟨hc0,aw,hl0⟩:=ag.see;obtain⟨hc1,aA,ay⟩:=ai.see;go_wp2_with fail;refine aF (h:= ?_);have e2:(x.l.take p++y::x.l.drop p).length=x.l.length+1:=by simp;omega
   refine⟨ka,kc,some ⟨g6,0,none⟩,bA,?_,(V.dz ..).2 ⟨ib,?_,aP.out.keep (Ext.kept Xt _) (fun b h _=> .inl h), .inr ⟨g6,0,rfl, .inr (by omega),fun i hi=> ?_⟩⟩,Xt⟩
   ·simp only [V.val,V.nG,V.gi,V.dZ,V.uI,V.uJ,V.kz,e2]
   ·simp only [V.nG,V.dZ,e2];exact jq
   ·rw [Nat.zero_add]
    have h1:Held (fun b=>b≠w.heap.size/\b≠w.heap.size+1) w6 wy:=l9.mono (fun b h=>h.1);exact((gp.out i hi).keep' (T:=fun b=>b≠w.heap.size/\b≠w.heap.size+1) (by simp;omega) (Held.kept (a:=w6) aC) (fun b h=>by have:=fS.out b h;simp;omega)).mono (fun b h=> .inl h)
theorem I6 (y:V) (kb:au) (kd:Nat) (lb:au) (ld:Nat) (bx:Nat) (S:az) (w0:World) (hS:∀b,S b->b<w0.heap.size) (dI:aD w0 bx y kb kd lb ld) (hjn:y.In w0 S kb kd lb ld) (hl:cM w0):
 Does (jn y) S 215 #[.pointer (some ⟨bx,0,none⟩)] w0:=by
 intro x ka kc la lc name w' hw cN hsz hn hin;have fS:∀b,S b->b<w'.heap.size:=fun b h=>Nat.lt_of_lt_of_le (hS b h) hw.size;show Calls prog 215 #[x.val ka kc la lc, .string name, .pointer (some ⟨bx,0,none⟩)] w' (fe S (jn y x name).1 (.int .i64 (jn y x name).2) w');unfold jn;by_cases h5:x.k=5
 ·simp only [if_pos h5]
  exact WZ y kb kd lb ld bx x ka kc la lc name S w' fS (af.ext hw dI) (hjn.ext hw) cN hsz hn hin h5
 ·simp only [if_neg h5]
  by_cases h4:x.k=4
  ·simp only [if_pos h4]
   cases hi:jC name x.l.length with
   |none=>exact I9 bx x ka kc la lc name S w' (hl.ext hw) hsz hn hin h5 (.inr (fun i h=>by rw [hi] at h;cases h))
   |some p=>
    simp only;by_cases hp:p<=x.l.length
    ·simp only [if_pos hp]
     exact W5 y kb kd lb ld bx x ka kc la lc name S w' fS (af.ext hw dI) (hjn.ext hw) (hl.ext hw) hsz hn hin h4 p hi hp
    ·simp only [if_neg hp]
     exact I9 bx x ka kc la lc name S w' (hl.ext hw) hsz hn hin h5 (.inr (fun i h=>by rw [hi] at h;cases h;omega))
  ·simp only [if_neg h4]
   exact I9 bx x ka kc la lc name S w' (hl.ext hw) hsz hn hin h5 (.inl h4)
theorem I5 (args:Array Value) (w:World):(callFunc 215 args).run prog w= .ok (.enter 215 args) w:=enters func215 (by kernel_rfl) (by rfl) args w
theorem WO {α:Type} (f:α->Nat) (l:List α) (i:Nat) (hi:i<l.length) (a:α):((l.set i a).map f).sum+f l[i]=(l.map f).sum+f a:=by
 induction l generalizing i with
 |nil=>simp at hi
 |cons b r ih=>
  cases i with
  |zero=>simp only [List.set_cons_zero,List.map_cons,List.sum_cons,List.getElem_cons_zero];omega
  |succ i=>have:=ih i (by simpa using hi);simp only [List.set_cons_succ,List.map_cons,List.sum_cons,List.getElem_cons_succ];omega
theorem WQ {x y:V} {i:Nat} (hi:i<x.l.length) {B:Nat} (h:y.size<= (x.l[i]).size+B):(x.jR i y).size<=x.size+B:=by
 rw [V.size_eq,V.size_eq x];have:=WO V.size x.l i hi y;simp only [V.jR,V.kz,V.gi,V.dZ];omega
theorem I2 (F:lZ) (B:Nat) (hF:∀(y:V) (name:ah),name.size<=8000-> (F y name).1.size<=y.size+B):∀(ks:List ah) (x:V),(∀k∈ks,k.size<=8000)-> (bU F ks x).1.size<=x.size+B:=by
 intro ks
 induction ks with
 |nil=>intro x _;simp [bU]
 |cons k r ih=>
  intro x hk
  cases r with
  |nil=>rw [EY];exact hF x k (hk k (by simp))
  |cons k2 r=>
   cases hc:x.child k with
   |none=>rw [EZ hc];simp
   |some i=>
    by_cases hi:i<x.l.length
    ·rw [E0 hc hi]
     split
     ·exact WQ hi (ih _ (fun k h=>hk k (by simp [List.mem_cons.1 h])))
     ·simp
    ·rw [bU,if_neg (by simp),hc]
     simp only [List.getElem?_eq_none (Nat.le_of_not_lt hi)];omega
theorem WR (y x:V) (name:ah) (hn:name.size<=8000):(jn y x name).1.size<=x.size+(y.size+8001):=by
 unfold jn
 split
 ·have:=WS x name y;simp only;omega
 ·split
  ·split
   ·split
    ·have:=E1 V.size x.l (by assumption) y
     rw [V.size_eq,V.size_eq x];simp only [V.nG,V.kz,V.gi,V.dZ];omega
    ·simp
   ·simp
  ·simp
theorem WT (y x:V) (name:ah) (hn:name.size<=8000):(ia y x name).1.size<=x.size+(y.size+8001):=by
 unfold ia
 split
 ·simp
 ·rename_i i _
  have:=OH V.size x.l i y;rw [V.size_eq,V.size_eq x];simp only [V.jR,V.kz,V.gi,V.dZ];omega
theorem WU (x:V) (name:ah) (hn:name.size<=8000):(pR x name).1.size<=x.size+0:=by
 unfold pR
 split
 ·simp
 ·rename_i i _
  split
  ·have:=WV x name;simp only;omega
  ·have:=E2 V.size x.l i
   rw [V.size_eq,V.size_eq x];simp only [V.B6,V.kz,V.gi,V.dZ];omega
theorem E3 (y:V) (kb:au) (kd:Nat) (lb:au) (ld:Nat) (x:V) (ka:au) (kc:Nat) (la:au) (lc:Nat) (p:ah) (S:az) (w:World) (hl:cM w) (kR:x.size<=536870912) (jB:y.size<=536862000) (hp:p.size<=1073741824) (hin:x.In w S ka kc la lc) (hjn:y.In w S kb kd lb ld):
 Calls prog 188 #[x.val ka kc la lc, .string p,y.val kb kd lb ld] w (fe S (eV x p y).1 (.int .i64 (eV x p y).2) w):=by
 have rF:∀(ks:List ah),(∀k∈ks,k.size<=8000)-> (bU (jn y) ks x).1.size<=1073741824:=fun ks h=>by have:=I2 (jn y) (y.size+8001) (WR y) ks x h;omega
 have aJ:Hid (x.In w (fun b=>S b/\b<w.heap.size) ka kc la lc):=hin.mono fun b h hl=>⟨h,hl⟩;have aU:Hid (y.In w (fun b=>S b/\b<w.heap.size) kb kd lb ld):=hjn.mono fun b h hl=>⟨h,hl⟩;have hm:=hl.max;clear hin hjn;by_cases hy:y.fine=true
 ·have Hy:=ae hy
  by_cases hpe:p.data.toList= []
  ·have I3:p.toList.isEmpty=true:=by rw [ByteArray.toList_eq,hpe];rfl
   have I4:p.toList= []:=by rw [ByteArray.toList_eq,hpe]
   have gT:=ae hpe;clear hpe;go_enter func188,ntmps188;go_upto_region 1 with fail
   refine aI (R:=fun wx=>aD wx w.heap.size x ka kc la lc/\aD wx (w.heap.size+1) y kb kd lb ld/\aN wx (w.heap.size+2)/\Ext w wx) ⟨aj,aj,aj,Xt⟩ ?_;rintro wa ⟨ag,ai,ak,aH⟩;obtain⟨hc1,aA,ay⟩:=ai.see;go_wp2_with fail;(refine(cT y kb kd lb ld _ _ (by omega) (aU.out.ext Xt)).mono ?_);rintro e w1 ⟨rfl,h1⟩;have ag:=af.ext h1 ag;have ai:=af.ext h1 ai;have ak:=af.ext h1 ak;have hx1:Ext w w1:=Xt;clear h1 aH hc1 aA ay;rw [hy];obtain⟨hc0,aw,hl0⟩:=ag.see;obtain⟨hc1,aA,ay⟩:=ai.see;go_wp2_with fail;(refine(Ag x ka kc la lc _ p _ (by omega) (aJ.out.ext Xt) hp (hm.ext Xt)).mono ?_);rintro e w2 (⟨a,n,c,ks,hnb,hfi,rfl,hn,hok,hst,h2⟩|⟨hbad,rfl,h2⟩)
   ·have hap:eV x p y=(y,0):=by unfold eV;rw [if_neg (by rw [hy];decide),if_pos ⟨gT.out,hfi⟩]
    have jS:=ae hap;have ai:=af.ext h2 ai;have ak:=af.ext h2 ak;have hx2:Ext w w2:=Xt;clear h2 hc0 aw hl0 hc1 aA ay hx1 hnb hn hok hst hfi hap;obtain⟨hc1,aA,ay⟩:=ai.see;obtain⟨hc2,hf2,hl2⟩:=ak.see;go_wp2_with fail;refine aF (h:= ?_);rw [jS.out];exact⟨kb,kd,lb,ld,rfl,(aU.out.ext Xt).mono (fun b h _=> .inl h.1),Xt⟩
   ·have pS:x.fine=false:=by
     rcases hbad with h|h
     ·rw [Ca gT.out] at h;cases h
     ·exact h
    have hap:eV x p y=gH x p (jn y):=by unfold eV;rw [if_neg (by rw [hy];decide),if_neg (fun h=>by rw [pS] at h;exact absurd h.2 (by decide))]
    have jS:=ae hap;clear hap hbad pS hc1 aA ay;have hx2:Ext w w2:=Xt;have ag:=af.ext h2 ag;have ai:=af.ext h2 ai;have ak:=af.ext h2 ak;clear h2 hc0 aw hl0 hx1;obtain⟨hc0,aw,hl0⟩:=ag.see;go_wp2_with fail;have hSw:∀b,(S b/\b<w.heap.size)->b<w2.heap.size:=fun b h=>Nat.lt_of_lt_of_le h.2 hx2.size;(refine(yq (jn y) (fun b=>S b/\b<w.heap.size) 215 #[.pointer (some ⟨w.heap.size+1,0,none⟩)] _ hSw I5 (I6 y kb kd lb ld (w.heap.size+1) _ _ hSw ai (aU.out.ext hx2) (hl.ext hx2)) (hl.ext hx2) x ka kc la lc p (by omega) rF (aJ.out.ext Xt) hp).mono ?_);rintro e w3 ⟨bh,bj,bk,bn,rfl,bf,h3⟩;have hz2:=ak.lt;have cU:(gH x p (jn y)).1.In w3 (fun b=>(S b/\b<w.heap.size)\/w.heap.size+3<=b) bh bj bk bn:=bf.mono (fun b h _=>by rcases h with h|h;exact .inl h;exact .inr (by(try simp at h);omega));have ak:=af.ext h3 ak;have hx3:Ext w w3:=Xt;have dm:=ae cU;clear h3 bf cU hc0 aw hl0 hx2 ag ai;obtain⟨hc2,hf2,hl2⟩:=ak.see;go_wp2_with fail;refine aF (h:= ?_);rw [jS.out];exact⟨bh,bj,bk,bn,rfl,dm.out.keep (Held.kept (Held.mono (S:=fun b=>b≠w.heap.size+2) (a:=w3) aC (fun b h=>by rcases h with h|h;(have:=h.2;simp;omega);(simp;omega)))) (fun b h _=>by rcases h with h|h;exact .inl h.1;exact .inr (by omega)),Xt⟩
  ·have I3:p.toList.isEmpty=false:=by rw [ByteArray.toList_eq];cases hq:p.data.toList with|nil=>exact absurd hq hpe|cons=>rfl
   have I4:¬p.toList= []:=by rw [ByteArray.toList_eq];exact hpe
   have hap:eV x p y=gH x p (jn y):=by unfold eV;rw [if_neg (by rw [hy];decide),if_neg (fun h=>hpe h.1)]
   have jS:=ae hap;clear hpe hap;go_enter func188,ntmps188;go_upto_region 1 with fail
   refine aI (R:=fun wx=>aD wx w.heap.size x ka kc la lc/\aD wx (w.heap.size+1) y kb kd lb ld/\aN wx (w.heap.size+2)/\Ext w wx) ⟨aj,aj,aj,Xt⟩ ?_;rintro wa ⟨ag,ai,ak,aH⟩;obtain⟨hc1,aA,ay⟩:=ai.see;go_wp2_with fail;(refine(cT y kb kd lb ld _ _ (by omega) (aU.out.ext Xt)).mono ?_);rintro e w1 ⟨rfl,h1⟩;have ag:=af.ext h1 ag;have ai:=af.ext h1 ai;have ak:=af.ext h1 ak;have hx1:Ext w w1:=Xt;clear h1 aH hc1 aA ay;rw [hy];obtain⟨hc0,aw,hl0⟩:=ag.see;obtain⟨hc1,aA,ay⟩:=ai.see;go_wp2_with fail;(refine(Ag x ka kc la lc _ p _ (by omega) (aJ.out.ext Xt) hp (hm.ext Xt)).mono ?_);rintro e w2 (⟨a,n,c,ks,hnb,hfi,rfl,hn,hok,hst,h2⟩|⟨hbad,rfl,h2⟩)
   ·clear hc1 aA ay hnb hn hok hst hfi
    have hx2:Ext w w2:=Xt;have ag:=af.ext h2 ag;have ai:=af.ext h2 ai;have ak:=af.ext h2 ak;clear h2 hc0 aw hl0 hx1;obtain⟨hc0,aw,hl0⟩:=ag.see;go_wp2_with fail;have hSw:∀b,(S b/\b<w.heap.size)->b<w2.heap.size:=fun b h=>Nat.lt_of_lt_of_le h.2 hx2.size;(refine(yq (jn y) (fun b=>S b/\b<w.heap.size) 215 #[.pointer (some ⟨w.heap.size+1,0,none⟩)] _ hSw I5 (I6 y kb kd lb ld (w.heap.size+1) _ _ hSw ai (aU.out.ext hx2) (hl.ext hx2)) (hl.ext hx2) x ka kc la lc p (by omega) rF (aJ.out.ext Xt) hp).mono ?_);rintro e w3 ⟨bh,bj,bk,bn,rfl,bf,h3⟩;have hz2:=ak.lt;have cU:(gH x p (jn y)).1.In w3 (fun b=>(S b/\b<w.heap.size)\/w.heap.size+3<=b) bh bj bk bn:=bf.mono (fun b h _=>by rcases h with h|h;exact .inl h;exact .inr (by(try simp at h);omega));have ak:=af.ext h3 ak;have hx3:Ext w w3:=Xt;have dm:=ae cU;clear h3 bf cU hc0 aw hl0 hx2 ag ai;obtain⟨hc2,hf2,hl2⟩:=ak.see;go_wp2_with fail;refine aF (h:= ?_);rw [jS.out];exact⟨bh,bj,bk,bn,rfl,dm.out.keep (Held.kept (Held.mono (S:=fun b=>b≠w.heap.size+2) (a:=w3) aC (fun b h=>by rcases h with h|h;(have:=h.2;simp;omega);(simp;omega)))) (fun b h _=>by rcases h with h|h;exact .inl h.1;exact .inr (by omega)),Xt⟩
   ·clear hc1 aA ay hbad
    have hx2:Ext w w2:=Xt;have ag:=af.ext h2 ag;have ai:=af.ext h2 ai;have ak:=af.ext h2 ak;clear h2 hc0 aw hl0 hx1;obtain⟨hc0,aw,hl0⟩:=ag.see;go_wp2_with fail;have hSw:∀b,(S b/\b<w.heap.size)->b<w2.heap.size:=fun b h=>Nat.lt_of_lt_of_le h.2 hx2.size;(refine(yq (jn y) (fun b=>S b/\b<w.heap.size) 215 #[.pointer (some ⟨w.heap.size+1,0,none⟩)] _ hSw I5 (I6 y kb kd lb ld (w.heap.size+1) _ _ hSw ai (aU.out.ext hx2) (hl.ext hx2)) (hl.ext hx2) x ka kc la lc p (by omega) rF (aJ.out.ext Xt) hp).mono ?_);rintro e w3 ⟨bh,bj,bk,bn,rfl,bf,h3⟩;have hz2:=ak.lt;have cU:(gH x p (jn y)).1.In w3 (fun b=>(S b/\b<w.heap.size)\/w.heap.size+3<=b) bh bj bk bn:=bf.mono (fun b h _=>by rcases h with h|h;exact .inl h;exact .inr (by(try simp at h);omega));have ak:=af.ext h3 ak;have hx3:Ext w w3:=Xt;have dm:=ae cU;clear h3 bf cU hc0 aw hl0 hx2 ag ai;obtain⟨hc2,hf2,hl2⟩:=ak.see;go_wp2_with fail;refine aF (h:= ?_);rw [jS.out];exact⟨bh,bj,bk,bn,rfl,dm.out.keep (Held.kept (Held.mono (S:=fun b=>b≠w.heap.size+2) (a:=w3) aC (fun b h=>by rcases h with h|h;(have:=h.2;simp;omega);(simp;omega)))) (fun b h _=>by rcases h with h|h;exact .inl h.1;exact .inr (by omega)),Xt⟩
 ·have hy':y.fine=false:=by simpa using hy
  have hap:eV x p y=(x,1):=by unfold eV;rw [if_pos hy']
  have jS:=ae hap;clear hap hy;go_enter func188,ntmps188;go_upto_region 1 with fail
  refine aI (R:=fun wx=>aD wx w.heap.size x ka kc la lc/\aD wx (w.heap.size+1) y kb kd lb ld/\aN wx (w.heap.size+2)/\Ext w wx) ⟨aj,aj,aj,Xt⟩ ?_;rintro wa ⟨ag,ai,ak,aH⟩;obtain⟨hc1,aA,ay⟩:=ai.see;go_wp2_with fail;(refine(cT y kb kd lb ld _ _ (by omega) (aU.out.ext Xt)).mono ?_);rintro e w1 ⟨rfl,h1⟩;have ag:=af.ext h1 ag;have ai:=af.ext h1 ai;have ak:=af.ext h1 ak;have hx1:Ext w w1:=Xt;clear h1 aH hc1 aA ay;rw [hy'];obtain⟨hc0,aw,hl0⟩:=ag.see;obtain⟨hc2,hf2,hl2⟩:=ak.see;go_wp2_with fail;refine aF (h:= ?_);rw [jS.out];exact⟨ka,kc,la,lc,rfl,(aJ.out.ext Xt).mono (fun b h _=> .inl h.1),Xt⟩
theorem WW (y:V) (kb:au) (kd:Nat) (lb:au) (ld:Nat) (x:V) (ka:au) (kc:Nat) (la:au) (lc:Nat) (p:ah) (S:az) (w:World) (hl:cM w) (kR:x.size<=536870912) (jB:y.size<=536862000) (hp:p.size<=1073741824) (hin:x.In w S ka kc la lc) (hjn:y.In w S kb kd lb ld):
 Calls prog 190 #[x.val ka kc la lc, .string p,y.val kb kd lb ld] w (fe S (jT x p y).1 (.int .i64 (jT x p y).2) w):=by
 have rF:∀(ks:List ah),(∀k∈ks,k.size<=8000)-> (bU (ia y) ks x).1.size<=1073741824:=fun ks h=>by have:=I2 (ia y) (y.size+8001) (WT y) ks x h;omega
 have aJ:Hid (x.In w (fun b=>S b/\b<w.heap.size) ka kc la lc):=hin.mono fun b h hl=>⟨h,hl⟩;have aU:Hid (y.In w (fun b=>S b/\b<w.heap.size) kb kd lb ld):=hjn.mono fun b h hl=>⟨h,hl⟩;have hm:=hl.max;clear hin hjn;by_cases hy:y.fine=true
 ·have Hy:=ae hy
  by_cases hpe:p.data.toList= []
  ·have I3:p.toList.isEmpty=true:=by rw [ByteArray.toList_eq,hpe];rfl
   have I4:p.toList= []:=by rw [ByteArray.toList_eq,hpe]
   have gT:=ae hpe;clear hpe;go_enter func190,ntmps190;go_upto_region 1 with fail
   refine aI (R:=fun wx=>aD wx w.heap.size x ka kc la lc/\aD wx (w.heap.size+1) y kb kd lb ld/\aN wx (w.heap.size+2)/\Ext w wx) ⟨aj,aj,aj,Xt⟩ ?_;rintro wa ⟨ag,ai,ak,aH⟩;obtain⟨hc1,aA,ay⟩:=ai.see;go_wp2_with fail;(refine(cT y kb kd lb ld _ _ (by omega) (aU.out.ext Xt)).mono ?_);rintro e w1 ⟨rfl,h1⟩;have ag:=af.ext h1 ag;have ai:=af.ext h1 ai;have ak:=af.ext h1 ak;have hx1:Ext w w1:=Xt;clear h1 aH hc1 aA ay;rw [hy];obtain⟨hc0,aw,hl0⟩:=ag.see;obtain⟨hc1,aA,ay⟩:=ai.see;go_wp2_with fail;(refine(Ag x ka kc la lc _ p _ (by omega) (aJ.out.ext Xt) hp (hm.ext Xt)).mono ?_);rintro e w2 (⟨a,n,c,ks,hnb,hfi,rfl,hn,hok,hst,h2⟩|⟨hbad,rfl,h2⟩)
   ·have hap:jT x p y=(y,0):=by unfold jT;rw [if_neg (by rw [hy];decide),if_pos ⟨gT.out,hfi⟩]
    have jS:=ae hap;have ai:=af.ext h2 ai;have ak:=af.ext h2 ak;have hx2:Ext w w2:=Xt;clear h2 hc0 aw hl0 hc1 aA ay hx1 hnb hn hok hst hfi hap;obtain⟨hc1,aA,ay⟩:=ai.see;obtain⟨hc2,hf2,hl2⟩:=ak.see;go_wp2_with fail;refine aF (h:= ?_);rw [jS.out];exact⟨kb,kd,lb,ld,rfl,(aU.out.ext Xt).mono (fun b h _=> .inl h.1),Xt⟩
   ·have pS:x.fine=false:=by
     rcases hbad with h|h
     ·rw [Ca gT.out] at h;cases h
     ·exact h
    have hap:jT x p y=gH x p (ia y):=by unfold jT;rw [if_neg (by rw [hy];decide),if_neg (fun h=>by rw [pS] at h;exact absurd h.2 (by decide))]
    have jS:=ae hap;clear hap hbad pS hc1 aA ay;have hx2:Ext w w2:=Xt;have ag:=af.ext h2 ag;have ai:=af.ext h2 ai;have ak:=af.ext h2 ak;clear h2 hc0 aw hl0 hx1;obtain⟨hc0,aw,hl0⟩:=ag.see;go_wp2_with fail;have hSw:∀b,(S b/\b<w.heap.size)->b<w2.heap.size:=fun b h=>Nat.lt_of_lt_of_le h.2 hx2.size;(refine(yq (ia y) (fun b=>S b/\b<w.heap.size) 217 #[.pointer (some ⟨w.heap.size+1,0,none⟩)] _ hSw I7 (I8 y kb kd lb ld (w.heap.size+1) _ _ hSw ai (aU.out.ext hx2) (hl.ext hx2)) (hl.ext hx2) x ka kc la lc p (by omega) rF (aJ.out.ext Xt) hp).mono ?_);rintro e w3 ⟨bh,bj,bk,bn,rfl,bf,h3⟩;have hz2:=ak.lt;have cU:(gH x p (ia y)).1.In w3 (fun b=>(S b/\b<w.heap.size)\/w.heap.size+3<=b) bh bj bk bn:=bf.mono (fun b h _=>by rcases h with h|h;exact .inl h;exact .inr (by(try simp at h);omega));have ak:=af.ext h3 ak;have hx3:Ext w w3:=Xt;have dm:=ae cU;clear h3 bf cU hc0 aw hl0 hx2 ag ai;obtain⟨hc2,hf2,hl2⟩:=ak.see;go_wp2_with fail;refine aF (h:= ?_);rw [jS.out];exact⟨bh,bj,bk,bn,rfl,dm.out.keep (Held.kept (Held.mono (S:=fun b=>b≠w.heap.size+2) (a:=w3) aC (fun b h=>by rcases h with h|h;(have:=h.2;simp;omega);(simp;omega)))) (fun b h _=>by rcases h with h|h;exact .inl h.1;exact .inr (by omega)),Xt⟩
  ·have I3:p.toList.isEmpty=false:=by rw [ByteArray.toList_eq];cases hq:p.data.toList with|nil=>exact absurd hq hpe|cons=>rfl
   have I4:¬p.toList= []:=by rw [ByteArray.toList_eq];exact hpe
   have hap:jT x p y=gH x p (ia y):=by unfold jT;rw [if_neg (by rw [hy];decide),if_neg (fun h=>hpe h.1)]
   have jS:=ae hap;clear hpe hap;go_enter func190,ntmps190;go_upto_region 1 with fail
   refine aI (R:=fun wx=>aD wx w.heap.size x ka kc la lc/\aD wx (w.heap.size+1) y kb kd lb ld/\aN wx (w.heap.size+2)/\Ext w wx) ⟨aj,aj,aj,Xt⟩ ?_;rintro wa ⟨ag,ai,ak,aH⟩;obtain⟨hc1,aA,ay⟩:=ai.see;go_wp2_with fail;(refine(cT y kb kd lb ld _ _ (by omega) (aU.out.ext Xt)).mono ?_);rintro e w1 ⟨rfl,h1⟩;have ag:=af.ext h1 ag;have ai:=af.ext h1 ai;have ak:=af.ext h1 ak;have hx1:Ext w w1:=Xt;clear h1 aH hc1 aA ay;rw [hy];obtain⟨hc0,aw,hl0⟩:=ag.see;obtain⟨hc1,aA,ay⟩:=ai.see;go_wp2_with fail;(refine(Ag x ka kc la lc _ p _ (by omega) (aJ.out.ext Xt) hp (hm.ext Xt)).mono ?_);rintro e w2 (⟨a,n,c,ks,hnb,hfi,rfl,hn,hok,hst,h2⟩|⟨hbad,rfl,h2⟩)
   ·clear hc1 aA ay hnb hn hok hst hfi
    have hx2:Ext w w2:=Xt;have ag:=af.ext h2 ag;have ai:=af.ext h2 ai;have ak:=af.ext h2 ak;clear h2 hc0 aw hl0 hx1;obtain⟨hc0,aw,hl0⟩:=ag.see;go_wp2_with fail;have hSw:∀b,(S b/\b<w.heap.size)->b<w2.heap.size:=fun b h=>Nat.lt_of_lt_of_le h.2 hx2.size;(refine(yq (ia y) (fun b=>S b/\b<w.heap.size) 217 #[.pointer (some ⟨w.heap.size+1,0,none⟩)] _ hSw I7 (I8 y kb kd lb ld (w.heap.size+1) _ _ hSw ai (aU.out.ext hx2) (hl.ext hx2)) (hl.ext hx2) x ka kc la lc p (by omega) rF (aJ.out.ext Xt) hp).mono ?_);rintro e w3 ⟨bh,bj,bk,bn,rfl,bf,h3⟩;have hz2:=ak.lt;have cU:(gH x p (ia y)).1.In w3 (fun b=>(S b/\b<w.heap.size)\/w.heap.size+3<=b) bh bj bk bn:=bf.mono (fun b h _=>by rcases h with h|h;exact .inl h;exact .inr (by(try simp at h);omega));have ak:=af.ext h3 ak;have hx3:Ext w w3:=Xt;have dm:=ae cU;clear h3 bf cU hc0 aw hl0 hx2 ag ai;obtain⟨hc2,hf2,hl2⟩:=ak.see;go_wp2_with fail;refine aF (h:= ?_);rw [jS.out];exact⟨bh,bj,bk,bn,rfl,dm.out.keep (Held.kept (Held.mono (S:=fun b=>b≠w.heap.size+2) (a:=w3) aC (fun b h=>by rcases h with h|h;(have:=h.2;simp;omega);(simp;omega)))) (fun b h _=>by rcases h with h|h;exact .inl h.1;exact .inr (by omega)),Xt⟩
   ·clear hc1 aA ay hbad
    have hx2:Ext w w2:=Xt;have ag:=af.ext h2 ag;have ai:=af.ext h2 ai;have ak:=af.ext h2 ak;clear h2 hc0 aw hl0 hx1;obtain⟨hc0,aw,hl0⟩:=ag.see;go_wp2_with fail;have hSw:∀b,(S b/\b<w.heap.size)->b<w2.heap.size:=fun b h=>Nat.lt_of_lt_of_le h.2 hx2.size;(refine(yq (ia y) (fun b=>S b/\b<w.heap.size) 217 #[.pointer (some ⟨w.heap.size+1,0,none⟩)] _ hSw I7 (I8 y kb kd lb ld (w.heap.size+1) _ _ hSw ai (aU.out.ext hx2) (hl.ext hx2)) (hl.ext hx2) x ka kc la lc p (by omega) rF (aJ.out.ext Xt) hp).mono ?_);rintro e w3 ⟨bh,bj,bk,bn,rfl,bf,h3⟩;have hz2:=ak.lt;have cU:(gH x p (ia y)).1.In w3 (fun b=>(S b/\b<w.heap.size)\/w.heap.size+3<=b) bh bj bk bn:=bf.mono (fun b h _=>by rcases h with h|h;exact .inl h;exact .inr (by(try simp at h);omega));have ak:=af.ext h3 ak;have hx3:Ext w w3:=Xt;have dm:=ae cU;clear h3 bf cU hc0 aw hl0 hx2 ag ai;obtain⟨hc2,hf2,hl2⟩:=ak.see;go_wp2_with fail;refine aF (h:= ?_);rw [jS.out];exact⟨bh,bj,bk,bn,rfl,dm.out.keep (Held.kept (Held.mono (S:=fun b=>b≠w.heap.size+2) (a:=w3) aC (fun b h=>by rcases h with h|h;(have:=h.2;simp;omega);(simp;omega)))) (fun b h _=>by rcases h with h|h;exact .inl h.1;exact .inr (by omega)),Xt⟩
 ·have hy':y.fine=false:=by simpa using hy
  have hap:jT x p y=(x,1):=by unfold jT;rw [if_pos hy']
  have jS:=ae hap;clear hap hy;go_enter func190,ntmps190;go_upto_region 1 with fail
  refine aI (R:=fun wx=>aD wx w.heap.size x ka kc la lc/\aD wx (w.heap.size+1) y kb kd lb ld/\aN wx (w.heap.size+2)/\Ext w wx) ⟨aj,aj,aj,Xt⟩ ?_;rintro wa ⟨ag,ai,ak,aH⟩;obtain⟨hc1,aA,ay⟩:=ai.see;go_wp2_with fail;(refine(cT y kb kd lb ld _ _ (by omega) (aU.out.ext Xt)).mono ?_);rintro e w1 ⟨rfl,h1⟩;have ag:=af.ext h1 ag;have ai:=af.ext h1 ai;have ak:=af.ext h1 ak;have hx1:Ext w w1:=Xt;clear h1 aH hc1 aA ay;rw [hy'];obtain⟨hc0,aw,hl0⟩:=ag.see;obtain⟨hc2,hf2,hl2⟩:=ak.see;go_wp2_with fail;refine aF (h:= ?_);rw [jS.out];exact⟨ka,kc,la,lc,rfl,(aJ.out.ext Xt).mono (fun b h _=> .inl h.1),Xt⟩
theorem E4 (x:V) (ka:au) (kc:Nat) (la:au) (lc:Nat) (p:ah) (S:az) (w:World) (hl:cM w) (kR:x.size<=1073741824) (hp:p.size<=1073741824) (hin:x.In w S ka kc la lc):
 Calls prog 189 #[x.val ka kc la lc, .string p] w (fe S (jU x p).1 (.int .i64 (jU x p).2) w):=by
 have aJ:Hid (x.In w (fun b=>S b/\b<w.heap.size) ka kc la lc):=hin.mono fun b h hl=>⟨h,hl⟩;have rF:∀(ks:List ah),(∀k∈ks,k.size<=8000)-> (bU pR ks x).1.size<=1073741824:=fun ks h=>by have:=I2 pR 0 WU ks x h;omega
 clear hin;go_enter func189,ntmps189;go_upto_region 1 with fail
 refine aI (R:=fun wx=>aD wx w.heap.size x ka kc la lc/\aN wx (w.heap.size+1)/\Ext w wx) ⟨aj,aj,Xt⟩ ?_;rintro w2 ⟨ag,ai,hx2⟩;have hSw:∀b,(S b/\b<w.heap.size)->b<w2.heap.size:=fun b h=>Nat.lt_of_lt_of_le h.2 hx2.size;obtain⟨hc0,aw,hl0⟩:=ag.see;go_wp2_with fail;(refine(yq pR (fun b=>S b/\b<w.heap.size) 216 #[] _ hSw WX (WY _ _ hSw (hl.ext hx2)) (hl.ext hx2) x ka kc la lc p (by omega) rF (aJ.out.ext Xt) hp).mono ?_);rintro e w3 ⟨bh,bj,bk,bn,rfl,bf,h3⟩;have hz2:=ai.lt;have cU:(gH x p pR).1.In w3 (fun b=>(S b/\b<w.heap.size)\/w.heap.size+2<=b) bh bj bk bn:=bf.mono (fun b h _=>by rcases h with h|h;exact .inl h;exact .inr (by(try simp at h);omega));have ai:=af.ext h3 ai;have hx3:Ext w w3:=Xt;have dm:=ae cU;clear h3 bf cU hc0 aw hl0 hx2 ag;obtain⟨hc1,aA,ay⟩:=ai.see;go_wp2_with fail;refine aF (h:= ?_);exact⟨bh,bj,bk,bn,rfl,dm.out.keep (Held.kept (Held.mono (S:=fun b=>b≠w.heap.size+1) (a:=w3) aC (fun b h=>by rcases h with h|h;(have:=h.2;simp;omega);(simp;omega)))) (fun b h _=>by rcases h with h|h;exact .inl h.1;exact .inr (by omega)),Xt⟩
end Go.Proofs.YtlcebdaghmdkeabGreatDoor
