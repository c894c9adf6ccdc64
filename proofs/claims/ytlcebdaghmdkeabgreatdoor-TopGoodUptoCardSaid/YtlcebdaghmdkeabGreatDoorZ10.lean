import Derived.Test.YtlcebdaghmdkeabGreatDoorZ8
import Derived.Test.YtlcebdaghmdkeabGreatDoorZ9
set_option linter.all false
set_option maxRecDepth 100000
set_option maxHeartbeats 64000000
namespace Go.Proofs.YtlcebdaghmdkeabGreatDoor
open Go.Proofs.Tryz
open Go.RowKit
attribute [local go_sem↓] Go.wp_at_zero Go.wp_at_succ
theorem W8 {a:ah} {r:List ah} {x:V} {i:Nat} (hc:x.child a=some i) (hi:i<x.l.length):fG (a::r) x=fG r x.l[i]:=by
 simp [fG,hc,List.getElem?_eq_getElem hi]
theorem W9 {a:ah} {r:List ah} {x:V} (hc:x.child a=none):fG (a::r) x=none:=by simp [fG,hc]
theorem oU (x:V) (ka:au) (kc:Nat) (la:au) (lc:Nat) (S:az) (p:ah) (w:World) (hsz:x.size<=1073741824) (kU:x.In w S ka kc la lc) (hp:p.size<=1073741824) (hl:cM w):
 Calls prog 22 #[x.val ka kc la lc, .string p] w (fe S (bZ x p).1 (.int .i64 (bZ x p).2) w):=by
 have hin:x.In w (fun b=>S b/\b<w.heap.size) ka kc la lc:=kU.mono fun b h hl=>⟨h,hl⟩;clear kU;have hm:=hl.max;go_enter func22,ntmps22;go_upto_region 1 with fail
 refine aI (R:=fun wx=>aD wx w.heap.size x ka kc la lc/\aN wx (w.heap.size+1)/\Ext w wx) ⟨aj,aj,Xt⟩ ?_;rintro wa ⟨ag,ai,aH⟩;have lL:=ai.lt;obtain⟨hc0,aw,hl0⟩:=ag.see;go_wp2_with fail;(refine(Ag x ka kc la lc _ p _ hsz (hin.ext Xt) hp (hm.ext Xt)).mono ?_);rintro e w2 (⟨a,n,c,ks,hnb,hfi,rfl,hn,hok,hst,h2⟩|⟨hbad,rfl,h2⟩)
 ·have nJ:bZ x p=match fG ks x with|some y=>(y,0)|none=>(V.zero,3):=by unfold bZ;rw [hnb];simp only;rw [if_neg (by rw [hfi];decide)];cases fG ks x<;>rfl
  have hsm:=(Cg hnb).2;have hlen:=(Cg hnb).1;have wE:=ae nJ;have wF:=ae hsm;have cN:=gq hfi;have hxs:=oV hfi;have ag:=af.ext h2 ag;have ai:=af.ext h2 ai;have hx2:Ext w w2:=Xt;have aP:=ae hst;have Jf:w.heap.size+2<=wa.heap.size:=lL;clear h2 hc0 aw hl0 aH nJ hnb hsm hst hfi;subst hn;go_wp2_with fail
  go_loopg [9,10,11,24] ks.length (fun g _ _ _ i wr=>∃(k:Nat) (y:V) (iD:au) (iE:Nat) (iY:au) (iF:Nat),k<=ks.length/\i= .int .i64 k/\g=ks.length-k/\fG ks x=fG (ks.drop k) y/\y.sound/\y.size<=14640/\
   y.In w (fun b=>S b/\b<w.heap.size) iD iE iY iF/\af wr w.heap.size #[.int .i64 y.k, .int .i64 y.n, .string y.s, .slice iD y.keys.length iE, .slice iY y.l.length iF] 36/\aN wr (w.heap.size+1)/\Ext w wr/\Held (fun b=>b≠w.heap.size) w2 wr)
  case atStart=>exact⟨0,x,ka,kc,la,lc,by omega,rfl,rfl,rfl,cN,hxs,hin,ag,ai,hx2,Held.refl _ _⟩
  case round=>
   clear ag ai cN hxs hin;obtain⟨k,y,iD,iE,iY,iF,hk,rfl,rfl,OL,cN,hys,hin,ag,ai,hx,hh⟩:=hrel;have Jg:=ae OL;clear OL;obtain⟨hc0,aw,hl0⟩:=ag.see;obtain⟨hc1,aA,ay⟩:=ai.see;by_cases hlt:k<ks.length
   ·have Jh:bR wr (fun b=>w.heap.size+2<=b) a ks:=(aP.out.keep (T:=fun b=>w.heap.size+2<=b) (fun _ _ _=>rfl) (fun b h _=>Nat.le_trans Jf h)).keep (Held.kept (hh.mono (T:=fun b=>w.heap.size+2<=b) (fun b h=>by simp;omega))) (fun b h _=>h)
    obtain⟨b,o,rfl,hS,e0⟩:=Jh.resolve_left (by intro h;rw [h] at hlt;simp at hlt);have e0:=e0 k hlt;have hks:=wF.out _ (List.getElem_mem hlt)
    cases hc:y.child ks[k] with
    |none=>
     have hc':fG ks x=none:=by rw [Jg.out,List.drop_eq_getElem_cons hlt,W9 hc]
     have Hc:=ae hc;have Xa:=ae hc';have aJ:=ae hin;clear hc hc' Jh hh;go_wp2_with fail;(refine(uK y iD iE iY iF _ ks[k] _ cN (by omega) (by omega) (aJ.out.ext Xt) (hl.ext Xt)).mono ?_);rintro e w3 ⟨q,rfl,-,h3⟩;rw [Hc.out];have ag:=af.ext h3 (af.drew ag);have ai:=af.ext h3 (af.drew ai);have hx3:Ext w w3:=Xt;clear h3 hc0 aw hl0 hc1 aA ay hx;obtain⟨hc1,aA,ay⟩:=ai.see;go_wp2_with fail;refine aF (h:= ?_);rw [wE.out,Xa.out];exact⟨none,0,none,0,rfl,V.mJ _ _,Xt⟩
    |some i=>
     have hi:=wG cN hc;have OM:fG ks x=fG (ks.drop (k+1)) y.l[i]:=by rw [Jg.out,List.drop_eq_getElem_cons hlt,W8 hc hi]
     obtain⟨b',o',rfl,Am,cF,cG,cH,cI,⟨d0,d1,d2,d3,d4⟩,hin'⟩:=hin.item hi;have Xb:=cN.item (List.getElem_mem hi);have agG:=V.qy hi;have Hc:=ae hc;have Xc:=ae OM;have aJ:=ae hin;have hne:¬b'=w.heap.size:=Nat.ne_of_lt Am.2;have agH:¬w.heap.size=b':=fun e=>hne e.symm;have hi0:(0:Int)<= (i:Int):=by omega
     have hi1:(i:Int)<(y.l.length:Int):=by omega
     clear hc OM Jh;go_wp2_with fail;(refine(uK y iD iE _ iF _ ks[k] _ cN (by omega) (by omega) (aJ.out.ext Xt) (hl.ext Xt)).mono ?_);rintro e w3 ⟨q,rfl,hq,h3⟩;obtain rfl:=hq i Hc.out;rw [Hc.out];have ag:=af.ext h3 (af.drew ag);have ai:=af.ext h3 (af.drew ai);have Ch:Held (fun b=>b≠w.heap.size) w2 w3:=aC;have hx3:Ext w w3:=Xt;have d0:=hx3.cell d0;have d1:=hx3.cell d1;have d2:=hx3.cell d2;have d3:=hx3.cell d3;have d4:=hx3.cell d4;clear h3 hc0 aw hl0 hc1 aA ay hx hh;obtain⟨hc0,aw,hl0⟩:=ag.see;obtain⟨hc1,aA,ay⟩:=ai.see;go_wp2_with fail;go_roundg (ks.length-(k+1))
     case measure=>omega
     case rel=>exact⟨k+1,y.l[q],cF,cG,cH,cI,by omega,by go_num,rfl,Xc.out,Xb,by omega,hin',aj,aj,Xt,aC⟩
   ·have OO:bZ x p=(y,0):=by
     rw [wE.out,Jg.out,List.drop_of_length_le (by omega)];rfl
    have Xd:=ae OO;have aJ:=ae hin;clear hin hh OO;go_wp2_with fail;refine aF (h:= ?_);rw [Xd.out];exact⟨iD,iE,iY,iF,rfl,(aJ.out.ext Xt).mono (fun b h _=> .inl h.1),Xt⟩
 ·have nJ:bZ x p=(V.zero,1):=by
   unfold bZ;rcases hbad with h|h
   ·rw [h]
   ·cases cJ p<;>simp [h]
  have wE:=ae nJ;clear nJ;have ai:=af.ext h2 ai;have hx2:Ext w w2:=Xt;clear h2 ag hc0 aw hl0 aH hbad;obtain⟨hc1,aA,ay⟩:=ai.see;go_wp2_with fail;refine aF (h:= ?_);rw [wE.out];exact⟨none,0,none,0,rfl,V.mJ _ _,Xt⟩
theorem enters {P:Program} {f:FuncId} {fn:Func} {c:Code} (hf:P.funcs[f]? =some fn) (hn:(fn.name== "runtime.NumGoroutine")=false) (hb:fn.body=some c) (args:Array Value) (w:World):(callFunc f args).run P w= .ok (.enter f args) w:=by
 have h1:fn.name≠ "runtime.NumGoroutine" :=by simpa using hn
 simp [callFunc,hf,h1,hb]
def Does (F:lZ) (S:az) (lV:FuncId) (qR:Array Value) (w:World):Prop:=
 ∀(y:V) (ka:au) (kc:Nat) (la:au) (lc:Nat) (name:ah) (w':World),Ext w w'->y.sound->y.size<=1073741824->name.size<=8000->y.In w' S ka kc la lc->
  Calls prog lV (#[y.val ka kc la lc, .string name]++qR) w' (fe S (F y name).1 (.int .i64 (F y name).2) w')
theorem at_one (F:lZ) (S:az) (lV:FuncId) (qR:Array Value) (w0:World) (hS:Hid (∀b,S b->b<w0.heap.size)) (hE:Hid (∀args w,(callFunc lV args).run prog w= .ok (.enter lV args) w)) (hD:Hid (Does F S lV qR w0)) (name:ah) (x:V) (ka:au) (kc:Nat) (la:au) (lc:Nat) (b o c:Nat) (w:World)
 (hn:name.size<=8000) (cN:x.sound) (hsz:x.size<=1073741824) (hw:Ext w0 w) (hin:x.In w S ka kc la lc) (hk:w.cell? ⟨b,o,none⟩=some (.string name)):
 Calls prog 235 #[x.val ka kc la lc, .slice (some ⟨b,o,none⟩) 1 c, .func (Fn.func lV) #[] qR] w (fe S (F x name).1 (.int .i64 (F x name).2) w):=by
 have hbl:=lh hk;have aJ:=ae hin;clear hin;go_enter func235,ntmps235;go_upto_region 2 with fail
 refine aI (R:=fun wx=>aD wx w.heap.size x ka kc la lc/\aN wx (w.heap.size+1)/\Ext w wx) ⟨aj,aj,Xt⟩ ?_;rintro wa ⟨ag,ai,aH⟩;have hka:=aH.cell hk;have Rx:Ext w0 wa:=hw.trans aH;clear hk;obtain⟨hc0,aw,hl0⟩:=ag.see
 have aq:∀w',Ext wa w'-> (w'.cell? ⟨w.heap.size,0,none⟩=some (.int .i64 x.k)/\w'.cell? ⟨w.heap.size,1,none⟩=some (.int .i64 x.n)/\w'.cell? ⟨w.heap.size,2,none⟩=some (.string x.s)/\w'.cell? ⟨w.heap.size,3,none⟩=some (.slice ka x.keys.length kc)/\w'.cell? ⟨w.heap.size,4,none⟩=some (.slice la x.l.length lc)/\w'.cell? ⟨b,o,none⟩=some (.string name)):=
  fun w' e=>⟨e.cell (hc0 0),e.cell (hc0 1),e.cell (hc0 2),e.cell (hc0 3),e.cell (hc0 4),e.cell hka⟩
 have hS1:=aq wa.drew ((Ext.refl wa).drew);refine fF aq (c:=8) (by kernel_rfl) ?_;refine aG 0 [8] (h:= ?_);refine aG 1 [8] (h:= ?_);refine aG 2 [8] (h:= ?_);refine aG 3 [8] (h:= ?_);refine aG 4 [8] (h:= ?_);(try simp only [rl]);refine aK 5 (h:=fun K hK=> ?_);(try simp only [rl]);(try go_simp);rw [hE.out,Oper.upon_enter];(refine(hD.out x ka kc la lc name _ (Rx.trans Xt) cN hsz hn (aJ.out.ext Xt)).mono ?_);rintro e w1 ⟨iR,iT,iU,iV,rfl,eJ,h1⟩;(try go_simp);refine hK.out _ _ (fun _=>aq _ Xt) ?_;clear hK K;refine aG 6 [8] (hS:=aq _ Xt) (h:= ?_);refine aG 7 [8] (hS:=aq _ Xt) (h:= ?_);(try simp only [rl]);have lL:aN w1 (w.heap.size+1):=af.ext (w:=wa) Xt ai;have hx1:Ext w w1:=Xt;have ay:=ai.lt;have bN:(F x name).1.In w1 (fun b=>S b\/w.heap.size+2<=b) iR iT iU iV:=eJ.mono (fun b h _=>by rcases h with h|h;exact .inl h;simp at h;exact .inr (by omega));have hz:=hw.size;have bE:=ae bN;clear hc0 aw eJ bN h1 ai ag aq hS1 Rx;obtain⟨hc1,aA,ay⟩:=lL.see;refine aK 8 (h:=fun K hK=> ?_);(try simp only [rl]);go_simp;refine bz hK (h:= ?_);clear hK K;(try simp only [rl]);refine aK 9 (h:=fun K hK=> ?_);(try simp only [rl]);go_simp;refine bz hK (h:= ?_);clear hK K;(try simp only [rl]);refine cZ (by kernel_rfl) ?_ _;go_wp2_with fail;refine aF (h:= ?_);exact⟨iR,iT,iU,iV,rfl,bE.out.keep (Held.kept (Held.mono (S:=fun b=>b≠w.heap.size+1) (a:=w1) aC (fun b h=>by rcases h with h|h;(have:=hS.out b h;simp;omega);(simp;omega)))) (fun b h _=>by rcases h with h|h;exact .inl h;exact .inr (by omega)),Xt⟩
theorem aas (S:az) (fv:Value) (w0:World) (name:ah) (x:V) (ka:au) (kc:Nat) (la:au) (lc:Nat) (b o n c:Nat) (w:World)
 (hn:name.size<=8000) (kI:2<=n) (hnb:n<=1073741824) (cN:x.sound) (hsz:x.size<=1073741824) (hin:x.In w S ka kc la lc) (hk:w.cell? ⟨b,o,none⟩=some (.string name)) (hl:cM w) (hc:Hid (x.child name=none)):
 Calls prog 235 #[x.val ka kc la lc, .slice (some ⟨b,o,none⟩) n c,fv] w (fe S x (.int .i64 3) w):=by
 have hbl:=lh hk;have aJ:=ae hin;have aat:((n:Int)==1)=false:=by simp;omega
 have hi0:(0:Int)<(n:Int):=by omega
 have Jv:0<n:=by omega
 have Jw:¬n=0:=by omega
 have Jx:¬n<=0:=by omega
 clear hin;go_enter func235,ntmps235;go_upto_region 3 with fail
 refine aI (R:=fun wx=>aD wx w.heap.size x ka kc la lc/\aN wx (w.heap.size+1)/\Ext w wx) ⟨aj,aj,Xt⟩ ?_;rintro wa ⟨ag,ai,aH⟩;have hka:=aH.cell hk;clear hk
 have aq:∀w',Ext wa w'-> (w'.cell? ⟨w.heap.size,0,none⟩=some (.int .i64 x.k)/\w'.cell? ⟨w.heap.size,1,none⟩=some (.int .i64 x.n)/\w'.cell? ⟨w.heap.size,2,none⟩=some (.string x.s)/\w'.cell? ⟨w.heap.size,3,none⟩=some (.slice ka x.keys.length kc)/\w'.cell? ⟨w.heap.size,4,none⟩=some (.slice la x.l.length lc)/\w'.cell? ⟨b,o,none⟩=some (.string name)):=
  fun w' e=>⟨e.cell (ag.cells 0),e.cell (ag.cells 1),e.cell (ag.cells 2),e.cell (ag.cells 3),e.cell (ag.cells 4),e.cell hka⟩
 go_region_held3 (fun w'=>w'.cell? ⟨w.heap.size,0,none⟩=some (.int .i64 x.k)/\w'.cell? ⟨w.heap.size,1,none⟩=some (.int .i64 x.n)/\w'.cell? ⟨w.heap.size,2,none⟩=some (.string x.s)/\w'.cell? ⟨w.heap.size,3,none⟩=some (.slice ka x.keys.length kc)/\w'.cell? ⟨w.heap.size,4,none⟩=some (.slice la x.l.length lc)/\w'.cell? ⟨b,o,none⟩=some (.string name))
  (first|(exact aq _ ((Ext.refl _).drew))|(exact aq _ (Ext.trans ((Ext.refl _).drew) h1)))
  (first|(go_at_call 46;refine(uK x ka kc la lc _ name _ cN hsz (by omega) (aJ.out.ext Xt) (hl.ext Xt)).mono ?_;rintro e w1 ⟨q,rfl,-,h1⟩))
 all_goals
  rw [hc.out];have ag:=af.ext h1 (af.drew ag);have ai:=af.ext h1 (af.drew ai);have hx1:Ext w w1:=Xt;clear h1 aH aq;obtain⟨hc0,aw,hl0⟩:=ag.see;obtain⟨hc1,aA,ay⟩:=ai.see;go_wp2_with fail;refine aF (h:= ?_);exact⟨ka,kc,la,lc,rfl,(aJ.out.ext Xt).mono (fun b h _=> .inl h),Xt⟩
theorem Gr (l:List V) (a:au) (n c:Nat) (S:az) (w:World) (hl:l.length=n) (hok:aM a n c) (hbig:n<=1073741824) (hr:Rows w S l a):
 Calls prog 61 #[.slice a n c] w fun e w'=>∃a' c',e= .returned (.slice a' n c')/\aM a' n c'/\ (∃xs,w'.ownsRow w.heap.size 36 5 (.slice a' n c') n xs/\cQ w' S l xs)/\Ext w w':=by
 obtain⟨news,hnl,lJ,jD⟩:=Ah hr;rw [hl] at hnl lJ;refine(Ai a n c news w hok hbig hnl lJ jD.one).mono ?_;rintro e w' ⟨a',c',rfl,h1,h2,h3⟩;exact⟨a',c',rfl,h1,⟨news,h2,jD.keep (h3.kept _) (fun _ h _=>h)⟩,h3⟩
theorem aau (S:az) (fv:Value) (w0:World) (hS:Hid (∀b,S b->b<w0.heap.size)) (name:ah) (x:V) (ka:au) (kc:Nat) (la:au) (lc:Nat) (b o n c:Nat) (w:World) (i:Nat) (r:V) (er:Int)
 (hn:name.size<=8000) (kI:2<=n) (hnc:n<=c) (hnb:n<=1073741824) (hcb:c<=maxLen) (cN:x.sound) (hsz:x.size<=1073741824) (hw:Ext w0 w) (hin:x.In w S ka kc la lc) (hk:w.cell? ⟨b,o,none⟩=some (.string name)) (hl:cM w) (hc:Hid (x.child name=some i)) (hi:i<x.l.length)
 (rec:Hid (∀(cF:au) (cG:Nat) (cH:au) (cI:Nat) (w':World),Ext w w'-> (x.l[i]).In w' S cF cG cH cI->Calls prog 235 #[(x.l[i]).val cF cG cH cI, .slice (some ⟨b,o+1,none⟩) (n-1) (c-1),fv] w' (fe S r (.int .i64 er) w'))):
 Calls prog 235 #[x.val ka kc la lc, .slice (some ⟨b,o,none⟩) n c,fv] w (fe S (if er=0 then x.jR i r else x) (.int .i64 er) w):=by
 have hbl:=lh hk;obtain⟨b',o',rfl,Am,cF,cG,cH,cI,⟨d0,d1,d2,d3,d4⟩,hin'⟩:=hin.item hi;have aJ:=ae hin;have aat:((n:Int)==1)=false:=by simp;omega
 have hi0:(0:Int)<(n:Int):=by omega
 have Jv:0<n:=by omega
 have Jw:¬n=0:=by omega
 have Jx:¬n<=0:=by omega
 clear hin;go_enter func235,ntmps235;go_upto_region 3 with fail
 refine aI (R:=fun wx=>aD wx w.heap.size x ka kc (some ⟨b',o',none⟩) lc/\aN wx (w.heap.size+1)/\Ext w wx) ⟨aj,aj,Xt⟩ ?_;rintro wa ⟨ag,ai,aH⟩;have hka:=aH.cell hk;clear hk
 have aq:∀w',Ext wa w'-> (w'.cell? ⟨w.heap.size,0,none⟩=some (.int .i64 x.k)/\w'.cell? ⟨w.heap.size,1,none⟩=some (.int .i64 x.n)/\w'.cell? ⟨w.heap.size,2,none⟩=some (.string x.s)/\w'.cell? ⟨w.heap.size,3,none⟩=some (.slice ka x.keys.length kc)/\w'.cell? ⟨w.heap.size,4,none⟩=some (.slice (some ⟨b',o',none⟩) x.l.length lc)/\w'.cell? ⟨b,o,none⟩=some (.string name)):=
  fun w' e=>⟨e.cell (ag.cells 0),e.cell (ag.cells 1),e.cell (ag.cells 2),e.cell (ag.cells 3),e.cell (ag.cells 4),e.cell hka⟩
 go_region_held3 (fun w'=>w'.cell? ⟨w.heap.size,0,none⟩=some (.int .i64 x.k)/\w'.cell? ⟨w.heap.size,1,none⟩=some (.int .i64 x.n)/\w'.cell? ⟨w.heap.size,2,none⟩=some (.string x.s)/\w'.cell? ⟨w.heap.size,3,none⟩=some (.slice ka x.keys.length kc)/\w'.cell? ⟨w.heap.size,4,none⟩=some (.slice (some ⟨b',o',none⟩) x.l.length lc)/\w'.cell? ⟨b,o,none⟩=some (.string name))
  (first|(exact aq _ ((Ext.refl _).drew))|(exact aq _ (Ext.trans ((Ext.refl _).drew) h1)))
  (first|(go_at_call 46;refine(uK x ka kc _ lc _ name _ cN hsz (by omega) (aJ.out.ext Xt) (hl.ext Xt)).mono ?_;rintro e w1 ⟨q,rfl,hq,h1⟩))
 obtain rfl:=hq i hc.out;rw [hc.out];have ag:=af.ext h1 (af.drew ag);have ai:=af.ext h1 (af.drew ai);have hx1:Ext w w1:=Xt;clear h1 aH aq hq;go_upto_region 6 with fail
 refine aI (R:=fun wx=>aD wx w.heap.size x ka kc (some ⟨b',o',none⟩) lc/\aN wx (w.heap.size+1)/\Ext w wx) ⟨aj,aj,Xt⟩ ?_;clear ag ai hx1;rintro wb ⟨ag,ai,aO⟩;have d0:=aO.cell d0;have d1:=aO.cell d1;have d2:=aO.cell d2;have d3:=aO.cell d3;have d4:=aO.cell d4;have hq0:(0:Int)<= (q:Int):=by omega
 have hq1:(q:Int)<(x.l.length:Int):=by omega
 have yE:(1:Int)<= (n:Int):=by omega
 have JA:¬c=1:=by omega
 have JB:(n:Int)<= (c:Int):=by omega
 have aq:∀w',Ext wb w'-> (w'.cell? ⟨w.heap.size,4,none⟩=some (.slice (some ⟨b',o',none⟩) x.l.length lc)/\w'.cell? ⟨b',o'+q*5,none⟩=some (.int .i64 x.l[q].k)/\w'.cell? ⟨b',o'+q*5+1,none⟩=some (.int .i64 x.l[q].n)/\w'.cell? ⟨b',o'+q*5+2,none⟩=some (.string x.l[q].s)/\w'.cell? ⟨b',o'+q*5+3,none⟩=some (.slice cF x.l[q].keys.length cG)/\w'.cell? ⟨b',o'+q*5+4,none⟩=some (.slice cH x.l[q].l.length cI)):=
  fun w' e=>⟨e.cell (ag.cells 4),e.cell d0,e.cell d1,e.cell d2,e.cell d3,e.cell d4⟩
 refine fF aq (c:=14) (by kernel_rfl) ?_;refine aG 0 [14] (hS:=aq _ Xt) (h:= ?_);refine aG 1 [14] (hS:=aq _ Xt) (h:= ?_);refine aG 2 [14] (hS:=aq _ Xt) (h:= ?_);refine aG 3 [14] (hS:=aq _ Xt) (h:= ?_);refine aG 4 [14] (hS:=aq _ Xt) (h:= ?_);refine aG 5 [14] (hS:=aq _ Xt) (h:= ?_);refine aG 6 [14] (hS:=aq _ Xt) (h:= ?_);refine aG 7 [14] (hS:=aq _ Xt) (h:= ?_);(try simp only [rl]);refine lK (rs:= [8,12]) (by kernel_rfl) (by simp) ?_;refine cj.cons (Array.getElem?_eq_getElem (by decide)) (fun K hK=> ?_) (cj.cons (Array.getElem?_eq_getElem (by decide)) (fun K hK=> ?_) cj.nil)
 · (try simp only [rl])
   (try go_simp);(refine(rec.out cF cG cH cI _ Xt (hin'.ext Xt)).mono ?_);rintro e w2 ⟨bh,bj,bk,bn,rfl,bf,h2⟩;(try go_simp);have hb2:Ext wb w2:=Xt;have hz2:=hb2.size;clear h2;refine hK.out _ _ (fun _=>aq _ Xt) ?_;clear hK K;refine aG 9 [14] (hS:=aq _ Xt) (h:= ?_);refine aG 10 [14] (hS:=aq _ Xt) (h:= ?_);refine aG 11 [14] (hS:=aq _ Xt) (h:= ?_);(try simp only [rl]);refine aK 12 (h:=fun K hK=> ?_);(try simp only [rl]);go_simp;refine hK.out _ _ (fun _=>aq _ Xt) ?_;clear hK K;(try simp only [rl]);refine aK 13 (h:=fun K hK=> ?_);(try simp only [rl]);go_simp;refine hK.out _ _ (fun _=>aq _ Xt) ?_;clear hK K;(try simp only [rl]);refine aK 14 (h:=fun K hK=> ?_);(try simp only [rl]);go_simp;refine bz hK (h:= ?_);clear hK K;(try simp only [rl]);refine cZ (by kernel_rfl) ?_ _;have iN:aD w2 w.heap.size x ka kc (some ⟨b',o',none⟩) lc:=af.ext (w:=wb) hb2 ag;have lL:aN w2 (w.heap.size+1):=af.ext (w:=wb) hb2 ai;have ay:=ai.lt;have hwz:=hw.size;have fS:Hid (∀b,S b->b<w.heap.size):=fun b h=>Nat.lt_of_lt_of_le (hS.out b h) hwz
   have bg:Hid (r.In w2 (fun b=>(S b\/w.heap.size+2<=b)/\b≠w2.heap.size) bh bj bk bn):=bf.mono (fun b h hlt=>by
    rcases h with h|h
    ·have:=fS.out b h;exact⟨.inl h,by omega⟩
    ·simp at h;exact⟨.inr (by omega),by omega⟩)
   have hx2:Ext w w2:=Xt;clear bf aq ag ai;go_upto_region 7 with fail
   refine aI (R:=fun wx=>aD wx w.heap.size x ka kc (some ⟨b',o',none⟩) lc/\aN wx (w.heap.size+1)/\aD wx w2.heap.size r bh bj bk bn/\r.In wx (fun b=>S b\/w.heap.size+2<=b) bh bj bk bn/\Ext w wx)
    ⟨aj,aj,aj,bg.out.keep (Held.kept (Held.mono (S:=fun b=>b≠w2.heap.size) (a:=w2) aC (fun b h=>h.2))) (fun _ h _=>h.1),Xt⟩ ?_
   clear iN lL bg;rintro wd ⟨ag,ai,dU,hjn,dG⟩;have aU:=ae hjn;clear hjn hx2 hb2 rec;by_cases her:er=0
   ·subst her
    simp only [if_true];obtain⟨ib,gj,hst,ic⟩:=(V.dz ..).1 aJ.out;have hll:=x.kB;have Cl:=ae (fun w' (e:Ext w w')=>Gr x.l _ _ _ S w' rfl gj (by omega) (ic.ext e));have aP:=ae hst;clear hst ic;go_upto_region 9 with fail
    refine aI (R:=fun wx=>aD wx w.heap.size x ka kc (some ⟨b',o',none⟩) lc/\aN wx (w.heap.size+1)/\aD wx w2.heap.size r bh bj bk bn/\ (r).In wx (fun b=>S b\/w.heap.size+2<=b) bh bj bk bn/\Ext w wx) ⟨aj,aj,aj,aU.out.ext Xt,Xt⟩ ?_;clear ag ai dU;rintro wc ⟨ag,ai,dU,hjn,fh⟩;obtain⟨hc0,aw,hl0⟩:=ag.see;go_upto_region 10 with(go_at_call 61;refine(Cl.out _ Xt).mono ?_;rintro e w3 ⟨a3,c3,rfl,jI,⟨Ry,eH,xg⟩,h3⟩;have iN:=af.ext h3 ag;obtain⟨Dw,Dx,Dy⟩:=iN.see)
    obtain⟨g,cur,rfl,hgb,hBg,hcz,hits⟩:=qx (by omega) rfl eH xg;have xh:(r).In w3 (fun b=>(S b\/w.heap.size+2<=b)/\b<wc.heap.size) bh bj bk bn:=(hjn.mono (fun b h hlt=>⟨h,hlt⟩)).ext h3;have ay:=ai.lt;have qu:=dU.lt;have lL:=af.ext h3 ai;have Dz:=af.ext h3 dU;have hx3:Ext w w3:=Xt;have gp:=ae hits;have DA:=ae xh;clear hits eH xg hjn xh ag ai dU h3 hc0 aw hl0;refine aI (R:=fun wx=>aD wx w.heap.size x ka kc (some ⟨g,0,none⟩) c3/\aN wx (w.heap.size+1)/\aD wx w2.heap.size r bh bj bk bn/\af wx g cur 36/\Held (fun b=>b≠w.heap.size) w3 wx/\Ext w wx) ⟨aj,aj,aj,aj,aC,Xt⟩ ?_;clear iN lL Dz hBg Dw Dx Dy;rintro wx ⟨ag,ai,dU,hBg,gy,nU⟩;have o9:w.heap.size+2<=wc.heap.size:=ay;have r7:Hid (∀i (h:i<x.l.length),V.Item wx (fun b=>(S b\/w.heap.size+2<=b)/\b<wc.heap.size) g (i*5) x.l[i]):=fun i h=>((gp.out i h).keep' (T:=fun b=>b≠w.heap.size) (by simp;omega) gy.kept (fun b h=>by have:=fS.out b h;simp;omega)).mono (fun b h=>⟨.inl h,by have:=fS.out b h;omega⟩);have DB:Hid ((r).In wx (fun b=>(S b\/w.heap.size+2<=b)/\b<wc.heap.size) bh bj bk bn):=DA.out.keep (Held.kept (gy.mono (fun b h=>by rcases h.1 with h|h;(have:=fS.out b h;simp;omega);(simp;omega)))) (fun _ h _=>h);obtain⟨hc0,aw,hl0⟩:=ag.see;obtain⟨tJ,jo,qu⟩:=dU.see;obtain⟨zj,zk,zl⟩:=hBg.see;have hq0:(0:Int)<= (q:Int):=by omega
    have hq1:(q:Int)<(x.l.length:Int):=by omega
    have kM:Hid (wx.there g (q*5) 5):=Gp hBg (by omega);clear zj zk;go_upto_region 11 with(refine wpList_store_mid rfl 36 _ _ rfl g (q*5) #[.int .i64 r.k, .int .i64 r.n, .string r.s, .slice bh r.keys.length bj, .slice bk r.l.length bn] (by rfl) (by rfl) (by exact kM.out) Tryz.Gq (all_oneCell_toArray (V.mH (r) bh bj bk bn)) ?_)
    have r8:∀i (h:i<(x.l.set q (r)).length),V.Item (wx.setCells g (q*5) (V.five (r) bh bj bk bn)) (fun b=>(S b\/w.heap.size+2<=b)/\b<wc.heap.size) g (i*5) (x.l.set q (r))[i]:=
     Gn hBg r7.out hi hcz DB.out (hBg.gh _ _ _ _ _ _) (Held.kept (Held.gh (Held.refl _ _) (by simp;omega) _ _))
    refine aI (R:=fun wy=>aD wy w.heap.size x ka kc (some ⟨g,0,none⟩) c3/\aN wy (w.heap.size+1)/\ (∀i (h:i<(x.l.set q (r)).length),V.Item wy (fun b=>(S b\/w.heap.size+2<=b)/\b<wc.heap.size) g (i*5) (x.l.set q (r))[i])/\Ext w wy)
     ⟨ag.nj (by omega) _ _,ai.nj (by omega) _ _,r8,nU.gh (by omega) _ _⟩ ?_
    clear ag ai dU hBg hc0 aw hl0 tJ jo qu zl r8 gy nU kM gp r7;rintro wy ⟨ag,ai,hits,hxy⟩;obtain⟨hc0,aw,hl0⟩:=ag.see;obtain⟨hc1,aA,ay⟩:=ai.see;have gp:=ae hits;clear hits;go_wp2_with fail;refine aF (h:= ?_)
    skip;skip
    refine⟨ka,kc,some ⟨g,0,none⟩,c3,?_,(V.dz ..).2 ⟨ib,?_,aP.out.keep (Ext.kept Xt _) (fun b h _=> .inl h), .inr ⟨g,0,rfl, .inr (by omega),fun i hi=> ?_⟩⟩,Xt⟩
    ·simp [V.jR,V.val]
    ·simpa [V.jR] using jI
    ·rw [Nat.zero_add]
     exact((gp.out i hi).keep' (T:=fun b=>b≠w.heap.size+1) (by simp;omega) (Held.kept (a:=wy) aC) (fun b h=>by rcases h.1 with h|h;(have:=fS.out b h;simp;omega);(simp;omega))).mono (fun b h=>by rcases h.1 with h|h;exact .inl h;exact .inr (by omega))
   ·have he:(er !=0)=true:=by simpa using her
    simp only [if_neg her];obtain⟨hc0,aw,hl0⟩:=ag.see;obtain⟨hc1,aA,ay⟩:=ai.see;go_wp2_with fail;refine aF (h:= ?_);exact⟨ka,kc,_,lc,rfl,(aJ.out.ext Xt).mono (fun b h _=> .inl h),Xt⟩
 · (try simp only [rl])
   go_simp;refine hK.out _ _ (fun _=>aq _ Xt) ?_;clear hK K;(try simp only [rl]);refine aK 8 (h:=fun K hK=> ?_);(try simp only [rl]);(try go_simp);(refine(rec.out cF cG cH cI _ Xt (hin'.ext Xt)).mono ?_);rintro e w2 ⟨bh,bj,bk,bn,rfl,bf,h2⟩;(try go_simp);have hb2:Ext wb w2:=Xt;have hz2:=hb2.size;have qi:aN w2 wb.heap.size:=af.ext h2 (af.new _ _ _ (by simp));clear h2;obtain⟨xj,xk,xm⟩:=qi.see;refine hK.out _ _ (fun _=>aq _ Xt) ?_;clear hK K;refine aG 9 [14] (hS:=aq _ Xt) (h:= ?_);refine aG 10 [14] (hS:=aq _ Xt) (h:= ?_);refine aG 11 [14] (hS:=aq _ Xt) (h:= ?_);(try simp only [rl]);refine aK 13 (h:=fun K hK=> ?_);(try simp only [rl]);go_simp;refine hK.out _ _ (fun _=>aq _ Xt) ?_;clear hK K;(try simp only [rl]);refine aK 14 (h:=fun K hK=> ?_);(try simp only [rl]);go_simp;refine bz hK (h:= ?_);clear hK K;(try simp only [rl]);refine cZ (by kernel_rfl) ?_ _;have iN:aD w2 w.heap.size x ka kc (some ⟨b',o',none⟩) lc:=af.ext (w:=wb) hb2 ag;have lL:aN w2 (w.heap.size+1):=af.ext (w:=wb) hb2 ai;have ay:=ai.lt;have hwz:=hw.size;have fS:Hid (∀b,S b->b<w.heap.size):=fun b h=>Nat.lt_of_lt_of_le (hS.out b h) hwz
   have bg:Hid (r.In w2 (fun b=>(S b\/w.heap.size+2<=b)/\b≠wb.heap.size) bh bj bk bn):=bf.mono (fun b h hlt=>by
    rcases h with h|h
    ·have:=fS.out b h;exact⟨.inl h,by omega⟩
    ·simp at h;exact⟨.inr (by omega),by omega⟩)
   have hx2:Ext w w2:=Xt;clear bf aq ag ai;go_upto_region 7 with fail
   refine aI (R:=fun wx=>aD wx w.heap.size x ka kc (some ⟨b',o',none⟩) lc/\aN wx (w.heap.size+1)/\aD wx wb.heap.size r bh bj bk bn/\r.In wx (fun b=>S b\/w.heap.size+2<=b) bh bj bk bn/\Ext w wx)
    ⟨aj,aj,aj,bg.out.keep (Held.kept (Held.mono (S:=fun b=>b≠wb.heap.size) (a:=w2) aC (fun b h=>h.2))) (fun _ h _=>h.1),Xt⟩ ?_
   clear iN lL bg;rintro wd ⟨ag,ai,dU,hjn,dG⟩;have aU:=ae hjn;clear hjn hx2 hb2 rec;by_cases her:er=0
   ·subst her
    simp only [if_true];obtain⟨ib,gj,hst,ic⟩:=(V.dz ..).1 aJ.out;have hll:=x.kB;have Cl:=ae (fun w' (e:Ext w w')=>Gr x.l _ _ _ S w' rfl gj (by omega) (ic.ext e));have aP:=ae hst;clear hst ic;go_upto_region 9 with fail
    refine aI (R:=fun wx=>aD wx w.heap.size x ka kc (some ⟨b',o',none⟩) lc/\aN wx (w.heap.size+1)/\aD wx wb.heap.size r bh bj bk bn/\ (r).In wx (fun b=>S b\/w.heap.size+2<=b) bh bj bk bn/\Ext w wx) ⟨aj,aj,aj,aU.out.ext Xt,Xt⟩ ?_;clear ag ai dU;rintro wc ⟨ag,ai,dU,hjn,fh⟩;obtain⟨hc0,aw,hl0⟩:=ag.see;go_upto_region 10 with(go_at_call 61;refine(Cl.out _ Xt).mono ?_;rintro e w3 ⟨a3,c3,rfl,jI,⟨Ry,eH,xg⟩,h3⟩;have iN:=af.ext h3 ag;obtain⟨Dw,Dx,Dy⟩:=iN.see)
    obtain⟨g,cur,rfl,hgb,hBg,hcz,hits⟩:=qx (by omega) rfl eH xg;have xh:(r).In w3 (fun b=>(S b\/w.heap.size+2<=b)/\b<wc.heap.size) bh bj bk bn:=(hjn.mono (fun b h hlt=>⟨h,hlt⟩)).ext h3;have ay:=ai.lt;have qu:=dU.lt;have lL:=af.ext h3 ai;have Dz:=af.ext h3 dU;have hx3:Ext w w3:=Xt;have gp:=ae hits;have DA:=ae xh;clear hits eH xg hjn xh ag ai dU h3 hc0 aw hl0;refine aI (R:=fun wx=>aD wx w.heap.size x ka kc (some ⟨g,0,none⟩) c3/\aN wx (w.heap.size+1)/\aD wx wb.heap.size r bh bj bk bn/\af wx g cur 36/\Held (fun b=>b≠w.heap.size) w3 wx/\Ext w wx) ⟨aj,aj,aj,aj,aC,Xt⟩ ?_;clear iN lL Dz hBg Dw Dx Dy;rintro wx ⟨ag,ai,dU,hBg,gy,nU⟩;have o9:w.heap.size+2<=wc.heap.size:=ay;have r7:Hid (∀i (h:i<x.l.length),V.Item wx (fun b=>(S b\/w.heap.size+2<=b)/\b<wc.heap.size) g (i*5) x.l[i]):=fun i h=>((gp.out i h).keep' (T:=fun b=>b≠w.heap.size) (by simp;omega) gy.kept (fun b h=>by have:=fS.out b h;simp;omega)).mono (fun b h=>⟨.inl h,by have:=fS.out b h;omega⟩);have DB:Hid ((r).In wx (fun b=>(S b\/w.heap.size+2<=b)/\b<wc.heap.size) bh bj bk bn):=DA.out.keep (Held.kept (gy.mono (fun b h=>by rcases h.1 with h|h;(have:=fS.out b h;simp;omega);(simp;omega)))) (fun _ h _=>h);obtain⟨hc0,aw,hl0⟩:=ag.see;obtain⟨tJ,jo,qu⟩:=dU.see;obtain⟨zj,zk,zl⟩:=hBg.see;have hq0:(0:Int)<= (q:Int):=by omega
    have hq1:(q:Int)<(x.l.length:Int):=by omega
    have kM:Hid (wx.there g (q*5) 5):=Gp hBg (by omega);clear zj zk;go_upto_region 11 with(refine wpList_store_mid rfl 36 _ _ rfl g (q*5) #[.int .i64 r.k, .int .i64 r.n, .string r.s, .slice bh r.keys.length bj, .slice bk r.l.length bn] (by rfl) (by rfl) (by exact kM.out) Tryz.Gq (all_oneCell_toArray (V.mH (r) bh bj bk bn)) ?_)
    have r8:∀i (h:i<(x.l.set q (r)).length),V.Item (wx.setCells g (q*5) (V.five (r) bh bj bk bn)) (fun b=>(S b\/w.heap.size+2<=b)/\b<wc.heap.size) g (i*5) (x.l.set q (r))[i]:=
     Gn hBg r7.out hi hcz DB.out (hBg.gh _ _ _ _ _ _) (Held.kept (Held.gh (Held.refl _ _) (by simp;omega) _ _))
    refine aI (R:=fun wy=>aD wy w.heap.size x ka kc (some ⟨g,0,none⟩) c3/\aN wy (w.heap.size+1)/\ (∀i (h:i<(x.l.set q (r)).length),V.Item wy (fun b=>(S b\/w.heap.size+2<=b)/\b<wc.heap.size) g (i*5) (x.l.set q (r))[i])/\Ext w wy)
     ⟨ag.nj (by omega) _ _,ai.nj (by omega) _ _,r8,nU.gh (by omega) _ _⟩ ?_
    clear ag ai dU hBg hc0 aw hl0 tJ jo qu zl r8 gy nU kM gp r7;rintro wy ⟨ag,ai,hits,hxy⟩;obtain⟨hc0,aw,hl0⟩:=ag.see;obtain⟨hc1,aA,ay⟩:=ai.see;have gp:=ae hits;clear hits;go_wp2_with fail;refine aF (h:= ?_)
    skip;skip
    refine⟨ka,kc,some ⟨g,0,none⟩,c3,?_,(V.dz ..).2 ⟨ib,?_,aP.out.keep (Ext.kept Xt _) (fun b h _=> .inl h), .inr ⟨g,0,rfl, .inr (by omega),fun i hi=> ?_⟩⟩,Xt⟩
    ·simp [V.jR,V.val]
    ·simpa [V.jR] using jI
    ·rw [Nat.zero_add]
     exact((gp.out i hi).keep' (T:=fun b=>b≠w.heap.size+1) (by simp;omega) (Held.kept (a:=wy) aC) (fun b h=>by rcases h.1 with h|h;(have:=fS.out b h;simp;omega);(simp;omega))).mono (fun b h=>by rcases h.1 with h|h;exact .inl h;exact .inr (by omega))
   ·have he:(er !=0)=true:=by simpa using her
    simp only [if_neg her];obtain⟨hc0,aw,hl0⟩:=ag.see;obtain⟨hc1,aA,ay⟩:=ai.see;go_wp2_with fail;refine aF (h:= ?_);exact⟨ka,kc,_,lc,rfl,(aJ.out.ext Xt).mono (fun b h _=> .inl h),Xt⟩
end Go.Proofs.YtlcebdaghmdkeabGreatDoor
namespace Go.Proofs.YtlcebdaghmdkeabGreatDoor
open Go.Proofs.Tryz
open Go.RowKit
theorem aav (F:lZ) (S:az) (lV:FuncId) (qR:Array Value) (w0:World) (hS:Hid (∀b,S b->b<w0.heap.size)) (hE:Hid (∀args w,(callFunc lV args).run prog w= .ok (.enter lV args) w)) (hD:Hid (Does F S lV qR w0)) (hl:cM w0):
 ∀(ks:List ah) (x:V) (ka:au) (kc:Nat) (la:au) (lc:Nat) (a:au) (n c:Nat) (T:az) (w:World),ks≠ []->ks.length=n->n<=1073741824->n<=c->c<=maxLen-> (∀k∈ks,k.size<=8000)->x.sound->x.size<=1073741824->Ext w0 w->x.In w S ka kc la lc->bR w T a ks->
  Calls prog 235 #[x.val ka kc la lc, .slice a n c, .func (Fn.func lV) #[] qR] w (fe S (bU F ks x).1 (.int .i64 (bU F ks x).2) w):=by
 intro ks
 induction ks with
 |nil=>intro x _ _ _ _ _ _ _ _ _ h;exact absurd rfl h
 |cons k ks ih=>
  intro x ka kc la lc a n c T w _ hn hnb hnc hcb hks cN hsz hw hin hst;obtain⟨b,o,rfl,-,hc⟩:=hst.resolve_left (by simp);have h0:=hc 0 (by simp);simp only [Nat.add_zero,List.getElem_cons_zero] at h0
  cases ks with
  |nil=>
   simp only [List.length_singleton] at hn;subst hn;rw [EY];exact at_one F S lV qR w0 hS hE hD k x ka kc la lc b o c w (hks k (by simp)) cN hsz hw hin h0
  |cons k2 r=>
   have kI:2<=n:=by simp at hn;omega
   cases hch:x.child k with
   |none=>
    rw [EZ hch];exact aas S _ w0 k x ka kc la lc b o n c w (hks k (by simp)) kI hnb cN hsz hin h0 (hl.ext hw) hch
   |some i=>
    have hi:=wG cN hch;have he:bU F (k::k2::r) x=(if(bU F (k2::r) x.l[i]).2=0 then x.jR i (bU F (k2::r) x.l[i]).1 else x,(bU F (k2::r) x.l[i]).2):=by
     rw [E0 hch hi]
     split
     ·rename_i h;rw [h]
     ·rfl
    rw [he];refine aau S _ w0 hS k x ka kc la lc b o n c w i _ _ (hks k (by simp)) kI hnc hnb hcb cN hsz hw hin h0 (hl.ext hw) hch hi ?_;intro cF cG cH cI w' hw' hin';have gf:=V.qy hi;refine ih x.l[i] cF cG cH cI (some ⟨b,o+1,none⟩) (n-1) (c-1) (fun _=>True) w' (by simp) (by simp at hn⊢;omega) (by omega) (by omega) (by omega) (fun k hk=>hks k (by simp [List.mem_cons.1 hk])) (cN.item (List.getElem_mem hi)) (by omega) (hw.trans hw') hin' ?_;refine .inr ⟨b,o+1,rfl,trivial,fun j hj=> ?_⟩;have:=hc (j+1) (by simpa using hj);rw [List.getElem_cons_succ,show o+(j+1)=o+1+j by omega] at this;exact hw'.cell this
end Go.Proofs.YtlcebdaghmdkeabGreatDoor
namespace Go.Proofs.YtlcebdaghmdkeabGreatDoor
open Go.Proofs.Tryz
open Go.RowKit
attribute [local go_sem↓] Go.wp_at_zero Go.wp_at_succ
theorem yq (F:lZ) (S:az) (lV:FuncId) (qR:Array Value) (w:World) (hS:Hid (∀b,S b->b<w.heap.size)) (hE:Hid (∀args w,(callFunc lV args).run prog w= .ok (.enter lV args) w)) (hD:Hid (Does F S lV qR w)) (hl:cM w)
 (x:V) (ka:au) (kc:Nat) (la:au) (lc:Nat) (p:ah) (hsz:x.size<=1073741824) (hB:Hid (∀ks:List ah,(∀k∈ks,k.size<=8000)-> (bU F ks x).1.size<=1073741824)) (hin:x.In w S ka kc la lc) (hp:p.size<=1073741824):
 Calls prog 214 #[x.val ka kc la lc, .string p, .func (Fn.func lV) #[] qR] w (fe S (gH x p F).1 (.int .i64 (gH x p F).2) w):=by
 have hm:=hl.max;have aJ:=ae hin;clear hin;go_enter func214,ntmps214;go_upto_region 1 with fail
 refine aI (R:=fun wx=>aD wx w.heap.size x ka kc la lc/\aN wx (w.heap.size+1)/\Ext w wx) ⟨aj,aj,Xt⟩ ?_;rintro wa ⟨ag,ai,aH⟩;obtain⟨hc0,aw,hl0⟩:=ag.see;go_wp2_with fail;(refine(Ag x ka kc la lc _ p _ hsz (aJ.out.ext Xt) hp (hm.ext Xt)).mono ?_);rintro e w2 (⟨a,n,c,ks,hnb,hfi,rfl,hn,hok,hst,h2⟩|⟨hbad,rfl,h2⟩)
 ·have qP:gH x p F=if ks= [] then(x,1) else if(bU F ks x).2=0 then(if(bU F ks x).1.fine=true then((bU F ks x).1,0) else(x,2)) else(x,(bU F ks x).2):=by
   unfold gH;rw [hnb];simp only;rw [if_neg (by rw [hfi];decide)]
  have hsm:=(Cg hnb).2;have hlen:=(Cg hnb).1;have Bb:=ae qP;have cN:=gq hfi;have wF:=ae hsm;have aP:=ae hst;have ag:=af.ext h2 ag;have ai:=af.ext h2 ai;have hx2:Ext w w2:=Xt;clear h2 hc0 aw hl0 aH qP hnb hsm hst hfi;subst hn;obtain⟨hc0,aw,hl0⟩:=ag.see;obtain⟨hc1,aA,ay⟩:=ai.see;by_cases gS:ks= []
  ·subst gS
   go_wp2_with fail;refine aF (h:= ?_);rw [Bb.out,if_pos trivial];exact⟨ka,kc,la,lc,rfl,(aJ.out.ext Xt).mono (fun b h _=> .inl h),Xt⟩
  ·have hks:((ks.length:Int)==0)=false:=by
    have:=List.length_pos_iff.2 gS;simp;omega
   have qT:=ae gS;clear gS;go_wp2_with fail;(refine(aav F S lV qR w hS hE hD hl ks x ka kc la lc a ks.length c _ _ qT.out rfl (by omega) hok.1 hok.2.1 wF.out cN hsz Xt (aJ.out.ext Xt) (aP.out.ext Xt)).mono ?_);rintro e w3 ⟨bh,bj,bk,bn,rfl,bf,h3⟩;have hx3:Ext w w3:=Xt;have hz2:=ai.lt;have cU:(bU F ks x).1.In w3 (fun b=>S b\/w.heap.size+2<=b) bh bj bk bn:=bf.mono (fun b h _=>by rcases h with h|h;exact .inl h;exact .inr (by(try simp at h);omega));have ag:=af.ext (w:=w2) (w':=w3) Xt ag;have ai:=af.ext (w:=w2) (w':=w3) Xt ai;have dm:=ae cU;clear h3 bf cU hc0 aw hl0 hc1 aA ay hx2 aP;go_upto_region 7 with fail
   refine aI (R:=fun wx=>aD wx w.heap.size x ka kc la lc/\aN wx (w.heap.size+1)/\af wx w3.heap.size #[.int .i64 (bU F ks x).1.k, .int .i64 (bU F ks x).1.n, .string (bU F ks x).1.s, .slice bh (bU F ks x).1.keys.length bj, .slice bk (bU F ks x).1.l.length bn] 36/\ (bU F ks x).1.In wx (fun b=>S b\/w.heap.size+2<=b) bh bj bk bn/\Ext w wx) ⟨aj,aj,aj,dm.out.ext Xt,Xt⟩ ?_;have aR:=ai.lt;clear ag ai dm hx3;rintro wd ⟨ag,ai,dU,hjn,dG⟩;have aU:=ae hjn;clear hjn;by_cases her:(bU F ks x).2=0
   ·have he:((bU F ks x).2 !=0)=false:=by simpa using her
    have Gs:=ae her;have Bc:=hB.out ks wF.out;clear her;obtain⟨tJ,jo,qu⟩:=dU.see;have aw:(bU F ks x).1.fine=false\/ (bU F ks x).1.fine=true:=by cases (bU F ks x).1.fine<;>simp
    rcases aw with hf|hf
    all_goals
     have Hf:=ae hf;go_wp2_with fail;(refine(cT (bU F ks x).1 bh bj bk bn _ _ Bc (aU.out.ext Xt)).mono ?_);rintro e w4 ⟨rfl,h4⟩;rw [hf];have ag:=af.ext h4 ag;have ai:=af.ext h4 ai;have dU:=af.ext h4 dU;have bH:Ext w w4:=Xt;have Rz:=aU.out.ext h4;clear h4 tJ jo qu dG;obtain⟨hc0,aw,hl0⟩:=ag.see;obtain⟨hc1,aA,ay⟩:=ai.see;obtain⟨tJ,jo,qu⟩:=dU.see
    ·go_wp2_with fail
     refine aF (h:= ?_);rw [Bb.out,if_neg qT.out,if_pos Gs.out,if_neg (by rw [Hf.out];decide)];exact⟨ka,kc,la,lc,rfl,(aJ.out.ext Xt).mono (fun b h _=> .inl h),Xt⟩
    ·have Hj4:=ae Rz
     clear Rz;go_wp2_with fail;refine aF (h:= ?_);rw [Bb.out,if_neg qT.out,if_pos Gs.out,if_pos Hf.out];exact⟨bh,bj,bk,bn,rfl,Hj4.out.keep (Held.kept (Held.mono (S:=fun b=>b≠w.heap.size+1) (a:=w4) aC (fun b h=>by rcases h with h|h;(have:=hS.out b h;simp;omega);(simp;omega)))) (fun b h _=>by rcases h with h|h;exact .inl h;exact .inr (by omega)),Xt⟩
   ·have he:((bU F ks x).2 !=0)=true:=by simpa using her
    have Gs:=ae her;clear her;obtain⟨hc0,aw,hl0⟩:=ag.see;obtain⟨hc1,aA,ay⟩:=ai.see;go_wp2_with fail;refine aF (h:= ?_);rw [Bb.out,if_neg qT.out,if_neg Gs.out];exact⟨ka,kc,la,lc,rfl,(aJ.out.ext Xt).mono (fun b h _=> .inl h),Xt⟩
 ·have qP:gH x p F=(x,1):=by
   unfold gH;rcases hbad with h|h
   ·rw [h]
   ·cases cJ p<;>simp [h]
  have Bb:=ae qP;have ag:=af.ext h2 ag;have ai:=af.ext h2 ai;have hx2:Ext w w2:=Xt;clear h2 hc0 aw hl0 aH qP hbad;obtain⟨hc0,aw,hl0⟩:=ag.see;obtain⟨hc1,aA,ay⟩:=ai.see;go_wp2_with fail;refine aF (h:= ?_);rw [Bb.out];exact⟨ka,kc,la,lc,rfl,(aJ.out.ext Xt).mono (fun b h _=> .inl h),Xt⟩
theorem WZ (y:V) (kb:au) (kd:Nat) (lb:au) (ld:Nat) (bx:Nat) (x:V) (ka:au) (kc:Nat) (la:au) (lc:Nat) (name:ah) (S:az) (w:World) (fS:Hid (∀b,S b->b<w.heap.size)) (dI:aD w bx y kb kd lb ld) (hjn:y.In w S kb kd lb ld)
 (cN:x.sound) (hsz:x.size<=1073741824) (hn:name.size<=8000) (hin:x.In w S ka kc la lc) (h5:x.k=5):
 Calls prog 215 #[x.val ka kc la lc, .string name, .pointer (some ⟨bx,0,none⟩)] w (fe S (x.put name y) (.int .i64 0) w):=by
 have OI:=dI.lt;have kA:(x.k==5)=true:=by simpa using h5
 have Hr:=ae cN.flat.dL;have aJ:=ae hin;have aU:=ae hjn;clear hin hjn h5;go_enter func215,ntmps215;go_upto_region 3 with fail
 refine aI (R:=fun wx=>aD wx w.heap.size x ka kc la lc/\aN wx (w.heap.size+1)/\Ext w wx) ⟨aj,aj,Xt⟩ ?_;rintro wa ⟨ag,ai,aH⟩;have dU:=af.ext aH dI;obtain⟨hc0,aw,hl0⟩:=ag.see;obtain⟨tJ,jo,qu⟩:=dU.see;go_wp2_with fail;(refine(uH x ka kc la lc name y kb kd lb ld S _ hsz Hr.out (aJ.out.ext Xt) (aU.out.ext Xt)).mono ?_);rintro e w1 ⟨iR,iT,iU,iV,rfl,eJ,h1⟩;have ay:=ai.lt;have bN:(x.put name y).In w1 (fun b=>S b\/w.heap.size+2<=b) iR iT iU iV:=eJ.mono (fun b h _=>by rcases h with h|h;exact .inl h;exact .inr (by(try simp at h);omega));have ai:=af.ext (w:=wa) (w':=w1) Xt ai;have hx1:Ext w w1:=Xt;have bE:=ae bN;clear h1 aH hc0 aw hl0 eJ bN;obtain⟨hc1,aA,ay⟩:=ai.see;go_wp2_with fail;refine aF (h:= ?_);exact⟨iR,iT,iU,iV,rfl,bE.out.keep (Held.kept (Held.mono (S:=fun b=>b≠w.heap.size+1) (a:=w1) aC (fun b h=>by rcases h with h|h;(have:=fS.out b h;simp;omega);(simp;omega)))) (fun b h _=>by rcases h with h|h;exact .inl h;exact .inr (by omega)),Xt⟩
theorem I9 (bx:Nat) (x:V) (ka:au) (kc:Nat) (la:au) (lc:Nat) (name:ah) (S:az) (w:World) (hl:cM w) (hsz:x.size<=1073741824) (hn:name.size<=8000) (hin:x.In w S ka kc la lc) (h5:x.k≠5)
 (hno:x.k≠4\/ (∀i,jC name x.l.length=some i->x.l.length<i)):
 Calls prog 215 #[x.val ka kc la lc, .string name, .pointer (some ⟨bx,0,none⟩)] w (fe S x (.int .i64 3) w):=by
 have kA:(x.k==5)=false:=by simpa using h5
 have aJ:=ae hin;have hll:=x.kB;clear hin h5;by_cases h4:x.k=4
 ·have hk4:(x.k==4)=true:=by simpa using h4
  have Ja:=ae (hno.resolve_left (fun h=>h h4));clear hno h4
  cases hi:jC name x.l.length with
  |none=>
   have Hi:=ae hi;clear hi;go_enter func215,ntmps215;go_upto_region 5 with fail
   refine aI (R:=fun wx=>aD wx w.heap.size x ka kc la lc/\aN wx (w.heap.size+1)/\Ext w wx) ⟨aj,aj,Xt⟩ ?_;rintro wa ⟨ag,ai,aH⟩;obtain⟨hc0,aw,hl0⟩:=ag.see;go_wp2_with fail;(refine(Cb name x.l.length (by omega) (by omega) _ (hl.ext Xt)).mono ?_);rintro e w1 ⟨rfl,h1⟩;rw [Hi.out];have ag:=af.ext (w:=wa) (w':=w1) Xt ag;have ai:=af.ext (w:=wa) (w':=w1) Xt ai;have hx1:Ext w w1:=Xt;clear h1 aH hc0 aw hl0;obtain⟨hc0,aw,hl0⟩:=ag.see;obtain⟨hc1,aA,ay⟩:=ai.see;go_wp2_with fail;refine aF (h:= ?_);exact⟨ka,kc,la,lc,rfl,(aJ.out.ext Xt).mono (fun b h _=> .inl h),Xt⟩
  |some i=>
   have hlt:=Ja.out i hi;have Hi:=ae hi;clear hi;have hle:¬(i:Int)<= (x.l.length:Int):=by omega
   have W4:(x.l.length:Int)<(i:Int):=by omega
   go_enter func215,ntmps215;go_upto_region 5 with fail
   refine aI (R:=fun wx=>aD wx w.heap.size x ka kc la lc/\aN wx (w.heap.size+1)/\Ext w wx) ⟨aj,aj,Xt⟩ ?_;rintro wa ⟨ag,ai,aH⟩;obtain⟨hc0,aw,hl0⟩:=ag.see;go_wp2_with fail;(refine(Cb name x.l.length (by omega) (by omega) _ (hl.ext Xt)).mono ?_);rintro e w1 ⟨rfl,h1⟩;rw [Hi.out];have ag:=af.ext (w:=wa) (w':=w1) Xt ag;have ai:=af.ext (w:=wa) (w':=w1) Xt ai;have hx1:Ext w w1:=Xt;clear h1 aH hc0 aw hl0;obtain⟨hc0,aw,hl0⟩:=ag.see;obtain⟨hc1,aA,ay⟩:=ai.see;go_wp2_with fail;refine aF (h:= ?_);exact⟨ka,kc,la,lc,rfl,(aJ.out.ext Xt).mono (fun b h _=> .inl h),Xt⟩
 ·have hk4:(x.k==4)=false:=by simpa using h4
  clear hno h4;go_enter func215,ntmps215;go_wp2_with fail;refine aF (h:= ?_);exact⟨ka,kc,la,lc,rfl,(aJ.out.ext Xt).mono (fun b h _=> .inl h),Xt⟩
theorem abY (y:V) (kb:au) (kd:Nat) (lb:au) (ld:Nat) (bx:Nat) (x:V) (ka:au) (kc:Nat) (la:au) (lc:Nat) (name:ah) (S:az) (w:World) (fS:Hid (∀b,S b->b<w.heap.size)) (dI:aD w bx y kb kd lb ld) (hjn:y.In w S kb kd lb ld) (hl:cM w)
 (cN:x.sound) (hsz:x.size<=1073741824) (hn:name.size<=8000) (hin:x.In w S ka kc la lc):
 Calls prog 217 #[x.val ka kc la lc, .string name, .pointer (some ⟨bx,0,none⟩)] w (fe S (ia y x name).1 (.int .i64 (ia y x name).2) w):=by
 have OI:=dI.lt;have aJ:=ae hin;have mR:=ae hjn;clear hjn
 cases hch:x.child name with
 |none=>
  have hp:ia y x name=(x,3):=by unfold ia;rw [hch]
  have Hp:=ae hp;have mo:=ae hch;clear hin hp hch;go_enter func217,ntmps217;go_upto_region 1 with fail
  refine aI (R:=fun wx=>aD wx w.heap.size x ka kc la lc/\aN wx (w.heap.size+1)/\Ext w wx) ⟨aj,aj,Xt⟩ ?_;rintro wa ⟨ag,ai,aH⟩;obtain⟨hc0,aw,hl0⟩:=ag.see;go_wp2_with fail;(refine(uK x ka kc la lc _ name _ cN hsz (by omega) (aJ.out.ext Xt) (hl.ext Xt)).mono ?_);rintro e w1 ⟨q,rfl,-,h1⟩;rw [mo.out];have ag:=af.ext h1 ag;have ai:=af.ext h1 ai;have hx1:Ext w w1:=Xt;clear h1 aH hc0 aw hl0;obtain⟨hc0,aw,hl0⟩:=ag.see;obtain⟨hc1,aA,ay⟩:=ai.see;go_wp2_with fail;refine aF (h:= ?_);rw [Hp.out];exact⟨ka,kc,la,lc,rfl,(aJ.out.ext Xt).mono (fun b h _=> .inl h),Xt⟩
 |some i=>
  have hi:=wG cN hch;have hp:ia y x name=(x.jR i y,0):=by unfold ia;rw [hch]
  obtain⟨b',o',rfl,Am,-⟩:=hin.item hi;have Hp:=ae hp;have mo:=ae hch;clear hin hp hch;go_enter func217,ntmps217;go_upto_region 1 with fail
  refine aI (R:=fun wx=>aD wx w.heap.size x ka kc (some ⟨b',o',none⟩) lc/\aN wx (w.heap.size+1)/\Ext w wx) ⟨aj,aj,Xt⟩ ?_;rintro wa ⟨ag,ai,aH⟩;obtain⟨hc0,aw,hl0⟩:=ag.see;go_wp2_with fail;(refine(uK x ka kc _ lc _ name _ cN hsz (by omega) (aJ.out.ext Xt) (hl.ext Xt)).mono ?_);rintro e w1 ⟨q,rfl,hq,h1⟩;obtain rfl:=hq i mo.out;rw [mo.out];have ag:=af.ext h1 ag;have ai:=af.ext h1 ai;have hx1:Ext w w1:=Xt;have dU:=af.ext hx1 dI;have aU:Hid (y.In w1 (fun b=>S b\/w.heap.size+2<=b) kb kd lb ld):=(mR.out.ext hx1).mono (fun b h _=> .inl h);clear h1 aH hc0 aw hl0 hq;obtain⟨ib,gj,hst,ic⟩:=(V.dz ..).1 aJ.out;have hll:=x.kB;have Cl:=ae (fun w' (e:Ext w w')=>Gr x.l _ _ _ S w' rfl gj (by omega) (ic.ext e));have aP:=ae hst;clear hst ic;go_upto_region 4 with fail
  refine aI (R:=fun wx=>aD wx w.heap.size x ka kc (some ⟨b',o',none⟩) lc/\aN wx (w.heap.size+1)/\aD wx bx y kb kd lb ld/\ (y).In wx (fun b=>S b\/w.heap.size+2<=b) kb kd lb ld/\Ext w wx) ⟨aj,aj,aj,aU.out.ext Xt,Xt⟩ ?_;clear ag ai dU;rintro wc ⟨ag,ai,dU,hjn,fh⟩;obtain⟨hc0,aw,hl0⟩:=ag.see;go_upto_region 5 with(go_at_call 61;refine(Cl.out _ Xt).mono ?_;rintro e w3 ⟨a3,c3,rfl,jI,⟨Ry,eH,xg⟩,h3⟩;have iN:=af.ext h3 ag;obtain⟨Dw,Dx,Dy⟩:=iN.see)
  obtain⟨g,cur,rfl,hgb,hBg,hcz,hits⟩:=qx (by omega) rfl eH xg;have xh:(y).In w3 (fun b=>(S b\/w.heap.size+2<=b)/\b<wc.heap.size) kb kd lb ld:=(hjn.mono (fun b h hlt=>⟨h,hlt⟩)).ext h3;have ay:=ai.lt;have qu:=dU.lt;have lL:=af.ext h3 ai;have Dz:=af.ext h3 dU;have hx3:Ext w w3:=Xt;have gp:=ae hits;have DA:=ae xh;clear hits eH xg hjn xh ag ai dU h3 hc0 aw hl0;refine aI (R:=fun wx=>aD wx w.heap.size x ka kc (some ⟨g,0,none⟩) c3/\aN wx (w.heap.size+1)/\aD wx bx y kb kd lb ld/\af wx g cur 36/\Held (fun b=>b≠w.heap.size) w3 wx/\Ext w wx) ⟨aj,aj,aj,aj,aC,Xt⟩ ?_;clear iN lL Dz hBg Dw Dx Dy;rintro wx ⟨ag,ai,dU,hBg,gy,nU⟩;have o9:w.heap.size+2<=wc.heap.size:=ay;have r7:Hid (∀i (h:i<x.l.length),V.Item wx (fun b=>(S b\/w.heap.size+2<=b)/\b<wc.heap.size) g (i*5) x.l[i]):=fun i h=>((gp.out i h).keep' (T:=fun b=>b≠w.heap.size) (by simp;omega) gy.kept (fun b h=>by have:=fS.out b h;simp;omega)).mono (fun b h=>⟨.inl h,by have:=fS.out b h;omega⟩);have DB:Hid ((y).In wx (fun b=>(S b\/w.heap.size+2<=b)/\b<wc.heap.size) kb kd lb ld):=DA.out.keep (Held.kept (gy.mono (fun b h=>by rcases h.1 with h|h;(have:=fS.out b h;simp;omega);(simp;omega)))) (fun _ h _=>h);obtain⟨hc0,aw,hl0⟩:=ag.see;obtain⟨tJ,jo,qu⟩:=dU.see;obtain⟨zj,zk,zl⟩:=hBg.see;have hq0:(0:Int)<= (q:Int):=by omega
  have hq1:(q:Int)<(x.l.length:Int):=by omega
  have kM:Hid (wx.there g (q*5) 5):=Gp hBg (by omega);clear zj zk;go_upto_region 6 with(refine wpList_store_mid rfl 36 _ _ rfl g (q*5) #[.int .i64 y.k, .int .i64 y.n, .string y.s, .slice kb y.keys.length kd, .slice lb y.l.length ld] (by rfl) (by rfl) (by exact kM.out) Tryz.Gq (all_oneCell_toArray (V.mH (y) kb kd lb ld)) ?_)
  have r8:∀i (h:i<(x.l.set q (y)).length),V.Item (wx.setCells g (q*5) (V.five (y) kb kd lb ld)) (fun b=>(S b\/w.heap.size+2<=b)/\b<wc.heap.size) g (i*5) (x.l.set q (y))[i]:=
   Gn hBg r7.out hi hcz DB.out (hBg.gh _ _ _ _ _ _) (Held.kept (Held.gh (Held.refl _ _) (by simp;omega) _ _))
  refine aI (R:=fun wy=>aD wy w.heap.size x ka kc (some ⟨g,0,none⟩) c3/\aN wy (w.heap.size+1)/\ (∀i (h:i<(x.l.set q (y)).length),V.Item wy (fun b=>(S b\/w.heap.size+2<=b)/\b<wc.heap.size) g (i*5) (x.l.set q (y))[i])/\Ext w wy)
   ⟨ag.nj (by omega) _ _,ai.nj (by omega) _ _,r8,nU.gh (by omega) _ _⟩ ?_
  clear ag ai dU hBg hc0 aw hl0 tJ jo qu zl r8 gy nU kM gp r7;rintro wy ⟨ag,ai,hits,hxy⟩;obtain⟨hc0,aw,hl0⟩:=ag.see;obtain⟨hc1,aA,ay⟩:=ai.see;have gp:=ae hits;clear hits;go_wp2_with fail;refine aF (h:= ?_)
  skip;(rw [Hp.out];dsimp only)
  refine⟨ka,kc,some ⟨g,0,none⟩,c3,?_,(V.dz ..).2 ⟨ib,?_,aP.out.keep (Ext.kept Xt _) (fun b h _=> .inl h), .inr ⟨g,0,rfl, .inr (by omega),fun i hi=> ?_⟩⟩,Xt⟩
  ·simp [V.jR,V.val]
  ·simpa [V.jR] using jI
  ·rw [Nat.zero_add]
   exact((gp.out i hi).keep' (T:=fun b=>b≠w.heap.size+1) (by simp;omega) (Held.kept (a:=wy) aC) (fun b h=>by rcases h.1 with h|h;(have:=fS.out b h;simp;omega);(simp;omega))).mono (fun b h=>by rcases h.1 with h|h;exact .inl h;exact .inr (by omega))
theorem I8 (y:V) (kb:au) (kd:Nat) (lb:au) (ld:Nat) (bx:Nat) (S:az) (w0:World) (hS:∀b,S b->b<w0.heap.size) (dI:aD w0 bx y kb kd lb ld) (hjn:y.In w0 S kb kd lb ld) (hl:cM w0):
 Does (ia y) S 217 #[.pointer (some ⟨bx,0,none⟩)] w0:=by
 intro x ka kc la lc name w' hw cN hsz hn hin;exact abY y kb kd lb ld bx x ka kc la lc name S w' (fun b h=>Nat.lt_of_lt_of_le (hS b h) hw.size) (af.ext hw dI) (hjn.ext hw) (hl.ext hw) cN hsz hn hin
theorem I7 (args:Array Value) (w:World):(callFunc 217 args).run prog w= .ok (.enter 217 args) w:=enters func217 (by kernel_rfl) (by rfl) args w
end Go.Proofs.YtlcebdaghmdkeabGreatDoor
