import Derived.Test.YtlcebdaghmdkeabGreatDoorM7
import Derived.Test.YtlcebdaghmdkeabGreatDoorM8
set_option linter.all false
set_option maxRecDepth 100000
set_option maxHeartbeats 64000000
namespace Go.Proofs.YtlcebdaghmdkeabGreatDoor
open Go.Proofs.Tryz
open Go.RowKit
attribute [local go_sem↓] Go.wp_at_zero Go.wp_at_succ
theorem Vt {a:ah} {r:List ah} {x:V} {i:Nat} (hc:x.child a=some i) (hi:i<x.l.length):fe (a::r) x=fe r x.l[i]:=by
 simp [fe,hc,List.getElem?_eq_getElem hi]
theorem Vu {a:ah} {r:List ah} {x:V} (hc:x.child a=none):fe (a::r) x=none:=by simp [fe,hc]
theorem qF (x:V) (ka:aq) (kc:Nat) (la:aq) (lc:Nat) (S:aw) (p:ah) (w:World) (hsz:x.size<=1073741824) (pK:x.In w S ka kc la lc) (hp:p.size<=1073741824) (hl:cS w):
 Calls prog 22 #[x.val ka kc la lc, .string p] w (eO S (cE x p).1 (.int .i64 (cE x p).2) w):=by
 have hin:x.In w (fun b=>S b/\b<w.heap.size) ka kc la lc:=pK.mono fun b h hl=>⟨h,hl⟩;clear pK;have hm:=hl.max;go_enter func22,ntmps22;go_upto_region 1 with fail
 refine aI (R:=fun wx=>aC wx w.heap.size x ka kc la lc/\aN wx (w.heap.size+1)/\Ext w wx) ⟨aj,aj,Xt⟩ ?_;rintro wa ⟨ag,ai,aD⟩;have lh:=ai.lt;obtain⟨hc0,ax,hl0⟩:=ag.see;go_wp2_with fail;(refine(zl x ka kc la lc _ p _ hsz (hin.ext Xt) hp (hm.ext Xt)).mono ?_);rintro e w2 (⟨a,n,c,ks,hnb,hfi,rfl,hn,hok,hst,h2⟩|⟨hbad,rfl,h2⟩)
 ·have mX:cE x p=match fe ks x with|some y=>(y,0)|none=>(V.zero,3):=by unfold cE;rw [hnb];simp only;rw [if_neg (by rw [hfi];decide)];cases fe ks x<;>rfl
  have hsm:=(A4 hnb).2;have hlen:=(A4 hnb).1;have uW:=ae mX;have zt:=ae hsm;have cK:=gG hfi;have hxs:=pL hfi;have ag:=af.ext h2 ag;have ai:=af.ext h2 ai;have hx2:Ext w w2:=Xt;have aP:=ae hst;have G5:w.heap.size+2<=wa.heap.size:=lh;clear h2 hc0 ax hl0 aD mX hnb hsm hst hfi;subst hn;go_wp2_with fail
  go_loopg [9,10,11,24] ks.length (fun g _ _ _ i wr=>∃(k:Nat) (y:V) (fI:aq) (fJ:Nat) (fW:aq) (fK:Nat),k<=ks.length/\i= .int .i64 k/\g=ks.length-k/\fe ks x=fe (ks.drop k) y/\y.sound/\y.size<=14640/\
   y.In w (fun b=>S b/\b<w.heap.size) fI fJ fW fK/\af wr w.heap.size #[.int .i64 y.k, .int .i64 y.n, .string y.s, .slice fI y.keys.length fJ, .slice fW y.l.length fK] 36/\aN wr (w.heap.size+1)/\Ext w wr/\Held (fun b=>b≠w.heap.size) w2 wr)
  case atStart=>exact⟨0,x,ka,kc,la,lc,by omega,rfl,rfl,rfl,cK,hxs,hin,ag,ai,hx2,Held.refl _ _⟩
  case round=>
   clear ag ai cK hxs hin;obtain⟨k,y,fI,fJ,fW,fK,hk,rfl,rfl,MT,cK,hys,hin,ag,ai,hx,hh⟩:=hrel;have G6:=ae MT;clear MT;obtain⟨hc0,ax,hl0⟩:=ag.see;obtain⟨hc1,aA,ay⟩:=ai.see;by_cases hlt:k<ks.length
   ·have G7:bC wr (fun b=>w.heap.size+2<=b) a ks:=(aP.out.keep (T:=fun b=>w.heap.size+2<=b) (fun _ _ _=>rfl) (fun b h _=>Nat.le_trans G5 h)).keep (Held.kept (hh.mono (T:=fun b=>w.heap.size+2<=b) (fun b h=>by simp;omega))) (fun b h _=>h)
    obtain⟨b,o,rfl,hS,e0⟩:=G7.resolve_left (by intro h;rw [h] at hlt;simp at hlt);have e0:=e0 k hlt;have hks:=zt.out _ (List.getElem_mem hlt)
    cases hc:y.child ks[k] with
    |none=>
     have hc':fe ks x=none:=by rw [G6.out,List.drop_eq_getElem_cons hlt,Vu hc]
     have Hc:=ae hc;have Vv:=ae hc';have aH:=ae hin;clear hc hc' G7 hh;go_wp2_with fail;(refine(tP y fI fJ fW fK _ ks[k] _ cK (by omega) (by omega) (aH.out.ext Xt) (hl.ext Xt)).mono ?_);rintro e w3 ⟨q,rfl,-,h3⟩;rw [Hc.out];have ag:=af.ext h3 (af.drew ag);have ai:=af.ext h3 (af.drew ai);have hx3:Ext w w3:=Xt;clear h3 hc0 ax hl0 hc1 aA ay hx;obtain⟨hc1,aA,ay⟩:=ai.see;go_wp2_with fail;refine aF (h:= ?_);rw [uW.out,Vv.out];exact⟨none,0,none,0,rfl,V.mY _ _,Xt⟩
    |some i=>
     have hi:=uX cK hc;have MU:fe ks x=fe (ks.drop (k+1)) y.l[i]:=by rw [G6.out,List.drop_eq_getElem_cons hlt,Vt hc hi]
     obtain⟨b',o',rfl,zu,cp,ct,cu,cw,⟨d0,d1,d2,d3,d4⟩,hin'⟩:=hin.item hi;have Vw:=cK.item (List.getElem_mem hi);have afk:=V.oZ hi;have Hc:=ae hc;have Vx:=ae MU;have aH:=ae hin;have hne:¬b'=w.heap.size:=Nat.ne_of_lt zu.2;have afl:¬w.heap.size=b':=fun e=>hne e.symm;have hi0:(0:Int)<= (i:Int):=by omega
     have hi1:(i:Int)<(y.l.length:Int):=by omega
     clear hc MU G7;go_wp2_with fail;(refine(tP y fI fJ _ fK _ ks[k] _ cK (by omega) (by omega) (aH.out.ext Xt) (hl.ext Xt)).mono ?_);rintro e w3 ⟨q,rfl,hq,h3⟩;obtain rfl:=hq i Hc.out;rw [Hc.out];have ag:=af.ext h3 (af.drew ag);have ai:=af.ext h3 (af.drew ai);have pM:Held (fun b=>b≠w.heap.size) w2 w3:=aB;have hx3:Ext w w3:=Xt;have d0:=hx3.cell d0;have d1:=hx3.cell d1;have d2:=hx3.cell d2;have d3:=hx3.cell d3;have d4:=hx3.cell d4;clear h3 hc0 ax hl0 hc1 aA ay hx hh;obtain⟨hc0,ax,hl0⟩:=ag.see;obtain⟨hc1,aA,ay⟩:=ai.see;go_wp2_with fail;go_roundg (ks.length-(k+1))
     case measure=>omega
     case rel=>exact⟨k+1,y.l[q],cp,ct,cu,cw,by omega,by go_num,rfl,Vx.out,Vw,by omega,hin',aj,aj,Xt,aB⟩
   ·have MV:cE x p=(y,0):=by
     rw [uW.out,G6.out,List.drop_of_length_le (by omega)];rfl
    have Vy:=ae MV;have aH:=ae hin;clear hin hh MV;go_wp2_with fail;refine aF (h:= ?_);rw [Vy.out];exact⟨fI,fJ,fW,fK,rfl,(aH.out.ext Xt).mono (fun b h _=> .inl h.1),Xt⟩
 ·have mX:cE x p=(V.zero,1):=by
   unfold cE;rcases hbad with h|h
   ·rw [h]
   ·cases cI p<;>simp [h]
  have uW:=ae mX;clear mX;have ai:=af.ext h2 ai;have hx2:Ext w w2:=Xt;clear h2 ag hc0 ax hl0 aD hbad;obtain⟨hc1,aA,ay⟩:=ai.see;go_wp2_with fail;refine aF (h:= ?_);rw [uW.out];exact⟨none,0,none,0,rfl,V.mY _ _,Xt⟩
theorem enters {P:Program} {f:FuncId} {fn:Func} {c:Code} (hf:P.funcs[f]? =some fn) (hn:(fn.name== "runtime.NumGoroutine")=false) (hb:fn.body=some c) (args:Array Value) (w:World):(callFunc f args).run P w= .ok (.enter f args) w:=by
 have h1:fn.name≠ "runtime.NumGoroutine" :=by simpa using hn
 simp [callFunc,hf,h1,hb]
def Does (F:lH) (S:aw) (lA:FuncId) (pZ:Array Value) (w:World):Prop:=
 ∀(y:V) (ka:aq) (kc:Nat) (la:aq) (lc:Nat) (name:ah) (w':World),Ext w w'->y.sound->y.size<=1073741824->name.size<=8000->y.In w' S ka kc la lc->
  Calls prog lA (#[y.val ka kc la lc, .string name]++pZ) w' (eO S (F y name).1 (.int .i64 (F y name).2) w')
theorem at_one (F:lH) (S:aw) (lA:FuncId) (pZ:Array Value) (w0:World) (hS:Hid (∀b,S b->b<w0.heap.size)) (hE:Hid (∀args w,(callFunc lA args).run prog w= .ok (.enter lA args) w)) (hD:Hid (Does F S lA pZ w0)) (name:ah) (x:V) (ka:aq) (kc:Nat) (la:aq) (lc:Nat) (b o c:Nat) (w:World)
 (hn:name.size<=8000) (cK:x.sound) (hsz:x.size<=1073741824) (hw:Ext w0 w) (hin:x.In w S ka kc la lc) (hk:w.cell? ⟨b,o,none⟩=some (.string name)):
 Calls prog 235 #[x.val ka kc la lc, .slice (some ⟨b,o,none⟩) 1 c, .func (Fn.func lA) #[] pZ] w (eO S (F x name).1 (.int .i64 (F x name).2) w):=by
 have hbl:=ku hk;have aH:=ae hin;clear hin;go_enter func235,ntmps235;go_upto_region 2 with fail
 refine aI (R:=fun wx=>aC wx w.heap.size x ka kc la lc/\aN wx (w.heap.size+1)/\Ext w wx) ⟨aj,aj,Xt⟩ ?_;rintro wa ⟨ag,ai,aD⟩;have hka:=aD.cell hk;have PS:Ext w0 wa:=hw.trans aD;clear hk;obtain⟨hc0,ax,hl0⟩:=ag.see
 have au:∀w',Ext wa w'-> (w'.cell? ⟨w.heap.size,0,none⟩=some (.int .i64 x.k)/\w'.cell? ⟨w.heap.size,1,none⟩=some (.int .i64 x.n)/\w'.cell? ⟨w.heap.size,2,none⟩=some (.string x.s)/\w'.cell? ⟨w.heap.size,3,none⟩=some (.slice ka x.keys.length kc)/\w'.cell? ⟨w.heap.size,4,none⟩=some (.slice la x.l.length lc)/\w'.cell? ⟨b,o,none⟩=some (.string name)):=
  fun w' e=>⟨e.cell (hc0 0),e.cell (hc0 1),e.cell (hc0 2),e.cell (hc0 3),e.cell (hc0 4),e.cell hka⟩
 have hS1:=au wa.drew ((Ext.refl wa).drew);refine fC au (c:=8) (by kernel_rfl) ?_;refine aG 0 [8] (h:= ?_);refine aG 1 [8] (h:= ?_);refine aG 2 [8] (h:= ?_);refine aG 3 [8] (h:= ?_);refine aG 4 [8] (h:= ?_);(try simp only [rl]);refine aL 5 (h:=fun K hK=> ?_);(try simp only [rl]);(try go_simp);rw [hE.out,Oper.upon_enter];(refine(hD.out x ka kc la lc name _ (PS.trans Xt) cK hsz hn (aH.out.ext Xt)).mono ?_);rintro e w1 ⟨iH,iI,iJ,iK,rfl,fc,h1⟩;(try go_simp);refine hK.out _ _ (fun _=>au _ Xt) ?_;clear hK K;refine aG 6 [8] (hS:=au _ Xt) (h:= ?_);refine aG 7 [8] (hS:=au _ Xt) (h:= ?_);(try simp only [rl]);have lh:aN w1 (w.heap.size+1):=af.ext (w:=wa) Xt ai;have hx1:Ext w w1:=Xt;have ay:=ai.lt;have bR:(F x name).1.In w1 (fun b=>S b\/w.heap.size+2<=b) iH iI iJ iK:=fc.mono (fun b h _=>by rcases h with h|h;exact .inl h;simp at h;exact .inr (by omega));have hz:=hw.size;have cn:=ae bR;clear hc0 ax fc bR h1 ai ag au hS1 PS;obtain⟨hc1,aA,ay⟩:=lh.see;refine aL 8 (h:=fun K hK=> ?_);(try simp only [rl]);go_simp;refine br hK (h:= ?_);clear hK K;(try simp only [rl]);refine aL 9 (h:=fun K hK=> ?_);(try simp only [rl]);go_simp;refine br hK (h:= ?_);clear hK K;(try simp only [rl]);refine dw (by kernel_rfl) ?_ _;go_wp2_with fail;refine aF (h:= ?_);exact⟨iH,iI,iJ,iK,rfl,cn.out.keep (Held.kept (Held.mono (S:=fun b=>b≠w.heap.size+1) (a:=w1) aB (fun b h=>by rcases h with h|h;(have:=hS.out b h;simp;omega);(simp;omega)))) (fun b h _=>by rcases h with h|h;exact .inl h;exact .inr (by omega)),Xt⟩
theorem Zc (S:aw) (fv:Value) (w0:World) (name:ah) (x:V) (ka:aq) (kc:Nat) (la:aq) (lc:Nat) (b o n c:Nat) (w:World)
 (hn:name.size<=8000) (kx:2<=n) (hnb:n<=1073741824) (cK:x.sound) (hsz:x.size<=1073741824) (hin:x.In w S ka kc la lc) (hk:w.cell? ⟨b,o,none⟩=some (.string name)) (hl:cS w) (hc:Hid (x.child name=none)):
 Calls prog 235 #[x.val ka kc la lc, .slice (some ⟨b,o,none⟩) n c,fv] w (eO S x (.int .i64 3) w):=by
 have hbl:=ku hk;have aH:=ae hin;have Zd:((n:Int)==1)=false:=by simp;omega
 have hi0:(0:Int)<(n:Int):=by omega
 have H9:0<n:=by omega
 have Ia:¬n=0:=by omega
 have Ib:¬n<=0:=by omega
 clear hin;go_enter func235,ntmps235;go_upto_region 3 with fail
 refine aI (R:=fun wx=>aC wx w.heap.size x ka kc la lc/\aN wx (w.heap.size+1)/\Ext w wx) ⟨aj,aj,Xt⟩ ?_;rintro wa ⟨ag,ai,aD⟩;have hka:=aD.cell hk;clear hk
 have au:∀w',Ext wa w'-> (w'.cell? ⟨w.heap.size,0,none⟩=some (.int .i64 x.k)/\w'.cell? ⟨w.heap.size,1,none⟩=some (.int .i64 x.n)/\w'.cell? ⟨w.heap.size,2,none⟩=some (.string x.s)/\w'.cell? ⟨w.heap.size,3,none⟩=some (.slice ka x.keys.length kc)/\w'.cell? ⟨w.heap.size,4,none⟩=some (.slice la x.l.length lc)/\w'.cell? ⟨b,o,none⟩=some (.string name)):=
  fun w' e=>⟨e.cell (ag.cells 0),e.cell (ag.cells 1),e.cell (ag.cells 2),e.cell (ag.cells 3),e.cell (ag.cells 4),e.cell hka⟩
 go_region_held3 (fun w'=>w'.cell? ⟨w.heap.size,0,none⟩=some (.int .i64 x.k)/\w'.cell? ⟨w.heap.size,1,none⟩=some (.int .i64 x.n)/\w'.cell? ⟨w.heap.size,2,none⟩=some (.string x.s)/\w'.cell? ⟨w.heap.size,3,none⟩=some (.slice ka x.keys.length kc)/\w'.cell? ⟨w.heap.size,4,none⟩=some (.slice la x.l.length lc)/\w'.cell? ⟨b,o,none⟩=some (.string name))
  (first|(exact au _ ((Ext.refl _).drew))|(exact au _ (Ext.trans ((Ext.refl _).drew) h1)))
  (first|(go_at_call 46;refine(tP x ka kc la lc _ name _ cK hsz (by omega) (aH.out.ext Xt) (hl.ext Xt)).mono ?_;rintro e w1 ⟨q,rfl,-,h1⟩))
 all_goals
  rw [hc.out];have ag:=af.ext h1 (af.drew ag);have ai:=af.ext h1 (af.drew ai);have hx1:Ext w w1:=Xt;clear h1 aD au;obtain⟨hc0,ax,hl0⟩:=ag.see;obtain⟨hc1,aA,ay⟩:=ai.see;go_wp2_with fail;refine aF (h:= ?_);exact⟨ka,kc,la,lc,rfl,(aH.out.ext Xt).mono (fun b h _=> .inl h),Xt⟩
theorem Fj (l:List V) (a:aq) (n c:Nat) (S:aw) (w:World) (hl:l.length=n) (hok:aM a n c) (hbig:n<=1073741824) (hr:Rows w S l a):
 Calls prog 61 #[.slice a n c] w fun e w'=>∃a' c',e= .returned (.slice a' n c')/\aM a' n c'/\ (∃xs,w'.ownsRow w.heap.size 36 5 (.slice a' n c') n xs/\cH w' S l xs)/\Ext w w':=by
 obtain⟨news,hnl,lg,jn⟩:=zm hr;rw [hl] at hnl lg;refine(zn a n c news w hok hbig hnl lg jn.one).mono ?_;rintro e w' ⟨a',c',rfl,h1,h2,h3⟩;exact⟨a',c',rfl,h1,⟨news,h2,jn.keep (h3.kept _) (fun _ h _=>h)⟩,h3⟩
theorem Ze (S:aw) (fv:Value) (w0:World) (hS:Hid (∀b,S b->b<w0.heap.size)) (name:ah) (x:V) (ka:aq) (kc:Nat) (la:aq) (lc:Nat) (b o n c:Nat) (w:World) (i:Nat) (r:V) (er:Int)
 (hn:name.size<=8000) (kx:2<=n) (hnc:n<=c) (hnb:n<=1073741824) (hcb:c<=maxLen) (cK:x.sound) (hsz:x.size<=1073741824) (hw:Ext w0 w) (hin:x.In w S ka kc la lc) (hk:w.cell? ⟨b,o,none⟩=some (.string name)) (hl:cS w) (hc:Hid (x.child name=some i)) (hi:i<x.l.length)
 (rec:Hid (∀(cp:aq) (ct:Nat) (cu:aq) (cw:Nat) (w':World),Ext w w'-> (x.l[i]).In w' S cp ct cu cw->Calls prog 235 #[(x.l[i]).val cp ct cu cw, .slice (some ⟨b,o+1,none⟩) (n-1) (c-1),fv] w' (eO S r (.int .i64 er) w'))):
 Calls prog 235 #[x.val ka kc la lc, .slice (some ⟨b,o,none⟩) n c,fv] w (eO S (if er=0 then x.jK i r else x) (.int .i64 er) w):=by
 have hbl:=ku hk;obtain⟨b',o',rfl,zu,cp,ct,cu,cw,⟨d0,d1,d2,d3,d4⟩,hin'⟩:=hin.item hi;have aH:=ae hin;have Zd:((n:Int)==1)=false:=by simp;omega
 have hi0:(0:Int)<(n:Int):=by omega
 have H9:0<n:=by omega
 have Ia:¬n=0:=by omega
 have Ib:¬n<=0:=by omega
 clear hin;go_enter func235,ntmps235;go_upto_region 3 with fail
 refine aI (R:=fun wx=>aC wx w.heap.size x ka kc (some ⟨b',o',none⟩) lc/\aN wx (w.heap.size+1)/\Ext w wx) ⟨aj,aj,Xt⟩ ?_;rintro wa ⟨ag,ai,aD⟩;have hka:=aD.cell hk;clear hk
 have au:∀w',Ext wa w'-> (w'.cell? ⟨w.heap.size,0,none⟩=some (.int .i64 x.k)/\w'.cell? ⟨w.heap.size,1,none⟩=some (.int .i64 x.n)/\w'.cell? ⟨w.heap.size,2,none⟩=some (.string x.s)/\w'.cell? ⟨w.heap.size,3,none⟩=some (.slice ka x.keys.length kc)/\w'.cell? ⟨w.heap.size,4,none⟩=some (.slice (some ⟨b',o',none⟩) x.l.length lc)/\w'.cell? ⟨b,o,none⟩=some (.string name)):=
  fun w' e=>⟨e.cell (ag.cells 0),e.cell (ag.cells 1),e.cell (ag.cells 2),e.cell (ag.cells 3),e.cell (ag.cells 4),e.cell hka⟩
 go_region_held3 (fun w'=>w'.cell? ⟨w.heap.size,0,none⟩=some (.int .i64 x.k)/\w'.cell? ⟨w.heap.size,1,none⟩=some (.int .i64 x.n)/\w'.cell? ⟨w.heap.size,2,none⟩=some (.string x.s)/\w'.cell? ⟨w.heap.size,3,none⟩=some (.slice ka x.keys.length kc)/\w'.cell? ⟨w.heap.size,4,none⟩=some (.slice (some ⟨b',o',none⟩) x.l.length lc)/\w'.cell? ⟨b,o,none⟩=some (.string name))
  (first|(exact au _ ((Ext.refl _).drew))|(exact au _ (Ext.trans ((Ext.refl _).drew) h1)))
  (first|(go_at_call 46;refine(tP x ka kc _ lc _ name _ cK hsz (by omega) (aH.out.ext Xt) (hl.ext Xt)).mono ?_;rintro e w1 ⟨q,rfl,hq,h1⟩))
 obtain rfl:=hq i hc.out;rw [hc.out];have ag:=af.ext h1 (af.drew ag);have ai:=af.ext h1 (af.drew ai);have hx1:Ext w w1:=Xt;clear h1 aD au hq;go_upto_region 6 with fail
 refine aI (R:=fun wx=>aC wx w.heap.size x ka kc (some ⟨b',o',none⟩) lc/\aN wx (w.heap.size+1)/\Ext w wx) ⟨aj,aj,Xt⟩ ?_;clear ag ai hx1;rintro wb ⟨ag,ai,aO⟩;have d0:=aO.cell d0;have d1:=aO.cell d1;have d2:=aO.cell d2;have d3:=aO.cell d3;have d4:=aO.cell d4;have hq0:(0:Int)<= (q:Int):=by omega
 have hq1:(q:Int)<(x.l.length:Int):=by omega
 have xB:(1:Int)<= (n:Int):=by omega
 have Ig:¬c=1:=by omega
 have Ii:(n:Int)<= (c:Int):=by omega
 have au:∀w',Ext wb w'-> (w'.cell? ⟨w.heap.size,4,none⟩=some (.slice (some ⟨b',o',none⟩) x.l.length lc)/\w'.cell? ⟨b',o'+q*5,none⟩=some (.int .i64 x.l[q].k)/\w'.cell? ⟨b',o'+q*5+1,none⟩=some (.int .i64 x.l[q].n)/\w'.cell? ⟨b',o'+q*5+2,none⟩=some (.string x.l[q].s)/\w'.cell? ⟨b',o'+q*5+3,none⟩=some (.slice cp x.l[q].keys.length ct)/\w'.cell? ⟨b',o'+q*5+4,none⟩=some (.slice cu x.l[q].l.length cw)):=
  fun w' e=>⟨e.cell (ag.cells 4),e.cell d0,e.cell d1,e.cell d2,e.cell d3,e.cell d4⟩
 refine fC au (c:=14) (by kernel_rfl) ?_;refine aG 0 [14] (hS:=au _ Xt) (h:= ?_);refine aG 1 [14] (hS:=au _ Xt) (h:= ?_);refine aG 2 [14] (hS:=au _ Xt) (h:= ?_);refine aG 3 [14] (hS:=au _ Xt) (h:= ?_);refine aG 4 [14] (hS:=au _ Xt) (h:= ?_);refine aG 5 [14] (hS:=au _ Xt) (h:= ?_);refine aG 6 [14] (hS:=au _ Xt) (h:= ?_);refine aG 7 [14] (hS:=au _ Xt) (h:= ?_);(try simp only [rl]);refine lX (rs:= [8,12]) (by kernel_rfl) (by simp) ?_;refine cL.cons (Array.getElem?_eq_getElem (by decide)) (fun K hK=> ?_) (cL.cons (Array.getElem?_eq_getElem (by decide)) (fun K hK=> ?_) cL.nil)
 · (try simp only [rl])
   (try go_simp);(refine(rec.out cp ct cu cw _ Xt (hin'.ext Xt)).mono ?_);rintro e w2 ⟨aX,aY,aZ,bf,rfl,bn,h2⟩;(try go_simp);have hb2:Ext wb w2:=Xt;have hz2:=hb2.size;clear h2;refine hK.out _ _ (fun _=>au _ Xt) ?_;clear hK K;refine aG 9 [14] (hS:=au _ Xt) (h:= ?_);refine aG 10 [14] (hS:=au _ Xt) (h:= ?_);refine aG 11 [14] (hS:=au _ Xt) (h:= ?_);(try simp only [rl]);refine aL 12 (h:=fun K hK=> ?_);(try simp only [rl]);go_simp;refine hK.out _ _ (fun _=>au _ Xt) ?_;clear hK K;(try simp only [rl]);refine aL 13 (h:=fun K hK=> ?_);(try simp only [rl]);go_simp;refine hK.out _ _ (fun _=>au _ Xt) ?_;clear hK K;(try simp only [rl]);refine aL 14 (h:=fun K hK=> ?_);(try simp only [rl]);go_simp;refine br hK (h:= ?_);clear hK K;(try simp only [rl]);refine dw (by kernel_rfl) ?_ _;have iD:aC w2 w.heap.size x ka kc (some ⟨b',o',none⟩) lc:=af.ext (w:=wb) hb2 ag;have lh:aN w2 (w.heap.size+1):=af.ext (w:=wb) hb2 ai;have ay:=ai.lt;have hwz:=hw.size;have fB:Hid (∀b,S b->b<w.heap.size):=fun b h=>Nat.lt_of_lt_of_le (hS.out b h) hwz
   have bJ:Hid (r.In w2 (fun b=>(S b\/w.heap.size+2<=b)/\b≠w2.heap.size) aX aY aZ bf):=bn.mono (fun b h hlt=>by
    rcases h with h|h
    ·have:=fB.out b h;exact⟨.inl h,by omega⟩
    ·simp at h;exact⟨.inr (by omega),by omega⟩)
   have hx2:Ext w w2:=Xt;clear bn au ag ai;go_upto_region 7 with fail
   refine aI (R:=fun wx=>aC wx w.heap.size x ka kc (some ⟨b',o',none⟩) lc/\aN wx (w.heap.size+1)/\aC wx w2.heap.size r aX aY aZ bf/\r.In wx (fun b=>S b\/w.heap.size+2<=b) aX aY aZ bf/\Ext w wx)
    ⟨aj,aj,aj,bJ.out.keep (Held.kept (Held.mono (S:=fun b=>b≠w2.heap.size) (a:=w2) aB (fun b h=>h.2))) (fun _ h _=>h.1),Xt⟩ ?_
   clear iD lh bJ;rintro wd ⟨ag,ai,dP,hjn,iB⟩;have aT:=ae hjn;clear hjn hx2 hb2 rec;by_cases her:er=0
   ·subst her
    simp only [if_true];obtain⟨gP,fU,hst,gQ⟩:=(V.df ..).1 aH.out;have hll:=x.jO;have Cl:=ae (fun w' (e:Ext w w')=>Fj x.l _ _ _ S w' rfl fU (by omega) (gQ.ext e));have aP:=ae hst;clear hst gQ;go_upto_region 9 with fail
    refine aI (R:=fun wx=>aC wx w.heap.size x ka kc (some ⟨b',o',none⟩) lc/\aN wx (w.heap.size+1)/\aC wx w2.heap.size r aX aY aZ bf/\ (r).In wx (fun b=>S b\/w.heap.size+2<=b) aX aY aZ bf/\Ext w wx) ⟨aj,aj,aj,aT.out.ext Xt,Xt⟩ ?_;clear ag ai dP;rintro wc ⟨ag,ai,dP,hjn,fg⟩;obtain⟨hc0,ax,hl0⟩:=ag.see;go_upto_region 10 with(go_at_call 61;refine(Cl.out _ Xt).mono ?_;rintro e w3 ⟨a3,c3,rfl,jw,⟨PT,eo,vR⟩,h3⟩;have iD:=af.ext h3 ag;obtain⟨Cr,Ct,Cu⟩:=iD.see)
    obtain⟨g,cur,rfl,hgb,hBg,hcz,hits⟩:=pJ (by omega) rfl eo vR;have vS:(r).In w3 (fun b=>(S b\/w.heap.size+2<=b)/\b<wc.heap.size) aX aY aZ bf:=(hjn.mono (fun b h hlt=>⟨h,hlt⟩)).ext h3;have ay:=ai.lt;have pH:=dP.lt;have lh:=af.ext h3 ai;have Cv:=af.ext h3 dP;have hx3:Ext w w3:=Xt;have fV:=ae hits;have Cw:=ae vS;clear hits eo vR hjn vS ag ai dP h3 hc0 ax hl0;refine aI (R:=fun wx=>aC wx w.heap.size x ka kc (some ⟨g,0,none⟩) c3/\aN wx (w.heap.size+1)/\aC wx w2.heap.size r aX aY aZ bf/\af wx g cur 36/\Held (fun b=>b≠w.heap.size) w3 wx/\Ext w wx) ⟨aj,aj,aj,aj,aB,Xt⟩ ?_;clear iD lh Cv hBg Cr Ct Cu;rintro wx ⟨ag,ai,dP,hBg,gX,nC⟩;have pq:w.heap.size+2<=wc.heap.size:=ay;have rb:Hid (∀i (h:i<x.l.length),V.Item wx (fun b=>(S b\/w.heap.size+2<=b)/\b<wc.heap.size) g (i*5) x.l[i]):=fun i h=>((fV.out i h).keep' (T:=fun b=>b≠w.heap.size) (by simp;omega) gX.kept (fun b h=>by have:=fB.out b h;simp;omega)).mono (fun b h=>⟨.inl h,by have:=fB.out b h;omega⟩);have Cx:Hid ((r).In wx (fun b=>(S b\/w.heap.size+2<=b)/\b<wc.heap.size) aX aY aZ bf):=Cw.out.keep (Held.kept (gX.mono (fun b h=>by rcases h.1 with h|h;(have:=fB.out b h;simp;omega);(simp;omega)))) (fun _ h _=>h);obtain⟨hc0,ax,hl0⟩:=ag.see;obtain⟨su,iW,pH⟩:=dP.see;obtain⟨yl,ym,yo⟩:=hBg.see;have hq0:(0:Int)<= (q:Int):=by omega
    have hq1:(q:Int)<(x.l.length:Int):=by omega
    have kD:Hid (wx.there g (q*5) 5):=Ff hBg (by omega);clear yl ym;go_upto_region 11 with(refine wpList_store_mid rfl 36 _ _ rfl g (q*5) #[.int .i64 r.k, .int .i64 r.n, .string r.s, .slice aX r.keys.length aY, .slice aZ r.l.length bf] (by rfl) (by rfl) (by exact kD.out) Tryz.Fg (all_oneCell_toArray (V.lY (r) aX aY aZ bf)) ?_)
    have rf:∀i (h:i<(x.l.set q (r)).length),V.Item (wx.setCells g (q*5) (V.five (r) aX aY aZ bf)) (fun b=>(S b\/w.heap.size+2<=b)/\b<wc.heap.size) g (i*5) (x.l.set q (r))[i]:=
     Fe hBg rb.out hi hcz Cx.out (hBg.jx _ _ _ _ _ _) (Held.kept (Held.jx (Held.refl _ _) (by simp;omega) _ _))
    refine aI (R:=fun wy=>aC wy w.heap.size x ka kc (some ⟨g,0,none⟩) c3/\aN wy (w.heap.size+1)/\ (∀i (h:i<(x.l.set q (r)).length),V.Item wy (fun b=>(S b\/w.heap.size+2<=b)/\b<wc.heap.size) g (i*5) (x.l.set q (r))[i])/\Ext w wy)
     ⟨ag.mG (by omega) _ _,ai.mG (by omega) _ _,rf,nC.jx (by omega) _ _⟩ ?_
    clear ag ai dP hBg hc0 ax hl0 su iW pH yo rf gX nC kD fV rb;rintro wy ⟨ag,ai,hits,hxy⟩;obtain⟨hc0,ax,hl0⟩:=ag.see;obtain⟨hc1,aA,ay⟩:=ai.see;have fV:=ae hits;clear hits;go_wp2_with fail;refine aF (h:= ?_)
    skip;skip
    refine⟨ka,kc,some ⟨g,0,none⟩,c3,?_,(V.df ..).2 ⟨gP,?_,aP.out.keep (Ext.kept Xt _) (fun b h _=> .inl h), .inr ⟨g,0,rfl, .inr (by omega),fun i hi=> ?_⟩⟩,Xt⟩
    ·simp [V.jK,V.val]
    ·simpa [V.jK] using jw
    ·rw [Nat.zero_add]
     exact((fV.out i hi).keep' (T:=fun b=>b≠w.heap.size+1) (by simp;omega) (Held.kept (a:=wy) aB) (fun b h=>by rcases h.1 with h|h;(have:=fB.out b h;simp;omega);(simp;omega))).mono (fun b h=>by rcases h.1 with h|h;exact .inl h;exact .inr (by omega))
   ·have he:(er !=0)=true:=by simpa using her
    simp only [if_neg her];obtain⟨hc0,ax,hl0⟩:=ag.see;obtain⟨hc1,aA,ay⟩:=ai.see;go_wp2_with fail;refine aF (h:= ?_);exact⟨ka,kc,_,lc,rfl,(aH.out.ext Xt).mono (fun b h _=> .inl h),Xt⟩
 · (try simp only [rl])
   go_simp;refine hK.out _ _ (fun _=>au _ Xt) ?_;clear hK K;(try simp only [rl]);refine aL 8 (h:=fun K hK=> ?_);(try simp only [rl]);(try go_simp);(refine(rec.out cp ct cu cw _ Xt (hin'.ext Xt)).mono ?_);rintro e w2 ⟨aX,aY,aZ,bf,rfl,bn,h2⟩;(try go_simp);have hb2:Ext wb w2:=Xt;have hz2:=hb2.size;have pA:aN w2 wb.heap.size:=af.ext h2 (af.new _ _ _ (by simp));clear h2;obtain⟨vT,vU,vV⟩:=pA.see;refine hK.out _ _ (fun _=>au _ Xt) ?_;clear hK K;refine aG 9 [14] (hS:=au _ Xt) (h:= ?_);refine aG 10 [14] (hS:=au _ Xt) (h:= ?_);refine aG 11 [14] (hS:=au _ Xt) (h:= ?_);(try simp only [rl]);refine aL 13 (h:=fun K hK=> ?_);(try simp only [rl]);go_simp;refine hK.out _ _ (fun _=>au _ Xt) ?_;clear hK K;(try simp only [rl]);refine aL 14 (h:=fun K hK=> ?_);(try simp only [rl]);go_simp;refine br hK (h:= ?_);clear hK K;(try simp only [rl]);refine dw (by kernel_rfl) ?_ _;have iD:aC w2 w.heap.size x ka kc (some ⟨b',o',none⟩) lc:=af.ext (w:=wb) hb2 ag;have lh:aN w2 (w.heap.size+1):=af.ext (w:=wb) hb2 ai;have ay:=ai.lt;have hwz:=hw.size;have fB:Hid (∀b,S b->b<w.heap.size):=fun b h=>Nat.lt_of_lt_of_le (hS.out b h) hwz
   have bJ:Hid (r.In w2 (fun b=>(S b\/w.heap.size+2<=b)/\b≠wb.heap.size) aX aY aZ bf):=bn.mono (fun b h hlt=>by
    rcases h with h|h
    ·have:=fB.out b h;exact⟨.inl h,by omega⟩
    ·simp at h;exact⟨.inr (by omega),by omega⟩)
   have hx2:Ext w w2:=Xt;clear bn au ag ai;go_upto_region 7 with fail
   refine aI (R:=fun wx=>aC wx w.heap.size x ka kc (some ⟨b',o',none⟩) lc/\aN wx (w.heap.size+1)/\aC wx wb.heap.size r aX aY aZ bf/\r.In wx (fun b=>S b\/w.heap.size+2<=b) aX aY aZ bf/\Ext w wx)
    ⟨aj,aj,aj,bJ.out.keep (Held.kept (Held.mono (S:=fun b=>b≠wb.heap.size) (a:=w2) aB (fun b h=>h.2))) (fun _ h _=>h.1),Xt⟩ ?_
   clear iD lh bJ;rintro wd ⟨ag,ai,dP,hjn,iB⟩;have aT:=ae hjn;clear hjn hx2 hb2 rec;by_cases her:er=0
   ·subst her
    simp only [if_true];obtain⟨gP,fU,hst,gQ⟩:=(V.df ..).1 aH.out;have hll:=x.jO;have Cl:=ae (fun w' (e:Ext w w')=>Fj x.l _ _ _ S w' rfl fU (by omega) (gQ.ext e));have aP:=ae hst;clear hst gQ;go_upto_region 9 with fail
    refine aI (R:=fun wx=>aC wx w.heap.size x ka kc (some ⟨b',o',none⟩) lc/\aN wx (w.heap.size+1)/\aC wx wb.heap.size r aX aY aZ bf/\ (r).In wx (fun b=>S b\/w.heap.size+2<=b) aX aY aZ bf/\Ext w wx) ⟨aj,aj,aj,aT.out.ext Xt,Xt⟩ ?_;clear ag ai dP;rintro wc ⟨ag,ai,dP,hjn,fg⟩;obtain⟨hc0,ax,hl0⟩:=ag.see;go_upto_region 10 with(go_at_call 61;refine(Cl.out _ Xt).mono ?_;rintro e w3 ⟨a3,c3,rfl,jw,⟨PT,eo,vR⟩,h3⟩;have iD:=af.ext h3 ag;obtain⟨Cr,Ct,Cu⟩:=iD.see)
    obtain⟨g,cur,rfl,hgb,hBg,hcz,hits⟩:=pJ (by omega) rfl eo vR;have vS:(r).In w3 (fun b=>(S b\/w.heap.size+2<=b)/\b<wc.heap.size) aX aY aZ bf:=(hjn.mono (fun b h hlt=>⟨h,hlt⟩)).ext h3;have ay:=ai.lt;have pH:=dP.lt;have lh:=af.ext h3 ai;have Cv:=af.ext h3 dP;have hx3:Ext w w3:=Xt;have fV:=ae hits;have Cw:=ae vS;clear hits eo vR hjn vS ag ai dP h3 hc0 ax hl0;refine aI (R:=fun wx=>aC wx w.heap.size x ka kc (some ⟨g,0,none⟩) c3/\aN wx (w.heap.size+1)/\aC wx wb.heap.size r aX aY aZ bf/\af wx g cur 36/\Held (fun b=>b≠w.heap.size) w3 wx/\Ext w wx) ⟨aj,aj,aj,aj,aB,Xt⟩ ?_;clear iD lh Cv hBg Cr Ct Cu;rintro wx ⟨ag,ai,dP,hBg,gX,nC⟩;have pq:w.heap.size+2<=wc.heap.size:=ay;have rb:Hid (∀i (h:i<x.l.length),V.Item wx (fun b=>(S b\/w.heap.size+2<=b)/\b<wc.heap.size) g (i*5) x.l[i]):=fun i h=>((fV.out i h).keep' (T:=fun b=>b≠w.heap.size) (by simp;omega) gX.kept (fun b h=>by have:=fB.out b h;simp;omega)).mono (fun b h=>⟨.inl h,by have:=fB.out b h;omega⟩);have Cx:Hid ((r).In wx (fun b=>(S b\/w.heap.size+2<=b)/\b<wc.heap.size) aX aY aZ bf):=Cw.out.keep (Held.kept (gX.mono (fun b h=>by rcases h.1 with h|h;(have:=fB.out b h;simp;omega);(simp;omega)))) (fun _ h _=>h);obtain⟨hc0,ax,hl0⟩:=ag.see;obtain⟨su,iW,pH⟩:=dP.see;obtain⟨yl,ym,yo⟩:=hBg.see;have hq0:(0:Int)<= (q:Int):=by omega
    have hq1:(q:Int)<(x.l.length:Int):=by omega
    have kD:Hid (wx.there g (q*5) 5):=Ff hBg (by omega);clear yl ym;go_upto_region 11 with(refine wpList_store_mid rfl 36 _ _ rfl g (q*5) #[.int .i64 r.k, .int .i64 r.n, .string r.s, .slice aX r.keys.length aY, .slice aZ r.l.length bf] (by rfl) (by rfl) (by exact kD.out) Tryz.Fg (all_oneCell_toArray (V.lY (r) aX aY aZ bf)) ?_)
    have rf:∀i (h:i<(x.l.set q (r)).length),V.Item (wx.setCells g (q*5) (V.five (r) aX aY aZ bf)) (fun b=>(S b\/w.heap.size+2<=b)/\b<wc.heap.size) g (i*5) (x.l.set q (r))[i]:=
     Fe hBg rb.out hi hcz Cx.out (hBg.jx _ _ _ _ _ _) (Held.kept (Held.jx (Held.refl _ _) (by simp;omega) _ _))
    refine aI (R:=fun wy=>aC wy w.heap.size x ka kc (some ⟨g,0,none⟩) c3/\aN wy (w.heap.size+1)/\ (∀i (h:i<(x.l.set q (r)).length),V.Item wy (fun b=>(S b\/w.heap.size+2<=b)/\b<wc.heap.size) g (i*5) (x.l.set q (r))[i])/\Ext w wy)
     ⟨ag.mG (by omega) _ _,ai.mG (by omega) _ _,rf,nC.jx (by omega) _ _⟩ ?_
    clear ag ai dP hBg hc0 ax hl0 su iW pH yo rf gX nC kD fV rb;rintro wy ⟨ag,ai,hits,hxy⟩;obtain⟨hc0,ax,hl0⟩:=ag.see;obtain⟨hc1,aA,ay⟩:=ai.see;have fV:=ae hits;clear hits;go_wp2_with fail;refine aF (h:= ?_)
    skip;skip
    refine⟨ka,kc,some ⟨g,0,none⟩,c3,?_,(V.df ..).2 ⟨gP,?_,aP.out.keep (Ext.kept Xt _) (fun b h _=> .inl h), .inr ⟨g,0,rfl, .inr (by omega),fun i hi=> ?_⟩⟩,Xt⟩
    ·simp [V.jK,V.val]
    ·simpa [V.jK] using jw
    ·rw [Nat.zero_add]
     exact((fV.out i hi).keep' (T:=fun b=>b≠w.heap.size+1) (by simp;omega) (Held.kept (a:=wy) aB) (fun b h=>by rcases h.1 with h|h;(have:=fB.out b h;simp;omega);(simp;omega))).mono (fun b h=>by rcases h.1 with h|h;exact .inl h;exact .inr (by omega))
   ·have he:(er !=0)=true:=by simpa using her
    simp only [if_neg her];obtain⟨hc0,ax,hl0⟩:=ag.see;obtain⟨hc1,aA,ay⟩:=ai.see;go_wp2_with fail;refine aF (h:= ?_);exact⟨ka,kc,_,lc,rfl,(aH.out.ext Xt).mono (fun b h _=> .inl h),Xt⟩
end Go.Proofs.YtlcebdaghmdkeabGreatDoor
namespace Go.Proofs.YtlcebdaghmdkeabGreatDoor
open Go.Proofs.Tryz
open Go.RowKit
theorem Zf (F:lH) (S:aw) (lA:FuncId) (pZ:Array Value) (w0:World) (hS:Hid (∀b,S b->b<w0.heap.size)) (hE:Hid (∀args w,(callFunc lA args).run prog w= .ok (.enter lA args) w)) (hD:Hid (Does F S lA pZ w0)) (hl:cS w0):
 ∀(ks:List ah) (x:V) (ka:aq) (kc:Nat) (la:aq) (lc:Nat) (a:aq) (n c:Nat) (T:aw) (w:World),ks≠ []->ks.length=n->n<=1073741824->n<=c->c<=maxLen-> (∀k∈ks,k.size<=8000)->x.sound->x.size<=1073741824->Ext w0 w->x.In w S ka kc la lc->bC w T a ks->
  Calls prog 235 #[x.val ka kc la lc, .slice a n c, .func (Fn.func lA) #[] pZ] w (eO S (bO F ks x).1 (.int .i64 (bO F ks x).2) w):=by
 intro ks
 induction ks with
 |nil=>intro x _ _ _ _ _ _ _ _ _ h;exact absurd rfl h
 |cons k ks ih=>
  intro x ka kc la lc a n c T w _ hn hnb hnc hcb hks cK hsz hw hin hst;obtain⟨b,o,rfl,-,hc⟩:=hst.resolve_left (by simp);have h0:=hc 0 (by simp);simp only [Nat.add_zero,List.getElem_cons_zero] at h0
  cases ks with
  |nil=>
   simp only [List.length_singleton] at hn;subst hn;rw [DR];exact at_one F S lA pZ w0 hS hE hD k x ka kc la lc b o c w (hks k (by simp)) cK hsz hw hin h0
  |cons k2 r=>
   have kx:2<=n:=by simp at hn;omega
   cases hch:x.child k with
   |none=>
    rw [DT hch];exact Zc S _ w0 k x ka kc la lc b o n c w (hks k (by simp)) kx hnb cK hsz hin h0 (hl.ext hw) hch
   |some i=>
    have hi:=uX cK hch;have he:bO F (k::k2::r) x=(if(bO F (k2::r) x.l[i]).2=0 then x.jK i (bO F (k2::r) x.l[i]).1 else x,(bO F (k2::r) x.l[i]).2):=by
     rw [DU hch hi]
     split
     ·rename_i h;rw [h]
     ·rfl
    rw [he];refine Ze S _ w0 hS k x ka kc la lc b o n c w i _ _ (hks k (by simp)) kx hnc hnb hcb cK hsz hw hin h0 (hl.ext hw) hch hi ?_;intro cp ct cu cw w' hw' hin';have fS:=V.oZ hi;refine ih x.l[i] cp ct cu cw (some ⟨b,o+1,none⟩) (n-1) (c-1) (fun _=>True) w' (by simp) (by simp at hn⊢;omega) (by omega) (by omega) (by omega) (fun k hk=>hks k (by simp [List.mem_cons.1 hk])) (cK.item (List.getElem_mem hi)) (by omega) (hw.trans hw') hin' ?_;refine .inr ⟨b,o+1,rfl,trivial,fun j hj=> ?_⟩;have:=hc (j+1) (by simpa using hj);rw [List.getElem_cons_succ,show o+(j+1)=o+1+j by omega] at this;exact hw'.cell this
end Go.Proofs.YtlcebdaghmdkeabGreatDoor
namespace Go.Proofs.YtlcebdaghmdkeabGreatDoor
open Go.Proofs.Tryz
open Go.RowKit
attribute [local go_sem↓] Go.wp_at_zero Go.wp_at_succ
theorem xh (F:lH) (S:aw) (lA:FuncId) (pZ:Array Value) (w:World) (hS:Hid (∀b,S b->b<w.heap.size)) (hE:Hid (∀args w,(callFunc lA args).run prog w= .ok (.enter lA args) w)) (hD:Hid (Does F S lA pZ w)) (hl:cS w)
 (x:V) (ka:aq) (kc:Nat) (la:aq) (lc:Nat) (p:ah) (hsz:x.size<=1073741824) (hB:Hid (∀ks:List ah,(∀k∈ks,k.size<=8000)-> (bO F ks x).1.size<=1073741824)) (hin:x.In w S ka kc la lc) (hp:p.size<=1073741824):
 Calls prog 214 #[x.val ka kc la lc, .string p, .func (Fn.func lA) #[] pZ] w (eO S (gp x p F).1 (.int .i64 (gp x p F).2) w):=by
 have hm:=hl.max;have aH:=ae hin;clear hin;go_enter func214,ntmps214;go_upto_region 1 with fail
 refine aI (R:=fun wx=>aC wx w.heap.size x ka kc la lc/\aN wx (w.heap.size+1)/\Ext w wx) ⟨aj,aj,Xt⟩ ?_;rintro wa ⟨ag,ai,aD⟩;obtain⟨hc0,ax,hl0⟩:=ag.see;go_wp2_with fail;(refine(zl x ka kc la lc _ p _ hsz (aH.out.ext Xt) hp (hm.ext Xt)).mono ?_);rintro e w2 (⟨a,n,c,ks,hnb,hfi,rfl,hn,hok,hst,h2⟩|⟨hbad,rfl,h2⟩)
 ·have pY:gp x p F=if ks= [] then(x,1) else if(bO F ks x).2=0 then(if(bO F ks x).1.fine=true then((bO F ks x).1,0) else(x,2)) else(x,(bO F ks x).2):=by
   unfold gp;rw [hnb];simp only;rw [if_neg (by rw [hfi];decide)]
  have hsm:=(A4 hnb).2;have hlen:=(A4 hnb).1;have Aa:=ae pY;have cK:=gG hfi;have zt:=ae hsm;have aP:=ae hst;have ag:=af.ext h2 ag;have ai:=af.ext h2 ai;have hx2:Ext w w2:=Xt;clear h2 hc0 ax hl0 aD pY hnb hsm hst hfi;subst hn;obtain⟨hc0,ax,hl0⟩:=ag.see;obtain⟨hc1,aA,ay⟩:=ai.see;by_cases gM:ks= []
  ·subst gM
   go_wp2_with fail;refine aF (h:= ?_);rw [Aa.out,if_pos trivial];exact⟨ka,kc,la,lc,rfl,(aH.out.ext Xt).mono (fun b h _=> .inl h),Xt⟩
  ·have hks:((ks.length:Int)==0)=false:=by
    have:=List.length_pos_iff.2 gM;simp;omega
   have p5:=ae gM;clear gM;go_wp2_with fail;(refine(Zf F S lA pZ w hS hE hD hl ks x ka kc la lc a ks.length c _ _ p5.out rfl (by omega) hok.1 hok.2.1 zt.out cK hsz Xt (aH.out.ext Xt) (aP.out.ext Xt)).mono ?_);rintro e w3 ⟨aX,aY,aZ,bf,rfl,bn,h3⟩;have hx3:Ext w w3:=Xt;have hz2:=ai.lt;have dv:(bO F ks x).1.In w3 (fun b=>S b\/w.heap.size+2<=b) aX aY aZ bf:=bn.mono (fun b h _=>by rcases h with h|h;exact .inl h;exact .inr (by(try simp at h);omega));have ag:=af.ext (w:=w2) (w':=w3) Xt ag;have ai:=af.ext (w:=w2) (w':=w3) Xt ai;have eP:=ae dv;clear h3 bn dv hc0 ax hl0 hc1 aA ay hx2 aP;go_upto_region 7 with fail
   refine aI (R:=fun wx=>aC wx w.heap.size x ka kc la lc/\aN wx (w.heap.size+1)/\af wx w3.heap.size #[.int .i64 (bO F ks x).1.k, .int .i64 (bO F ks x).1.n, .string (bO F ks x).1.s, .slice aX (bO F ks x).1.keys.length aY, .slice aZ (bO F ks x).1.l.length bf] 36/\ (bO F ks x).1.In wx (fun b=>S b\/w.heap.size+2<=b) aX aY aZ bf/\Ext w wx) ⟨aj,aj,aj,eP.out.ext Xt,Xt⟩ ?_;have aS:=ai.lt;clear ag ai eP hx3;rintro wd ⟨ag,ai,dP,hjn,iB⟩;have aT:=ae hjn;clear hjn;by_cases her:(bO F ks x).2=0
   ·have he:((bO F ks x).2 !=0)=false:=by simpa using her
    have Fk:=ae her;have Zg:=hB.out ks zt.out;clear her;obtain⟨su,iW,pH⟩:=dP.see;have ax:(bO F ks x).1.fine=false\/ (bO F ks x).1.fine=true:=by cases (bO F ks x).1.fine<;>simp
    rcases ax with hf|hf
    all_goals
     have Hf:=ae hf;go_wp2_with fail;(refine(cU (bO F ks x).1 aX aY aZ bf _ _ Zg (aT.out.ext Xt)).mono ?_);rintro e w4 ⟨rfl,h4⟩;rw [hf];have ag:=af.ext h4 ag;have ai:=af.ext h4 ai;have dP:=af.ext h4 dP;have bP:Ext w w4:=Xt;have PU:=aT.out.ext h4;clear h4 su iW pH iB;obtain⟨hc0,ax,hl0⟩:=ag.see;obtain⟨hc1,aA,ay⟩:=ai.see;obtain⟨su,iW,pH⟩:=dP.see
    ·go_wp2_with fail
     refine aF (h:= ?_);rw [Aa.out,if_neg p5.out,if_pos Fk.out,if_neg (by rw [Hf.out];decide)];exact⟨ka,kc,la,lc,rfl,(aH.out.ext Xt).mono (fun b h _=> .inl h),Xt⟩
    ·have Zh:=ae PU
     clear PU;go_wp2_with fail;refine aF (h:= ?_);rw [Aa.out,if_neg p5.out,if_pos Fk.out,if_pos Hf.out];exact⟨aX,aY,aZ,bf,rfl,Zh.out.keep (Held.kept (Held.mono (S:=fun b=>b≠w.heap.size+1) (a:=w4) aB (fun b h=>by rcases h with h|h;(have:=hS.out b h;simp;omega);(simp;omega)))) (fun b h _=>by rcases h with h|h;exact .inl h;exact .inr (by omega)),Xt⟩
   ·have he:((bO F ks x).2 !=0)=true:=by simpa using her
    have Fk:=ae her;clear her;obtain⟨hc0,ax,hl0⟩:=ag.see;obtain⟨hc1,aA,ay⟩:=ai.see;go_wp2_with fail;refine aF (h:= ?_);rw [Aa.out,if_neg p5.out,if_neg Fk.out];exact⟨ka,kc,la,lc,rfl,(aH.out.ext Xt).mono (fun b h _=> .inl h),Xt⟩
 ·have pY:gp x p F=(x,1):=by
   unfold gp;rcases hbad with h|h
   ·rw [h]
   ·cases cI p<;>simp [h]
  have Aa:=ae pY;have ag:=af.ext h2 ag;have ai:=af.ext h2 ai;have hx2:Ext w w2:=Xt;clear h2 hc0 ax hl0 aD pY hbad;obtain⟨hc0,ax,hl0⟩:=ag.see;obtain⟨hc1,aA,ay⟩:=ai.see;go_wp2_with fail;refine aF (h:= ?_);rw [Aa.out];exact⟨ka,kc,la,lc,rfl,(aH.out.ext Xt).mono (fun b h _=> .inl h),Xt⟩
theorem aci (x:V) (ka:aq) (kc:Nat) (la:aq) (lc:Nat) (name:ah) (S:aw) (w:World) (hl:cS w) (cK:x.sound) (hsz:x.size<=1073741824) (hn:name.size<=8000) (hin:x.In w S ka kc la lc) (hc:Hid (x.child name=none)):
 Calls prog 216 #[x.val ka kc la lc, .string name] w (eO S x (.int .i64 3) w):=by
 have aH:=ae hin;clear hin;go_enter func216,ntmps216;go_upto_region 1 with fail
 refine aI (R:=fun wx=>aC wx w.heap.size x ka kc la lc/\aN wx (w.heap.size+1)/\Ext w wx) ⟨aj,aj,Xt⟩ ?_;rintro wa ⟨ag,ai,aD⟩;obtain⟨hc0,ax,hl0⟩:=ag.see;go_wp2_with fail;(refine(tP x ka kc la lc _ name _ cK hsz (by omega) (aH.out.ext Xt) (hl.ext Xt)).mono ?_);rintro e w1 ⟨q,rfl,-,h1⟩;rw [hc.out];have ag:=af.ext h1 ag;have ai:=af.ext h1 ai;have hx1:Ext w w1:=Xt;clear h1 aD hc0 ax hl0;obtain⟨hc0,ax,hl0⟩:=ag.see;obtain⟨hc1,aA,ay⟩:=ai.see;go_wp2_with fail;refine aF (h:= ?_);exact⟨ka,kc,la,lc,rfl,(aH.out.ext Xt).mono (fun b h _=> .inl h),Xt⟩
theorem acj (x:V) (ka:aq) (kc:Nat) (la:aq) (lc:Nat) (name:ah) (S:aw) (w:World) (fB:Hid (∀b,S b->b<w.heap.size)) (hl:cS w) (cK:x.sound) (hsz:x.size<=1073741824) (hn:name.size<=8000) (hin:x.In w S ka kc la lc) (i:Nat) (hc:Hid (x.child name=some i)) (h5:x.k=5):
 Calls prog 216 #[x.val ka kc la lc, .string name] w (eO S (x.del name) (.int .i64 0) w):=by
 have aH:=ae hin;have Hr:=ae cK.flat.eG;have mU:(x.k==5)=true:=by simpa using h5
 clear hin h5;go_enter func216,ntmps216;go_upto_region 1 with fail
 refine aI (R:=fun wx=>aC wx w.heap.size x ka kc la lc/\aN wx (w.heap.size+1)/\Ext w wx) ⟨aj,aj,Xt⟩ ?_;rintro wa ⟨ag,ai,aD⟩;obtain⟨hc0,ax,hl0⟩:=ag.see;go_wp2_with fail;(refine(tP x ka kc la lc _ name _ cK hsz (by omega) (aH.out.ext Xt) (hl.ext Xt)).mono ?_);rintro e w1 ⟨q,rfl,-,h1⟩;rw [hc.out];have ag:=af.ext h1 ag;have ai:=af.ext h1 ai;have hx1:Ext w w1:=Xt;clear h1 aD hc0 ax hl0;obtain⟨hc0,ax,hl0⟩:=ag.see;go_wp2_with fail;(refine(Bc x ka kc la lc name S _ hsz Hr.out (aH.out.ext Xt)).mono ?_);rintro e w2 ⟨iH,iI,iJ,iK,rfl,fc,h2⟩;have ay:=ai.lt;have bR:(x.del name).In w2 (fun b=>S b\/w.heap.size+2<=b) iH iI iJ iK:=fc.mono (fun b h _=>by rcases h with h|h;exact .inl h;exact .inr (by(try simp at h);omega));have ai:=af.ext (w:=w1) (w':=w2) Xt ai;have hx2:Ext w w2:=Xt;have cn:=ae bR;clear h2 hx1 hc0 ax hl0 fc bR ag;obtain⟨hc1,aA,ay⟩:=ai.see;go_wp2_with fail;refine aF (h:= ?_);exact⟨iH,iI,iJ,iK,rfl,cn.out.keep (Held.kept (Held.mono (S:=fun b=>b≠w.heap.size+1) (a:=w2) aB (fun b h=>by rcases h with h|h;(have:=fB.out b h;simp;omega);(simp;omega)))) (fun b h _=>by rcases h with h|h;exact .inl h;exact .inr (by omega)),Xt⟩
theorem ack (x:V) (ka:aq) (kc:Nat) (la:aq) (lc:Nat) (name:ah) (S:aw) (w:World) (fB:Hid (∀b,S b->b<w.heap.size)) (hl:cS w) (cK:x.sound) (hsz:x.size<=1073741824) (hn:name.size<=8000) (hin:x.In w S ka kc la lc) (i m:Nat) (hc:Hid (x.child name=some i)) (hm:Hid (x.l.length=m+1)) (him:i<=m) (h5:x.k≠5):
 Calls prog 216 #[.agg #[.int .i64 x.k, .int .i64 x.n, .string x.s, .slice ka x.keys.length kc, .slice la (m+1) lc], .string name] w (eO S (x.AY i) (.int .i64 0) w):=by
 have mU:(x.k==5)=false:=by simpa using h5
 have af5:m+1<=1073741824:=by have:=x.jO;have:=hm.out;omega
 obtain⟨gP,fU,hst,gQ⟩:=(V.df ..).1 hin;obtain⟨news,hnl,lg,jn⟩:=zm gQ;rw [hm.out] at hnl lg fU;have h1c:=jn.one;have cl:∀w',Ext w w'->Calls prog 61 #[.slice la (m+1) lc] w' fun e w''=>∃a' c',e= .returned (.slice a' (m+1) c')/\aM a' (m+1) c'/\w''.ownsRow w'.heap.size 36 5 (.slice a' (m+1) c') (m+1) news/\Ext w' w'':=fun w' e=>
  zn la (m+1) lc news w' fU (by omega) hnl (by rcases lg with h|⟨ad,h,h'⟩;exact .inl h;exact .inr ⟨ad,h,fun j u hj=>e.cell (h' j u hj)⟩) h1c
 have Sh:∀w',Ext w w'->Calls prog 46 #[.agg #[.int .i64 x.k, .int .i64 x.n, .string x.s, .slice ka x.keys.length kc, .slice la (m+1) lc], .string name] w' (MX (x.child name) w'):=fun w' e=>by have:=tP x ka kc la lc _ name w' cK hsz (by omega) (hin.ext e) (hl.ext e);rw [V.val,hm.out] at this;exact this
 have Cl:=ae cl;have Chd:=ae Sh;have kI:=ae h1c;have kj:=ae jn;have aP:=ae hst;clear cl Sh h1c jn hst hin hnl lg gQ h5;have hi0:(0:Int)<= (i:Int):=by omega
 have hw1:IntKind.i64.wrap ((i:Int)+1)=(i:Int)+1:=by rw [IntKind.wrap_i64];omega
 go_enter func216,ntmps216;go_upto_region 1 with fail
 refine aI (R:=fun wx=>af wx w.heap.size #[.int .i64 x.k, .int .i64 x.n, .string x.s, .slice ka x.keys.length kc, .slice la (m+1) lc] 36/\aN wx (w.heap.size+1)/\Ext w wx) ⟨aj,aj,Xt⟩ ?_;rintro wa ⟨ag,ai,aD⟩;obtain⟨hc0,ax,hl0⟩:=ag.see;go_wp2_with fail;(refine(Chd.out _ Xt).mono ?_);rintro e w1 ⟨q,rfl,hq,h1⟩;obtain rfl:=hq i hc.out;rw [hc.out];have ag:=af.ext h1 ag;have ai:=af.ext h1 ai;have acm:w.heap.size+2<=w1.heap.size:=ai.lt;have hx1:Ext w w1:=Xt;clear h1 aD hc0 ax hl0 hq;obtain⟨hc0,ax,hl0⟩:=ag.see;go_wp2_with fail;(refine(Cl.out _ Xt).mono ?_);rintro e w2 ⟨a2,c2,rfl,jw,hown2,h2⟩;have hx2:Ext w w2:=Xt;have hb2:Ext w1 w2:=Xt;have ag:=af.ext hb2 ag;have ai:=af.ext hb2 ai;have ay:=ai.lt;have dQ:Hid (∀g,(Value.slice a2 (m+1) c2).ownBlock=some g->w1.heap.size<=g):=fun g hg=>(hown2.lt g hg).1;have kJ:=ae (pI (b0:=w.heap.size+2) hown2 acm);clear h2 hx1 hc0 ax hl0 hown2;go_wp2_with fail;(refine(Si _ q m c2 a2 news _ kJ.out him kI.out).mono ?_);rintro e w3 ⟨rfl,eo,jC⟩;have hx3:Ext w w3:=Ext.grown hx2 jC (fun g hg=>by have:=dQ.out g hg;omega);have ag:=af.grown ag jC (fun e=>by have:=dQ.out _ e.symm;omega);have ai:=af.grown ai jC (fun e=>by have:=dQ.out _ e.symm;omega);have jP:aM a2 m c2:=by obtain⟨a4,c4,cM,h⟩:=fG eo;simp only [Value.slice.injEq,true_and] at cM;obtain⟨rfl,rfl⟩:=cM;exact h
 have hrows:Rows w3 (fun b=>S b\/w.heap.size+2<=b) (x.l.take q++x.l.drop (q+1)) a2:=by
  have hcc:=(kj.out.keep (hx3.kept _) (fun b h _=>h)).del q;by_cases hm0:m=0
  ·refine .inl (List.eq_nil_of_length_eq_zero ?_)
   simp [hm.out];omega
  ·obtain⟨g7,cur,km,hgb,hBg,hcz,hits⟩:=pJ (by omega) (by simp [hm.out];omega) eo hcc
   exact .inr ⟨g7,0,km, .inr (by omega),fun i hi=>by rw [Nat.zero_add];exact(hits i hi).mono (fun b h=> .inl h)⟩
 have yK:=ae hrows;clear eo jC hrows dQ kJ hb2 hx2;obtain⟨hc0,ax,hl0⟩:=ag.see;go_upto_region 7 with fail
 refine aI (R:=fun wy=>af wy w.heap.size #[.int .i64 x.k, .int .i64 x.n, .string x.s, .slice ka x.keys.length kc, .slice a2 m c2] 36/\aN wy (w.heap.size+1)/\Held (fun b=>b≠w.heap.size) w3 wy/\Ext w wy) ⟨aj,aj,aB,Xt⟩ ?_;clear ag ai hc0 ax hl0;rintro wy ⟨ag,ai,lI,hxy⟩;obtain⟨hc0,ax,hl0⟩:=ag.see;obtain⟨hc1,aA,ay⟩:=ai.see;go_wp2_with fail;refine aF (h:= ?_);have e2:(x.l.take q++x.l.drop (q+1)).length=m:=by simp [hm.out];omega
 refine⟨ka,kc,a2,c2,?_,(V.df ..).2 ⟨gP,?_,aP.out.keep (Ext.kept Xt _) (fun b h _=> .inl h),?_⟩,Xt⟩
 ·simp only [V.val,V.AY,V.fT,V.dV,V.tN,V.tO,V.ki,e2]
 ·simp only [V.AY,V.dV,e2];exact jP
 ·have h1:Held (fun b=>b≠w.heap.size/\b≠w.heap.size+1) w3 wy:=lI.mono (fun b h=>h.1)
  exact yK.out.keep (Held.kept (Held.mono (S:=fun b=>b≠w.heap.size/\b≠w.heap.size+1) (a:=w3) aB (fun b h=>by rcases h with h|h;(have:=fB.out b h;simp;omega);(simp;omega)))) (fun b h _=>by rcases h with h|h;exact .inl h;exact .inr (by omega))
theorem Vn (S:aw) (w0:World) (hS:∀b,S b->b<w0.heap.size) (hl:cS w0):Does oX S 216 #[] w0:=by
 intro x ka kc la lc name w' hw cK hsz hn hin;have fB:∀b,S b->b<w'.heap.size:=fun b h=>Nat.lt_of_lt_of_le (hS b h) hw.size;show Calls prog 216 #[x.val ka kc la lc, .string name] w' (eO S (oX x name).1 (.int .i64 (oX x name).2) w');unfold oX
 cases hc:x.child name with
 |none=>exact aci x ka kc la lc name S w' (hl.ext hw) cK hsz hn hin hc
 |some i=>
  have hi:=uX cK hc;by_cases h5:x.k=5
  ·simp only [if_pos h5]
   exact acj x ka kc la lc name S w' fB (hl.ext hw) cK hsz hn hin i hc h5
  ·simp only [if_neg h5]
   obtain⟨m,hm⟩:∃m,x.l.length=m+1:=⟨x.l.length-1,by omega⟩;have:=ack x ka kc la lc name S w' fB (hl.ext hw) cK hsz hn hin i m hc hm (by omega) h5;rw [V.val,hm];exact this
theorem Vm (args:Array Value) (w:World):(callFunc 216 args).run prog w= .ok (.enter 216 args) w:=enters func216 (by kernel_rfl) (by rfl) args w
end Go.Proofs.YtlcebdaghmdkeabGreatDoor
namespace Go.Proofs.YtlcebdaghmdkeabGreatDoor
open Go.Proofs.Tryz
open Go.RowKit
theorem acN (base g n cap k vb vc:Nat) (cur:Array Value) (new:List Value) (w:World) (TB:TypeId) (hb:base<=g) (hg:w.heap[g]? =some (.cells cur 58 (0,0))) (hnc:n<cap) (hm:cap<=maxLen) (hcs:cur.size=cap*2)
 (hk:k<n) (hB:af w vb new.toArray TB) (hvb:vb≠g) (hnew:new.length=2) (h1c:∀u∈cur.toList.take (n*2),u.oneCell'=true) (h1:∀u∈new,u.oneCell'=true):
 Calls prog 143 #[.slice (some ⟨g,0,none⟩) n cap, .int .i64 k, .slice (some ⟨vb,0,none⟩) 1 vc] w fun e w'=>e= .returned (.slice (some ⟨g,0,none⟩) (n+1) cap)/\
  w'.ownsRow base 58 2 (.slice (some ⟨g,0,none⟩) (n+1) cap) (n+1) ((cur.toList.take (n*2)).take (k*2)++new++(cur.toList.take (n*2)).drop (k*2))/\w.grownBy w' (some g):=by
 obtain⟨i0,hi,hz0,hz1,hz2⟩:=info_parts Tryz.CH;have hsz:(prog.info? 58).map (·.size)=some 2:=by rw [hi];simp [hz1]
 have hm2:cap<=9223372036854775807:=hm;have zq:(n+1)*2<=cap*2:=Nat.mul_le_mul_right _ hnc;have hB':w.heap[vb]? =some (.cells new.toArray TB (0,0)):=hB;have hov:∀lb cb,(callFunc 185 #[.slice (some ⟨vb,0,none⟩) 1 vc, .slice (some ⟨g,(k+1)*2,none⟩) lb cb]).run prog w= .ok (.value (.bool false)) w:=fun lb cb=>by
  rw [run_callFunc_extern func185 (by kernel_rfl) (by kernel_rfl) (by kernel_rfl) (e:=Extern.SlicesOverlaps.overlaps #[37,37] #[4]) (by kernel_rfl),
   Lib.run_overlaps_apart w 37 4 58 underlying37 2 (by intro w;simp [Go.sizeOf,typeInfo,hi,hz1]) ⟨vb,0,none⟩ ⟨g,(k+1)*2,none⟩ 1 vc lb cb hvb TB 58 new.length cur.size (by simp [World.shape?,hB']) (by simp [World.shape?,hg]) (by rw [hcs];omega) (hB.free 0) (hB.free new.length)]
  rfl
 obtain⟨cs,bU⟩:∃cs,cs=(cur.toList.take (n*2)).drop (k*2):=⟨_,rfl⟩;have hcl:cs.length=(n-k)*2:=by rw [bU];simp;omega
 have hcell:∀j v,cs[j]? =some v->w.drew.cell? ((⟨g,k*2,none⟩:Addr).add j)=some v:=fun j v hj=>by
  rw [Addr.add_lit,bU,List.getElem?_drop,List.getElem?_take] at*
  split at hj
  ·show w.cell? _=_
   rw [cell_of_row w g _ cur _ _ hg];simpa using hj
  ·cases hj
 have hlist:=E8 cur.toList new (k*2) (n*2) (by omega) (by rw [hnew,Array.length_toList,hcs];omega) cs bU;simp only at hlist;obtain⟨ay,hl2,aS⟩:=hlist;have nP:∀ty,(Builtin.copy_ #[37,37] ty #[.slice (some ⟨g,(k+1)*2,none⟩) (n-k) (cap-(k+1)), .slice (some ⟨g,k*2,none⟩) (n+1-k) (cap-k)]).run prog w.drew= .ok (goInt (n-k:Nat)) (w.drew.setRow g (cur.toList.take ((k+1)*2)++cs++cur.toList.drop ((k+1)*2+cs.length)).toArray):=fun ty=>
  mF w.drew _ _ ty 58 2 g ((k+1)*2) _ _ ⟨g,k*2,none⟩ _ _ cur 58 cs (n-k) underlying37 hsz (by simp only [Nat.min_def];split<;>omega) hg hcl hcell (by rw [hcl,hcs];omega) (fun v hv=>h1c v (List.mem_of_mem_drop (by rw [<-bU];exact hv)))
 have fq:(k+1)*2=k*2+new.length:=by omega
 obtain⟨c1,hc1⟩:∃c1,c1=cur.toList.take ((k+1)*2)++cs++cur.toList.drop ((k+1)*2+cs.length):=⟨_,rfl⟩;rw [<-hc1] at nP;rw [<-fq,<-hc1] at ay hl2 aS;obtain⟨W1,hW1⟩:∃W1,W1=w.drew.setRow g c1.toArray:=⟨_,rfl⟩;rw [<-hW1] at nP;have hg1:W1.heap[g]? =some (.cells c1.toArray 58 (0,0)):=by rw [hW1];exact setRow_heap w.drew g cur _ 58 _ hg
 have kY:∀ty,(Builtin.copy_ #[37,37] ty #[.slice (some ⟨g,k*2,none⟩) (n+1-k) (cap-k), .slice (some ⟨vb,0,none⟩) 1 vc]).run prog W1= .ok (goInt (1:Nat)) (W1.setRow g (c1.toArray.toList.take (k*2)++new++c1.toArray.toList.drop (k*2+new.length)).toArray):=fun ty=>
  mF W1 _ _ ty 58 2 g (k*2) _ _ ⟨vb,0,none⟩ _ _ c1.toArray 58 new 1 underlying37 hsz (by simp only [Nat.min_def];split<;>omega) hg1 (by omega) (fun j v hj=>by
   rw [Addr.add_lit,hW1,cell_setRow_other _ _ _ _ (by exact hvb)];show w.cell? _=_
   rw [cell_of_row w vb _ _ _ _ hB'];first|done|simpa using hj) (by simp only [List.size_toArray,aS,Array.length_toList,hcs,hnew];omega) h1
 rw [<-fq] at kY;simp only [List.toList_toArray] at kY;have mixed:prog.follows Departure.mixedOrders=true:=by kernel_rfl
 have hw1:IntKind.i64.wrap ((k:Int)+1)=(k:Int)+1:=by rw [IntKind.wrap_i64];omega
 have hz3:¬((k:Int)=(n:Int)):=by omega
 have hb1:(0:Int)<= (k:Int)+1:=by omega
 have htn:((k:Int)+1).toNat=k+1:=by omega
 have hb2:¬(cap=k+1):=by omega
 have hb3:(k:Int)<= (n:Int)+1:=by omega
 have hin:k<=n:=by omega
 have hb4:¬(cap=k):=by omega
 have iL:(W1.setRow g (c1.take (k*2)++new++c1.drop ((k+1)*2)).toArray).ownsRow base 58 2 (.slice (some ⟨g,0,none⟩) (n+1) cap) (n+1) ((cur.toList.take (n*2)).take (k*2)++new++(cur.toList.take (n*2)).drop (k*2)):=by
  refine qC hb (setRow_heap W1 g _ _ 58 _ hg1) hnc hm ?_ ?_
  ·rw [List.size_toArray,hl2,Array.length_toList,hcs]
  ·rw [<-ay,hnew]
   rw [show (n+1)*2=n*2+2 from by omega]
 have iM:w.grownBy (W1.setRow g (c1.take (k*2)++new++c1.drop ((k+1)*2)).toArray) (some g):=by rw [hW1];exact qD (mW (jo w.drew g _)) (jo _ g _)
 obtain⟨W2,hW2⟩:∃W2,W2=W1.setRow g (c1.take (k*2)++new++c1.drop ((k+1)*2)).toArray:=⟨_,rfl⟩;rw [<-hW2] at kY iL iM;have lZ:=ae iL;have jq:=ae iM;clear iL iM fq hW2 hW1 hg1 ay hl2 aS hc1 hcell bU hcl hg h1c h1 hcs hB hB';go_enter func143,ntmps143;go_wp2_with (simp only [hov])
 go_region_law_o (refine step_copy_runI rfl _ _ 37 37 rfl _ _ (by simp [Act.eval,Act.put]) (by simp [Act.eval,Act.put]) (nP _) ?_)
 go_wp2_with (at_builtin;refine wpList_copy_runI _ rfl _ _ 37 37 rfl _ _ rfl rfl (kY _) ?_);go_ret;exact⟨rfl,lZ.out,jq.out⟩
theorem acO (base g n cap k vb vc:Nat) (cur:Array Value) (new:List Value) (w:World) (TB:TypeId) (eB:base<=w.heap.size) (hg:w.heap[g]? =some (.cells cur 58 (0,0))) (hnc:n<=cap) (hfull:cap<n+1) (cZ:n<=1073741824) (hcs:cur.size=cap*2)
 (hk:k<n) (hB:af w vb new.toArray TB) (hnew:new.length=2) (h1c:∀u∈cur.toList.take (n*2),u.oneCell'=true) (h1:∀u∈new,u.oneCell'=true):
 Calls prog 143 #[.slice (some ⟨g,0,none⟩) n cap, .int .i64 k, .slice (some ⟨vb,0,none⟩) 1 vc] w fun e w'=>∃G,e= .returned (.slice (some ⟨w.heap.size,0,none⟩) (n+1) G)/\
  w'.ownsRow base 58 2 (.slice (some ⟨w.heap.size,0,none⟩) (n+1) G) (n+1) ((cur.toList.take (n*2)).take (k*2)++new++(cur.toList.take (n*2)).drop (k*2))/\Ext w w':=by
 obtain⟨i0,hi,hz0,hz1,hz2⟩:=info_parts Tryz.CH;have hsz:(prog.info? 58).map (·.size)=some 2:=by rw [hi];simp [hz1]
 obtain⟨cs,bU⟩:∃cs,cs=cur.toList.take (n*2):=⟨_,rfl⟩;rw [<-bU] at h1c⊢;have qi:n*2<=cap*2:=Nat.mul_le_mul_right _ hnc;have hcl:cs.length=n*2:=by rw [bU];simp;omega
 have uJ:g<w.heap.size:=lt_of_block hg;have Lx:vb<w.heap.size:=hB.lt;have hB':w.heap[vb]? =some (.cells new.toArray TB (0,0)):=hB;have hcell:∀j v,cs[j]? =some v->w.cell? ⟨g,j,none⟩=some v:=fun j v hj=>by
  rw [cell_of_row w g j cur _ _ hg];rw [bU,List.getElem?_take] at hj
  split at hj
  ·simpa using hj
  ·cases hj
 have hold:(Builtin.firstCells i0.size k (.slice (some ⟨g,0,none⟩) k cap)).run prog w.drew= .ok (cs.take (k*2)).toArray w.drew:=by
  rw [hz1]
  exact run_firstCells_some w.drew 2 k ⟨g,0,none⟩ k cap (cs.take (k*2)) (by rw [List.length_take];omega) (fun j v hj=>by
   rw [Addr.add_lit];rw [List.getElem?_take] at hj
   split at hj
   ·rw [Nat.zero_add];exact hcell j v hj
   ·cases hj)
 have hkk:(n:Int)+1-(k:Int)=((n+1-k:Nat):Int):=by omega
 have hik:k+(n+1-k)=n+1:=by omega
 have kX:∀ty,(Builtin.append_ #[37,3] ty #[.slice (some ⟨g,0,none⟩) k cap, .int .i64 ((n:Int)+1-(k:Int))]).run prog w=
  .ok (.slice (some ⟨w.heap.size,0,none⟩) (n+1) (grownCap w (n+1) cap 58)) (w.drew.alloc (.cells ((cs.take (k*2)).toArray++Builtin.zeroCells (Value.cells (.agg #[.string ⟨#[]⟩, .slice none 0 0])) (n+1-k)++Builtin.zeroCells (Value.cells (.agg #[.string ⟨#[]⟩, .slice none 0 0])) (grownCap w (n+1) cap 58-(n+1))) 58)):=fun ty=>by
  have h:=Lib.run_append_grow_zeros w 37 3 ty 58 i0 _ .i64 .i64 underlying37 underlying3 hi hz0 (some ⟨g,0,none⟩) k cap (cs.take (k*2)) hold (n+1-k) (by omega) (by omega) (by omega) (by omega) (by rw [hz2];omega) (by rw [hz2,hik];exact growslice_fits (by omega) (by omega));rw [hik] at h;rw [hkk];exact h
 obtain⟨G,hG⟩:∃G,G=grownCap w (n+1) cap 58:=⟨_,rfl⟩;have yO:n+1<=G:=by rw [hG];exact grownCap_ge w _ _ _
 have rT:G<=maxLen:=by rw [hG];exact grownCap_le_maxLen w (n+1) cap 58 (by unfold maxLen;omega)
 have LA:G<=9223372036854775807:=rT;rw [<-hG] at kX;obtain⟨z1,nQ⟩:∃z1,z1=(Builtin.zeroCells (Value.cells (.agg #[.string ⟨#[]⟩, .slice none 0 0])) (n+1-k)).toList:=⟨_,rfl⟩;obtain⟨z2,nR⟩:∃z2,z2=(Builtin.zeroCells (Value.cells (.agg #[.string ⟨#[]⟩, .slice none 0 0])) (G-(n+1))).toList:=⟨_,rfl⟩;have nS:z1.length=(n+1-k)*2:=by rw [nQ,Array.length_toList,size_zeroCells];simp [Value.cells]
 have rU:z2.length=(G-(n+1))*2:=by rw [nR,Array.length_toList,size_zeroCells];simp [Value.cells]
 obtain⟨c0,hc0⟩:∃c0:List Value,c0=cs.take (k*2)++z1++z2:=⟨_,rfl⟩;have hrow:(cs.take (k*2)).toArray++Builtin.zeroCells (Value.cells (.agg #[.string ⟨#[]⟩, .slice none 0 0])) (n+1-k)++Builtin.zeroCells (Value.cells (.agg #[.string ⟨#[]⟩, .slice none 0 0])) (G-(n+1))=c0.toArray:=by apply Array.toList_inj.1;rw [hc0,nQ,nR];simp
 rw [hrow] at kX;have hlist:=E9 cs new z1 z2 (k*2) (by omega) (by rw [nS,hnew,hcl];omega);simp only at hlist;rw [<-hc0] at hlist;obtain⟨ay,hl2,aS⟩:=hlist;have hl0:c0.length=G*2:=by rw [hc0,List.length_append,List.length_append,nS,rU,List.length_take,hcl];omega
 obtain⟨c1,hc1⟩:∃c1,c1=c0.take (k*2)++new++c0.drop (k*2+new.length):=⟨_,rfl⟩;rw [<-hc1] at ay hl2 aS;have fq:k*2+new.length=(k+1)*2:=by omega
 have nT:∀W:World,(∀b,W.heap[b]? =(w.drew.alloc (.cells c0.toArray 58)).heap[b]?)->W.heap[w.heap.size]? =some (.cells c0.toArray 58 (0,0)):=fun W h=>by rw [h];show (w.heap.push _)[w.heap.size]? =_;simp
 have yP:∀(W:World),(∀b,W.heap[b]? =(w.drew.alloc (.cells c0.toArray 58)).heap[b]?)->∀ty dc,(Builtin.copy_ #[37,37] ty #[.slice (some ⟨w.heap.size,k*2,none⟩) (n+1-k) dc, .slice (some ⟨vb,0,none⟩) 1 vc]).run prog W= .ok (goInt (1:Nat)) (W.setRow w.heap.size c1.toArray):=fun W hW ty dc=>by
  have h:=mF W 37 37 ty 58 2 w.heap.size (k*2) (n+1-k) dc ⟨vb,0,none⟩ 1 vc c0.toArray 58 new 1 underlying37 hsz (by simp only [Nat.min_def];split<;>omega) (nT W hW) (by omega) (fun j v hj=>by
   have yQ:W.heap[vb]? =some (.cells new.toArray TB (0,0)):=by rw [hW];show (w.heap.push _)[vb]? =_;rw [Array.getElem?_push,if_neg (by omega)];exact hB'
   rw [Addr.add_lit,cell_of_row W vb _ _ _ _ yQ];simpa using hj) (by rw [List.size_toArray,hl0,hnew];omega) h1
  simp only [List.toList_toArray] at h;rw [<-hc1] at h;exact h
 have LB:g≠w.heap.size:=by omega
 have nU:∀(W:World),W.heap[w.heap.size]? =some (.cells c1.toArray 58 (0,0))-> (∀b,b<w.heap.size->W.heap[b]? =w.heap[b]?)->∀ty dc sc,(Builtin.copy_ #[37,37] ty #[.slice (some ⟨w.heap.size,(k+1)*2,none⟩) (n-k) dc, .slice (some ⟨g,k*2,none⟩) (n-k) sc]).run prog W= .ok (goInt (n-k:Nat)) (W.setRow w.heap.size (c1.take (k*2+new.length)++cs.drop (k*2)++c1.drop (k*2+new.length+(cs.drop (k*2)).length)).toArray):=fun W hW hO ty dc sc=>by
  have h:=mF W 37 37 ty 58 2 w.heap.size ((k+1)*2) (n-k) dc ⟨g,k*2,none⟩ (n-k) sc c1.toArray 58 (cs.drop (k*2)) (n-k) underlying37 hsz (by simp) hW (by rw [List.length_drop,hcl];omega) (fun j v hj=>by
   have hbg:W.heap[g]? =some (.cells cur 58 (0,0)):=by rw [hO g uJ];exact hg
   rw [List.getElem?_drop] at hj;rw [Addr.add_lit,cell_of_row W g _ _ _ _ hbg,<-cell_of_row w g _ _ _ _ hg]
   exact hcell _ v hj) (by rw [List.size_toArray,aS,hl0,List.length_drop,hcl];omega) (fun v hv=>h1c v (List.mem_of_mem_drop hv))
  simp only [List.toList_toArray] at h;rw [fq];exact h
 obtain⟨c2,hc2⟩:∃c2,c2=c1.take (k*2+new.length)++cs.drop (k*2)++c1.drop (k*2+new.length+(cs.drop (k*2)).length):=⟨_,rfl⟩;rw [<-hc2] at nU ay hl2;have hfin:∀W:World,W.heap[w.heap.size]? =some (.cells c1.toArray 58 (0,0))-> (W.setRow w.heap.size c2.toArray).ownsRow base 58 2 (.slice (some ⟨w.heap.size,0,none⟩) (n+1) G) (n+1) (cs.take (k*2)++new++cs.drop (k*2)):=fun W hW=>by
  refine qC eB (setRow_heap W w.heap.size _ _ 58 _ hW) yO rT ?_ ?_
  ·rw [List.size_toArray,hl2,hl0]
  ·rw [<-ay,hcl,hnew]
   rw [show (n+1)*2=n*2+2 from by omega]
 have rV:∀W:World,W.heap[w.heap.size]? =some (.cells c0.toArray 58 (0,0))-> (W.setRow w.heap.size c1.toArray).heap[w.heap.size]? =some (.cells c1.toArray 58 (0,0)):=fun W hW=>setRow_heap W w.heap.size _ _ 58 _ hW;have mixed:prog.follows Departure.mixedOrders=true:=by kernel_rfl
 have hw1:IntKind.i64.wrap ((k:Int)+1)=(k:Int)+1:=by rw [IntKind.wrap_i64];omega
 have hz3:¬((k:Int)=(n:Int)):=by omega
 have iu:(cap:Int)<(n:Int)+1:=by omega
 have hb1:(0:Int)<= (k:Int)+1:=by omega
 have hin:k<=n:=by omega
 have htn:((k:Int)+1).toNat=k+1:=by omega
 have hb3:(k:Int)<= (n:Int):=by omega
 have LC:¬(G=k):=by omega
 have LD:¬(G=k+1):=by omega
 have lj:¬(cap=k):=by omega
 have hE:∀b:Nat,((w.alloc (.cells c0.toArray 58)).drew).heap[b]? =(w.drew.alloc (.cells c0.toArray 58)).heap[b]? :=fun _=>rfl;have nV:(((w.alloc (.cells c0.toArray 58)).drew.setRow w.heap.size c1.toArray).drew).heap[w.heap.size]? =some (.cells c1.toArray 58 (0,0)):=rV _ (nT _ hE);have rW:∀b,b<w.heap.size-> (((w.alloc (.cells c0.toArray 58)).drew.setRow w.heap.size c1.toArray).drew).heap[b]? =w.heap[b]? :=fun b hb=>by show ((w.drew.alloc (.cells c0.toArray 58)).setRow w.heap.size c1.toArray).heap[b]? =_;rw [setRow_other _ _ _ _ (by omega)];show (w.heap.push _)[b]? =_;rw [Array.getElem?_push,if_neg (by omega)]
 have bK:=nU _ nV rW;have rX:=hfin _ nV;have rY:Ext w ((((w.alloc (.cells c0.toArray 58)).drew.setRow w.heap.size c1.toArray).drew).setRow w.heap.size c2.toArray):=by refine Ext.grown (row:=some w.heap.size) (b:=w.alloc (.cells c0.toArray 58)) ((Ext.refl w).alloc _) ?_ (by simp);exact qD (b:=(w.alloc (.cells c0.toArray 58)).drew.setRow w.heap.size c1.toArray) (mW (jo (w.alloc (.cells c0.toArray 58)).drew w.heap.size c1.toArray)) (mW (jo (((w.alloc (.cells c0.toArray 58)).drew.setRow w.heap.size c1.toArray).drew) w.heap.size c2.toArray))
 have oN:=ae rX;have yR:=ae rY;clear hfin rX rY nU nV rW ay hl2 aS hc1 hc2 hcell bU hcl hg h1c h1 hcs hB hB' fq hold hkk hik nQ nR nS rU hc0 hrow hl0 hG qi nT rV hi hz0 hz1 hz2 hsz;go_enter func143,ntmps143
 go_wp2_with (first
  |(at_builtin;refine Lib.wpList_append_run _ rfl _ _ _ _ rfl _ _ rfl rfl _ _ (kX _) ?_)
  |(at_builtin;refine wpList_copy_runI _ rfl _ _ 37 37 rfl _ _ rfl rfl (yP _ hE _ _) ?_))
 go_region_law_o (refine step_copy_runI rfl _ _ 37 37 rfl (.slice (some ⟨w.heap.size,(k+1)*2,none⟩) (n-k) (G-(k+1))) (.slice (some ⟨g,k*2,none⟩) (n-k) (cap-k)) (by simp [Act.eval,Act.put]) (by simp [Act.eval,Act.put]) (bK _ _ _) ?_)
 go_wp2;go_ret;exact⟨G,rfl,oN.out,yR.out⟩
theorem acP (base n vb vc:Nat) (v:Value) (xs new:List Value) (w:World) (TB:TypeId) (eB:base<=w.heap.size) (hown:w.ownsRow base 58 2 v n xs) (cZ:n<=1073741824)
 (hB:af w vb new.toArray TB) (hnew:new.length=2) (h1:∀u∈new,u.oneCell'=true):
 Calls prog 143 #[v, .int .i64 n, .slice (some ⟨vb,0,none⟩) 1 vc] w fun e w'=>∃g cap,e= .returned (.slice (some ⟨g,0,none⟩) (n+1) cap)/\
  w'.ownsRow base 58 2 (.slice (some ⟨g,0,none⟩) (n+1) cap) (n+1) (xs++new)/\w.grownBy w' v.ownBlock/\ (v.ownBlock=some g\/g=w.heap.size):=by
 obtain⟨i0,hi,hz0,hz1,hz2⟩:=info_parts Tryz.CH;obtain⟨a,c,rfl,hok⟩:=fG hown;have hB':w.heap[vb]? =some (.cells new.toArray TB (0,0)):=hB;have hsl:(a=none/\n=0/\c=0)\/∃g,a=some ⟨g,0,none⟩:=by
  rcases hown.2 with⟨h,h0⟩|⟨g,cap,cur,h,-⟩
  ·simp only [Value.slice.injEq] at h;exact .inl ⟨h.1,h.2.1,h.2.2⟩
  ·simp only [Value.slice.injEq] at h;exact .inr ⟨g,h.1⟩
 have hcell:∀(j:Nat) (u:Value),new[j]? =some u->w.cell? ((⟨vb,0,none⟩:Addr).add j)=some u:=fun j u hj=>by rw [Addr.add_lit,cell_of_row w vb _ _ _ _ hB'];simpa using hj
 have rZ:=ae hcell;have bW:=ae hown;have hnc:=hok.1;have LF:c<=9223372036854775807:=hok.2.1;have hsk:(1:Nat)*2=new.length:=by omega
 clear hcell hown hB' hB hok;rcases hsl with⟨rfl,rfl,rfl⟩|⟨g0,rfl⟩
 ·go_enter func143,ntmps143
  go_wp2_with ((at_builtin;refine wpList_append_lies _ (by rfl) _ _ 37 (by rfl) base 58 i0 _ 2 40 underlying37 hi hz0 hz1 hz2 rfl (by decide) _ _ xs (by rfl) bW.out ⟨vb,0,none⟩ 1 vc new (by rfl) hsk.symm rZ.out h1 (by omega) (by unfold maxLen;omega) (by omega) eB _ rfl ?_;intro g6 bp w6 bz aW bX sU;have gL:=ae bz;have iC:=ae aW;have fF:=ae bX;clear bz aW bX));go_ret;exact⟨g6,bp,rfl,gL.out,iC.out,fF.out⟩
 ·go_enter func143,ntmps143
  go_wp2_with ((at_builtin;refine wpList_append_lies _ (by rfl) _ _ 37 (by rfl) base 58 i0 _ 2 40 underlying37 hi hz0 hz1 hz2 rfl (by decide) _ _ xs (by rfl) bW.out ⟨vb,0,none⟩ 1 vc new (by rfl) hsk.symm rZ.out h1 (by omega) (by unfold maxLen;omega) (by omega) eB _ rfl ?_;intro g6 bp w6 bz aW bX sU;have gL:=ae bz;have iC:=ae aW;have fF:=ae bX;clear bz aW bX))
  all_goals (go_ret;exact⟨g6,bp,rfl,gL.out,iC.out,fF.out⟩)
theorem XF (base n k vb vc:Nat) (v:Value) (xs new:List Value) (w:World) (TB:TypeId) (eB:base<=w.heap.size) (hown:w.ownsRow base 58 2 v n xs) (cZ:n<=1073741824) (hk:k<=n)
 (hB:af w vb new.toArray TB) (hvb:v.ownBlock≠some vb) (hnew:new.length=2) (h1c:∀u∈xs,u.oneCell'=true) (h1:∀u∈new,u.oneCell'=true):
 Calls prog 143 #[v, .int .i64 k, .slice (some ⟨vb,0,none⟩) 1 vc] w fun e w'=>∃g cap,e= .returned (.slice (some ⟨g,0,none⟩) (n+1) cap)/\
  w'.ownsRow base 58 2 (.slice (some ⟨g,0,none⟩) (n+1) cap) (n+1) (xs.take (k*2)++new++xs.drop (k*2))/\w.grownBy w' v.ownBlock/\ (v.ownBlock=some g\/g=w.heap.size):=by
 by_cases hkn:k=n
 ·subst hkn
  have hl:=hown.1;refine(acP base k vb vc v xs new w TB eB hown cZ hB hnew h1).mono ?_;rintro e w' ⟨g,cap,he,h2,h3,h4⟩;refine⟨g,cap,he,?_,h3,h4⟩;rw [List.take_of_length_le (by omega),List.drop_of_length_le (by omega),List.append_nil];exact h2
 ·obtain⟨g,cap,cur,rfl,hb,hg,hnc,hm,hcs,ht⟩:=pz hown (by omega)
  have ht':cur.toList.take (n*2)=xs:=by simpa using ht
  by_cases hroom:n<cap
  ·refine(acN base g n cap k vb vc cur new w TB hb hg hroom hm hcs (by omega) hB (fun e=>hvb (by rw [e];rfl)) hnew (by rw [ht'];exact h1c) h1).mono ?_
   rintro e w' ⟨he,h2,h3⟩;rw [ht'] at h2;exact⟨g,cap,he,h2,h3, .inl rfl⟩
  ·refine(acO base g n cap k vb vc cur new w TB eB hg hnc (by omega) cZ hcs (by omega) hB hnew (by rw [ht'];exact h1c) h1).mono ?_
   rintro e w' ⟨G,he,h2,h3⟩;rw [ht'] at h2;exact⟨w.heap.size,G,he,h2,⟨h3.os,h3.tape,h3.output,h3.size,fun k hk _=>h3.block k hk⟩, .inr rfl⟩
end Go.Proofs.YtlcebdaghmdkeabGreatDoor
