import Derived.Deep.CutBlock
import Derived.Test.YtlcebdaghmdkeaaGreatDoorZ7
set_option linter.all false
set_option maxRecDepth 100000
set_option maxHeartbeats 64000000
namespace Go.Proofs.YtlcebdaghmdkeaaGreatDoor
open Go.Proofs.Tryz
open Go.RowKit
attribute [local go_sem↓] Go.wp_at_zero Go.wp_at_succ
theorem WO {a:ah} {r:List ah} {x:V} {i:Nat} (hc:x.child a=some i) (hi:i<x.l.length):fB (a::r) x=fB r x.l[i]:=by
 simp [fB,hc,List.getElem?_eq_getElem hi]
theorem WQ {a:ah} {r:List ah} {x:V} (hc:x.child a=none):fB (a::r) x=none:=by simp [fB,hc]
theorem ry (x:V) (ka:aq) (kc:Nat) (la:aq) (lc:Nat) (S:aA) (p:ah) (w:World) (hsz:x.size<=1073741824) (ki:x.In w S ka kc la lc) (hp:p.size<=1073741824) (hl:cZ w):
 Calls prog 131 #[x.val ka kc la lc, .string p] w (eY S (cH x p).1 (.int .i64 (cH x p).2) w):=by
 have hin:x.In w (fun b=>S b/\b<w.heap.size) ka kc la lc:=ki.mono fun b h hl=>⟨h,hl⟩;clear ki;have hm:=hl.max;go_enter func131,ntmps131;go_upto_region 1 with fail
 refine aI (R:=fun wx=>aD wx w.heap.size x ka kc la lc/\aN wx (w.heap.size+1)/\Ext w wx) ⟨aj,aj,Xt⟩ ?_;rintro wa ⟨ag,ai,aF⟩;have lN:=ai.lt;obtain⟨hc0,aw,hl0⟩:=ag.see;go_wp2_with fail;(refine(zV x ka kc la lc _ p _ hsz (hin.ext Xt) hp (hm.ext Xt)).mono ?_);rintro e w2 (⟨a,n,c,ks,hnb,hfi,rfl,hn,hok,hst,h2⟩|⟨hbad,rfl,h2⟩)
 ·have nW:cH x p=match fB ks x with|some y=>(y,0)|none=>(V.zero,3):=by unfold cH;rw [hnb];simp only;rw [if_neg (by rw [hfi];decide)];cases fB ks x<;>rfl
  have hsm:=(B0 hnb).2;have hlen:=(B0 hnb).1;have vU:=ae nW;have z7:=ae hsm;have cS:=gV hfi;have hxs:=qh hfi;have ag:=af.ext h2 ag;have ai:=af.ext h2 ai;have hx2:Ext w w2:=Xt;have aQ:=ae hst;have Jk:w.heap.size+2<=wa.heap.size:=lN;clear h2 hc0 aw hl0 aF nW hnb hsm hst hfi;subst hn;go_wp2_with fail
  go_loopg [9,10,11,24] ks.length (fun g _ _ _ i wr=>∃(k:Nat) (y:V) (iC:aq) (iD:Nat) (jc:aq) (iE:Nat),k<=ks.length/\i= .int .i64 k/\g=ks.length-k/\fB ks x=fB (ks.drop k) y/\y.sound/\y.size<=14640/\
   y.In w (fun b=>S b/\b<w.heap.size) iC iD jc iE/\af wr w.heap.size #[.int .i64 y.k, .int .i64 y.n, .string y.s, .slice iC y.keys.length iD, .slice jc y.l.length iE] 41/\aN wr (w.heap.size+1)/\Ext w wr/\Held (fun b=>b≠w.heap.size) w2 wr)
  case atStart=>exact⟨0,x,ka,kc,la,lc,by omega,rfl,rfl,rfl,cS,hxs,hin,ag,ai,hx2,Held.refl _ _⟩
  case round=>
   clear ag ai cS hxs hin;obtain⟨k,y,iC,iD,jc,iE,hk,rfl,rfl,Oy,cS,hys,hin,ag,ai,hx,hh⟩:=hrel;have Jl:=ae Oy;clear Oy;obtain⟨hc0,aw,hl0⟩:=ag.see;obtain⟨hc1,aB,az⟩:=ai.see;by_cases hlt:k<ks.length
   ·have Jm:bT wr (fun b=>w.heap.size+2<=b) a ks:=(aQ.out.keep (T:=fun b=>w.heap.size+2<=b) (fun _ _ _=>rfl) (fun b h _=>Nat.le_trans Jk h)).keep (Held.kept (hh.mono (T:=fun b=>w.heap.size+2<=b) (fun b h=>by simp;omega))) (fun b h _=>h)
    obtain⟨b,o,rfl,hS,e0⟩:=Jm.resolve_left (by intro h;rw [h] at hlt;simp at hlt);have e0:=e0 k hlt;have hks:=z7.out _ (List.getElem_mem hlt)
    cases hc:y.child ks[k] with
    |none=>
     have hc':fB ks x=none:=by rw [Jl.out,List.drop_eq_getElem_cons hlt,WQ hc]
     have Hc:=ae hc;have WR:=ae hc';have aJ:=ae hin;clear hc hc' Jm hh;go_wp2_with fail;(refine(uG y iC iD jc iE _ ks[k] _ cS (by omega) (by omega) (aJ.out.ext Xt) (hl.ext Xt)).mono ?_);rintro e w3 ⟨q,rfl,-,h3⟩;rw [Hc.out];have ag:=af.ext h3 (af.drew ag);have ai:=af.ext h3 (af.drew ai);have hx3:Ext w w3:=Xt;clear h3 hc0 aw hl0 hc1 aB az hx;obtain⟨hc1,aB,az⟩:=ai.see;go_wp2_with fail;refine aG (h:= ?_);rw [vU.out,WR.out];exact⟨none,0,none,0,rfl,V.nX _ _,Xt⟩
    |some i=>
     have hi:=vV cS hc;have Oz:fB ks x=fB (ks.drop (k+1)) y.l[i]:=by rw [Jl.out,List.drop_eq_getElem_cons hlt,WO hc hi]
     obtain⟨b',o',rfl,z8,cI,cJ,cK,cL,⟨d0,d1,d2,d3,d4⟩,hin'⟩:=hin.item hi;have WS:=cS.item (List.getElem_mem hi);have agG:=V.qi hi;have Hc:=ae hc;have WT:=ae Oz;have aJ:=ae hin;have hne:¬b'=w.heap.size:=Nat.ne_of_lt z8.2;have agH:¬w.heap.size=b':=fun e=>hne e.symm;have hi0:(0:Int)<= (i:Int):=by omega
     have hi1:(i:Int)<(y.l.length:Int):=by omega
     clear hc Oz Jm;go_wp2_with fail;(refine(uG y iC iD _ iE _ ks[k] _ cS (by omega) (by omega) (aJ.out.ext Xt) (hl.ext Xt)).mono ?_);rintro e w3 ⟨q,rfl,hq,h3⟩;obtain rfl:=hq i Hc.out;rw [Hc.out];have ag:=af.ext h3 (af.drew ag);have ai:=af.ext h3 (af.drew ai);have B6:Held (fun b=>b≠w.heap.size) w2 w3:=aC;have hx3:Ext w w3:=Xt;have d0:=hx3.cell d0;have d1:=hx3.cell d1;have d2:=hx3.cell d2;have d3:=hx3.cell d3;have d4:=hx3.cell d4;clear h3 hc0 aw hl0 hc1 aB az hx hh;obtain⟨hc0,aw,hl0⟩:=ag.see;obtain⟨hc1,aB,az⟩:=ai.see;go_wp2_with fail;go_roundg (ks.length-(k+1))
     case measure=>omega
     case rel=>exact⟨k+1,y.l[q],cI,cJ,cK,cL,by omega,by go_num,rfl,WT.out,WS,by omega,hin',aj,aj,Xt,aC⟩
   ·have OA:cH x p=(y,0):=by
     rw [vU.out,Jl.out,List.drop_of_length_le (by omega)];rfl
    have WU:=ae OA;have aJ:=ae hin;clear hin hh OA;go_wp2_with fail;refine aG (h:= ?_);rw [WU.out];exact⟨iC,iD,jc,iE,rfl,(aJ.out.ext Xt).mono (fun b h _=> .inl h.1),Xt⟩
 ·have nW:cH x p=(V.zero,1):=by
   unfold cH;rcases hbad with h|h
   ·rw [h]
   ·cases cM p<;>simp [h]
  have vU:=ae nW;clear nW;have ai:=af.ext h2 ai;have hx2:Ext w w2:=Xt;clear h2 ag hc0 aw hl0 aF hbad;obtain⟨hc1,aB,az⟩:=ai.see;go_wp2_with fail;refine aG (h:= ?_);rw [vU.out];exact⟨none,0,none,0,rfl,V.nX _ _,Xt⟩
theorem enters {P:Program} {f:FuncId} {fn:Func} {c:Code} (hf:P.funcs[f]? =some fn) (hn:(fn.name== "runtime.NumGoroutine")=false) (hb:fn.body=some c) (args:Array Value) (w:World):(callFunc f args).run P w= .ok (.enter f args) w:=by
 have h1:fn.name≠ "runtime.NumGoroutine" :=by simpa using hn
 simp [callFunc,hf,h1,hb]
def Does (F:ma) (S:aA) (lU:FuncId) (qG:Array Value) (w:World):Prop:=
 ∀(y:V) (ka:aq) (kc:Nat) (la:aq) (lc:Nat) (name:ah) (w':World),Ext w w'->y.sound->y.size<=1073741824->name.size<=8000->y.In w' S ka kc la lc->
  Calls prog lU (#[y.val ka kc la lc, .string name]++qG) w' (eY S (F y name).1 (.int .i64 (F y name).2) w')
theorem at_one (F:ma) (S:aA) (lU:FuncId) (qG:Array Value) (w0:World) (hS:Hid (∀b,S b->b<w0.heap.size)) (hE:Hid (∀args w,(callFunc lU args).run prog w= .ok (.enter lU args) w)) (hD:Hid (Does F S lU qG w0)) (name:ah) (x:V) (ka:aq) (kc:Nat) (la:aq) (lc:Nat) (b o c:Nat) (w:World)
 (hn:name.size<=8000) (cS:x.sound) (hsz:x.size<=1073741824) (hw:Ext w0 w) (hin:x.In w S ka kc la lc) (hk:w.cell? ⟨b,o,none⟩=some (.string name)):
 Calls prog 197 #[x.val ka kc la lc, .slice (some ⟨b,o,none⟩) 1 c, .func (Fn.func lU) #[] qG] w (eY S (F x name).1 (.int .i64 (F x name).2) w):=by
 have hbl:=lu hk;have aJ:=ae hin;clear hin;go_enter func197,ntmps197;go_upto_region 2 with fail
 refine aI (R:=fun wx=>aD wx w.heap.size x ka kc la lc/\aN wx (w.heap.size+1)/\Ext w wx) ⟨aj,aj,Xt⟩ ?_;rintro wa ⟨ag,ai,aF⟩;have hka:=aF.cell hk;have RA:Ext w0 wa:=hw.trans aF;clear hk;obtain⟨hc0,aw,hl0⟩:=ag.see
 have au:∀w',Ext wa w'-> (w'.cell? ⟨w.heap.size,0,none⟩=some (.int .i64 x.k)/\w'.cell? ⟨w.heap.size,1,none⟩=some (.int .i64 x.n)/\w'.cell? ⟨w.heap.size,2,none⟩=some (.string x.s)/\w'.cell? ⟨w.heap.size,3,none⟩=some (.slice ka x.keys.length kc)/\w'.cell? ⟨w.heap.size,4,none⟩=some (.slice la x.l.length lc)/\w'.cell? ⟨b,o,none⟩=some (.string name)):=
  fun w' e=>⟨e.cell (hc0 0),e.cell (hc0 1),e.cell (hc0 2),e.cell (hc0 3),e.cell (hc0 4),e.cell hka⟩
 have hS1:=au wa.drew ((Ext.refl wa).drew);refine fN au (c:=8) (by kernel_rfl) ?_;refine aH 0 [8] (h:= ?_);refine aH 1 [8] (h:= ?_);refine aH 2 [8] (h:= ?_);refine aH 3 [8] (h:= ?_);refine aH 4 [8] (h:= ?_);(try simp only [rl]);refine aM 5 (h:=fun K hK=> ?_);(try simp only [rl]);(try go_simp);rw [hE.out,Oper.upon_enter];(refine(hD.out x ka kc la lc name _ (RA.trans Xt) cS hsz hn (aJ.out.ext Xt)).mono ?_);rintro e w1 ⟨iW,iX,iY,iZ,rfl,fA,h1⟩;(try go_simp);refine hK.out _ _ (fun _=>au _ Xt) ?_;clear hK K;refine aH 6 [8] (hS:=au _ Xt) (h:= ?_);refine aH 7 [8] (hS:=au _ Xt) (h:= ?_);(try simp only [rl]);have lN:aN w1 (w.heap.size+1):=af.ext (w:=wa) Xt ai;have hx1:Ext w w1:=Xt;have az:=ai.lt;have bZ:(F x name).1.In w1 (fun b=>S b\/w.heap.size+2<=b) iW iX iY iZ:=fA.mono (fun b h _=>by rcases h with h|h;exact .inl h;simp at h;exact .inr (by omega));have hz:=hw.size;have cE:=ae bZ;clear hc0 aw fA bZ h1 ai ag au hS1 RA;obtain⟨hc1,aB,az⟩:=lN.see;refine aM 8 (h:=fun K hK=> ?_);(try simp only [rl]);go_simp;refine bD hK (h:= ?_);clear hK K;(try simp only [rl]);refine aM 9 (h:=fun K hK=> ?_);(try simp only [rl]);go_simp;refine bD hK (h:= ?_);clear hK K;(try simp only [rl]);refine dE (by kernel_rfl) ?_ _;go_wp2_with fail;refine aG (h:= ?_);exact⟨iW,iX,iY,iZ,rfl,cE.out.keep (Held.kept (Held.mono (S:=fun b=>b≠w.heap.size+1) (a:=w1) aC (fun b h=>by rcases h with h|h;(have:=hS.out b h;simp;omega);(simp;omega)))) (fun b h _=>by rcases h with h|h;exact .inl h;exact .inr (by omega)),Xt⟩
theorem aas (S:aA) (fv:Value) (w0:World) (name:ah) (x:V) (ka:aq) (kc:Nat) (la:aq) (lc:Nat) (b o n c:Nat) (w:World)
 (hn:name.size<=8000) (kO:2<=n) (hnb:n<=1073741824) (cS:x.sound) (hsz:x.size<=1073741824) (hin:x.In w S ka kc la lc) (hk:w.cell? ⟨b,o,none⟩=some (.string name)) (hl:cZ w) (hc:Hid (x.child name=none)):
 Calls prog 197 #[x.val ka kc la lc, .slice (some ⟨b,o,none⟩) n c,fv] w (eY S x (.int .i64 3) w):=by
 have hbl:=lu hk;have aJ:=ae hin;have aat:((n:Int)==1)=false:=by simp;omega
 have hi0:(0:Int)<(n:Int):=by omega
 have JA:0<n:=by omega
 have JB:¬n=0:=by omega
 have JC:¬n<=0:=by omega
 clear hin;go_enter func197,ntmps197;go_upto_region 3 with fail
 refine aI (R:=fun wx=>aD wx w.heap.size x ka kc la lc/\aN wx (w.heap.size+1)/\Ext w wx) ⟨aj,aj,Xt⟩ ?_;rintro wa ⟨ag,ai,aF⟩;have hka:=aF.cell hk;clear hk
 have au:∀w',Ext wa w'-> (w'.cell? ⟨w.heap.size,0,none⟩=some (.int .i64 x.k)/\w'.cell? ⟨w.heap.size,1,none⟩=some (.int .i64 x.n)/\w'.cell? ⟨w.heap.size,2,none⟩=some (.string x.s)/\w'.cell? ⟨w.heap.size,3,none⟩=some (.slice ka x.keys.length kc)/\w'.cell? ⟨w.heap.size,4,none⟩=some (.slice la x.l.length lc)/\w'.cell? ⟨b,o,none⟩=some (.string name)):=
  fun w' e=>⟨e.cell (ag.cells 0),e.cell (ag.cells 1),e.cell (ag.cells 2),e.cell (ag.cells 3),e.cell (ag.cells 4),e.cell hka⟩
 go_region_held3 (fun w'=>w'.cell? ⟨w.heap.size,0,none⟩=some (.int .i64 x.k)/\w'.cell? ⟨w.heap.size,1,none⟩=some (.int .i64 x.n)/\w'.cell? ⟨w.heap.size,2,none⟩=some (.string x.s)/\w'.cell? ⟨w.heap.size,3,none⟩=some (.slice ka x.keys.length kc)/\w'.cell? ⟨w.heap.size,4,none⟩=some (.slice la x.l.length lc)/\w'.cell? ⟨b,o,none⟩=some (.string name))
  (first|(exact au _ ((Ext.refl _).drew))|(exact au _ (Ext.trans ((Ext.refl _).drew) h1)))
  (first|(go_at_call 161;refine(uG x ka kc la lc _ name _ cS hsz (by omega) (aJ.out.ext Xt) (hl.ext Xt)).mono ?_;rintro e w1 ⟨q,rfl,-,h1⟩))
 all_goals
  rw [hc.out];have ag:=af.ext h1 (af.drew ag);have ai:=af.ext h1 (af.drew ai);have hx1:Ext w w1:=Xt;clear h1 aF au;obtain⟨hc0,aw,hl0⟩:=ag.see;obtain⟨hc1,aB,az⟩:=ai.see;go_wp2_with fail;refine aG (h:= ?_);exact⟨ka,kc,la,lc,rfl,(aJ.out.ext Xt).mono (fun b h _=> .inl h),Xt⟩
theorem GF (l:List V) (a:aq) (n c:Nat) (S:aA) (w:World) (hl:l.length=n) (hok:aO a n c) (hbig:n<=1073741824) (hr:Rows w S l a):
 Calls prog 41 #[.slice a n c] w fun e w'=>∃a' c',e= .returned (.slice a' n c')/\aO a' n c'/\ (∃xs,w'.ownsRow w.heap.size 41 5 (.slice a' n c') n xs/\cV w' S l xs)/\Ext w w':=by
 obtain⟨news,hnl,lM,jG⟩:=zW hr;rw [hl] at hnl lM;refine(zX a n c news w hok hbig hnl lM jG.one).mono ?_;rintro e w' ⟨a',c',rfl,h1,h2,h3⟩;exact⟨a',c',rfl,h1,⟨news,h2,jG.keep (h3.kept _) (fun _ h _=>h)⟩,h3⟩
theorem aau (S:aA) (fv:Value) (w0:World) (hS:Hid (∀b,S b->b<w0.heap.size)) (name:ah) (x:V) (ka:aq) (kc:Nat) (la:aq) (lc:Nat) (b o n c:Nat) (w:World) (i:Nat) (r:V) (er:Int)
 (hn:name.size<=8000) (kO:2<=n) (hnc:n<=c) (hnb:n<=1073741824) (hcb:c<=maxLen) (cS:x.sound) (hsz:x.size<=1073741824) (hw:Ext w0 w) (hin:x.In w S ka kc la lc) (hk:w.cell? ⟨b,o,none⟩=some (.string name)) (hl:cZ w) (hc:Hid (x.child name=some i)) (hi:i<x.l.length)
 (rec:Hid (∀(cI:aq) (cJ:Nat) (cK:aq) (cL:Nat) (w':World),Ext w w'-> (x.l[i]).In w' S cI cJ cK cL->Calls prog 197 #[(x.l[i]).val cI cJ cK cL, .slice (some ⟨b,o+1,none⟩) (n-1) (c-1),fv] w' (eY S r (.int .i64 er) w'))):
 Calls prog 197 #[x.val ka kc la lc, .slice (some ⟨b,o,none⟩) n c,fv] w (eY S (if er=0 then x.j5 i r else x) (.int .i64 er) w):=by
 have hbl:=lu hk;obtain⟨b',o',rfl,z8,cI,cJ,cK,cL,⟨d0,d1,d2,d3,d4⟩,hin'⟩:=hin.item hi;have aJ:=ae hin;have aat:((n:Int)==1)=false:=by simp;omega
 have hi0:(0:Int)<(n:Int):=by omega
 have JA:0<n:=by omega
 have JB:¬n=0:=by omega
 have JC:¬n<=0:=by omega
 clear hin;go_enter func197,ntmps197;go_upto_region 3 with fail
 refine aI (R:=fun wx=>aD wx w.heap.size x ka kc (some ⟨b',o',none⟩) lc/\aN wx (w.heap.size+1)/\Ext w wx) ⟨aj,aj,Xt⟩ ?_;rintro wa ⟨ag,ai,aF⟩;have hka:=aF.cell hk;clear hk
 have au:∀w',Ext wa w'-> (w'.cell? ⟨w.heap.size,0,none⟩=some (.int .i64 x.k)/\w'.cell? ⟨w.heap.size,1,none⟩=some (.int .i64 x.n)/\w'.cell? ⟨w.heap.size,2,none⟩=some (.string x.s)/\w'.cell? ⟨w.heap.size,3,none⟩=some (.slice ka x.keys.length kc)/\w'.cell? ⟨w.heap.size,4,none⟩=some (.slice (some ⟨b',o',none⟩) x.l.length lc)/\w'.cell? ⟨b,o,none⟩=some (.string name)):=
  fun w' e=>⟨e.cell (ag.cells 0),e.cell (ag.cells 1),e.cell (ag.cells 2),e.cell (ag.cells 3),e.cell (ag.cells 4),e.cell hka⟩
 go_region_held3 (fun w'=>w'.cell? ⟨w.heap.size,0,none⟩=some (.int .i64 x.k)/\w'.cell? ⟨w.heap.size,1,none⟩=some (.int .i64 x.n)/\w'.cell? ⟨w.heap.size,2,none⟩=some (.string x.s)/\w'.cell? ⟨w.heap.size,3,none⟩=some (.slice ka x.keys.length kc)/\w'.cell? ⟨w.heap.size,4,none⟩=some (.slice (some ⟨b',o',none⟩) x.l.length lc)/\w'.cell? ⟨b,o,none⟩=some (.string name))
  (first|(exact au _ ((Ext.refl _).drew))|(exact au _ (Ext.trans ((Ext.refl _).drew) h1)))
  (first|(go_at_call 161;refine(uG x ka kc _ lc _ name _ cS hsz (by omega) (aJ.out.ext Xt) (hl.ext Xt)).mono ?_;rintro e w1 ⟨q,rfl,hq,h1⟩))
 obtain rfl:=hq i hc.out;rw [hc.out];have ag:=af.ext h1 (af.drew ag);have ai:=af.ext h1 (af.drew ai);have hx1:Ext w w1:=Xt;clear h1 aF au hq;go_upto_region 6 with fail
 refine aI (R:=fun wx=>aD wx w.heap.size x ka kc (some ⟨b',o',none⟩) lc/\aN wx (w.heap.size+1)/\Ext w wx) ⟨aj,aj,Xt⟩ ?_;clear ag ai hx1;rintro wb ⟨ag,ai,aP⟩;have d0:=aP.cell d0;have d1:=aP.cell d1;have d2:=aP.cell d2;have d3:=aP.cell d3;have d4:=aP.cell d4;have hq0:(0:Int)<= (q:Int):=by omega
 have hq1:(q:Int)<(x.l.length:Int):=by omega
 have yl:(1:Int)<= (n:Int):=by omega
 have JF:¬c=1:=by omega
 have JG:(n:Int)<= (c:Int):=by omega
 have au:∀w',Ext wb w'-> (w'.cell? ⟨w.heap.size,4,none⟩=some (.slice (some ⟨b',o',none⟩) x.l.length lc)/\w'.cell? ⟨b',o'+q*5,none⟩=some (.int .i64 x.l[q].k)/\w'.cell? ⟨b',o'+q*5+1,none⟩=some (.int .i64 x.l[q].n)/\w'.cell? ⟨b',o'+q*5+2,none⟩=some (.string x.l[q].s)/\w'.cell? ⟨b',o'+q*5+3,none⟩=some (.slice cI x.l[q].keys.length cJ)/\w'.cell? ⟨b',o'+q*5+4,none⟩=some (.slice cK x.l[q].l.length cL)):=
  fun w' e=>⟨e.cell (ag.cells 4),e.cell d0,e.cell d1,e.cell d2,e.cell d3,e.cell d4⟩
 refine fN au (c:=14) (by kernel_rfl) ?_;refine aH 0 [14] (hS:=au _ Xt) (h:= ?_);refine aH 1 [14] (hS:=au _ Xt) (h:= ?_);refine aH 2 [14] (hS:=au _ Xt) (h:= ?_);refine aH 3 [14] (hS:=au _ Xt) (h:= ?_);refine aH 4 [14] (hS:=au _ Xt) (h:= ?_);refine aH 5 [14] (hS:=au _ Xt) (h:= ?_);refine aH 6 [14] (hS:=au _ Xt) (h:= ?_);refine aH 7 [14] (hS:=au _ Xt) (h:= ?_);(try simp only [rl]);refine mQ (rs:= [8,12]) (by kernel_rfl) (by simp) ?_;refine cT.cons (Array.getElem?_eq_getElem (by decide)) (fun K hK=> ?_) (cT.cons (Array.getElem?_eq_getElem (by decide)) (fun K hK=> ?_) cT.nil)
 · (try simp only [rl])
   (try go_simp);(refine(rec.out cI cJ cK cL _ Xt (hin'.ext Xt)).mono ?_);rintro e w2 ⟨aZ,bf,bg,bh,rfl,bj,h2⟩;(try go_simp);have hb2:Ext wb w2:=Xt;have hz2:=hb2.size;clear h2;refine hK.out _ _ (fun _=>au _ Xt) ?_;clear hK K;refine aH 9 [14] (hS:=au _ Xt) (h:= ?_);refine aH 10 [14] (hS:=au _ Xt) (h:= ?_);refine aH 11 [14] (hS:=au _ Xt) (h:= ?_);(try simp only [rl]);refine aM 12 (h:=fun K hK=> ?_);(try simp only [rl]);go_simp;refine hK.out _ _ (fun _=>au _ Xt) ?_;clear hK K;(try simp only [rl]);refine aM 13 (h:=fun K hK=> ?_);(try simp only [rl]);go_simp;refine hK.out _ _ (fun _=>au _ Xt) ?_;clear hK K;(try simp only [rl]);refine aM 14 (h:=fun K hK=> ?_);(try simp only [rl]);go_simp;refine bD hK (h:= ?_);clear hK K;(try simp only [rl]);refine dE (by kernel_rfl) ?_ _;have iQ:aD w2 w.heap.size x ka kc (some ⟨b',o',none⟩) lc:=af.ext (w:=wb) hb2 ag;have lN:aN w2 (w.heap.size+1):=af.ext (w:=wb) hb2 ai;have az:=ai.lt;have hwz:=hw.size;have fM:Hid (∀b,S b->b<w.heap.size):=fun b h=>Nat.lt_of_lt_of_le (hS.out b h) hwz
   have bN:Hid (r.In w2 (fun b=>(S b\/w.heap.size+2<=b)/\b≠w2.heap.size) aZ bf bg bh):=bj.mono (fun b h hlt=>by
    rcases h with h|h
    ·have:=fM.out b h;exact⟨.inl h,by omega⟩
    ·simp at h;exact⟨.inr (by omega),by omega⟩)
   have hx2:Ext w w2:=Xt;clear bj au ag ai;go_upto_region 7 with fail
   refine aI (R:=fun wx=>aD wx w.heap.size x ka kc (some ⟨b',o',none⟩) lc/\aN wx (w.heap.size+1)/\aD wx w2.heap.size r aZ bf bg bh/\r.In wx (fun b=>S b\/w.heap.size+2<=b) aZ bf bg bh/\Ext w wx)
    ⟨aj,aj,aj,bN.out.keep (Held.kept (Held.mono (S:=fun b=>b≠w2.heap.size) (a:=w2) aC (fun b h=>h.2))) (fun _ h _=>h.1),Xt⟩ ?_
   clear iQ lN bN;rintro wd ⟨ag,ai,dU,hjn,iM⟩;have aV:=ae hjn;clear hjn hx2 hb2 rec;by_cases her:er=0
   ·subst her
    simp only [if_true];obtain⟨ib,gj,hst,ic⟩:=(V.dD ..).1 aJ.out;have hll:=x.kI;have Cl:=ae (fun w' (e:Ext w w')=>GF x.l _ _ _ S w' rfl gj (by omega) (ic.ext e));have aQ:=ae hst;clear hst ic;go_upto_region 9 with fail
    refine aI (R:=fun wx=>aD wx w.heap.size x ka kc (some ⟨b',o',none⟩) lc/\aN wx (w.heap.size+1)/\aD wx w2.heap.size r aZ bf bg bh/\ (r).In wx (fun b=>S b\/w.heap.size+2<=b) aZ bf bg bh/\Ext w wx) ⟨aj,aj,aj,aV.out.ext Xt,Xt⟩ ?_;clear ag ai dU;rintro wc ⟨ag,ai,dU,hjn,fC⟩;obtain⟨hc0,aw,hl0⟩:=ag.see;go_upto_region 10 with(go_at_call 41;refine(Cl.out _ Xt).mono ?_;rintro e w3 ⟨a3,c3,rfl,gK,⟨RB,eH,wX⟩,h3⟩;have iQ:=af.ext h3 ag;obtain⟨Dn,Dp,Dq⟩:=iQ.see)
    obtain⟨g,cur,rfl,hgb,hBg,hcz,hits⟩:=qg (by omega) rfl eH wX;have wY:(r).In w3 (fun b=>(S b\/w.heap.size+2<=b)/\b<wc.heap.size) aZ bf bg bh:=(hjn.mono (fun b h hlt=>⟨h,hlt⟩)).ext h3;have az:=ai.lt;have qb:=dU.lt;have lN:=af.ext h3 ai;have Dr:=af.ext h3 dU;have hx3:Ext w w3:=Xt;have gp:=ae hits;have Ds:=ae wY;clear hits eH wX hjn wY ag ai dU h3 hc0 aw hl0;refine aI (R:=fun wx=>aD wx w.heap.size x ka kc (some ⟨g,0,none⟩) c3/\aN wx (w.heap.size+1)/\aD wx w2.heap.size r aZ bf bg bh/\af wx g cur 41/\Held (fun b=>b≠w.heap.size) w3 wx/\Ext w wx) ⟨aj,aj,aj,aj,aC,Xt⟩ ?_;clear iQ lN Dr hBg Dn Dp Dq;rintro wx ⟨ag,ai,dU,hBg,iq,qH⟩;have rN:w.heap.size+2<=wc.heap.size:=az;have rV:Hid (∀i (h:i<x.l.length),V.Item wx (fun b=>(S b\/w.heap.size+2<=b)/\b<wc.heap.size) g (i*5) x.l[i]):=fun i h=>((gp.out i h).keep' (T:=fun b=>b≠w.heap.size) (by simp;omega) iq.kept (fun b h=>by have:=fM.out b h;simp;omega)).mono (fun b h=>⟨.inl h,by have:=fM.out b h;omega⟩);have Dt:Hid ((r).In wx (fun b=>(S b\/w.heap.size+2<=b)/\b<wc.heap.size) aZ bf bg bh):=Ds.out.keep (Held.kept (iq.mono (fun b h=>by rcases h.1 with h|h;(have:=fM.out b h;simp;omega);(simp;omega)))) (fun _ h _=>h);obtain⟨hc0,aw,hl0⟩:=ag.see;obtain⟨tE,jo,qb⟩:=dU.see;obtain⟨yT,yU,yV⟩:=hBg.see;have hq0:(0:Int)<= (q:Int):=by omega
    have hq1:(q:Int)<(x.l.length:Int):=by omega
    have jP:Hid (wx.there g (q*5) 5):=GA hBg (by omega);clear yT yU;go_upto_region 11 with(refine wpList_store_mid rfl 41 _ _ rfl g (q*5) #[.int .i64 r.k, .int .i64 r.n, .string r.s, .slice aZ r.keys.length bf, .slice bg r.l.length bh] (by rfl) (by rfl) (by exact jP.out) Tryz.GD (all_oneCell_toArray (V.mR (r) aZ bf bg bh)) ?_)
    have rW:∀i (h:i<(x.l.set q (r)).length),V.Item (wx.setCells g (q*5) (V.five (r) aZ bf bg bh)) (fun b=>(S b\/w.heap.size+2<=b)/\b<wc.heap.size) g (i*5) (x.l.set q (r))[i]:=
     Gz hBg rV.out hi hcz Dt.out (hBg.kA _ _ _ _ _ _) (Held.kept (Held.kA (Held.refl _ _) (by simp;omega) _ _))
    refine aI (R:=fun wy=>aD wy w.heap.size x ka kc (some ⟨g,0,none⟩) c3/\aN wy (w.heap.size+1)/\ (∀i (h:i<(x.l.set q (r)).length),V.Item wy (fun b=>(S b\/w.heap.size+2<=b)/\b<wc.heap.size) g (i*5) (x.l.set q (r))[i])/\Ext w wy)
     ⟨ag.nG (by omega) _ _,ai.nG (by omega) _ _,rW,qH.kA (by omega) _ _⟩ ?_
    clear ag ai dU hBg hc0 aw hl0 tE jo qb yV rW iq qH jP gp rV;rintro wy ⟨ag,ai,hits,hxy⟩;obtain⟨hc0,aw,hl0⟩:=ag.see;obtain⟨hc1,aB,az⟩:=ai.see;have gp:=ae hits;clear hits;go_wp2_with fail;refine aG (h:= ?_)
    skip;skip
    refine⟨ka,kc,some ⟨g,0,none⟩,c3,?_,(V.dD ..).2 ⟨ib,?_,aQ.out.keep (Ext.kept Xt _) (fun b h _=> .inl h), .inr ⟨g,0,rfl, .inr (by omega),fun i hi=> ?_⟩⟩,Xt⟩
    ·simp [V.j5,V.val]
    ·simpa [V.j5] using gK
    ·rw [Nat.zero_add]
     exact((gp.out i hi).keep' (T:=fun b=>b≠w.heap.size+1) (by simp;omega) (Held.kept (a:=wy) aC) (fun b h=>by rcases h.1 with h|h;(have:=fM.out b h;simp;omega);(simp;omega))).mono (fun b h=>by rcases h.1 with h|h;exact .inl h;exact .inr (by omega))
   ·have he:(er !=0)=true:=by simpa using her
    simp only [if_neg her];obtain⟨hc0,aw,hl0⟩:=ag.see;obtain⟨hc1,aB,az⟩:=ai.see;go_wp2_with fail;refine aG (h:= ?_);exact⟨ka,kc,_,lc,rfl,(aJ.out.ext Xt).mono (fun b h _=> .inl h),Xt⟩
 · (try simp only [rl])
   go_simp;refine hK.out _ _ (fun _=>au _ Xt) ?_;clear hK K;(try simp only [rl]);refine aM 8 (h:=fun K hK=> ?_);(try simp only [rl]);(try go_simp);(refine(rec.out cI cJ cK cL _ Xt (hin'.ext Xt)).mono ?_);rintro e w2 ⟨aZ,bf,bg,bh,rfl,bj,h2⟩;(try go_simp);have hb2:Ext wb w2:=Xt;have hz2:=hb2.size;have jy:aN w2 wb.heap.size:=af.ext h2 (af.new _ _ _ (by simp));clear h2;obtain⟨oz,oC,oD⟩:=jy.see;refine hK.out _ _ (fun _=>au _ Xt) ?_;clear hK K;refine aH 9 [14] (hS:=au _ Xt) (h:= ?_);refine aH 10 [14] (hS:=au _ Xt) (h:= ?_);refine aH 11 [14] (hS:=au _ Xt) (h:= ?_);(try simp only [rl]);refine aM 13 (h:=fun K hK=> ?_);(try simp only [rl]);go_simp;refine hK.out _ _ (fun _=>au _ Xt) ?_;clear hK K;(try simp only [rl]);refine aM 14 (h:=fun K hK=> ?_);(try simp only [rl]);go_simp;refine bD hK (h:= ?_);clear hK K;(try simp only [rl]);refine dE (by kernel_rfl) ?_ _;have iQ:aD w2 w.heap.size x ka kc (some ⟨b',o',none⟩) lc:=af.ext (w:=wb) hb2 ag;have lN:aN w2 (w.heap.size+1):=af.ext (w:=wb) hb2 ai;have az:=ai.lt;have hwz:=hw.size;have fM:Hid (∀b,S b->b<w.heap.size):=fun b h=>Nat.lt_of_lt_of_le (hS.out b h) hwz
   have bN:Hid (r.In w2 (fun b=>(S b\/w.heap.size+2<=b)/\b≠wb.heap.size) aZ bf bg bh):=bj.mono (fun b h hlt=>by
    rcases h with h|h
    ·have:=fM.out b h;exact⟨.inl h,by omega⟩
    ·simp at h;exact⟨.inr (by omega),by omega⟩)
   have hx2:Ext w w2:=Xt;clear bj au ag ai;go_upto_region 7 with fail
   refine aI (R:=fun wx=>aD wx w.heap.size x ka kc (some ⟨b',o',none⟩) lc/\aN wx (w.heap.size+1)/\aD wx wb.heap.size r aZ bf bg bh/\r.In wx (fun b=>S b\/w.heap.size+2<=b) aZ bf bg bh/\Ext w wx)
    ⟨aj,aj,aj,bN.out.keep (Held.kept (Held.mono (S:=fun b=>b≠wb.heap.size) (a:=w2) aC (fun b h=>h.2))) (fun _ h _=>h.1),Xt⟩ ?_
   clear iQ lN bN;rintro wd ⟨ag,ai,dU,hjn,iM⟩;have aV:=ae hjn;clear hjn hx2 hb2 rec;by_cases her:er=0
   ·subst her
    simp only [if_true];obtain⟨ib,gj,hst,ic⟩:=(V.dD ..).1 aJ.out;have hll:=x.kI;have Cl:=ae (fun w' (e:Ext w w')=>GF x.l _ _ _ S w' rfl gj (by omega) (ic.ext e));have aQ:=ae hst;clear hst ic;go_upto_region 9 with fail
    refine aI (R:=fun wx=>aD wx w.heap.size x ka kc (some ⟨b',o',none⟩) lc/\aN wx (w.heap.size+1)/\aD wx wb.heap.size r aZ bf bg bh/\ (r).In wx (fun b=>S b\/w.heap.size+2<=b) aZ bf bg bh/\Ext w wx) ⟨aj,aj,aj,aV.out.ext Xt,Xt⟩ ?_;clear ag ai dU;rintro wc ⟨ag,ai,dU,hjn,fC⟩;obtain⟨hc0,aw,hl0⟩:=ag.see;go_upto_region 10 with(go_at_call 41;refine(Cl.out _ Xt).mono ?_;rintro e w3 ⟨a3,c3,rfl,gK,⟨RB,eH,wX⟩,h3⟩;have iQ:=af.ext h3 ag;obtain⟨Dn,Dp,Dq⟩:=iQ.see)
    obtain⟨g,cur,rfl,hgb,hBg,hcz,hits⟩:=qg (by omega) rfl eH wX;have wY:(r).In w3 (fun b=>(S b\/w.heap.size+2<=b)/\b<wc.heap.size) aZ bf bg bh:=(hjn.mono (fun b h hlt=>⟨h,hlt⟩)).ext h3;have az:=ai.lt;have qb:=dU.lt;have lN:=af.ext h3 ai;have Dr:=af.ext h3 dU;have hx3:Ext w w3:=Xt;have gp:=ae hits;have Ds:=ae wY;clear hits eH wX hjn wY ag ai dU h3 hc0 aw hl0;refine aI (R:=fun wx=>aD wx w.heap.size x ka kc (some ⟨g,0,none⟩) c3/\aN wx (w.heap.size+1)/\aD wx wb.heap.size r aZ bf bg bh/\af wx g cur 41/\Held (fun b=>b≠w.heap.size) w3 wx/\Ext w wx) ⟨aj,aj,aj,aj,aC,Xt⟩ ?_;clear iQ lN Dr hBg Dn Dp Dq;rintro wx ⟨ag,ai,dU,hBg,iq,qH⟩;have rN:w.heap.size+2<=wc.heap.size:=az;have rV:Hid (∀i (h:i<x.l.length),V.Item wx (fun b=>(S b\/w.heap.size+2<=b)/\b<wc.heap.size) g (i*5) x.l[i]):=fun i h=>((gp.out i h).keep' (T:=fun b=>b≠w.heap.size) (by simp;omega) iq.kept (fun b h=>by have:=fM.out b h;simp;omega)).mono (fun b h=>⟨.inl h,by have:=fM.out b h;omega⟩);have Dt:Hid ((r).In wx (fun b=>(S b\/w.heap.size+2<=b)/\b<wc.heap.size) aZ bf bg bh):=Ds.out.keep (Held.kept (iq.mono (fun b h=>by rcases h.1 with h|h;(have:=fM.out b h;simp;omega);(simp;omega)))) (fun _ h _=>h);obtain⟨hc0,aw,hl0⟩:=ag.see;obtain⟨tE,jo,qb⟩:=dU.see;obtain⟨yT,yU,yV⟩:=hBg.see;have hq0:(0:Int)<= (q:Int):=by omega
    have hq1:(q:Int)<(x.l.length:Int):=by omega
    have jP:Hid (wx.there g (q*5) 5):=GA hBg (by omega);clear yT yU;go_upto_region 11 with(refine wpList_store_mid rfl 41 _ _ rfl g (q*5) #[.int .i64 r.k, .int .i64 r.n, .string r.s, .slice aZ r.keys.length bf, .slice bg r.l.length bh] (by rfl) (by rfl) (by exact jP.out) Tryz.GD (all_oneCell_toArray (V.mR (r) aZ bf bg bh)) ?_)
    have rW:∀i (h:i<(x.l.set q (r)).length),V.Item (wx.setCells g (q*5) (V.five (r) aZ bf bg bh)) (fun b=>(S b\/w.heap.size+2<=b)/\b<wc.heap.size) g (i*5) (x.l.set q (r))[i]:=
     Gz hBg rV.out hi hcz Dt.out (hBg.kA _ _ _ _ _ _) (Held.kept (Held.kA (Held.refl _ _) (by simp;omega) _ _))
    refine aI (R:=fun wy=>aD wy w.heap.size x ka kc (some ⟨g,0,none⟩) c3/\aN wy (w.heap.size+1)/\ (∀i (h:i<(x.l.set q (r)).length),V.Item wy (fun b=>(S b\/w.heap.size+2<=b)/\b<wc.heap.size) g (i*5) (x.l.set q (r))[i])/\Ext w wy)
     ⟨ag.nG (by omega) _ _,ai.nG (by omega) _ _,rW,qH.kA (by omega) _ _⟩ ?_
    clear ag ai dU hBg hc0 aw hl0 tE jo qb yV rW iq qH jP gp rV;rintro wy ⟨ag,ai,hits,hxy⟩;obtain⟨hc0,aw,hl0⟩:=ag.see;obtain⟨hc1,aB,az⟩:=ai.see;have gp:=ae hits;clear hits;go_wp2_with fail;refine aG (h:= ?_)
    skip;skip
    refine⟨ka,kc,some ⟨g,0,none⟩,c3,?_,(V.dD ..).2 ⟨ib,?_,aQ.out.keep (Ext.kept Xt _) (fun b h _=> .inl h), .inr ⟨g,0,rfl, .inr (by omega),fun i hi=> ?_⟩⟩,Xt⟩
    ·simp [V.j5,V.val]
    ·simpa [V.j5] using gK
    ·rw [Nat.zero_add]
     exact((gp.out i hi).keep' (T:=fun b=>b≠w.heap.size+1) (by simp;omega) (Held.kept (a:=wy) aC) (fun b h=>by rcases h.1 with h|h;(have:=fM.out b h;simp;omega);(simp;omega))).mono (fun b h=>by rcases h.1 with h|h;exact .inl h;exact .inr (by omega))
   ·have he:(er !=0)=true:=by simpa using her
    simp only [if_neg her];obtain⟨hc0,aw,hl0⟩:=ag.see;obtain⟨hc1,aB,az⟩:=ai.see;go_wp2_with fail;refine aG (h:= ?_);exact⟨ka,kc,_,lc,rfl,(aJ.out.ext Xt).mono (fun b h _=> .inl h),Xt⟩
end Go.Proofs.YtlcebdaghmdkeaaGreatDoor
namespace Go.Proofs.YtlcebdaghmdkeaaGreatDoor
open Go.Proofs.Tryz
open Go.RowKit
theorem aav (F:ma) (S:aA) (lU:FuncId) (qG:Array Value) (w0:World) (hS:Hid (∀b,S b->b<w0.heap.size)) (hE:Hid (∀args w,(callFunc lU args).run prog w= .ok (.enter lU args) w)) (hD:Hid (Does F S lU qG w0)) (hl:cZ w0):
 ∀(ks:List ah) (x:V) (ka:aq) (kc:Nat) (la:aq) (lc:Nat) (a:aq) (n c:Nat) (T:aA) (w:World),ks≠ []->ks.length=n->n<=1073741824->n<=c->c<=maxLen-> (∀k∈ks,k.size<=8000)->x.sound->x.size<=1073741824->Ext w0 w->x.In w S ka kc la lc->bT w T a ks->
  Calls prog 197 #[x.val ka kc la lc, .slice a n c, .func (Fn.func lU) #[] qG] w (eY S (bW F ks x).1 (.int .i64 (bW F ks x).2) w):=by
 intro ks
 induction ks with
 |nil=>intro x _ _ _ _ _ _ _ _ _ h;exact absurd rfl h
 |cons k ks ih=>
  intro x ka kc la lc a n c T w _ hn hnb hnc hcb hks cS hsz hw hin hst;obtain⟨b,o,rfl,-,hc⟩:=hst.resolve_left (by simp);have h0:=hc 0 (by simp);simp only [Nat.add_zero,List.getElem_cons_zero] at h0
  cases ks with
  |nil=>
   simp only [List.length_singleton] at hn;subst hn;rw [E0];exact at_one F S lU qG w0 hS hE hD k x ka kc la lc b o c w (hks k (by simp)) cS hsz hw hin h0
  |cons k2 r=>
   have kO:2<=n:=by simp at hn;omega
   cases hch:x.child k with
   |none=>
    rw [E1 hch];exact aas S _ w0 k x ka kc la lc b o n c w (hks k (by simp)) kO hnb cS hsz hin h0 (hl.ext hw) hch
   |some i=>
    have hi:=vV cS hch;have he:bW F (k::k2::r) x=(if(bW F (k2::r) x.l[i]).2=0 then x.j5 i (bW F (k2::r) x.l[i]).1 else x,(bW F (k2::r) x.l[i]).2):=by
     rw [E2 hch hi]
     split
     ·rename_i h;rw [h]
     ·rfl
    rw [he];refine aau S _ w0 hS k x ka kc la lc b o n c w i _ _ (hks k (by simp)) kO hnc hnb hcb cS hsz hw hin h0 (hl.ext hw) hch hi ?_;intro cI cJ cK cL w' hw' hin';have cP:=V.qi hi;refine ih x.l[i] cI cJ cK cL (some ⟨b,o+1,none⟩) (n-1) (c-1) (fun _=>True) w' (by simp) (by simp at hn⊢;omega) (by omega) (by omega) (by omega) (fun k hk=>hks k (by simp [List.mem_cons.1 hk])) (cS.item (List.getElem_mem hi)) (by omega) (hw.trans hw') hin' ?_;refine .inr ⟨b,o+1,rfl,trivial,fun j hj=> ?_⟩;have:=hc (j+1) (by simpa using hj);rw [List.getElem_cons_succ,show o+(j+1)=o+1+j by omega] at this;exact hw'.cell this
end Go.Proofs.YtlcebdaghmdkeaaGreatDoor
namespace Go.Proofs.YtlcebdaghmdkeaaGreatDoor
open Go.Proofs.Tryz
open Go.RowKit
attribute [local go_sem↓] Go.wp_at_zero Go.wp_at_succ
theorem xY (F:ma) (S:aA) (lU:FuncId) (qG:Array Value) (w:World) (hS:Hid (∀b,S b->b<w.heap.size)) (hE:Hid (∀args w,(callFunc lU args).run prog w= .ok (.enter lU args) w)) (hD:Hid (Does F S lU qG w)) (hl:cZ w)
 (x:V) (ka:aq) (kc:Nat) (la:aq) (lc:Nat) (p:ah) (hsz:x.size<=1073741824) (hB:Hid (∀ks:List ah,(∀k∈ks,k.size<=8000)-> (bW F ks x).1.size<=1073741824)) (hin:x.In w S ka kc la lc) (hp:p.size<=1073741824):
 Calls prog 157 #[x.val ka kc la lc, .string p, .func (Fn.func lU) #[] qG] w (eY S (gH x p F).1 (.int .i64 (gH x p F).2) w):=by
 have hm:=hl.max;have aJ:=ae hin;clear hin;go_enter func157,ntmps157;go_upto_region 1 with fail
 refine aI (R:=fun wx=>aD wx w.heap.size x ka kc la lc/\aN wx (w.heap.size+1)/\Ext w wx) ⟨aj,aj,Xt⟩ ?_;rintro wa ⟨ag,ai,aF⟩;obtain⟨hc0,aw,hl0⟩:=ag.see;go_wp2_with fail;(refine(zV x ka kc la lc _ p _ hsz (aJ.out.ext Xt) hp (hm.ext Xt)).mono ?_);rintro e w2 (⟨a,n,c,ks,hnb,hfi,rfl,hn,hok,hst,h2⟩|⟨hbad,rfl,h2⟩)
 ·have qF:gH x p F=if ks= [] then(x,1) else if(bW F ks x).2=0 then(if(bW F ks x).1.fine=true then((bW F ks x).1,0) else(x,2)) else(x,(bW F ks x).2):=by
   unfold gH;rw [hnb];simp only;rw [if_neg (by rw [hfi];decide)]
  have hsm:=(B0 hnb).2;have hlen:=(B0 hnb).1;have AX:=ae qF;have cS:=gV hfi;have z7:=ae hsm;have aQ:=ae hst;have ag:=af.ext h2 ag;have ai:=af.ext h2 ai;have hx2:Ext w w2:=Xt;clear h2 hc0 aw hl0 aF qF hnb hsm hst hfi;subst hn;obtain⟨hc0,aw,hl0⟩:=ag.see;obtain⟨hc1,aB,az⟩:=ai.see;by_cases gh:ks= []
  ·subst gh
   go_wp2_with fail;refine aG (h:= ?_);rw [AX.out,if_pos trivial];exact⟨ka,kc,la,lc,rfl,(aJ.out.ext Xt).mono (fun b h _=> .inl h),Xt⟩
  ·have hks:((ks.length:Int)==0)=false:=by
    have:=List.length_pos_iff.2 gh;simp;omega
   have qI:=ae gh;clear gh;go_wp2_with fail;(refine(aav F S lU qG w hS hE hD hl ks x ka kc la lc a ks.length c _ _ qI.out rfl (by omega) hok.1 hok.2.1 z7.out cS hsz Xt (aJ.out.ext Xt) (aQ.out.ext Xt)).mono ?_);rintro e w3 ⟨aZ,bf,bg,bh,rfl,bj,h3⟩;have hx3:Ext w w3:=Xt;have hz2:=ai.lt;have dm:(bW F ks x).1.In w3 (fun b=>S b\/w.heap.size+2<=b) aZ bf bg bh:=bj.mono (fun b h _=>by rcases h with h|h;exact .inl h;exact .inr (by(try simp at h);omega));have ag:=af.ext (w:=w2) (w':=w3) Xt ag;have ai:=af.ext (w:=w2) (w':=w3) Xt ai;have eF:=ae dm;clear h3 bj dm hc0 aw hl0 hc1 aB az hx2 aQ;go_upto_region 7 with fail
   refine aI (R:=fun wx=>aD wx w.heap.size x ka kc la lc/\aN wx (w.heap.size+1)/\af wx w3.heap.size #[.int .i64 (bW F ks x).1.k, .int .i64 (bW F ks x).1.n, .string (bW F ks x).1.s, .slice aZ (bW F ks x).1.keys.length bf, .slice bg (bW F ks x).1.l.length bh] 41/\ (bW F ks x).1.In wx (fun b=>S b\/w.heap.size+2<=b) aZ bf bg bh/\Ext w wx) ⟨aj,aj,aj,eF.out.ext Xt,Xt⟩ ?_;have aS:=ai.lt;clear ag ai eF hx3;rintro wd ⟨ag,ai,dU,hjn,iM⟩;have aV:=ae hjn;clear hjn;by_cases her:(bW F ks x).2=0
   ·have he:((bW F ks x).2 !=0)=false:=by simpa using her
    have GG:=ae her;have hBs:=hB.out ks z7.out;clear her;obtain⟨tE,jo,qb⟩:=dU.see;have aw:(bW F ks x).1.fine=false\/ (bW F ks x).1.fine=true:=by cases (bW F ks x).1.fine<;>simp
    rcases aw with hf|hf
    all_goals
     have Hf:=ae hf;go_wp2_with fail;(refine(df (bW F ks x).1 aZ bf bg bh _ _ hBs (aV.out.ext Xt)).mono ?_);rintro e w4 ⟨rfl,h4⟩;rw [hf];have ag:=af.ext h4 ag;have ai:=af.ext h4 ai;have dU:=af.ext h4 dU;have bX:Ext w w4:=Xt;have RD:=aV.out.ext h4;clear h4 tE jo qb iM;obtain⟨hc0,aw,hl0⟩:=ag.see;obtain⟨hc1,aB,az⟩:=ai.see;obtain⟨tE,jo,qb⟩:=dU.see
    ·go_wp2_with fail
     refine aG (h:= ?_);rw [AX.out,if_neg qI.out,if_pos GG.out,if_neg (by rw [Hf.out];decide)];exact⟨ka,kc,la,lc,rfl,(aJ.out.ext Xt).mono (fun b h _=> .inl h),Xt⟩
    ·have Hj4:=ae RD
     clear RD;go_wp2_with fail;refine aG (h:= ?_);rw [AX.out,if_neg qI.out,if_pos GG.out,if_pos Hf.out];exact⟨aZ,bf,bg,bh,rfl,Hj4.out.keep (Held.kept (Held.mono (S:=fun b=>b≠w.heap.size+1) (a:=w4) aC (fun b h=>by rcases h with h|h;(have:=hS.out b h;simp;omega);(simp;omega)))) (fun b h _=>by rcases h with h|h;exact .inl h;exact .inr (by omega)),Xt⟩
   ·have he:((bW F ks x).2 !=0)=true:=by simpa using her
    have GG:=ae her;clear her;obtain⟨hc0,aw,hl0⟩:=ag.see;obtain⟨hc1,aB,az⟩:=ai.see;go_wp2_with fail;refine aG (h:= ?_);rw [AX.out,if_neg qI.out,if_neg GG.out];exact⟨ka,kc,la,lc,rfl,(aJ.out.ext Xt).mono (fun b h _=> .inl h),Xt⟩
 ·have qF:gH x p F=(x,1):=by
   unfold gH;rcases hbad with h|h
   ·rw [h]
   ·cases cM p<;>simp [h]
  have AX:=ae qF;have ag:=af.ext h2 ag;have ai:=af.ext h2 ai;have hx2:Ext w w2:=Xt;clear h2 hc0 aw hl0 aF qF hbad;obtain⟨hc0,aw,hl0⟩:=ag.see;obtain⟨hc1,aB,az⟩:=ai.see;go_wp2_with fail;refine aG (h:= ?_);rw [AX.out];exact⟨ka,kc,la,lc,rfl,(aJ.out.ext Xt).mono (fun b h _=> .inl h),Xt⟩
end Go.Proofs.YtlcebdaghmdkeaaGreatDoor
