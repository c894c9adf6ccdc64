import Derived.Test.YtlcebdaghmdkeabGreatDoorZ45
set_option linter.all false
set_option maxRecDepth 100000
set_option maxHeartbeats 64000000
namespace Go.Proofs.YtlcebdaghmdkeabGreatDoor
open Go.Proofs.Tryz
open Go.RowKit
attribute [local go_sem↓] Go.wp_at_zero Go.wp_at_succ
theorem afC (s s':Sv) (x:Ac) (y:Rp) (P T:az) (r:Nat) (wa:au) (wc:Nat) (w:World) (hl:cM w) (fL:Ok s') (hS:Sat w P r s'):
 Calls prog 16 #[.pointer (some ⟨r,0,none⟩), .slice wa s.ax.length wc, .agg #[.int .i64 x.k, .string x.name, .string x.who, .string x.body, .int .i64 x.ver, .int .i64 x.n, .int .i64 x.ord, .bool x.force],y.val] w fun e w2=>e= .returned (.bool true)/\Ext w w2:=by
 have tF:=ae fL.inv;have hlen':=fL.len;have dN:=ae fL;have HS:=ae hS;obtain⟨c,n,b⟩:=y;clear fL hS;go_enter func16,ntmps16;go_wp2_with fail;(refine(zR P r s' _ (HS.out.ext Xt) hlen' (fun t ht=>by have h:=tF.out.size t ht;exact⟨h.1,h.2.1⟩)).mono ?_);rintro e w2 ⟨a2,c2,rfl,-,ye,h2⟩;have hx2:Ext w w2:=Xt;have BU:=ae ye;have ahK:¬8<(s'.ax.length:Int):=by omega
 clear h2 ye HS;go_wp2_with fail
 go_loopg [10,11,12,13,15,17,18,19,27] s'.ax.length (fun g _ _ _ _ _ _ _ _ i wr=>∃k:Nat,k<=s'.ax.length/\i= .int .i64 k/\g=s'.ax.length-k/\Ext w2 wr)
 case atStart=>exact⟨0,by omega,rfl,rfl,Xt⟩
 case round=>
  obtain⟨k,hk,rfl,rfl,hx⟩:=hrel;obtain⟨wo,rfl⟩:∃x,x=wr:=⟨_,rfl⟩;by_cases hlt:k<s'.ax.length
  ·obtain⟨b1,ka,kc,la,lc,oa,oc,rfl,hS1,hb1,hi1,d0,d1,d2,d3,d4,d5,d6,d7,d8,d9,d10,d11,d12,d13,d14⟩:=(BU.out.ext hx).cells hlt
   have kY:(0:Int)<= (k:Int):=by omega
   have kZ:(k:Int)<(s'.ax.length:Int):=by omega
   have Hz:=ae (dN.out.ax _ (List.getElem_mem hlt));have hsz:=tF.out.size _ (List.getElem_mem hlt);have N6:k=0\/∃m,∃hm:m<s'.ax.length,k=m+1/\bC s'.ax[m].name s'.ax[k].name=true/\wo.cell? ⟨b1,m*15,none⟩=some (.string s'.ax[m].name):=by
    cases k with
    |zero=>exact .inl rfl
    |succ m=>
     have hm:m<s'.ax.length:=by omega
     have hr:=yK dN.out.dL (i:=m) (j:=m+1) (by simpa using hm) (by simpa using hlt) (by omega);obtain⟨b3,_,_,_,_,_,_,e1,-,-,-,f0,-⟩:=(BU.out.ext hx).cells hm
     cases e1
     exact .inr ⟨m,hm,rfl,by simpa using hr,f0⟩
   obtain⟨z,tG⟩:∃z,s'.ax[k]=z:=⟨_,rfl⟩;rw [tG] at d0 d1 d2 d3 d4 d5 d6 d7 d8 d9 d10 d11 d12 d13 d14 Hz hsz hi1 N6;have rE:=ae hi1;have afD:=ae N6;have qh:=ae hsz;clear hi1 tG N6 hsz;go_upto_region 7 with fail
   refine aI (R:=fun wx=>fu wx wo.heap.size z ka kc la lc oa oc/\Ext wo wx) ⟨aQ,Xt⟩ ?_;clear d0 d1 d2 d3 d4 d5 d6 d7 d8 d9 d10 d11 d12 d13 d14;rintro wb ⟨ag,aO⟩;have hzv:z.v.size<=1073741824:=by have:=qh.out.1;omega
   have qE:cw z.ows<=2097152:=by have:=qh.out.2.1;omega
   have VD:=VE Hz.out.name;obtain⟨hc0,aw,hl0⟩:=ag.see;go_wp2_with fail;(refine(Ig z.v ka kc la lc _ _ hzv (rE.out.v.ext Xt)).mono ?_);rintro e w7 hR;have her:xP (dx z.v)=0:=by
    have:=Hz.out.spec
    cases hs:dx z.v with
    |none=>exact absurd hs this
    |some p=>rfl
   obtain⟨a1,n1,c1,he,-,-,-,h7⟩:=ux.val hR;rw [her,<-Hz.out.cm] at he;subst he;have cW:Ext wo w7:=Xt;have dh:=af.ext (w':=w7) Xt ag;have q1:¬z.ver<1:=by have:=Hz.out.gen;omega
   have q2:¬z.gen<1:=by have:=Hz.out.gen;omega
   have q3:¬z.ver<z.gen:=by have:=Hz.out.gen;omega
   clear hR h7 hc0 aw hl0 ag her aO;obtain⟨eO,eP,eQ⟩:=dh.see;go_upto_region 8 with fail
   refine aI (R:=fun wx=>fu wx wo.heap.size z ka kc la lc oa oc/\af wx w7.heap.size #[.string z.st.cm, .slice a1 n1 c1] 50/\Ext wo wx) ⟨aQ,aQ,(show Ext wo _ from Xt)⟩ ?_;clear dh eO eP eQ cW;rintro wd ⟨ag,Bc,dG⟩;have hls:=Bc.lt
   go_cut [103] (fun s wx=>s= .bool false/\fu wx wo.heap.size z ka kc la lc oa oc/\Ext wd wx)
   case first=>
    rcases afD.out with rfl|⟨m,hm,yf,dt,f0⟩
    ·have GF:¬0<((0:Nat):Int):=by omega
     have aq:∀w',Ext wd w'-> (w'.cell? ⟨wo.heap.size,0,none⟩=some (.string z.name)/\w'.cell? ⟨wo.heap.size,1,none⟩=some (.int .i64 z.v.k)/\w'.cell? ⟨wo.heap.size,2,none⟩=some (.int .i64 z.v.n)/\w'.cell? ⟨wo.heap.size,3,none⟩=some (.string z.v.s)/\w'.cell? ⟨wo.heap.size,4,none⟩=some (.slice ka z.v.keys.length kc)/\w'.cell? ⟨wo.heap.size,5,none⟩=some (.slice la z.v.l.length lc)/\w'.cell? ⟨wo.heap.size,6,none⟩=some (.slice oa z.ows.length oc)/\w'.cell? ⟨wo.heap.size,7,none⟩=some (.int .i64 z.ver)/\w'.cell? ⟨wo.heap.size,8,none⟩=some (.int .i64 z.gen)/\w'.cell? ⟨wo.heap.size,9,none⟩=some (.string z.st.sb)/\w'.cell? ⟨wo.heap.size,10,none⟩=some (.string z.st.cm)/\w'.cell? ⟨wo.heap.size,11,none⟩=some (.int .i64 z.st.ph)/\w'.cell? ⟨wo.heap.size,12,none⟩=some (.int .i64 z.st.sp)/\w'.cell? ⟨wo.heap.size,13,none⟩=some (.int .i64 z.st.wt)/\w'.cell? ⟨wo.heap.size,14,none⟩=some (.int .i64 z.st.si)/\w'.cell? ⟨w7.heap.size,0,none⟩=some (.string z.st.cm)):=fun w' e=>⟨e.cell (ag.cells 0),e.cell (ag.cells 1),e.cell (ag.cells 2),e.cell (ag.cells 3),e.cell (ag.cells 4),e.cell (ag.cells 5),e.cell (ag.cells 6),e.cell (ag.cells 7),e.cell (ag.cells 8),e.cell (ag.cells 9),e.cell (ag.cells 10),e.cell (ag.cells 11),e.cell (ag.cells 12),e.cell (ag.cells 13),e.cell (ag.cells 14),e.cell (Bc.cells 0)⟩;refine lO aq (by kernel_rfl) (aq _ Xt) (fun hHeld=> ?_);simp only [List.append_eq,List.cons_append,List.nil_append];refine aB 0 (h:= ?_);refine aB 1 (h:= ?_);refine aB 2 (h:= ?_);refine bV 3 (h:= ?_);refine bV 4 (h:= ?_);refine bV 5 (h:= ?_);refine bV 6 (h:= ?_);refine bV 7 (h:= ?_);refine bV 8 (h:= ?_);refine bV 9 (h:= ?_);refine bV 10 (h:= ?_);refine bV 11 (h:= ?_);refine aB 12 (h:= ?_);refine aB 13 (h:= ?_);refine aB 14 (h:= ?_);refine aB 15 (h:= ?_);(try simp only [rl]);refine fJ 16 (h:=fun K hK=> ?_);(try simp only [rl]);(try go_simp);(refine(p5 z.name _ (by have:=VD.2;omega)).mono ?_);rw [Hz.out.name];rintro e w8 ⟨rfl,rfl⟩;(try go_simp);refine hK.out _ _ (aq _ Xt) (fun hHeld=> ?_);clear hK K;(try simp only [rl]);refine aB 17 (h:= ?_);refine aB 18 (h:= ?_);refine aB 19 (h:= ?_);refine aB 20 (h:= ?_);refine aB 21 (h:= ?_);refine aB 22 (h:= ?_);refine aB 23 (h:= ?_);refine aB 24 (h:= ?_);refine aB 25 (h:= ?_);(try simp only [rl]);refine fJ 26 (h:=fun K hK=> ?_);(try simp only [rl]);(try go_simp);(refine(cT z.v ka kc la lc _ _ hzv (rE.out.v.ext (dG.trans Xt))).mono ?_);rw [(z8 Hz.out.spec).2.1];rintro e w9 ⟨rfl,h9⟩;have j5:Ext wd w9:=Xt;clear h9;(try go_simp);refine hK.out _ _ (aq _ Xt) (fun hHeld=> ?_);clear hK K;(try simp only [rl]);refine aB 27 (h:= ?_);refine aB 28 (h:= ?_);refine aB 29 (h:= ?_);refine aB 30 (h:= ?_);refine aB 31 (h:= ?_);(try simp only [rl]);refine fJ 32 (h:=fun K hK=> ?_);(try simp only [rl]);(try go_simp);(refine(BG z.st _).mono ?_);rw [Hz.out.st];rintro e rU ⟨rfl,h10⟩;have vq:Ext wd rU:=Xt;clear h10;(try go_simp);refine hK.out _ _ (aq _ Xt) (fun hHeld=> ?_);clear hK K;(try simp only [rl]);refine aB 33 (h:= ?_);refine aB 34 (h:= ?_);refine aB 35 (h:= ?_);refine aB 36 (h:= ?_);refine aB 37 (h:= ?_);refine aB 38 (h:= ?_);refine aB 39 (h:= ?_);refine aB 40 (h:= ?_);refine aB 41 (h:= ?_);(try simp only [rl]);(try simp only [beq_self_eq_true,Bool.not_true]);refine aB 42 (h:= ?_);refine aB 43 (h:= ?_);refine aB 44 (h:= ?_);refine aB 45 (h:= ?_);(try simp only [rl]);refine fJ 46 (h:=fun K hK=> ?_);(try simp only [rl]);(try go_simp);(refine(AB z.ows oa oc _ _ qE (rE.out.ows.ext (dG.trans Xt)) (hl.max.ext ((hx2.trans hx).trans (dG.trans Xt)))).mono ?_);rw [Hz.out.ows.good];rintro e nQ ⟨rfl,h11⟩;have pj:Ext wd nQ:=Xt;clear h11;(try go_simp);refine hK.out _ _ (aq _ Xt) (fun hHeld=> ?_);clear hK K;(try simp only [rl]);refine aB 47 (h:= ?_);refine aB 48 (h:= ?_);refine aB 49 (h:= ?_);refine aB 50 (h:= ?_);refine aB 51 (h:= ?_);refine aB 52 (h:= ?_);(try simp only [rl]);simp only [show decide (z.ver<1)=false from decide_eq_false (by have:=Hz.out.gen;omega)];refine aB 53 (h:= ?_);refine aB 54 (h:= ?_);refine aB 55 (h:= ?_);refine aB 56 (h:= ?_);refine aB 57 (h:= ?_);(try simp only [rl]);simp only [show decide (z.gen<1)=false from decide_eq_false (by have:=Hz.out.gen;omega)];refine aB 58 (h:= ?_);refine aB 59 (h:= ?_);refine aB 60 (h:= ?_);refine aB 61 (h:= ?_);refine aB 62 (h:= ?_);refine aB 63 (h:= ?_);refine aB 64 (h:= ?_);(try simp only [rl]);simp only [show decide (z.ver<z.gen)=false from decide_eq_false (by have:=Hz.out.gen;omega)];refine aB 65 (h:= ?_);(try simp only [rl]);refine wpAnyH_done (by kernel_rfl) ?_ _;go_wp2_with fail
     go_meet
     exact⟨rfl,ag.ext pj,pj⟩
    ·have hkk:(k:Int)-1=(m:Int):=by omega
     have XV:IntKind.i64.wrap (m:Int)=(m:Int):=Fm (by omega);have hm0:(0:Int)<= (m:Int):=by omega
     have CC:(m:Int)<(s'.ax.length:Int):=by omega
     have hmp:0<(k:Int):=by omega
     have hb:=yH dt;have f0:=dG.cell f0;clear dt yf;have aq:∀w',Ext wd w'-> (w'.cell? ⟨wo.heap.size,0,none⟩=some (.string z.name)/\w'.cell? ⟨wo.heap.size,1,none⟩=some (.int .i64 z.v.k)/\w'.cell? ⟨wo.heap.size,2,none⟩=some (.int .i64 z.v.n)/\w'.cell? ⟨wo.heap.size,3,none⟩=some (.string z.v.s)/\w'.cell? ⟨wo.heap.size,4,none⟩=some (.slice ka z.v.keys.length kc)/\w'.cell? ⟨wo.heap.size,5,none⟩=some (.slice la z.v.l.length lc)/\w'.cell? ⟨wo.heap.size,6,none⟩=some (.slice oa z.ows.length oc)/\w'.cell? ⟨wo.heap.size,7,none⟩=some (.int .i64 z.ver)/\w'.cell? ⟨wo.heap.size,8,none⟩=some (.int .i64 z.gen)/\w'.cell? ⟨wo.heap.size,9,none⟩=some (.string z.st.sb)/\w'.cell? ⟨wo.heap.size,10,none⟩=some (.string z.st.cm)/\w'.cell? ⟨wo.heap.size,11,none⟩=some (.int .i64 z.st.ph)/\w'.cell? ⟨wo.heap.size,12,none⟩=some (.int .i64 z.st.sp)/\w'.cell? ⟨wo.heap.size,13,none⟩=some (.int .i64 z.st.wt)/\w'.cell? ⟨wo.heap.size,14,none⟩=some (.int .i64 z.st.si)/\w'.cell? ⟨w7.heap.size,0,none⟩=some (.string z.st.cm)/\w'.cell? ⟨b1,m*15,none⟩=some (.string s'.ax[m].name)):=fun w' e=>⟨e.cell (ag.cells 0),e.cell (ag.cells 1),e.cell (ag.cells 2),e.cell (ag.cells 3),e.cell (ag.cells 4),e.cell (ag.cells 5),e.cell (ag.cells 6),e.cell (ag.cells 7),e.cell (ag.cells 8),e.cell (ag.cells 9),e.cell (ag.cells 10),e.cell (ag.cells 11),e.cell (ag.cells 12),e.cell (ag.cells 13),e.cell (ag.cells 14),e.cell (Bc.cells 0),e.cell (f0)⟩;refine lO aq (by kernel_rfl) (aq _ Xt) (fun hHeld=> ?_);simp only [List.append_eq,List.cons_append,List.nil_append];refine aB 0 (h:= ?_);refine aB 1 (h:= ?_);(try simp only [rl]);simp only [show decide (0<k)=true from decide_eq_true (by omega)];refine aB 2 (h:= ?_);refine aB 3 (h:= ?_);refine aB 4 (h:= ?_);refine aB 5 (h:= ?_);refine aB 6 (h:= ?_);refine aB 7 (h:= ?_);refine aB 8 (h:= ?_);refine aB 9 (h:= ?_);refine aB 10 (h:= ?_);refine aB 11 (h:= ?_);(try simp only [rl]);(try simp only [hb,Bool.not_true]);refine aB 12 (h:= ?_);refine aB 13 (h:= ?_);refine aB 14 (h:= ?_);refine aB 15 (h:= ?_);(try simp only [rl]);refine fJ 16 (h:=fun K hK=> ?_);(try simp only [rl]);(try go_simp);(refine(p5 z.name _ (by have:=VD.2;omega)).mono ?_);rw [Hz.out.name];rintro e w8 ⟨rfl,rfl⟩;(try go_simp);refine hK.out _ _ (aq _ Xt) (fun hHeld=> ?_);clear hK K;(try simp only [rl]);refine aB 17 (h:= ?_);refine aB 18 (h:= ?_);refine aB 19 (h:= ?_);refine aB 20 (h:= ?_);refine aB 21 (h:= ?_);refine aB 22 (h:= ?_);refine aB 23 (h:= ?_);refine aB 24 (h:= ?_);refine aB 25 (h:= ?_);(try simp only [rl]);refine fJ 26 (h:=fun K hK=> ?_);(try simp only [rl]);(try go_simp);(refine(cT z.v ka kc la lc _ _ hzv (rE.out.v.ext (dG.trans Xt))).mono ?_);rw [(z8 Hz.out.spec).2.1];rintro e w9 ⟨rfl,h9⟩;have j5:Ext wd w9:=Xt;clear h9;(try go_simp);refine hK.out _ _ (aq _ Xt) (fun hHeld=> ?_);clear hK K;(try simp only [rl]);refine aB 27 (h:= ?_);refine aB 28 (h:= ?_);refine aB 29 (h:= ?_);refine aB 30 (h:= ?_);refine aB 31 (h:= ?_);(try simp only [rl]);refine fJ 32 (h:=fun K hK=> ?_);(try simp only [rl]);(try go_simp);(refine(BG z.st _).mono ?_);rw [Hz.out.st];rintro e rU ⟨rfl,h10⟩;have vq:Ext wd rU:=Xt;clear h10;(try go_simp);refine hK.out _ _ (aq _ Xt) (fun hHeld=> ?_);clear hK K;(try simp only [rl]);refine aB 33 (h:= ?_);refine aB 34 (h:= ?_);refine aB 35 (h:= ?_);refine aB 36 (h:= ?_);refine aB 37 (h:= ?_);refine aB 38 (h:= ?_);refine aB 39 (h:= ?_);refine aB 40 (h:= ?_);refine aB 41 (h:= ?_);(try simp only [rl]);(try simp only [beq_self_eq_true,Bool.not_true]);refine aB 42 (h:= ?_);refine aB 43 (h:= ?_);refine aB 44 (h:= ?_);refine aB 45 (h:= ?_);(try simp only [rl]);refine fJ 46 (h:=fun K hK=> ?_);(try simp only [rl]);(try go_simp);(refine(AB z.ows oa oc _ _ qE (rE.out.ows.ext (dG.trans Xt)) (hl.max.ext ((hx2.trans hx).trans (dG.trans Xt)))).mono ?_);rw [Hz.out.ows.good];rintro e nQ ⟨rfl,h11⟩;have pj:Ext wd nQ:=Xt;clear h11;(try go_simp);refine hK.out _ _ (aq _ Xt) (fun hHeld=> ?_);clear hK K;(try simp only [rl]);refine aB 47 (h:= ?_);refine aB 48 (h:= ?_);refine aB 49 (h:= ?_);refine aB 50 (h:= ?_);refine aB 51 (h:= ?_);refine aB 52 (h:= ?_);(try simp only [rl]);simp only [show decide (z.ver<1)=false from decide_eq_false (by have:=Hz.out.gen;omega)];refine aB 53 (h:= ?_);refine aB 54 (h:= ?_);refine aB 55 (h:= ?_);refine aB 56 (h:= ?_);refine aB 57 (h:= ?_);(try simp only [rl]);simp only [show decide (z.gen<1)=false from decide_eq_false (by have:=Hz.out.gen;omega)];refine aB 58 (h:= ?_);refine aB 59 (h:= ?_);refine aB 60 (h:= ?_);refine aB 61 (h:= ?_);refine aB 62 (h:= ?_);refine aB 63 (h:= ?_);refine aB 64 (h:= ?_);(try simp only [rl]);simp only [show decide (z.ver<z.gen)=false from decide_eq_false (by have:=Hz.out.gen;omega)];refine aB 65 (h:= ?_);(try simp only [rl]);refine wpAnyH_done (by kernel_rfl) ?_ _;clear aq f0 hb hkk XV;go_wp2_with fail
     go_meet
     exact⟨rfl,ag.ext pj,pj⟩
   case rest=>
    obtain⟨rfl,ai,fh⟩:=hcut;have zi:Ext wo wc:=dG.trans fh;have VF:=(z8 Hz.out.spec).2.1;have Da:=Hz.out.ows
    have afE:=ae (show∀o∈z.ows,∀p∈o.paths,(bZ z.v p).2=0/\p.size<=1073741824 from fun o ho p hp=>by
     have h1:=Da.there o ho p hp;obtain⟨q,hq,-⟩:=A1 Da.good ho hp;have hz1:=Da.small o ho;have hz2:=uO (fun k:ah=>k.size+1) hp;unfold ft at hz1;refine⟨?_,by(try simp only at hz2);omega⟩
     cases hv:bG z.v p with
     |none=>exact absurd hv h1
     |some y=>
      have hg:bp q z.v=some y:=by unfold bG bJ at hv;rw [hq] at hv;exact hv
      rw [JQ VF hq hg])
    have qE:=tQ z.ows;have ahL:=qh.out.2.1;clear VF Da ag Bc;obtain⟨hc1,aA,ay⟩:=ai.see;go_wp2_with fail
    go_loopg [15,17,18,19,107] z.ows.length (fun g _ _ _ _ i wx=>∃j:Nat,j<=z.ows.length/\i= .int .i64 j/\g=z.ows.length-j/\fu wx wo.heap.size z ka kc la lc oa oc/\Ext wc wx)
    case atStart=>exact⟨0,by omega,rfl,rfl,aQ,Xt⟩
    case round=>
     clear ai hc1 aA ay;obtain⟨j,hj,rfl,rfl,ai,mF⟩:=hrel;obtain⟨wp,rfl⟩:∃x,x=wr:=⟨_,rfl⟩;by_cases hjl:j<z.ows.length
     ·obtain⟨b2,o2,rfl,o8,pa,pc,e0,e1,hps,hst⟩:=(rE.out.ows.ext (zi.trans mF)).item hjl
      have Ii:(0:Int)<= (j:Int):=by omega
      have Ij:(j:Int)<(z.ows.length:Int):=by omega
      have VG:=ae (afE.out _ (List.getElem_mem hjl));have hpl:(z.ows[j]).paths.length<=1800000:=by have h1:=Ow.qH z.ows[j];have h2:=qG (List.getElem_mem hjl);omega
      obtain⟨ow,how⟩:∃ow,z.ows[j]=ow:=⟨_,rfl⟩;rw [how] at e0 e1 hst VG hpl;have aP:=ae hst;clear hst how hps;go_upto_region 13 with fail
      refine aI (R:=fun wx=>fu wx wo.heap.size z ka kc la lc (some ⟨b2,o2,none⟩) oc/\af wx wp.heap.size #[.string ow.name, .slice pa ow.paths.length pc] 58/\Ext wp wx) ⟨aQ,aQ,Xt⟩ ?_;clear ai e0 e1;rintro we ⟨ai,ak,iL⟩;have VH:Ext wc we:=mF.trans iL;obtain⟨hc2,hf2,hl2⟩:=ak.see;go_wp2_with fail
      go_loopg [17,18,19,114] ow.paths.length (fun g _ _ _ i wx=>∃m:Nat,m<=ow.paths.length/\i= .int .i64 m/\g=ow.paths.length-m/\fu wx wo.heap.size z ka kc la lc (some ⟨b2,o2,none⟩) oc/\Ext we wx)
      case atStart=>exact⟨0,by omega,rfl,rfl,aQ,Xt⟩
      case round=>
       clear ai ak hc2 hf2 hl2;obtain⟨m,hm,rfl,rfl,ai,vU⟩:=hrel;by_cases yF:m<ow.paths.length
       ·obtain⟨b3,o3,rfl,FR,hC⟩:=aP.out.resolve_left (by intro h;rw [h] at yF;simp at yF)
        have f0:=vU.cell (iL.cell (hC m yF));have ahM:(0:Int)<= (m:Int):=by omega
        have ahN:(m:Int)<(ow.paths.length:Int):=by omega
        obtain⟨hp0,tX⟩:=VG.out _ (List.getElem_mem yF);have VI:Ext wo wr:=zi.trans (VH.trans vU);obtain⟨p,hp⟩:∃p,ow.paths[m]=p:=⟨_,rfl⟩;rw [hp] at f0 hp0 tX;have MJ:=ae hp0;clear hC hp hp0;obtain⟨hc1,aA,ay⟩:=ai.see;go_wp2_with fail;(refine(oU z.v ka kc la lc _ p _ hzv (rE.out.v.ext (VI.trans Xt)) tX (hl.ext ((hx2.trans hx).trans (VI.trans Xt)))).mono ?_);rintro e ub ⟨kb,kd,lb,ld,he,-,h12⟩;rw [MJ.out] at he;obtain⟨y,hy⟩:∃y,(bZ z.v p).1=y:=⟨_,rfl⟩;rw [hy] at he;subst he;have yY:Ext wr ub:=Xt;have ahO:=af.ext (w':=ub) Xt ai;clear h12 hy hc1 aA ay ai f0;go_wp2_with fail;go_roundg (ow.paths.length-(m+1))
        case measure=>omega
        case rel=>exact⟨m+1,by omega,by go_num,rfl,aQ,vU.trans (yY.trans Xt)⟩
       ·go_wp2_with fail
        go_roundg (z.ows.length-(j+1))
        case measure=>omega
        case rel=>exact⟨j+1,by omega,by go_num,rfl,aQ,VH.trans (vU.trans Xt)⟩
     ·go_wp2_with fail
      go_roundg (s'.ax.length-(k+1))
      case measure=>omega
      case rel=>exact⟨k+1,by omega,by go_num,rfl,hx.trans (zi.trans (mF.trans Xt))⟩
  ·go_wp2_with fail
   go_ret;exact⟨rfl,hx2.trans Xt⟩
theorem afB (a:au) (cap:Nat) (l:List Ac) (w:World) (hl:jl (fun b=>w.heap.size<=b) w) (cX:j3 l<=1048576) (hin:gI w (fun b=>b<w.heap.size) l a):
 Calls prog 5 #[.slice a l.length cap] w fun e w'=>e= .returned (.bool true)/\Ext w w':=by
 have Hl:=ae hl;have aJ:=ae hin;clear hl hin;go_enter func5,ntmps5;go_wp2_with fail;(refine(N4 16 l a cap _ cX ((aJ.out.keep ((show Ext w _ from Xt).kept _)).mono fun b h=>by(try simp);omega) ((Hl.out.next ((show Ext w _ from Xt).upd _)).mono fun b h=>by(try simp at h);omega) (enters_of func16 (by kernel_rfl) rfl) ?_).mono ?_)
 ·intro k hk s s' y P T r wa wc w1 N5 hok fL hst rP hx hS hsl hT
  have hlx:=Az (List.getElem_mem hk);unfold Ac.size at hlx;exact afC s s' l[k] y P T r wa wc w1 ((Hl.out _ (((show Ext w _ from Xt).trans hx).upd _)).1) fL hS
 ·rintro e w2 ⟨P,r,rfl,-,-,h2⟩
  go_wp2_with fail;go_ret;exact⟨rfl,Xt⟩
end Go.Proofs.YtlcebdaghmdkeabGreatDoor
