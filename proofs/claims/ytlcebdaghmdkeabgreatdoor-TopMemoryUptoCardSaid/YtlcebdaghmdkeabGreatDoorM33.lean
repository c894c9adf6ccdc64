import Derived.Test.YtlcebdaghmdkeabGreatDoorM31
set_option linter.all false
set_option maxRecDepth 100000
set_option maxHeartbeats 64000000
namespace Go.Proofs.YtlcebdaghmdkeabGreatDoor
open Go.Proofs.Tryz
open Go.RowKit
attribute [local go_sem↓] Go.wp_at_zero Go.wp_at_succ
theorem afc (t:Th) (ka:aq) (kc:Nat) (la:aq) (lc:Nat) (oa:aq) (oc:Nat) (kb:aq) (kd:Nat) (lb:aq) (ld:Nat) (ob:aq) (od:Nat) (S T:aw) (w:World)
 (h1:kZ w S t ka kc la lc oa oc) (h2:kZ w T t kb kd lb ld ob od) (hz:t.v.size<=1073741824) (iz:cF t.ows<=1073741824):
 Calls prog 60 #[.agg #[.string t.name, .int .i64 t.v.k, .int .i64 t.v.n, .string t.v.s, .slice ka t.v.keys.length kc, .slice la t.v.l.length lc, .slice oa t.ows.length oc, .int .i64 t.ver, .int .i64 t.gen, .string t.st.sb, .string t.st.cm, .int .i64 t.st.ph, .int .i64 t.st.sp, .int .i64 t.st.wt, .int .i64 t.st.si], .agg #[.string t.name, .int .i64 t.v.k, .int .i64 t.v.n, .string t.v.s, .slice kb t.v.keys.length kd, .slice lb t.v.l.length ld, .slice ob t.ows.length od, .int .i64 t.ver, .int .i64 t.gen, .string t.st.sb, .string t.st.cm, .int .i64 t.st.ph, .int .i64 t.st.sp, .int .i64 t.st.wt, .int .i64 t.st.si]] w fun e w'=>e= .returned (.bool true)/\Ext w w':=by
 have H1:=ae h1;have H2:=ae h2;clear h1 h2;have zt:=ae ((Ek t.v t.v).2 rfl);go_enter func60,ntmps60;go_upto_region 1 with fail
 refine aI (R:=fun wx=>lG wx w.heap.size t ka kc la lc oa oc/\lG wx (w.heap.size+1) t kb kd lb ld ob od/\Ext w wx) ⟨bk,bk,Xt⟩ ?_;rintro wa ⟨ag,ai,aD⟩;obtain⟨hc0,ax,hl0⟩:=ag.see;obtain⟨hc1,aA,ay⟩:=ai.see;go_wp2_with fail;(refine(CD t.v t.v ka kc la lc S kb kd lb ld T _ hz hz (H1.out.v.ext Xt) (H2.out.v.ext Xt)).mono ?_);rw [zt.out];rintro e w1 ⟨rfl,AB⟩;have hx1:Ext wa w1:=Xt;have ak:=ag.ext hx1;have bK:=ai.ext hx1;have cP:Ext w w1:=aD.trans hx1;clear AB hc0 ax hl0 hc1 aA ay ag ai;obtain⟨hc2,hf2,hl2⟩:=ak.see;obtain⟨hc3,hf3,aS⟩:=bK.see;go_wp2_with fail;(refine(afb t.ows t.ows oa ob _ _ oc od S T _ (H1.out.ows.ext Xt) (H2.out.ows.ext Xt) rfl rfl iz).mono ?_);rintro e w2 ⟨b,rfl,hr,Va⟩;obtain rfl:b=true:=hr.2 rfl;go_wp2_with fail;go_ret;exact⟨rfl,Xt⟩
theorem jF.cells {w:World} {S:aw} {l:List Th} {a:aq} (h:jF w S l a) {i:Nat} (hi:i<l.length):∃b ka kc la lc oa oc,a=some ⟨b,0,none⟩/\S b/\b<w.heap.size/\kZ w S l[i] ka kc la lc oa oc/\
 w.cell? ⟨b,i*15,none⟩=some (.string l[i].name)/\
 w.cell? ⟨b,i*15+1,none⟩=some (.int .i64 l[i].v.k)/\
 w.cell? ⟨b,i*15+2,none⟩=some (.int .i64 l[i].v.n)/\
 w.cell? ⟨b,i*15+3,none⟩=some (.string l[i].v.s)/\
 w.cell? ⟨b,i*15+4,none⟩=some (.slice ka l[i].v.keys.length kc)/\
 w.cell? ⟨b,i*15+5,none⟩=some (.slice la l[i].v.l.length lc)/\
 w.cell? ⟨b,i*15+6,none⟩=some (.slice oa l[i].ows.length oc)/\
 w.cell? ⟨b,i*15+7,none⟩=some (.int .i64 l[i].ver)/\
 w.cell? ⟨b,i*15+8,none⟩=some (.int .i64 l[i].gen)/\
 w.cell? ⟨b,i*15+9,none⟩=some (.string l[i].st.sb)/\
 w.cell? ⟨b,i*15+10,none⟩=some (.string l[i].st.cm)/\
 w.cell? ⟨b,i*15+11,none⟩=some (.int .i64 l[i].st.ph)/\
 w.cell? ⟨b,i*15+12,none⟩=some (.int .i64 l[i].st.sp)/\
 w.cell? ⟨b,i*15+13,none⟩=some (.int .i64 l[i].st.wt)/\
 w.cell? ⟨b,i*15+14,none⟩=some (.int .i64 l[i].st.si):=by
 obtain⟨b,ka,kc,la,lc,oa,oc,h1,h2,h3,h4,h5⟩:=h.at hi;exact⟨b,ka,kc,la,lc,oa,oc,h1,h2,h3,h5,h4 0 _ rfl,h4 1 _ rfl,h4 2 _ rfl,h4 3 _ rfl,h4 4 _ rfl,h4 5 _ rfl,h4 6 _ rfl,h4 7 _ rfl,h4 8 _ rfl,h4 9 _ rfl,h4 10 _ rfl,h4 11 _ rfl,h4 12 _ rfl,h4 13 _ rfl,h4 14 _ rfl⟩
theorem aev (l:List Th) (a1 a2:aq) (n1 n2 c1 c2:Nat) (S T:aw) (w:World) (h1:jF w S l a1) (h2:jF w T l a2) (e1:l.length=n1) (e2:l.length=n2) (hl:l.length<=1048576) (hz:∀t∈l,t.v.size<=14640/\cF t.ows<=1800000):
 Calls prog 32 #[.slice a1 n1 c1, .slice a2 n2 c2] w fun e w'=>e= .returned (.bool true)/\Ext w w':=by
 subst e1;subst e2;have H1:=ae h1;have H2:=ae h2;have Hz:=ae hz;clear h1 h2 hz;go_enter func32,ntmps32;go_wp2_with fail
 go_loopg [5,13] l.length (fun g _ i wr=>∃k:Nat,k<=l.length/\i= .int .i64 k/\g=l.length-k/\Ext w wr)
 case atStart=>exact⟨0,by omega,rfl,rfl,Ext.refl _⟩
 case round=>
  obtain⟨k,hk,rfl,rfl,hx⟩:=hrel;by_cases hlt:k<l.length
  ·obtain⟨b1,ka,kc,la,lc,oa,oc,rfl,hS1,hb1,hi1,d0,d1,d2,d3,d4,d5,d6,d7,d8,d9,d10,d11,d12,d13,d14⟩:=(H1.out.ext hx).cells hlt
   obtain⟨b2,kb,kd,lb,ld,ob,od,rfl,qR,hb2,hi2,f0,f1,f2,f3,f4,f5,f6,f7,f8,f9,f10,f11,f12,f13,f14⟩:=(H2.out.ext hx).cells hlt;obtain⟨hz1,hz2⟩:=Hz.out _ (List.getElem_mem hlt);have nj:(0:Int)<= (k:Int):=by omega
   have np:(k:Int)<(l.length:Int):=by omega
   obtain⟨z,DJ⟩:∃z,l[k]=z:=⟨_,rfl⟩;rw [DJ] at d0 f0 d1 f1 d2 f2 d3 f3 d4 f4 d5 f5 d6 f6 d7 f7 d8 f8 d9 f9 d10 f10 d11 f11 d12 f12 d13 f13 d14 f14 hi1 hi2 hz1 hz2;have Hi1:=ae hi1;have Hi2:=ae hi2;clear hi1 hi2 DJ;go_upto_region 6 with fail
   have au:∀w',Ext wr w'-> (w'.cell? ⟨b1,k*15,none⟩=some (.string z.name)/\w'.cell? ⟨b1,k*15+1,none⟩=some (.int .i64 z.v.k)/\w'.cell? ⟨b1,k*15+2,none⟩=some (.int .i64 z.v.n)/\w'.cell? ⟨b1,k*15+3,none⟩=some (.string z.v.s)/\w'.cell? ⟨b1,k*15+4,none⟩=some (.slice ka z.v.keys.length kc)/\w'.cell? ⟨b1,k*15+5,none⟩=some (.slice la z.v.l.length lc)/\w'.cell? ⟨b1,k*15+6,none⟩=some (.slice oa z.ows.length oc)/\w'.cell? ⟨b1,k*15+7,none⟩=some (.int .i64 z.ver)/\w'.cell? ⟨b1,k*15+8,none⟩=some (.int .i64 z.gen)/\w'.cell? ⟨b1,k*15+9,none⟩=some (.string z.st.sb)/\w'.cell? ⟨b1,k*15+10,none⟩=some (.string z.st.cm)/\w'.cell? ⟨b1,k*15+11,none⟩=some (.int .i64 z.st.ph)/\w'.cell? ⟨b1,k*15+12,none⟩=some (.int .i64 z.st.sp)/\w'.cell? ⟨b1,k*15+13,none⟩=some (.int .i64 z.st.wt)/\w'.cell? ⟨b1,k*15+14,none⟩=some (.int .i64 z.st.si)/\w'.cell? ⟨b2,k*15,none⟩=some (.string z.name)/\w'.cell? ⟨b2,k*15+1,none⟩=some (.int .i64 z.v.k)/\w'.cell? ⟨b2,k*15+2,none⟩=some (.int .i64 z.v.n)/\w'.cell? ⟨b2,k*15+3,none⟩=some (.string z.v.s)/\w'.cell? ⟨b2,k*15+4,none⟩=some (.slice kb z.v.keys.length kd)/\w'.cell? ⟨b2,k*15+5,none⟩=some (.slice lb z.v.l.length ld)/\w'.cell? ⟨b2,k*15+6,none⟩=some (.slice ob z.ows.length od)/\w'.cell? ⟨b2,k*15+7,none⟩=some (.int .i64 z.ver)/\w'.cell? ⟨b2,k*15+8,none⟩=some (.int .i64 z.gen)/\w'.cell? ⟨b2,k*15+9,none⟩=some (.string z.st.sb)/\w'.cell? ⟨b2,k*15+10,none⟩=some (.string z.st.cm)/\w'.cell? ⟨b2,k*15+11,none⟩=some (.int .i64 z.st.ph)/\w'.cell? ⟨b2,k*15+12,none⟩=some (.int .i64 z.st.sp)/\w'.cell? ⟨b2,k*15+13,none⟩=some (.int .i64 z.st.wt)/\w'.cell? ⟨b2,k*15+14,none⟩=some (.int .i64 z.st.si)):=fun w' e=>⟨e.cell (d0),e.cell (d1),e.cell (d2),e.cell (d3),e.cell (d4),e.cell (d5),e.cell (d6),e.cell (d7),e.cell (d8),e.cell (d9),e.cell (d10),e.cell (d11),e.cell (d12),e.cell (d13),e.cell (d14),e.cell (f0),e.cell (f1),e.cell (f2),e.cell (f3),e.cell (f4),e.cell (f5),e.cell (f6),e.cell (f7),e.cell (f8),e.cell (f9),e.cell (f10),e.cell (f11),e.cell (f12),e.cell (f13),e.cell (f14)⟩;refine nt au (by kernel_rfl) (au _ Xt) (fun hHeld=> ?_);refine aJ 0 (h:= ?_);refine aJ 1 (h:= ?_);refine aJ 2 (h:= ?_);refine aJ 3 (h:= ?_);refine aJ 4 (h:= ?_);refine aJ 5 (h:= ?_);refine aJ 6 (h:= ?_);refine aJ 7 (h:= ?_);(try simp only [rl]);refine iw 8 (h:=fun K hK=> ?_);(try simp only [rl]);(try go_simp);(refine(afc z ka kc la lc oa oc kb kd lb ld ob od S T _ (Hi1.out.ext Xt) (Hi2.out.ext Xt) (by omega) (by omega)).mono ?_);rintro e w2 ⟨rfl,Va⟩;(try go_simp);refine hK.out _ _ (au _ Xt) (fun hHeld=> ?_);clear hK K;(try simp only [rl]);refine aJ 9 (h:= ?_);(try simp only [rl]);refine wpAnyH_done (by kernel_rfl) ?_ _;go_wp2_with fail;go_roundg (l.length-(k+1))
   case measure=>omega
   case rel=>exact⟨k+1,by omega,by go_num,rfl,Xt⟩
  ·go_wp2_with fail
   go_ret;exact⟨rfl,Xt⟩
end Go.Proofs.YtlcebdaghmdkeabGreatDoor
