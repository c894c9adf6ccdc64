import Derived.Sort.OwnSorted
import Derived.Test.YtlcebdaghmdkeabGreatDoorZ8
import Derived.Test.YtlcebdaghmdkeabGreatDoorZ13
set_option linter.all false
set_option maxRecDepth 100000
set_option maxHeartbeats 64000000
namespace Go.Proofs.YtlcebdaghmdkeabGreatDoor
open Go.Proofs.Tryz
open Go.RowKit
attribute [local go_sem↓] Go.wp_at_zero Go.wp_at_succ
theorem tV (p q:ah) (w:World) (hp:p.size<=1073741824):Calls prog 137 #[.string p, .string q] w fun e w'=>e= .returned (.bool (fV p q))/\w=w':=by
 have c1:¬p.size+(⟨#[47]⟩:ah).size>9223372036854775807:=by have:(⟨#[47]⟩:ah).size=1:=rfl;omega
 go_enter func137,ntmps137;go_wp2_with fail;have hP:=Tryz.strings_HasPrefix q (p++⟨#[47]⟩) w;(refine hP.mono ?_);rintro e w1 ⟨rfl,rfl⟩;go_wp2_with fail;go_ret;refine⟨dv ?_,rfl⟩;unfold fV Lib.hasPrefix;simp
theorem aa5 {ks:List ah} {k:Nat} (h:k<ks.length) (y:V):bp (ks.drop k) y=(y.member ks[k]).bind (bp (ks.drop (k+1))):=by
 rw [List.drop_eq_getElem_cons h];rfl
theorem aa6 {ks:List ah} {k:Nat} (h:¬k<ks.length) (y:V):bp (ks.drop k) y=some y:=by
 rw [List.drop_eq_nil_of_le (by omega)];rfl
theorem C5 (x:V) (ka:au) (kc:Nat) (la:au) (lc:Nat) (S:az) (p:ah) (w:World) (hsz:x.size<=1073741824) (hin:x.In w S ka kc la lc) (hp:p.size<=1073741824) (hm:fZ w):
 Calls prog 139 #[x.val ka kc la lc, .string p] w (fe S ((bG x p).getD V.zero) (.bool (bG x p).isSome) w):=by
 have aJ:=ae (hin.mono (T:=fun b=>(S b/\b<w.heap.size)\/w.heap.size+2<=b) (fun b h hl=> .inl ⟨h,hl⟩));clear hin;go_enter func139,ntmps139;go_upto_region 1 with fail
 refine aI (R:=fun wx=>aD wx w.heap.size x ka kc la lc/\aN wx (w.heap.size+1)/\Ext w wx) ⟨aj,aj,Xt⟩ ?_;rintro wa ⟨ag,ai,aH⟩;have ay:=ai.lt;go_wp2_with fail;(refine(Cy p _ hp (hm.ext Xt)).mono ?_);rintro e w1 ⟨na,nc,rfl,wP,oZ,h1⟩;obtain⟨er,her⟩:∃er:Int,(if(cJ p).isSome=true then(0:Int) else 1)=er:=⟨_,rfl⟩;rw [her];clear her;have hnl:=(Fl p).1;have ag:=af.ext h1 ag;have ai:=af.ext h1 ai;have hx1:Ext w w1:=aH.trans h1;have aJ:=ae (aJ.out.ext hx1);have aP:=ae (oZ.keep (T:=fun b=>w.heap.size+2<=b) (fun _ _ _=>rfl) (fun b h _=>by omega));have FK:=ae (show bp ((bJ p).drop 0) x=bG x p from rfl);clear h1 aH ay oZ;go_wp2_with fail
 go_loopg [19] (bJ p).length (fun g i wr=>∃(k:Nat) (y:V) (ky:au) (kd:Nat) (ly:au) (ld:Nat),k<= (bJ p).length/\i= .int .i64 k/\g=(bJ p).length-k/\bp ((bJ p).drop k) y=bG x p/\y.size<=1073741824/\
  aD wr w.heap.size y ky kd ly ld/\aN wr (w.heap.size+1)/\y.In wr (fun b=>(S b/\b<w.heap.size)\/w.heap.size+2<=b) ky kd ly ld/\bR wr (fun b=>w.heap.size+2<=b) na (bJ p)/\Ext w wr)
 case atStart=>exact⟨0,x,ka,kc,la,lc,Nat.zero_le _,rfl,rfl,FK.out,hsz,aj,aj,aJ.out.ext Xt,aP.out.ext Xt,Xt⟩
 case round=>
  obtain⟨k,y,ky,kd,ly,ld,hk,rfl,rfl,hgo,hys,ag,ai,R7,hst,hx⟩:=hrel;clear aJ aP FK hx1;have nX:=ae hgo;have R8:=ae R7;clear hgo R7;have Jf:=ai.lt;by_cases hlt:k<(bJ p).length
  ·obtain⟨b,o,rfl,hS,hC⟩:=hst.resolve_left (by intro h;rw [h] at hlt;simp at hlt)
   have d0:=hC k hlt;have aP:=ae hst;have pz:=ae (aa5 hlt y);clear hC hst;obtain⟨hc0,aw,hl0⟩:=ag.see;go_wp2_with fail;(refine(qC y (bJ p)[k] ky kd ly ld _ _ hys (R8.out.ext Xt)).mono ?_);have vA:=Fe y (bJ p)[k]
   cases hmm:y.member (bJ p)[k] with
   |none=>
    have Be:y.iH (bJ p)[k]=V.zero:=by unfold V.iH;rw [hmm];rfl
    rw [Be];have bw:=ae (show bG x p=none by rw [<-nX.out,pz.out,hmm];rfl);rintro e w2 ⟨bh,bj,bk,bn,rfl,bf,h2⟩;have ai:=af.ext (w':=w2) Xt ai;have hx2:Ext w w2:=Xt;have hzz:=hx.size;clear h2 hc0 aw hl0 Be hmm vA;go_upto_region 7 with fail
    refine aI (R:=fun wx=>aD wx w2.heap.size V.zero bh bj bk bn/\aN wx (w.heap.size+1)/\Ext w2 wx) ⟨aj,aj,Xt⟩ ?_;rintro wb ⟨qi,ai,aO⟩;have bg:=ae (bf.ext aO);have hx3:Ext w wb:=hx2.trans aO;clear bf aO hx2;obtain⟨xj,xk,xm⟩:=qi.see;obtain⟨hc1,aA,ay⟩:=ai.see;go_wp2_with fail;refine aF (h:= ?_);rw [bw.out];exact⟨bh,bj,bk,bn,rfl,V.In.keep (S:=fun b=>b≠w.heap.size+1/\ ((S b/\b<w.heap.size)\/w.heap.size+2<=b)) (bg.out.mono (fun b h _=>by rcases h with(h|h)|h;exact⟨by omega, .inl h⟩;exact⟨by omega, .inr h⟩;(try simp at h);exact⟨by omega, .inr (by omega)⟩)) (Held.kept (a:=wb) (T:=fun b=>b≠w.heap.size+1/\ ((S b/\b<w.heap.size)\/w.heap.size+2<=b)) aC) (fun b h _=>by rcases h.2 with h|h;exact .inl h.1;exact .inr (by omega)),Xt⟩
   |some z=>
    have Be:y.iH (bJ p)[k]=z:=by unfold V.iH;rw [hmm];rfl
    rw [Be];have aa7:=ae (show bp ((bJ p).drop (k+1)) z=bG x p by rw [<-nX.out,pz.out,hmm];rfl);have hzs:z.size<=1073741824:=by have:=RJ hmm;omega
    rintro e w2 ⟨bh,bj,bk,bn,rfl,bf,h2⟩;have ag:=af.ext (w':=w2) Xt ag;have ai:=af.ext (w':=w2) Xt ai;have hx2:Ext w w2:=Xt;have hzz:=hx.size;have hw2:=ai.lt;have aP:=ae (aP.out.ext (w':=w2) Xt);have bg:=ae (bf.mono (T:=fun b=>(S b/\b<w.heap.size)\/w.heap.size+2<=b) (fun b h _=>by rcases h with h|h;exact h;(try simp at h);exact .inr (by omega)));clear h2 hc0 aw hl0 Be hmm vA bf;go_upto_region 8 with fail
    refine aI (R:=fun wx=>aD wx w2.heap.size z bh bj bk bn/\aD wx w.heap.size y ky kd ly ld/\aN wx (w.heap.size+1)/\Ext w2 wx) ⟨aj,aj,aj,Xt⟩ ?_;clear ag ai;rintro wb ⟨qi,ag,ai,aO⟩;have bg:=ae (bg.out.ext aO);have aP:=ae (aP.out.ext aO);have hx3:Ext w wb:=hx2.trans aO;clear aO hx2;obtain⟨xj,xk,xm⟩:=qi.see;obtain⟨hc0,aw,hl0⟩:=ag.see;go_wp2_with fail;go_roundg ((bJ p).length-(k+1))
    case measure=>omega
    case rel=>exact⟨k+1,z,bh,bj,bk,bn,by omega,by go_num,rfl,aa7.out,hzs,aj,aj,bg.out.keep (Held.kept (a:=wb) (T:=fun b=>(S b/\b<w.heap.size)\/w.heap.size+2<=b) aC) (fun b h _=>h),aP.out.keep (Held.kept (a:=wb) (T:=fun b=>w.heap.size+2<=b) aC) (fun b h _=>h),Xt⟩
  ·have lB:=ae (show bG x p=some y by rw [<-nX.out,aa6 hlt])
   obtain⟨hc0,aw,hl0⟩:=ag.see;obtain⟨hc1,aA,ay⟩:=ai.see;go_wp2_with fail;refine aF (h:= ?_);rw [lB.out];have j5:Ext w wr:=Xt;exact⟨ky,kd,ly,ld,rfl,V.In.keep (S:=fun b=>(S b/\b<w.heap.size)\/w.heap.size+2<=b) R8.out (Held.kept (a:=wr) (T:=fun b=>(S b/\b<w.heap.size)\/w.heap.size+2<=b) aC) (fun b h _=>by rcases h with h|h;exact .inl h.1;exact .inr (by omega)),Xt⟩
theorem JI (x y:V) (ka:au) (kc:Nat) (la:au) (lc:Nat) (S:az) (kb:au) (kd:Nat) (lb:au) (ld:Nat) (T:az) (w:World) (hsz:x.size<=1073741824) (jB:y.size<=1073741824) (hin:x.In w S ka kc la lc) (hjn:y.In w T kb kd lb ld):
 Calls prog 179 #[x.val ka kc la lc,y.val kb kd lb ld] w fun e w'=>e= .returned (.bool (jb x y))/\Ext w w':=by
 have aJ:=ae hin;have aU:=ae hjn;have Hl:=ae (show jb x y=(x.same y||(decide (x.k=5)&&decide (y.k=5)&&decide (y.l.length=0))) from rfl);clear hin hjn;go_enter func179,ntmps179;go_upto_region 1 with fail
 refine aI (R:=fun wx=>aD wx w.heap.size x ka kc la lc/\aD wx (w.heap.size+1) y kb kd lb ld/\Ext w wx) ⟨aj,aj,Xt⟩ ?_;rintro wa ⟨ag,ai,aH⟩;obtain⟨hc0,aw,hl0⟩:=ag.see;obtain⟨hc1,aA,ay⟩:=ai.see;go_wp2_with fail;(refine(xq x y ka kc la lc S kb kd lb ld T _ hsz jB (aJ.out.ext Xt) (aU.out.ext Xt)).mono ?_);rintro e w1 ⟨rfl,h1⟩;have ag:=af.ext h1 ag;have ai:=af.ext h1 ai;have hx1:Ext w w1:=aH.trans h1;clear h1 aH hc0 aw hl0 hc1 aA ay;obtain⟨hc0,aw,hl0⟩:=ag.see;obtain⟨hc1,aA,ay⟩:=ai.see
 cases hs:x.same y with
 |true=>
  rw [hs] at Hl;clear hs;go_wp2_with fail;go_ret;exact⟨dv (by rw [Hl.out];rfl),Xt⟩
 |false=>
  rw [hs] at Hl;clear hs;by_cases h5:x.k=5
  ·have pT:(x.k==5)=true:=by simpa using h5
   have GA:=ae h5;clear h5;by_cases h6:y.k=5
   ·have DU:(y.k==5)=true:=by simpa using h6
    have GD:=ae h6;clear h6;by_cases h7:y.l.length=0
    ·have Li:((y.l.length:Int)==0)=true:=by rw [h7];rfl
     have H7:=ae h7;clear h7;go_wp2_with fail;go_ret;exact⟨dv (by rw [Hl.out,decide_eq_true GA.out,decide_eq_true GD.out,decide_eq_true H7.out];rfl),Xt⟩
    ·have Li:((y.l.length:Int)==0)=false:=beq_eq_false_iff_ne.2 (by omega)
     have H7:=ae h7;clear h7;go_wp2_with fail;go_ret;exact⟨dv (by rw [Hl.out,decide_eq_true GA.out,decide_eq_true GD.out,decide_eq_false H7.out];rfl),Xt⟩
   ·have DU:(y.k==5)=false:=by simpa using h6
    have GD:=ae h6;clear h6;go_wp2_with fail;go_ret;refine⟨dv ?_,Xt⟩;rw [Hl.out,decide_eq_false GD.out];simp
  ·have pT:(x.k==5)=false:=by simpa using h5
   have GA:=ae h5;clear h5;go_wp2_with fail;go_ret;refine⟨dv ?_,Xt⟩;rw [Hl.out,decide_eq_false GA.out];simp
theorem AZ (ks:List ah) (a:au) (n c:Nat) (S:az) (w:World) (hn:ks.length=n) (hok:aM a n c) (hbig:n<=1073741824) (hst:bR w S a ks):
 Calls prog 36 #[.slice a n c] w fun e w'=>∃a' c',e= .returned (.slice a' n c')/\aM a' n c'/\ek w' w.heap.size (.slice a' n c') n ks/\Ext w w':=by
 refine(Gl a n c (ks.map Value.string) w hok hbig (by simp [hn]) (by have:=Gc hst;rwa [hn] at this) (px ks)).mono ?_;rintro e w' ⟨a',c',rfl,h1,h2,h3⟩;exact⟨a',c',rfl,h1,⟨hn,h2⟩,h3⟩
theorem Lj {W:World} {o:Oper} {a:Act} {K:Act->World->Prop} {Q:Exit->Act->World->Prop} {base n:Nat} {v:Value} {ks:List ah} (key:ah) (B:Nat) {s x:Operand}
 (ho:o.op= .call {callee:= .builtin .append,args:= #[s,x],argTypes:= #[33,33]}) (hs:a.eval s=v) (hx:a.eval x= .slice (some ⟨B,0,none⟩) 1 1)
 (hS:ek W base v n ks) (hB:af W B #[.string key] 9) (hn:n<=1073741824) (hbase:base<=W.heap.size)
 (h:∀g cap w',ek w' base (.slice (some ⟨g,0,none⟩) (n+1) cap) (n+1) (ks++ [key])->W.grownBy w' v.ownBlock-> (v.ownBlock=some g\/g=W.heap.size)->K (a.put o.dst (.slice (some ⟨g,0,none⟩) (n+1) cap)) w'):o.wp prog a W K Q:=by
 obtain⟨i0,hi,hz0,hz1,hz2⟩:=info_parts Tryz.xe;refine wp_append_lies _ s x _ ho base 9 i0 _ 1 16 underlying33 hi hz0 hz1 hz2 rfl (by decide) v n (ks.map Value.string) hs hS.2 ⟨B,0,none⟩ 1 1 [.string key] hx (by rfl) (World.news_of_block (cs:= #[.string key]) hB) (by simp [Value.oneCell']) (by omega) (by unfold maxLen;omega) (by omega) hbase _ rfl ?_;intro g cap w' hown hgrow hat _;exact h g cap w' (ek.push hS.1 hown) hgrow hat
def Off (p:Nat) (v:Value):az:=fun b=>b≠p/\v.ownBlock≠some b
theorem fZ.held {w w':World} {T:az} (h:fZ w) (e:Held T w w') (hT:T 0):fZ w':=by
 obtain⟨m,hm⟩:=h;exact⟨m,e.kept.cell (p:=⟨_,0,none⟩) hT hm⟩
def R9 (p:Nat) (v:Value) (qs:List ah) (w:World) (e:Ending) (w':World):Prop:=
 e= .returned (.tuple #[])/\∃a c,af w' p #[.slice a qs.length c] 33/\ek w' (p+1) (.slice a qs.length c) qs.length qs/\Held (Off p v) w w'/\ (∀g,(Value.slice a qs.length c).ownBlock=some g->v.ownBlock=some g\/w.heap.size<=g)/\Below p w w'
def aa8 (m:Nat):Prop:=∀(x:V) (ka:au) (kc:Nat) (la:au) (lc:Nat) (d:Int) (ns:List ah) (na:au) (nc p:Nat) (a:au) (c:Nat) (ps:List ah) (w:World),
 x.size<=m->x.size<=1073741824->x.good d=true-> (ns.length:Int)<d-> (∀k∈ns,k.size<=60)->x.In w (fun b=>b<p) ka kc la lc->aM na ns.length nc->bR w (Off p (.slice a ps.length c)) na ns->
 af w p #[.slice a ps.length c] 33->ek w (p+1) (.slice a ps.length c) ps.length ps->ps.length+x.count<=1000000->0<p->fZ w->
 Calls prog 49 #[x.val ka kc la lc, .slice na ns.length nc, .pointer (some ⟨p,0,none⟩)] w (R9 p (.slice a ps.length c) (ps++(x.eN ns).map lR) w)
theorem aa9 (x:V) (ka:au) (kc:Nat) (la:au) (lc:Nat) (ns:List ah) (na:au) (nc p:Nat) (a:au) (c:Nat) (ps:List ah) (w:World)
 (vB:x.k≠5\/ (x.l= []/\ns≠ [])) (hnl:ns.length<=12) (hnz:∀k∈ns,k.size<=60) (hst:bR w (Off p (.slice a ps.length c)) na ns)
 (hB:af w p #[.slice a ps.length c] 33) (hS:ek w (p+1) (.slice a ps.length c) ps.length ps) (hps:ps.length<=1000000) (hm:fZ w):
 Calls prog 49 #[x.val ka kc la lc, .slice na ns.length nc, .pointer (some ⟨p,0,none⟩)] w (R9 p (.slice a ps.length c) (ps++ [lR ns]) w):=by
 have HS:=ae hS;have aP:=ae hst;have hpl:=hB.lt;have kN:(x.k==5)=false\/ ((x.k==5)=true/\ ((x.l.length:Int)==0)=true/\ (0:Int)<(ns.length:Int)):=by
  by_cases h5:x.k=5
  ·rcases vB with h|⟨h1,h2⟩
   ·exact absurd h5 h
   ·exact .inr ⟨by simpa using h5,by rw [h1];rfl,by have:=List.length_pos_iff.2 h2;omega⟩
  ·exact .inl (by simpa using h5)
 have hrow:∀k,(Value.slice a ps.length c).ownBlock=some k->¬Off p (.slice a ps.length c) k:=fun k hk h=>h.2 hk;have hgo:=fun g=>HS.out.lt g;clear hS hst vB;go_enter func49,ntmps49;go_upto_region 1 with fail
 refine aI (R:=fun wx=>aD wx w.heap.size x ka kc la lc/\Ext w wx) ⟨aj,Xt⟩ ?_;rintro wa ⟨ag,aH⟩;obtain⟨hc0,aw,hl0⟩:=ag.see;rcases kN with h5|⟨h5,h6,h7⟩
 all_goals
  (try have CD:(x.k !=5)=true:=by simpa using h5);(try have CD:(x.k !=5)=false:=by simpa using h5);go_upto_region 2 with fail
  refine aI (R:=fun wx=>Ext w wx) (by exact Xt) ?_;clear hc0 aw hl0 ag aH;rintro wa aH;have hBa:=af.ext aH hB;have aq:∀w',Ext wa w'->w'.cell? ⟨p,0,none⟩=some (.slice a ps.length c):=fun w' e=>e.cell (hBa.cells 0);refine fF aq (c:=9) (by kernel_rfl) ?_;refine aG 0 [8,9] (hS:=aq _ Xt) (h:= ?_);refine aG 1 [2,3,7,9] (hS:=aq _ Xt) (h:= ?_);refine aG 2 [3,7,9] (hS:=aq _ Xt) (h:= ?_);refine aG 3 [7,9] (hS:=aq _ Xt) (h:= ?_);refine aG 4 [5,6,7,9] (hS:=aq _ Xt) (h:= ?_);(try simp only [rl]);refine aK 5 (h:=fun K hK=> ?_);(try simp only [rl]);(try go_simp);(refine(CB na nc ns _ _ (aP.out.ext Xt) (fun q hq=>by have:=hnz q hq;omega) (by omega) (hm.ext Xt)).mono ?_);rintro e w2 ⟨rfl,h2⟩;(try go_simp);refine hK.out _ _ (fun _=>aq _ Xt) ?_;clear hK K;(try simp only [rl]);refine aK 6 (h:=fun K hK=> ?_);(try simp only [rl]);go_simp;refine hK.out _ _ (fun _=>aq _ Xt) ?_;clear hK K;(try simp only [rl]);refine aK 7 (h:=fun K hK=> ?_);(try simp only [rl]);rw [if_pos (by simp [Region.wanted])];refine Lj (lR ns) w2.heap.size (by rfl) (by rfl) (by rfl) (HS.out.ext Xt) aj (by omega) (by have:=aH.size;have:=Ext.size (a:=wa) (b:=w2) Xt;simp;omega) ?_;intro g4 pA w4 bI hg4 sk;have hx2:Ext w w2:=Xt;have hB4:af w4 p #[.slice a ps.length c] 33:=af.grown (w:=w2.alloc _) (af.alloc (af.ext hx2 hB) _) hg4 (fun e=>by have:=(hgo _ e.symm).1;omega);have DV:Held (Off p (.slice a ps.length c)) w w4:=Held.grown (b:=w2.alloc _) aC hg4 hrow;refine hK.out _ _ (fun _=>hB4.cells 0) ?_;clear hK K;(try simp only [rl]);have se:=hB4.cells;have xu:=hB4.free;have hl4:=hB4.lt;have ag3:=(bI.lt g4 rfl).1;refine aK 8 (h:=fun K hK=> ?_);(try simp only [rl]);go_simp;refine hK.out _ _ (fun _=>hB4.cells 0) ?_;clear hK K;(try simp only [rl]);refine aK 9 (h:=fun K hK=> ?_);(try simp only [rl]);go_simp;refine bz hK (h:= ?_);clear hK K;(try simp only [rl]);refine cZ (by kernel_rfl) ?_ _;go_wp2_with fail;refine aF (h:= ?_);have eT:Held (fun b=>b≠p) w4 (w4.setCell ⟨p,0,none⟩ (.slice (some ⟨g4,0,none⟩) (ps.length+1) pA)):=(Held.refl _ _).set (by simp) _;have hb4:Below p w w4:=Below.grown (Below.alloc (Below.mono hx2 (by omega)) (by have:=hx2.size;omega) _) hg4 (by have:=hx2.size;simp;omega) (fun k hk=>by have:=(hgo k hk).1;omega);refine⟨rfl,some ⟨g4,0,none⟩,pA,?_,?_,?_,?_,hb4.setCell (Nat.le_refl _) _⟩
  ·rw [List.length_append];exact af.to (hB4.set 0 _) (by simp)
  ·rw [List.length_append];exact bI.keep (fun b hb he=>eT.block b (by have:=(bI.lt b he).1;omega) hb)
  ·exact DV.trans (eT.mono (fun b h=>h.1))
  ·intro g hg
   rw [List.length_append] at hg;have hge:g4=g:=by simpa [Value.ownBlock] using hg
   subst hge;rcases sk with h|h
   ·exact .inl h
   ·have:=hx2.size
    simp at h;exact .inr (by omega)
theorem abb {x:V} (hl:x.keys.length=x.l.length) (ns:List ah) {k:Nat} (h:k<x.keys.length):V.eN.go (x.l.take (k+1)) (x.keys.take (k+1)) ns=V.eN.go (x.l.take k) (x.keys.take k) ns++(x.l[k]'(by omega)).eN (ns++ [x.keys[k]]):=by
 rw [List.take_succ_eq_append_getElem h,List.take_succ_eq_append_getElem (show k<x.l.length by omega),RH ns _ _ _ _ (by simp;omega)]
theorem Sb:∀(l:List V) (ks ns:List ah),(V.eN.go l ks ns).length<= (l.map V.count).sum
 | [],ks,ns=>by rw [yL];simp
 |_::_, [],ns=>by rw [Fx];simp
 |y::l,k::ks,ns=>by rw [yM,List.length_append,List.map_cons,List.sum_cons];have:=Ld y (ns++ [k]);have:=Sb l ks ns;omega
theorem abd (m:Nat):aa8 m:=by
 induction m with
 |zero=>intro x _ _ _ _ _ _ _ _ _ _ _ _ _ h;have:=x.size_pos;omega
 |succ m ih=>
  intro x ka kc la lc d ns na nc p a c ps w hm hsz hg hnd hnz hin hok hst hB hS hps nJ hmx;obtain⟨hfl,hd⟩:=KG (show x.flat d=true by rw [V.ud,Bool.and_eq_true] at hg;exact hg.1);by_cases vB:x.k≠5\/ (x.l= []/\ns≠ [])
  ·have:=aa9 x ka kc la lc ns na nc p a c ps w vB (by omega) hnz hst hB hS (by omega) hmx
   rw [AL,if_pos vB];exact this
  ·have h5:x.k=5:=Classical.byContradiction fun h=>vB (.inl h)
   have df:=iI (Fv hg) h5;have hkl:=x.Ar;have iq:=df.len;have Bf:=ae (show x.eN ns=V.eN.go x.l x.keys ns by rw [AL,if_neg vB]);have abe:=ae (show x.count=1+(x.l.map V.count).sum from V.count_eq x);have hcl:=hin;have aJ:=ae hin;have aP:=ae hst;have HS:=ae hS;have Hg:=ae hg;have Hkz:=ae (fun k (h:k<x.keys.length)=>yN (hfl.kp _ (List.getElem_mem h)));have hpl:=hB.lt;have pT:(x.k==5)=true:=by simpa using h5
   have CD:(x.k !=5)=false:=by simpa using h5
   have hl0:((x.l.length:Int)==0)=false\/ (((x.l.length:Int)==0)=true/\ns.length=0/\na=na):=by
    by_cases h:x.l= []
    ·exact .inr ⟨by rw [h];rfl,by
      have:ns= []:=Classical.byContradiction fun h2=>vB (.inr ⟨h,h2⟩)
      rw [this];rfl,rfl⟩
    ·exact .inl (beq_eq_false_iff_ne.2 (by have:=List.length_pos_iff.2 h;omega))
   clear hin hcl hst hS hg hfl vB h5 df;rcases hl0 with hl0|⟨hl0,hn0,-⟩
   all_goals
    (try(have ag4:¬(0:Int)<(ns.length:Int):=by omega
         have J8:=ae hn0
         clear hn0))
    go_enter func49,ntmps49;go_upto_region 1 with fail
    refine aI (R:=fun wx=>aD wx w.heap.size x ka kc la lc/\Ext w wx) ⟨aj,Xt⟩ ?_;rintro wa ⟨ag,aH⟩;obtain⟨hc0,aw,hl0⟩:=ag.see;go_upto_region 3 with fail
    refine aI (R:=fun wx=>aD wx w.heap.size x ka kc la lc/\Ext w wx) ⟨aj,Xt⟩ ?_;clear hc0 aw hl0 ag aH;rintro wa ⟨ag,aH⟩;obtain⟨hc0,aw,hl0⟩:=ag.see;go_wp2_with fail
    go_loopg [34] x.keys.length (fun g i wr=>∃(k:Nat) (a':au) (c':Nat) (qs:List ah),k<=x.keys.length/\i= .int .i64 k/\g=x.keys.length-k/\qs=ps++(V.eN.go (x.l.take k) (x.keys.take k) ns).map lR/\aD wr w.heap.size x ka kc la lc/\
     af wr p #[.slice a' qs.length c'] 33/\ek wr (p+1) (.slice a' qs.length c') qs.length qs/\Held (Off p (.slice a ps.length c)) w wr/\ (∀g,(Value.slice a' qs.length c').ownBlock=some g-> (Value.slice a ps.length c).ownBlock=some g\/w.heap.size<g)/\Below p w wr)
    case atStart=>exact⟨0,a,c,ps,Nat.zero_le _,rfl,rfl,by simp [yL],aj,af.ext (w:=w) Xt hB,HS.out.ext Xt,Ext.held Xt _,fun g hg=> .inl hg,Below.mono (B:=w.heap.size) (by exact Xt) (by omega)⟩
    case round=>
     obtain⟨wo,rfl⟩:∃x,x=wr:=⟨_,rfl⟩;obtain⟨k,a',c',qs,hk,rfl,rfl,pU,ag,Ll,Lm,zq,hgo,Ds⟩:=hrel;have oW:=ae pU;have DL:=ae Lm;have nX:=ae hgo;have hlo:=HS.out.lt;have Lp:∀b,b<p->Off p (.slice a ps.length c) b:=fun b hb=>⟨by omega,fun e=>by have:=(hlo b e).1;omega⟩;have hmo:fZ wo:=hmx.held zq (Lp _ nJ);have hin:=aJ.out.keep (T:=fun b=>b<p) (Held.kept (zq.mono Lp)) (fun _ h _=>h)
     have hst:bR wo (fun b=>b<w.heap.size/\Off p (.slice a' qs.length c') b) na ns:=aP.out.keep (Held.kept zq) (fun b hb hl=>⟨hl,hb.1,fun e=>by
      rcases nX.out b e with h|h
      ·exact hb.2 h
      ·omega⟩)
     have pz:=ae hst;have qE:=zq.size;have ay:=ag.lt;have DW:=Lm.lt
     have hw0:Off p (.slice a' qs.length c') w.heap.size:=⟨by omega,fun e=>by
      rcases nX.out _ e with h|h
      ·have:=(hlo _ h).2;omega
      ·omega⟩
     have Sc:=ae hw0;clear pU Lm hgo hst Lp hlo hw0;obtain⟨hc0,aw,hl0⟩:=ag.see;by_cases hlt:k<x.keys.length
     ·obtain⟨b,o,rfl,o8,iD,iE,iY,iF,⟨d0,d1,d2,d3,d4⟩,hin'⟩:=hin.item (i:=k) (by omega)
      obtain⟨kb,ko,rfl,hSk,dk⟩:=hin.key hlt;have gf:=V.qy (x:=x) (i:=k) (by omega);have Bg:=ae hin';have Sd:=ae (abb iq ns hlt);have Sg:qs.length+(x.l[k]'(by omega)).count<=1000000:=by have h1:=Sb (x.l.take k) (x.keys.take k) ns;have h2:=Qp V.count x.l (k:=k) (by omega);have h3:=Kv V.count x.l (k+1);have h4:=abe.out;have h5:=congrArg List.length oW.out;rw [List.length_append,List.length_map] at h5;omega
      have Sh:=ae (Fw Hg.out (i:=k) (by omega));have GF:=Hkz.out k hlt;have gS:(0:Int)<= (k:Int):=by omega
      have hk1:(k:Int)<(x.l.length:Int):=by omega
      have hk2:(k:Int)<(x.keys.length:Int):=by omega
      clear hin hin';go_upto_region 6 with fail
      refine aI (R:=fun wx=>Ext wo wx) (by exact Xt) ?_;rintro wb aO;have C9:=af.ext aO ag;have Si:=af.ext aO Ll;have hzb:=aO.size;have d0:=aO.cell d0;have d1:=aO.cell d1;have d2:=aO.cell d2;have d3:=aO.cell d3;have d4:=aO.cell d4;have Sj:=ae (DL.out.ext aO);have Sk:=ae (pz.out.ext aO);have lC:=ae (Bg.out.ext aO);have hmb:=hmo.ext aO;have hbb:Below p w wb:=Ds.trans (Below.mono aO (by omega));have uk:=zq.ext aO;clear hc0 aw hl0 ag Ll aO DL pz Bg hmo zq;have aq:∀w',Ext wb w'-> (w'.cell? ⟨w.heap.size,4,none⟩=some (.slice (some ⟨b,o,none⟩) x.l.length lc)/\w'.cell? ⟨b,o+k*5,none⟩=some (.int .i64 (x.l[k]'(by omega)).k)/\w'.cell? ⟨b,o+k*5+1,none⟩=some (.int .i64 (x.l[k]'(by omega)).n)/\w'.cell? ⟨b,o+k*5+2,none⟩=some (.string (x.l[k]'(by omega)).s)/\w'.cell? ⟨b,o+k*5+3,none⟩=some (.slice iD (x.l[k]'(by omega)).keys.length iE)/\w'.cell? ⟨b,o+k*5+4,none⟩=some (.slice iY (x.l[k]'(by omega)).l.length iF)):=fun w' e=>⟨e.cell (C9.cells 4),e.cell (d0),e.cell (d1),e.cell (d2),e.cell (d3),e.cell (d4)⟩;refine fF aq (c:=11) (by kernel_rfl) ?_;refine aG 0 [1,3,4,11] (hS:=aq _ Xt) (h:= ?_);refine aG 1 [3,4,11] (hS:=aq _ Xt) (h:= ?_);refine aG 2 [3,4,11] (hS:=aq _ Xt) (h:= ?_);refine aG 3 [4,11] (hS:=aq _ Xt) (h:= ?_);refine aG 4 [11] (hS:=aq _ Xt) (h:= ?_);refine aG 5 [6,9,11] (hS:=aq _ Xt) (h:= ?_);refine aG 7 [8,9,11] (hS:=aq _ Xt) (h:= ?_);refine aG 10 [11] (hS:=aq _ Xt) (h:= ?_);(try simp only [rl]);refine lK (rs:= [6,8]) (by kernel_rfl) (by simp) ?_;refine cj.cons (Array.getElem?_eq_getElem (by decide)) (fun K hK=> ?_) (cj.cons (Array.getElem?_eq_getElem (by decide)) (fun K hK=> ?_) cj.nil)
      · (try simp only [rl])
        (try go_simp);(refine(AZ ns na ns.length nc _ _ rfl hok (by omega) (Sk.out.ext Xt)).mono ?_);rintro e w2 ⟨a1,c1,rfl,ib,um,h2⟩;(try go_simp);refine hK.out _ _ (fun _=>aq _ Xt) ?_;clear hK K;(try simp only [rl]);refine aK 8 (h:=fun K hK=> ?_);(try simp only [rl]);go_simp;refine hK.out _ _ (fun _=>aq _ Xt) ?_;clear hK K;(try simp only [rl]);refine aK 9 (h:=fun K hK=> ?_);(try simp only [rl]);have hbase:=h2.size;rw [if_pos (by simp [Region.wanted])];refine Lj (x.keys[k]) w2.heap.size (by rfl) (by rfl) (by rfl) (um.ext Xt) aj (by omega) (by first|exact hbase|(simp at hbase⊢;omega)) ?_;intro g4 pA w4 bI hg4 sk;have bH:Ext wb w4:=Ext.grown (by exact Xt) hg4 (fun g hg=>by have:=(um.lt g hg).1;(try simp at this);omega);have abf:wb.heap.size<=g4:=by have:=(bI.lt g4 rfl).1;(try simp at this);omega
        have ij:Hid (bR w4 (Off p (.slice a' qs.length c')) (some ⟨g4,0,none⟩) (ns++ [x.keys[k]])):=by
         obtain⟨a5,c5,ju,-,-,qd⟩:=bI.strs;simp only [Value.slice.injEq,true_and] at ju;obtain⟨rfl,rfl⟩:=ju;rcases qd with h|⟨b5,o5,he,-,kN⟩
         ·simp at h
         ·simp only [Option.some.injEq,Addr.mk.injEq] at he
          obtain⟨rfl,rfl,-⟩:=he;exact .inr ⟨_,_,rfl,⟨by omega,fun e=>by have:=(DW _ e).2;omega⟩,kN⟩
        have GG:aM (some ⟨g4,0,none⟩) (ns++ [x.keys[k]]).length pA:=by obtain⟨a5,c5,ju,il,-,-⟩:=bI.strs;simp only [Value.slice.injEq,true_and] at ju;obtain⟨rfl,rfl⟩:=ju;rw [List.length_append];exact il
        have DX:=ae (Sj.out.ext bH);have Lq:=af.ext bH Si;have Lr:=af.ext bH C9;have Ls:=hmb.ext bH;clear bI um sk hg4 h2 ib hbase;refine hK.out _ _ (fun _=>aq _ bH) ?_;clear hK K;(try simp only [rl]);refine aK 11 (h:=fun K hK=> ?_);(try simp only [rl]);(try go_simp);have hrec:=ih (x.l[k]'(by omega)) iD iE iY iF (d+1) (ns++ [x.keys[k]]) (some ⟨g4,0,none⟩) pA p a' c' qs w4 (by omega) (by omega) Sh.out (by rw [List.length_append];simp;omega) (fun q hq=>by rcases List.mem_append.1 hq with h|h;exact hnz q h;simp at h;rw [h];exact GF) (lC.out.ext bH) GG ij.out Lq DX.out Sg nJ Ls;rw [List.length_append] at hrec;(refine hrec.mono ?_);rintro e w5 ⟨rfl,a6,c6,bB,Lt,bD,gM,Lu⟩;(try go_simp);refine bz hK (h:= ?_);clear hK K;(try simp only [rl]);refine cZ (by kernel_rfl) ?_ _;have gJ:=bH.size;have nY:=af.held bD Lr Sc.out
        have eT:Held (Off p (.slice a ps.length c)) w w5:=⟨Nat.le_trans uk.size (Nat.le_trans gJ bD.size),fun b hb hl=>by
         have e1:=bD.block b ⟨hb.1,fun e=>by
          rcases nX.out b e with h|h
          ·exact hb.2 h
          ·omega⟩ (by omega)
         rw [e1,Below.block bH b (by omega),uk.block b hb hl]⟩
        have Lv:Below p w w5:=(hbb.trans (Below.mono bH (by omega))).trans Lu;have Sl:=bD.size;clear ij DX hrec;go_wp2_with fail;go_roundg (x.keys.length-(k+1))
        case measure=>omega
        case rel=>exact⟨k+1,a6,c6,_,by omega,by go_num,rfl,by rw [Sd.out,List.map_append,<-List.append_assoc,<-oW.out],aj,af.ext (w:=w5) Xt bB,Lt.ext Xt,eT.ext Xt,fun g hg=>by
         rcases gM g hg with h|h
         ·exact nX.out g h
         ·exact .inr (by omega),Lv.trans (Below.mono (B:=w5.heap.size) (by exact Xt) (by omega))⟩
      · (try simp only [rl])
        go_simp;refine hK.out _ _ (fun _=>aq _ Xt) ?_;clear hK K;(try simp only [rl]);refine aK 6 (h:=fun K hK=> ?_);(try simp only [rl]);(try go_simp);(refine(AZ ns na ns.length nc _ _ rfl hok (by omega) (Sk.out.ext Xt)).mono ?_);rintro e w2 ⟨a1,c1,rfl,ib,um,h2⟩;(try go_simp);refine hK.out _ _ (fun _=>aq _ Xt) ?_;clear hK K;(try simp only [rl]);refine aK 9 (h:=fun K hK=> ?_);(try simp only [rl]);have hbase:=h2.size;rw [if_pos (by simp [Region.wanted])];refine Lj (x.keys[k]) wb.heap.size (by rfl) (by rfl) (by rfl) (um.ext Xt) aj (by omega) (by first|exact hbase|(simp at hbase⊢;omega)) ?_;intro g4 pA w4 bI hg4 sk;have bH:Ext wb w4:=Ext.grown (by exact Xt) hg4 (fun g hg=>by have:=(um.lt g hg).1;(try simp at this);omega);have abf:wb.heap.size<=g4:=by have:=(bI.lt g4 rfl).1;(try simp at this);omega
        have ij:Hid (bR w4 (Off p (.slice a' qs.length c')) (some ⟨g4,0,none⟩) (ns++ [x.keys[k]])):=by
         obtain⟨a5,c5,ju,-,-,qd⟩:=bI.strs;simp only [Value.slice.injEq,true_and] at ju;obtain⟨rfl,rfl⟩:=ju;rcases qd with h|⟨b5,o5,he,-,kN⟩
         ·simp at h
         ·simp only [Option.some.injEq,Addr.mk.injEq] at he
          obtain⟨rfl,rfl,-⟩:=he;exact .inr ⟨_,_,rfl,⟨by omega,fun e=>by have:=(DW _ e).2;omega⟩,kN⟩
        have GG:aM (some ⟨g4,0,none⟩) (ns++ [x.keys[k]]).length pA:=by obtain⟨a5,c5,ju,il,-,-⟩:=bI.strs;simp only [Value.slice.injEq,true_and] at ju;obtain⟨rfl,rfl⟩:=ju;rw [List.length_append];exact il
        have DX:=ae (Sj.out.ext bH);have Lq:=af.ext bH Si;have Lr:=af.ext bH C9;have Ls:=hmb.ext bH;clear bI um sk hg4 h2 ib hbase;refine hK.out _ _ (fun _=>aq _ bH) ?_;clear hK K;(try simp only [rl]);refine aK 11 (h:=fun K hK=> ?_);(try simp only [rl]);(try go_simp);have hrec:=ih (x.l[k]'(by omega)) iD iE iY iF (d+1) (ns++ [x.keys[k]]) (some ⟨g4,0,none⟩) pA p a' c' qs w4 (by omega) (by omega) Sh.out (by rw [List.length_append];simp;omega) (fun q hq=>by rcases List.mem_append.1 hq with h|h;exact hnz q h;simp at h;rw [h];exact GF) (lC.out.ext bH) GG ij.out Lq DX.out Sg nJ Ls;rw [List.length_append] at hrec;(refine hrec.mono ?_);rintro e w5 ⟨rfl,a6,c6,bB,Lt,bD,gM,Lu⟩;(try go_simp);refine bz hK (h:= ?_);clear hK K;(try simp only [rl]);refine cZ (by kernel_rfl) ?_ _;have gJ:=bH.size;have nY:=af.held bD Lr Sc.out
        have eT:Held (Off p (.slice a ps.length c)) w w5:=⟨Nat.le_trans uk.size (Nat.le_trans gJ bD.size),fun b hb hl=>by
         have e1:=bD.block b ⟨hb.1,fun e=>by
          rcases nX.out b e with h|h
          ·exact hb.2 h
          ·omega⟩ (by omega)
         rw [e1,Below.block bH b (by omega),uk.block b hb hl]⟩
        have Lv:Below p w w5:=(hbb.trans (Below.mono bH (by omega))).trans Lu;have Sl:=bD.size;clear ij DX hrec;go_wp2_with fail;go_roundg (x.keys.length-(k+1))
        case measure=>omega
        case rel=>exact⟨k+1,a6,c6,_,by omega,by go_num,rfl,by rw [Sd.out,List.map_append,<-List.append_assoc,<-oW.out],aj,af.ext (w:=w5) Xt bB,Lt.ext Xt,eT.ext Xt,fun g hg=>by
         rcases gM g hg with h|h
         ·exact nX.out g h
         ·exact .inr (by omega),Lv.trans (Below.mono (B:=w5.heap.size) (by exact Xt) (by omega))⟩
     ·have hq:qs=ps++(x.eN ns).map lR:=by
       rw [oW.out,Bf.out,List.take_of_length_le (by omega),List.take_of_length_le (by omega)]
      have Hq:=ae hq;clear hq;go_wp2_with fail;go_end0;rw [<-Hq.out]
      exact⟨rfl,a',c',af.ext (w:=wo) Xt Ll,DL.out.ext Xt,zq.ext Xt,fun g hg=>by
       rcases nX.out g hg with h|h
       ·exact .inl h
       ·exact .inr (by omega),Ds.trans (Below.mono (B:=wo.heap.size) (by exact Xt) (by omega))⟩
theorem abg {x y:List UInt8} (h:x<=y):Op.bytesLess y x=false:=by
 rw [Go.Proofs.bytesLess_eq,decide_eq_false_iff_not];exact List.not_lt.2 h
theorem abh (ks:List ah):((ks.map (·.data.toList)).mergeSort fun x y=>decide (x<=y))=(uj ks).map (·.data.toList):=by
 obtain⟨ss,Gi⟩:∃ss,((ks.map (·.data.toList)).mergeSort fun x y=>decide (x<=y))=ss:=⟨_,rfl⟩;have hp:ss.Perm (ks.map (·.data.toList)):=Gi▸List.mergeSort_perm _ _;have hs:ss.Pairwise fun a b=>Op.bytesLess b a=false:=by
  rw [<-Gi];refine(List.pairwise_mergeSort (le:=fun x y=>decide (x<=y)) (fun a b c h1 h2=> ?_) (fun a b=> ?_) _).imp (fun h=>abg (by simpa using h))
  ·simp only [decide_eq_true_eq] at*;exact List.le_trans h1 h2
  ·simp only [Bool.or_eq_true,decide_eq_true_eq];exact List.le_total a b
 rw [Gi];have e1:(ss.map fun l=>(⟨l.toArray⟩:ah))=uj ks:=by
  refine sorted_perm ?_ (JN ks) ?_
  ·refine List.pairwise_map.2 (hs.imp fun h=> ?_)
   unfold bC;rw [ByteArray.toList_eq,ByteArray.toList_eq];exact h
  ·refine(hp.map fun l=>(⟨l.toArray⟩:ah)).trans ?_
   rw [List.map_map];have:(ks.map ((fun l=>(⟨l.toArray⟩:ah))∘fun x=>x.data.toList))=ks:=by
    conv=>rhs;rw [<-List.map_id ks]
    refine List.map_congr_left fun k _=> ?_;simp
   rw [this];exact(wS ks).symm
 rw [<-e1,List.map_map]
 conv=>lhs;rw [<-List.map_id ss]
 refine List.map_congr_left fun k _=> ?_;simp
theorem Sm (ks:List ah):(ks.map (·.data.toList)).map encStr=ks.map Value.string:=by
 rw [List.map_map];refine List.map_congr_left fun k _=> ?_;simp [encStr]
theorem abj (ks:List ah) (base:Nat) (a:au) (c:Nat) (w:World) (hS:ek w base (.slice a ks.length c) ks.length ks) (hn:ks.length<=1073741824):
 Calls prog 50 #[.slice a ks.length c] w fun e w'=>e= .returned (.tuple #[])/\ek w' base (.slice a ks.length c) ks.length (uj ks)/\w.grownBy w' (Value.slice a ks.length c).ownBlock:=by
 rcases hS.2.2 with⟨hv,h0⟩|⟨g,cap,cur,hv,hb,hg,hnc,hcm,hcs,ht⟩
 ·have hk:ks= []:=List.eq_nil_of_length_eq_zero h0
  subst hk;refine(Tryz.slices_Sort_string_none a c w).mono ?_;rintro e w' ⟨rfl,rfl⟩;exact⟨rfl,hS,⟨rfl,rfl,rfl,Nat.le_refl _,fun _ _ _=>rfl⟩⟩
 ·simp only [Value.slice.injEq,true_and] at hv
  obtain⟨rfl,rfl⟩:=hv;have hlen:(ks.map (·.data.toList)).length=ks.length:=by simp
  have hH:Go.Sort.Holds encStr w g 0 (ks.map (·.data.toList)).toArray:=holds_of_block hg (by rw [Sm,hlen];simpa using ht);have hc:=Tryz.slices_Sort_string g 0 c (ks.map (·.data.toList)) w hH (Array.getElem?_eq_some_iff.1 hg).1 (by rw [hlen];omega);rw [hlen] at hc;refine hc.mono ?_;rintro e w' ⟨rfl,n,os,rfl⟩;rw [abh];have ho:=ownsRow_sorted (w:=w) (base:=base) (g:=g) (cap:=c) (n:=n) (os:=os) (cur:=cur) (ss:=ks.map (·.data.toList)) (ts:=(uj ks).map (·.data.toList)) (by simp [(wS ks).length_eq]) hb hg (by simpa using hnc) hcm hcs;rw [Sm,hlen] at ho;exact⟨rfl,⟨(wS ks).length_eq,ho⟩,grownBy_sorted _⟩
theorem J0 (x:V) (ka:au) (kc:Nat) (la:au) (lc:Nat) (S:az) (w:World) (hsz:x.size<=1073741824) (hin:x.In w S ka kc la lc) (hm:fZ w):
 Calls prog 25 #[x.val ka kc la lc] w (aa2 x.leaves w):=by
 have aJ:=ae (hin.mono (T:=fun b=>b<w.heap.size) (fun b _ h=>h));clear hin;by_cases hc:x.fine=true/\x.k=5
 ·obtain⟨hf,h5⟩:=hc
  obtain⟨qs,pU⟩:∃qs,(x.eN []).map lR=qs:=⟨_,rfl⟩;have oW:=ae (show []++(x.eN []).map lR=qs by rw [List.nil_append];exact pU);have Bf:=ae (show x.leaves=uj qs by rw [<-pU];exact if_pos ⟨hf,h5⟩);have hgm:0<w.heap.size:=by obtain⟨m,h⟩:=hm;exact lh h
  have hcz:=uM hf;have hg:=Fy hf;have CD:(x.k !=5)=false:=by simpa using h5
  have Hf:=ae hf;have iq:(uj qs).length=qs.length:=(wS _).length_eq;have ay:qs.length<=x.count:=by rw [<-pU,List.length_map];exact Ld x []
  clear hf h5 pU;go_enter func25,ntmps25;go_upto_region 2 with fail
  refine aI (R:=fun wx=>aD wx w.heap.size x ka kc la lc/\af wx (w.heap.size+1) #[.slice none 0 0] 33/\Ext w wx) ⟨aj,aj,Xt⟩ ?_;rintro wa ⟨ag,ai,aH⟩;obtain⟨hc0,aw,hl0⟩:=ag.see;go_wp2_with fail;(refine(cT x ka kc la lc _ _ hsz (aJ.out.ext Xt)).mono ?_);rw [Hf.out];rintro e w1 ⟨rfl,h1⟩;have ag:=af.ext h1 ag;have ai:=af.ext h1 ai;have hx1:Ext w w1:=aH.trans h1;clear h1 aH hc0 aw hl0;obtain⟨hc0,aw,hl0⟩:=ag.see;have hlB:=ai.lt;go_wp2_with fail;(refine(abd x.size x ka kc la lc 1 [] none 0 (w.heap.size+1) none 0 [] _ (Nat.le_refl _) hsz hg (by decide) (by simp) ((aJ.out.mono (T:=fun b=>b<w.heap.size+1) (fun b h _=>by omega)).ext Xt) aM.nil (.inl rfl) (af.ext (w:=w1) Xt ai) ⟨rfl,World.ownsRow_nil _ _ _ _⟩ (by simp;omega) (by omega) (hm.ext Xt)).mono ?_);rw [oW.out];rintro e w2 ⟨rfl,a,c,ak,uV,uo,hg2,hb2⟩;have hx2:Ext w w2:=Below.trans (Ext.trans hx1 (Ext.refl w1)) (Below.mono (B:=w.heap.size+1) (by exact hb2) (by omega));have ct:=ae uV;have hl2:=ak.lt;clear hc0 aw hl0 ag ai uo hg2 hb2 uV hx1;obtain⟨hc2,hf2,hl2⟩:=ak.see;go_wp2_with fail;(refine(abj _ _ a c _ ct.out (by omega)).mono ?_);rintro e w3 ⟨rfl,FR,hg3⟩;have aV:=af.grown ak hg3 (fun e=>by have:=(ct.out.lt _ e.symm).1;omega);have hx3:Ext w w3:=Ext.grown hx2 hg3 (fun k hk=>by have:=(ct.out.lt k hk).1;omega);have kX:=ae FR;clear hc2 hf2 FR hg3 ak ct;obtain⟨hc3,hf3,aR⟩:=aV.see;go_wp2_with fail;go_ret;rw [Bf.out];obtain⟨a5,c5,he,hok,-,hst⟩:=kX.out.strs;simp only [Value.slice.injEq,true_and] at he;obtain⟨rfl,rfl⟩:=he;exact⟨a,c,by rw [iq];rfl,by rw [iq];exact hok,(hst.ext Xt).keep (fun _ _ _=>rfl) (fun b hb _=>by omega),Xt⟩
 ·have Bf:=ae (show x.leaves= [] from if_neg hc)
  cases hf:x.fine with
  |false=>
   have Hf:=ae hf;clear hf hc;go_enter func25,ntmps25;go_upto_region 2 with fail
   refine aI (R:=fun wx=>aD wx w.heap.size x ka kc la lc/\Ext w wx) ⟨aj,Xt⟩ ?_;rintro wa ⟨ag,aH⟩;obtain⟨hc0,aw,hl0⟩:=ag.see;go_wp2_with fail;(refine(cT x ka kc la lc _ _ hsz (aJ.out.ext Xt)).mono ?_);rw [Hf.out];rintro e w1 ⟨rfl,h1⟩;go_wp2_with fail;go_ret;rw [Bf.out];exact⟨none,0,rfl,aM.nil, .inl rfl,Xt⟩
  |true=>
   have Hf:=ae hf;have h5:(x.k !=5)=true:=by simp only [bne_iff_ne,ne_eq];exact fun h=>hc ⟨hf,h⟩
   clear hf hc;go_enter func25,ntmps25;go_upto_region 2 with fail
   refine aI (R:=fun wx=>aD wx w.heap.size x ka kc la lc/\Ext w wx) ⟨aj,Xt⟩ ?_;rintro wa ⟨ag,aH⟩;obtain⟨hc0,aw,hl0⟩:=ag.see;go_wp2_with fail;(refine(cT x ka kc la lc _ _ hsz (aJ.out.ext Xt)).mono ?_);rw [Hf.out];rintro e w1 ⟨rfl,h1⟩;have ag:=af.ext h1 ag;clear hc0 aw hl0;obtain⟨hc0,aw,hl0⟩:=ag.see;go_wp2_with fail;go_ret;rw [Bf.out];exact⟨none,0,rfl,aM.nil, .inl rfl,Xt⟩
theorem CP {x:V} {p:ah} (h:p∈x.leaves):p.size<=2000:=by
 obtain⟨-,-,r,rfl,-,-,hl,hp,-⟩:=qJ h;have h1:=JM r (fun a ha=>yN (hp a ha));have h2:(lR r).size=(joinL (r.map (·.data.toList))).length:=by rw [<-Gv];exact Array.length_toList.symm
 omega
theorem qL {a b:ah} (h:a=b):(a.toList==b.toList)=true:=by rw [h,beq_self_eq_true]
theorem qM {a b:ah} (h:a≠b):(a.toList==b.toList)=false:=by
 rw [beq_eq_false_iff_ne];exact fun e=>h (kV e)
theorem abk (v want:V) (q p:ah) (r:List ah):lj v want q (p::r)=if(fV p q||fV q p)=true then true else if p=q then(match bG v p with|none=>true|some now=> !jb now ((bG want p).getD V.zero)) else lj v want q r:=rfl
theorem Kk {x:V} {p:ah}:((bG x p).getD V.zero).size<=x.size+1:=by
 cases h:bG x p with
 |none=>have e:V.zero.size=1:=by decide+kernel
        simp only [Option.getD_none];omega
 |some y=>have:=go_size (bJ p) (x:=x) (y:=y) h;simp only [Option.getD_some];omega
theorem PK (v:V) (ka:au) (kc:Nat) (la:au) (lc:Nat) (S:az) (want:V) (kb:au) (kd:Nat) (lb:au) (ld:Nat) (T:az) (q:ah) (w:World) (jH:v.size<=1000000000) (hwz:want.size<=1000000000)
 (hin:v.In w S ka kc la lc) (hjn:want.In w T kb kd lb ld) (hq:q.size<=1073741824) (hm:fZ w):
 Calls prog 131 #[v.val ka kc la lc,want.val kb kd lb ld, .string q] w fun e w'=>e= .returned (.bool (eA v want q))/\Ext w w':=by
 have aJ:=ae hin;have aU:=ae hjn;have hll:=AU want;have Hwl:=ae (fun k (h:k<want.leaves.length)=>CP (List.getElem_mem h));have Sn:=ae (show lj v want q (want.leaves.drop 0)=eA v want q from rfl);clear hin hjn;go_enter func131,ntmps131;go_upto_region 1 with fail
 refine aI (R:=fun wx=>aD wx w.heap.size v ka kc la lc/\aD wx (w.heap.size+1) want kb kd lb ld/\Ext w wx) ⟨aj,aj,Xt⟩ ?_;rintro wa ⟨ag,ai,aH⟩;obtain⟨hc1,aA,ay⟩:=ai.see;go_wp2_with fail;(refine(J0 want kb kd lb ld _ _ (by omega) (aU.out.ext Xt) (hm.ext Xt)).mono ?_);rintro e w1 ⟨pa,pc,rfl,CU,CV,h1⟩;have ag:=af.ext h1 ag;have ai:=af.ext h1 ai;have hx1:Ext w w1:=aH.trans h1;have aP:=ae CV;clear h1 aH hc1 aA ay CV;go_wp2_with fail
 go_loopg [16] want.leaves.length (fun g i wr=>∃k:Nat,k<=want.leaves.length/\i= .int .i64 k/\g=want.leaves.length-k/\lj v want q (want.leaves.drop k)=eA v want q/\Ext w1 wr)
 case atStart=>exact⟨0,Nat.zero_le _,rfl,rfl,Sn.out,Xt⟩
 case round=>
  obtain⟨k,hk,rfl,rfl,wU,hx⟩:=hrel;have DY:=ae wU;have ag:=af.ext hx ag;have ai:=af.ext hx ai;have dJ:Ext w wr:=hx1.trans hx;clear wU Sn;by_cases hlt:k<want.leaves.length
  ·obtain⟨b,o,rfl,o8,hC⟩:=aP.out.resolve_left (by intro h;rw [h] at hlt;simp at hlt)
   have d0:=hx.cell (hC k hlt);have tX:=Hwl.out k hlt;have vv:=ae (show want.leaves[k]∈want.leaves from List.getElem_mem hlt);have pB:=ae (show lj v want q (want.leaves.drop k)=_ from(congrArg (lj v want q) (List.drop_eq_getElem_cons hlt)).trans (abk v want q _ _));obtain⟨p,hp⟩:∃p,want.leaves[k]=p:=⟨_,rfl⟩;rw [hp] at d0 tX vv pB;clear hp hC
   cases ha1:fV p q with
   |true=>
    have Hr:=ae (show eA v want q=true by rw [<-DY.out,pB.out,ha1];rfl);have Ha:=ae ha1;clear ha1;go_wp2_with fail;(refine(tV p q _ (by omega)).mono ?_);rw [Ha.out];rintro e w2 ⟨rfl,rfl⟩;go_wp2_with fail;go_ret;exact⟨dv Hr.out.symm,Xt⟩
   |false=>
    cases ha2:fV q p with
    |true=>
     have Hr:=ae (show eA v want q=true by rw [<-DY.out,pB.out,ha1,ha2];rfl);have Ha:=ae ha1;have Hb:=ae ha2;clear ha1 ha2;go_wp2_with fail;(refine(tV p q _ (by omega)).mono ?_);rw [Ha.out];rintro e w2 ⟨rfl,rfl⟩;go_wp2_with fail;(refine(tV q p _ (by omega)).mono ?_);rw [Hb.out];rintro e w3 ⟨rfl,rfl⟩;go_wp2_with fail;go_ret;exact⟨dv Hr.out.symm,Xt⟩
    |false=>
     have GH:=ae (show lj v want q (want.leaves.drop k)=if p=q then _ else _ by rw [pB.out,ha1,ha2];rfl);have Ha:=ae ha1;have Hb:=ae ha2;clear ha1 ha2 pB;by_cases kJ:p=q
     ·have hpb:=qL kJ
      have Hr:=ae (show eA v want q=_ by rw [<-DY.out,GH.out,if_pos kJ]);clear kJ GH;have hnz:((bG v p).getD V.zero).size<=1073741824:=by have:=Kk (x:=v) (p:=p);omega
      have bL:((bG want p).getD V.zero).size<=1073741824:=by have:=Kk (x:=want) (p:=p);omega
      obtain⟨xv,hxv⟩:∃xv,(bG want p).getD V.zero=xv:=⟨_,rfl⟩;obtain⟨xb,aO⟩:∃xb,(bG want p).isSome=xb:=⟨_,rfl⟩;rw [hxv] at bL Hr;have FT:=ae hxv;have FU:=ae aO;clear hxv aO;go_wp2_with fail;(refine(tV p q _ (by omega)).mono ?_);rw [Ha.out];rintro e w2 ⟨rfl,rfl⟩;go_wp2_with fail;(refine(tV q p _ (by omega)).mono ?_);rw [Hb.out];rintro e w3 ⟨rfl,rfl⟩;obtain⟨hc0,aw,hl0⟩:=ag.see;go_wp2_with fail;(refine(C5 v ka kc la lc _ p _ (by omega) (aJ.out.ext Xt) (by omega) (hm.ext Xt)).mono ?_)
      cases zr:bG v p with
      |none=>
       rw [zr] at Hr;rintro e w4 ⟨k2,c2,l2,d2,rfl,bN,h4⟩;have ai:=af.ext (w':=w4) Xt ai;have bH:Ext w w4:=Xt;clear h4 hc0 aw hl0 zr bN;go_upto_region 8 with fail
       refine aI (R:=fun wx=>Ext w4 wx) (by exact Xt) ?_;rintro wb aO;have ai:=af.ext aO ai;have aZ:Ext w wb:=bH.trans aO;clear aO;obtain⟨hc1,aA,ay⟩:=ai.see;go_wp2_with fail;(refine(C5 want kb kd lb ld _ p _ (by omega) (aU.out.ext Xt) (by omega) (hm.ext Xt)).mono ?_);rw [FT.out,FU.out];rintro e w6 ⟨k3,c3,l3,d3,rfl,bf,h6⟩;go_wp2_with fail;go_ret;exact⟨dv Hr.out.symm,Xt⟩
      |some now=>
       rw [zr] at Hr hnz;simp only [Option.getD_some] at hnz;simp only [Option.getD_some,Option.isSome_some];rintro e w4 ⟨k2,c2,l2,d2,rfl,bN,h4⟩;have vC:=ae (Rk bN);have ai:=af.ext (w':=w4) Xt ai;have bH:Ext w w4:=Xt;clear h4 hc0 aw hl0 zr bN;go_upto_region 8 with fail
       refine aI (R:=fun wx=>aD wx w4.heap.size now k2 c2 l2 d2/\Ext w4 wx) ⟨aj,Xt⟩ ?_;rintro wb ⟨qj,aO⟩;have ai:=af.ext aO ai;have vC:=ae (V.In.ext vC.out aO);have aZ:Ext w wb:=bH.trans aO;clear aO;obtain⟨hc1,aA,ay⟩:=ai.see;go_wp2_with fail;(refine(C5 want kb kd lb ld _ p _ (by omega) (aU.out.ext Xt) (by omega) (hm.ext Xt)).mono ?_);rw [FT.out,FU.out];rintro e w6 ⟨k3,c3,l3,d3,rfl,bf,h6⟩;have DZ:=ae (Rk bf);have qj:=af.ext (w':=w6) Xt qj;have vC:=ae (V.In.ext (w':=w6) vC.out Xt);have bK:Ext w w6:=Xt;clear h6 hc1 aA ay bf aZ;go_upto_region 9 with fail
       refine aI (R:=fun wx=>aD wx w4.heap.size now k2 c2 l2 d2/\aD wx w6.heap.size xv k3 c3 l3 d3/\Ext w6 wx) ⟨aj,aj,Xt⟩ ?_;clear qj;rintro wc ⟨qj,GI,fh⟩;have cW:Ext w wc:=bK.trans fh;have vC:=ae (V.In.ext vC.out fh);have DZ:=ae (V.In.ext DZ.out fh);clear fh;obtain⟨GJ,GK,zt⟩:=qj.see;obtain⟨Sp,Sq,Ss⟩:=GI.see;go_wp2_with fail;(refine(JI now xv k2 c2 l2 d2 _ k3 c3 l3 d3 _ _ hnz bL (vC.out.ext Xt) (DZ.out.ext Xt)).mono ?_);rintro e w8 ⟨rfl,h8⟩;go_wp2_with fail;go_ret;exact⟨dv Hr.out.symm,Xt⟩
     ·have hpb:=qM kJ
      have cK:=ae (show lj v want q (want.leaves.drop (k+1))=eA v want q by rw [<-DY.out,GH.out,if_neg kJ]);clear kJ GH;go_wp2_with fail;(refine(tV p q _ (by omega)).mono ?_);rw [Ha.out];rintro e w2 ⟨rfl,rfl⟩;go_wp2_with fail;(refine(tV q p _ (by omega)).mono ?_);rw [Hb.out];rintro e w3 ⟨rfl,rfl⟩;go_wp2_with fail;go_roundg (want.leaves.length-(k+1))
      case measure=>omega
      case rel=>exact⟨k+1,by omega,by go_num,rfl,cK.out,Xt⟩
  ·have Hr:=ae (show eA v want q=false by rw [<-DY.out,List.drop_eq_nil_of_le (show want.leaves.length<=k by omega)];rfl)
   go_wp2_with fail;go_ret;exact⟨dv Hr.out.symm,Xt⟩
end Go.Proofs.YtlcebdaghmdkeabGreatDoor
