import Derived.Sort.OwnSorted
import Derived.Test.YtlcebdaghmdkeaaGreatDoorZ16
import Derived.Test.YtlcebdaghmdkeaaGreatDoorZ17
set_option linter.all false
set_option maxRecDepth 100000
set_option maxHeartbeats 64000000
namespace Go.Proofs.YtlcebdaghmdkeaaGreatDoor
open Go.Proofs.Tryz
open Go.RowKit
attribute [local go_sem↓] Go.wp_at_zero Go.wp_at_succ
theorem tQ (p q:ah) (w:World) (hp:p.size<=1073741824):Calls prog 83 #[.string p, .string q] w fun e w'=>e= .returned (.bool (fO p q))/\w=w':=by
 have c1:¬p.size+(⟨#[47]⟩:ah).size>9223372036854775807:=by have:(⟨#[47]⟩:ah).size=1:=rfl;omega
 go_enter func83,ntmps83;go_wp2_with fail;have hP:=Tryz.strings_HasPrefix q (p++⟨#[47]⟩) w;(refine hP.mono ?_);rintro e w1 ⟨rfl,rfl⟩;go_wp2_with fail;go_ret;refine⟨dn ?_,rfl⟩;unfold fO Lib.hasPrefix;simp
theorem aa4 {ks:List ah} {k:Nat} (h:k<ks.length) (y:V):bn (ks.drop k) y=(y.member ks[k]).bind (bn (ks.drop (k+1))):=by
 rw [List.drop_eq_getElem_cons h];rfl
theorem aa5 {ks:List ah} {k:Nat} (h:¬k<ks.length) (y:V):bn (ks.drop k) y=some y:=by
 rw [List.drop_eq_nil_of_le (by omega)];rfl
theorem CX (x:V) (ka:aq) (kc:Nat) (la:aq) (lc:Nat) (S:aA) (p:ah) (w:World) (hsz:x.size<=1073741824) (hin:x.In w S ka kc la lc) (hp:p.size<=1073741824) (hm:fW w):
 Calls prog 86 #[x.val ka kc la lc, .string p] w (eY S ((bI x p).getD V.zero) (.bool (bI x p).isSome) w):=by
 have aJ:=ae (hin.mono (T:=fun b=>(S b/\b<w.heap.size)\/w.heap.size+2<=b) (fun b h hl=> .inl ⟨h,hl⟩));clear hin;go_enter func86,ntmps86;go_upto_region 1 with fail
 refine aI (R:=fun wx=>aD wx w.heap.size x ka kc la lc/\aN wx (w.heap.size+1)/\Ext w wx) ⟨aj,aj,Xt⟩ ?_;rintro wa ⟨ag,ai,aF⟩;have az:=ai.lt;go_wp2_with fail;(refine(Ct p _ hp (hm.ext Xt)).mono ?_);rintro e w1 ⟨na,nc,rfl,wD,pn,h1⟩;obtain⟨er,her⟩:∃er:Int,(if(cM p).isSome=true then(0:Int) else 1)=er:=⟨_,rfl⟩;rw [her];clear her;have hnl:=(Fs p).1;have ag:=af.ext h1 ag;have ai:=af.ext h1 ai;have hx1:Ext w w1:=aF.trans h1;have aJ:=ae (aJ.out.ext hx1);have aQ:=ae (pn.keep (T:=fun b=>w.heap.size+2<=b) (fun _ _ _=>rfl) (fun b h _=>by omega));have FQ:=ae (show bn ((bQ p).drop 0) x=bI x p from rfl);clear h1 aF az pn;go_wp2_with fail
 go_loopg [19] (bQ p).length (fun g i wr=>∃(k:Nat) (y:V) (ky:aq) (kd:Nat) (ly:aq) (ld:Nat),k<= (bQ p).length/\i= .int .i64 k/\g=(bQ p).length-k/\bn ((bQ p).drop k) y=bI x p/\y.size<=1073741824/\
  aD wr w.heap.size y ky kd ly ld/\aN wr (w.heap.size+1)/\y.In wr (fun b=>(S b/\b<w.heap.size)\/w.heap.size+2<=b) ky kd ly ld/\bT wr (fun b=>w.heap.size+2<=b) na (bQ p)/\Ext w wr)
 case atStart=>exact⟨0,x,ka,kc,la,lc,Nat.zero_le _,rfl,rfl,FQ.out,hsz,aj,aj,aJ.out.ext Xt,aQ.out.ext Xt,Xt⟩
 case round=>
  obtain⟨k,y,ky,kd,ly,ld,hk,rfl,rfl,hgo,hys,ag,ai,R8,hst,hx⟩:=hrel;clear aJ aQ FQ hx1;have oH:=ae hgo;have R9:=ae R8;clear hgo R8;have Jk:=ai.lt;by_cases hlt:k<(bQ p).length
  ·obtain⟨b,o,rfl,hS,hC⟩:=hst.resolve_left (by intro h;rw [h] at hlt;simp at hlt)
   have d0:=hC k hlt;have aQ:=ae hst;have pB:=ae (aa4 hlt y);clear hC hst;obtain⟨hc0,aw,hl0⟩:=ag.see;go_wp2_with fail;(refine(qq y (bQ p)[k] ky kd ly ld _ _ hys (R9.out.ext Xt)).mono ?_);have vq:=Fh y (bQ p)[k]
   cases hmm:y.member (bQ p)[k] with
   |none=>
    have A1:y.iG (bQ p)[k]=V.zero:=by unfold V.iG;rw [hmm];rfl
    rw [A1];have bp:=ae (show bI x p=none by rw [<-oH.out,pB.out,hmm];rfl);rintro e w2 ⟨aZ,bf,bg,bh,rfl,bj,h2⟩;have ai:=af.ext (w':=w2) Xt ai;have hx2:Ext w w2:=Xt;have hzz:=hx.size;clear h2 hc0 aw hl0 A1 hmm vq;go_upto_region 7 with fail
    refine aI (R:=fun wx=>aD wx w2.heap.size V.zero aZ bf bg bh/\aN wx (w.heap.size+1)/\Ext w2 wx) ⟨aj,aj,Xt⟩ ?_;rintro wb ⟨jy,ai,aP⟩;have bN:=ae (bj.ext aP);have hx3:Ext w wb:=hx2.trans aP;clear bj aP hx2;obtain⟨oz,oC,oD⟩:=jy.see;obtain⟨hc1,aB,az⟩:=ai.see;go_wp2_with fail;refine aG (h:= ?_);rw [bp.out];exact⟨aZ,bf,bg,bh,rfl,V.In.keep (S:=fun b=>b≠w.heap.size+1/\ ((S b/\b<w.heap.size)\/w.heap.size+2<=b)) (bN.out.mono (fun b h _=>by rcases h with(h|h)|h;exact⟨by omega, .inl h⟩;exact⟨by omega, .inr h⟩;(try simp at h);exact⟨by omega, .inr (by omega)⟩)) (Held.kept (a:=wb) (T:=fun b=>b≠w.heap.size+1/\ ((S b/\b<w.heap.size)\/w.heap.size+2<=b)) aC) (fun b h _=>by rcases h.2 with h|h;exact .inl h.1;exact .inr (by omega)),Xt⟩
   |some z=>
    have A1:y.iG (bQ p)[k]=z:=by unfold V.iG;rw [hmm];rfl
    rw [A1];have aa6:=ae (show bn ((bQ p).drop (k+1)) z=bI x p by rw [<-oH.out,pB.out,hmm];rfl);have hzs:z.size<=1073741824:=by have:=RO hmm;omega
    rintro e w2 ⟨aZ,bf,bg,bh,rfl,bj,h2⟩;have ag:=af.ext (w':=w2) Xt ag;have ai:=af.ext (w':=w2) Xt ai;have hx2:Ext w w2:=Xt;have hzz:=hx.size;have hw2:=ai.lt;have aQ:=ae (aQ.out.ext (w':=w2) Xt);have bN:=ae (bj.mono (T:=fun b=>(S b/\b<w.heap.size)\/w.heap.size+2<=b) (fun b h _=>by rcases h with h|h;exact h;(try simp at h);exact .inr (by omega)));clear h2 hc0 aw hl0 A1 hmm vq bj;go_upto_region 8 with fail
    refine aI (R:=fun wx=>aD wx w2.heap.size z aZ bf bg bh/\aD wx w.heap.size y ky kd ly ld/\aN wx (w.heap.size+1)/\Ext w2 wx) ⟨aj,aj,aj,Xt⟩ ?_;clear ag ai;rintro wb ⟨jy,ag,ai,aP⟩;have bN:=ae (bN.out.ext aP);have aQ:=ae (aQ.out.ext aP);have hx3:Ext w wb:=hx2.trans aP;clear aP hx2;obtain⟨oz,oC,oD⟩:=jy.see;obtain⟨hc0,aw,hl0⟩:=ag.see;go_wp2_with fail;go_roundg ((bQ p).length-(k+1))
    case measure=>omega
    case rel=>exact⟨k+1,z,aZ,bf,bg,bh,by omega,by go_num,rfl,aa6.out,hzs,aj,aj,bN.out.keep (Held.kept (a:=wb) (T:=fun b=>(S b/\b<w.heap.size)\/w.heap.size+2<=b) aC) (fun b h _=>h),aQ.out.keep (Held.kept (a:=wb) (T:=fun b=>w.heap.size+2<=b) aC) (fun b h _=>h),Xt⟩
  ·have lF:=ae (show bI x p=some y by rw [<-oH.out,aa5 hlt])
   obtain⟨hc0,aw,hl0⟩:=ag.see;obtain⟨hc1,aB,az⟩:=ai.see;go_wp2_with fail;refine aG (h:= ?_);rw [lF.out];have gY:Ext w wr:=Xt;exact⟨ky,kd,ly,ld,rfl,V.In.keep (S:=fun b=>(S b/\b<w.heap.size)\/w.heap.size+2<=b) R9.out (Held.kept (a:=wr) (T:=fun b=>(S b/\b<w.heap.size)\/w.heap.size+2<=b) aC) (fun b h _=>by rcases h with h|h;exact .inl h.1;exact .inr (by omega)),Xt⟩
theorem JN (x y:V) (ka:aq) (kc:Nat) (la:aq) (lc:Nat) (S:aA) (kb:aq) (kd:Nat) (lb:aq) (ld:Nat) (T:aA) (w:World) (hsz:x.size<=1073741824) (jE:y.size<=1073741824) (hin:x.In w S ka kc la lc) (hjn:y.In w T kb kd lb ld):
 Calls prog 116 #[x.val ka kc la lc,y.val kb kd lb ld] w fun e w'=>e= .returned (.bool (jg x y))/\Ext w w':=by
 have aJ:=ae hin;have aV:=ae hjn;have Hl:=ae (show jg x y=(x.same y||(decide (x.k=5)&&decide (y.k=5)&&decide (y.l.length=0))) from rfl);clear hin hjn;go_enter func116,ntmps116;go_upto_region 1 with fail
 refine aI (R:=fun wx=>aD wx w.heap.size x ka kc la lc/\aD wx (w.heap.size+1) y kb kd lb ld/\Ext w wx) ⟨aj,aj,Xt⟩ ?_;rintro wa ⟨ag,ai,aF⟩;obtain⟨hc0,aw,hl0⟩:=ag.see;obtain⟨hc1,aB,az⟩:=ai.see;go_wp2_with fail;(refine(Dz x y ka kc la lc S kb kd lb ld T _ hsz jE (aJ.out.ext Xt) (aV.out.ext Xt)).mono ?_);rintro e w1 ⟨rfl,h1⟩;have ag:=af.ext h1 ag;have ai:=af.ext h1 ai;have hx1:Ext w w1:=aF.trans h1;clear h1 aF hc0 aw hl0 hc1 aB az;obtain⟨hc0,aw,hl0⟩:=ag.see;obtain⟨hc1,aB,az⟩:=ai.see
 cases hs:x.same y with
 |true=>
  rw [hs] at Hl;clear hs;go_wp2_with fail;go_ret;exact⟨dn (by rw [Hl.out];rfl),Xt⟩
 |false=>
  rw [hs] at Hl;clear hs;by_cases h5:x.k=5
  ·have pP:(x.k==5)=true:=by simpa using h5
   have GN:=ae h5;clear h5;by_cases h6:y.k=5
   ·have A2:(y.k==5)=true:=by simpa using h6
    have GQ:=ae h6;clear h6;by_cases h7:y.l.length=0
    ·have Lm:((y.l.length:Int)==0)=true:=by rw [h7];rfl
     have H7:=ae h7;clear h7;go_wp2_with fail;go_ret;exact⟨dn (by rw [Hl.out,decide_eq_true GN.out,decide_eq_true GQ.out,decide_eq_true H7.out];rfl),Xt⟩
    ·have Lm:((y.l.length:Int)==0)=false:=beq_eq_false_iff_ne.2 (by omega)
     have H7:=ae h7;clear h7;go_wp2_with fail;go_ret;exact⟨dn (by rw [Hl.out,decide_eq_true GN.out,decide_eq_true GQ.out,decide_eq_false H7.out];rfl),Xt⟩
   ·have A2:(y.k==5)=false:=by simpa using h6
    have GQ:=ae h6;clear h6;go_wp2_with fail;go_ret;refine⟨dn ?_,Xt⟩;rw [Hl.out,decide_eq_false GQ.out];simp
  ·have pP:(x.k==5)=false:=by simpa using h5
   have GN:=ae h5;clear h5;go_wp2_with fail;go_ret;refine⟨dn ?_,Xt⟩;rw [Hl.out,decide_eq_false GN.out];simp
theorem AG (ks:List ah) (a:aq) (n c:Nat) (S:aA) (w:World) (hn:ks.length=n) (hok:aO a n c) (hbig:n<=1073741824) (hst:bT w S a ks):
 Calls prog 26 #[.slice a n c] w fun e w'=>∃a' c',e= .returned (.slice a' n c')/\aO a' n c'/\ek w' w.heap.size (.slice a' n c') n ks/\Ext w w':=by
 refine(Gx a n c (ks.map Value.string) w hok hbig (by simp [hn]) (by have:=Gn hst;rwa [hn] at this) (pz ks)).mono ?_;rintro e w' ⟨a',c',rfl,h1,h2,h3⟩;exact⟨a',c',rfl,h1,⟨hn,h2⟩,h3⟩
theorem Lp {W:World} {o:Oper} {a:Act} {K:Act->World->Prop} {Q:Exit->Act->World->Prop} {base n:Nat} {v:Value} {ks:List ah} (key:ah) (B:Nat) {s x:Operand}
 (ho:o.op= .call {callee:= .builtin .append,args:= #[s,x],argTypes:= #[38,38]}) (hs:a.eval s=v) (hx:a.eval x= .slice (some ⟨B,0,none⟩) 1 1)
 (hS:ek W base v n ks) (hB:af W B #[.string key] 9) (hn:n<=1073741824) (hbase:base<=W.heap.size)
 (h:∀g cap w',ek w' base (.slice (some ⟨g,0,none⟩) (n+1) cap) (n+1) (ks++ [key])->W.grownBy w' v.ownBlock-> (v.ownBlock=some g\/g=W.heap.size)->K (a.put o.dst (.slice (some ⟨g,0,none⟩) (n+1) cap)) w'):o.wp prog a W K Q:=by
 obtain⟨i0,hi,hz0,hz1,hz2⟩:=info_parts Tryz.wU;refine wp_append_lies _ s x _ ho base 9 i0 _ 1 16 underlying38 hi hz0 hz1 hz2 rfl (by decide) v n (ks.map Value.string) hs hS.2 ⟨B,0,none⟩ 1 1 [.string key] hx (by rfl) (World.news_of_block (cs:= #[.string key]) hB) (by simp [Value.oneCell']) (by omega) (by unfold maxLen;omega) (by omega) hbase _ rfl ?_;intro g cap w' hown hgrow hat _;exact h g cap w' (ek.push hS.1 hown) hgrow hat
def Off (p:Nat) (v:Value):aA:=fun b=>b≠p/\v.ownBlock≠some b
theorem fW.held {w w':World} {T:aA} (h:fW w) (e:Held T w w') (hT:T 0):fW w':=by
 obtain⟨m,hm⟩:=h;exact⟨m,e.kept.cell (p:=⟨_,0,none⟩) hT hm⟩
def Sb (p:Nat) (v:Value) (qs:List ah) (w:World) (e:Ending) (w':World):Prop:=
 e= .returned (.tuple #[])/\∃a c,af w' p #[.slice a qs.length c] 38/\ek w' (p+1) (.slice a qs.length c) qs.length qs/\Held (Off p v) w w'/\ (∀g,(Value.slice a qs.length c).ownBlock=some g->v.ownBlock=some g\/w.heap.size<=g)/\Below p w w'
def aa7 (m:Nat):Prop:=∀(x:V) (ka:aq) (kc:Nat) (la:aq) (lc:Nat) (d:Int) (ns:List ah) (na:aq) (nc p:Nat) (a:aq) (c:Nat) (ps:List ah) (w:World),
 x.size<=m->x.size<=1073741824->x.good d=true-> (ns.length:Int)<d-> (∀k∈ns,k.size<=60)->x.In w (fun b=>b<p) ka kc la lc->aO na ns.length nc->bT w (Off p (.slice a ps.length c)) na ns->
 af w p #[.slice a ps.length c] 38->ek w (p+1) (.slice a ps.length c) ps.length ps->ps.length+x.count<=1000000->0<p->fW w->
 Calls prog 113 #[x.val ka kc la lc, .slice na ns.length nc, .pointer (some ⟨p,0,none⟩)] w (Sb p (.slice a ps.length c) (ps++(x.eK ns).map lQ) w)
theorem aa8 (x:V) (ka:aq) (kc:Nat) (la:aq) (lc:Nat) (ns:List ah) (na:aq) (nc p:Nat) (a:aq) (c:Nat) (ps:List ah) (w:World)
 (vr:x.k≠5\/ (x.l= []/\ns≠ [])) (hnl:ns.length<=12) (hnz:∀k∈ns,k.size<=60) (hst:bT w (Off p (.slice a ps.length c)) na ns)
 (hB:af w p #[.slice a ps.length c] 38) (hS:ek w (p+1) (.slice a ps.length c) ps.length ps) (hps:ps.length<=1000000) (hm:fW w):
 Calls prog 113 #[x.val ka kc la lc, .slice na ns.length nc, .pointer (some ⟨p,0,none⟩)] w (Sb p (.slice a ps.length c) (ps++ [lQ ns]) w):=by
 have HS:=ae hS;have aQ:=ae hst;have hpl:=hB.lt;have yZ:(x.k==5)=false\/ ((x.k==5)=true/\ ((x.l.length:Int)==0)=true/\ (0:Int)<(ns.length:Int)):=by
  by_cases h5:x.k=5
  ·rcases vr with h|⟨h1,h2⟩
   ·exact absurd h5 h
   ·exact .inr ⟨by simpa using h5,by rw [h1];rfl,by have:=List.length_pos_iff.2 h2;omega⟩
  ·exact .inl (by simpa using h5)
 have hrow:∀k,(Value.slice a ps.length c).ownBlock=some k->¬Off p (.slice a ps.length c) k:=fun k hk h=>h.2 hk;have hgo:=fun g=>HS.out.lt g;clear hS hst vr;go_enter func113,ntmps113;go_upto_region 1 with fail
 refine aI (R:=fun wx=>aD wx w.heap.size x ka kc la lc/\Ext w wx) ⟨aj,Xt⟩ ?_;rintro wa ⟨ag,aF⟩;obtain⟨hc0,aw,hl0⟩:=ag.see;rcases yZ with h5|⟨h5,h6,h7⟩
 all_goals
  (try have Cx:(x.k !=5)=true:=by simpa using h5);(try have Cx:(x.k !=5)=false:=by simpa using h5);go_upto_region 2 with fail
  refine aI (R:=fun wx=>Ext w wx) (by exact Xt) ?_;clear hc0 aw hl0 ag aF;rintro wa aF;have hBa:=af.ext aF hB;have au:∀w',Ext wa w'->w'.cell? ⟨p,0,none⟩=some (.slice a ps.length c):=fun w' e=>e.cell (hBa.cells 0);refine fN au (c:=9) (by kernel_rfl) ?_;refine aH 0 [8,9] (hS:=au _ Xt) (h:= ?_);refine aH 1 [2,3,7,9] (hS:=au _ Xt) (h:= ?_);refine aH 2 [3,7,9] (hS:=au _ Xt) (h:= ?_);refine aH 3 [7,9] (hS:=au _ Xt) (h:= ?_);refine aH 4 [5,6,7,9] (hS:=au _ Xt) (h:= ?_);(try simp only [rl]);refine aM 5 (h:=fun K hK=> ?_);(try simp only [rl]);(try go_simp);(refine(Cw na nc ns _ _ (aQ.out.ext Xt) (fun q hq=>by have:=hnz q hq;omega) (by omega) (hm.ext Xt)).mono ?_);rintro e w2 ⟨rfl,h2⟩;(try go_simp);refine hK.out _ _ (fun _=>au _ Xt) ?_;clear hK K;(try simp only [rl]);refine aM 6 (h:=fun K hK=> ?_);(try simp only [rl]);go_simp;refine hK.out _ _ (fun _=>au _ Xt) ?_;clear hK K;(try simp only [rl]);refine aM 7 (h:=fun K hK=> ?_);(try simp only [rl]);rw [if_pos (by simp [Region.wanted])];refine Lp (lQ ns) w2.heap.size (by rfl) (by rfl) (by rfl) (HS.out.ext Xt) aj (by omega) (by have:=aF.size;have:=Ext.size (a:=wa) (b:=w2) Xt;simp;omega) ?_;intro g4 pC w4 bL hg4 rZ;have hx2:Ext w w2:=Xt;have hB4:af w4 p #[.slice a ps.length c] 38:=af.grown (w:=w2.alloc _) (af.alloc (af.ext hx2 hB) _) hg4 (fun e=>by have:=(hgo _ e.symm).1;omega);have DI:Held (Off p (.slice a ps.length c)) w w4:=Held.grown (b:=w2.alloc _) aC hg4 hrow;refine hK.out _ _ (fun _=>hB4.cells 0) ?_;clear hK K;(try simp only [rl]);have vp:=hB4.cells;have AZ:=hB4.free;have hl4:=hB4.lt;have ag6:=(bL.lt g4 rfl).1;refine aM 8 (h:=fun K hK=> ?_);(try simp only [rl]);go_simp;refine hK.out _ _ (fun _=>hB4.cells 0) ?_;clear hK K;(try simp only [rl]);refine aM 9 (h:=fun K hK=> ?_);(try simp only [rl]);go_simp;refine bD hK (h:= ?_);clear hK K;(try simp only [rl]);refine dE (by kernel_rfl) ?_ _;go_wp2_with fail;refine aG (h:= ?_);have eN:Held (fun b=>b≠p) w4 (w4.setCell ⟨p,0,none⟩ (.slice (some ⟨g4,0,none⟩) (ps.length+1) pC)):=(Held.refl _ _).set (by simp) _;have hb4:Below p w w4:=Below.grown (Below.alloc (Below.mono hx2 (by omega)) (by have:=hx2.size;omega) _) hg4 (by have:=hx2.size;simp;omega) (fun k hk=>by have:=(hgo k hk).1;omega);refine⟨rfl,some ⟨g4,0,none⟩,pC,?_,?_,?_,?_,hb4.setCell (Nat.le_refl _) _⟩
  ·rw [List.length_append];exact af.to (hB4.set 0 _) (by simp)
  ·rw [List.length_append];exact bL.keep (fun b hb he=>eN.block b (by have:=(bL.lt b he).1;omega) hb)
  ·exact DI.trans (eN.mono (fun b h=>h.1))
  ·intro g hg
   rw [List.length_append] at hg;have hge:g4=g:=by simpa [Value.ownBlock] using hg
   subst hge;rcases rZ with h|h
   ·exact .inl h
   ·have:=hx2.size
    simp at h;exact .inr (by omega)
theorem aa9 {x:V} (hl:x.keys.length=x.l.length) (ns:List ah) {k:Nat} (h:k<x.keys.length):V.eK.go (x.l.take (k+1)) (x.keys.take (k+1)) ns=V.eK.go (x.l.take k) (x.keys.take k) ns++(x.l[k]'(by omega)).eK (ns++ [x.keys[k]]):=by
 rw [List.take_succ_eq_append_getElem h,List.take_succ_eq_append_getElem (show k<x.l.length by omega),RM ns _ _ _ _ (by simp;omega)]
theorem Sc:∀(l:List V) (ks ns:List ah),(V.eK.go l ks ns).length<= (l.map V.count).sum
 | [],ks,ns=>by rw [yu];simp
 |_::_, [],ns=>by rw [FA];simp
 |y::l,k::ks,ns=>by rw [yw,List.length_append,List.map_cons,List.sum_cons];have:=Lj y (ns++ [k]);have:=Sc l ks ns;omega
theorem abb (m:Nat):aa7 m:=by
 induction m with
 |zero=>intro x _ _ _ _ _ _ _ _ _ _ _ _ _ h;have:=x.size_pos;omega
 |succ m ih=>
  intro x ka kc la lc d ns na nc p a c ps w hm hsz hg hnd hnz hin hok hst hB hS hps nW hmx;obtain⟨hfl,hd⟩:=F9 (show x.flat d=true by rw [V.rR,Bool.and_eq_true] at hg;exact hg.1);by_cases vr:x.k≠5\/ (x.l= []/\ns≠ [])
  ·have:=aa8 x ka kc la lc ns na nc p a c ps w vr (by omega) hnz hst hB hS (by omega) hmx
   rw [Aw,if_pos vr];exact this
  ·have h5:x.k=5:=Classical.byContradiction fun h=>vr (.inl h)
   have dP:=iH (Fy hg) h5;have hkl:=x.Ae;have il:=dP.len;have A3:=ae (show x.eK ns=V.eK.go x.l x.keys ns by rw [Aw,if_neg vr]);have abd:=ae (show x.count=1+(x.l.map V.count).sum from V.count_eq x);have hcl:=hin;have aJ:=ae hin;have aQ:=ae hst;have HS:=ae hS;have Hg:=ae hg;have Hkz:=ae (fun k (h:k<x.keys.length)=>yx (hfl.kp _ (List.getElem_mem h)));have hpl:=hB.lt;have pP:(x.k==5)=true:=by simpa using h5
   have Cx:(x.k !=5)=false:=by simpa using h5
   have hl0:((x.l.length:Int)==0)=false\/ (((x.l.length:Int)==0)=true/\ns.length=0/\na=na):=by
    by_cases h:x.l= []
    ·exact .inr ⟨by rw [h];rfl,by
      have:ns= []:=Classical.byContradiction fun h2=>vr (.inr ⟨h,h2⟩)
      rw [this];rfl,rfl⟩
    ·exact .inl (beq_eq_false_iff_ne.2 (by have:=List.length_pos_iff.2 h;omega))
   clear hin hcl hst hS hg hfl vr h5 dP;rcases hl0 with hl0|⟨hl0,hn0,-⟩
   all_goals
    (try(have ag7:¬(0:Int)<(ns.length:Int):=by omega
         have Ke:=ae hn0
         clear hn0))
    go_enter func113,ntmps113;go_upto_region 1 with fail
    refine aI (R:=fun wx=>aD wx w.heap.size x ka kc la lc/\Ext w wx) ⟨aj,Xt⟩ ?_;rintro wa ⟨ag,aF⟩;obtain⟨hc0,aw,hl0⟩:=ag.see;go_upto_region 3 with fail
    refine aI (R:=fun wx=>aD wx w.heap.size x ka kc la lc/\Ext w wx) ⟨aj,Xt⟩ ?_;clear hc0 aw hl0 ag aF;rintro wa ⟨ag,aF⟩;obtain⟨hc0,aw,hl0⟩:=ag.see;go_wp2_with fail
    go_loopg [34] x.keys.length (fun g i wr=>∃(k:Nat) (a':aq) (c':Nat) (qs:List ah),k<=x.keys.length/\i= .int .i64 k/\g=x.keys.length-k/\qs=ps++(V.eK.go (x.l.take k) (x.keys.take k) ns).map lQ/\aD wr w.heap.size x ka kc la lc/\
     af wr p #[.slice a' qs.length c'] 38/\ek wr (p+1) (.slice a' qs.length c') qs.length qs/\Held (Off p (.slice a ps.length c)) w wr/\ (∀g,(Value.slice a' qs.length c').ownBlock=some g-> (Value.slice a ps.length c).ownBlock=some g\/w.heap.size<g)/\Below p w wr)
    case atStart=>exact⟨0,a,c,ps,Nat.zero_le _,rfl,rfl,by simp [yu],aj,af.ext (w:=w) Xt hB,HS.out.ext Xt,Ext.held Xt _,fun g hg=> .inl hg,Below.mono (B:=w.heap.size) (by exact Xt) (by omega)⟩
    case round=>
     obtain⟨wo,rfl⟩:∃x,x=wr:=⟨_,rfl⟩;obtain⟨k,a',c',qs,hk,rfl,rfl,pQ,ag,Lq,Lr,y5,hgo,Dk⟩:=hrel;have pd:=ae pQ;have DA:=ae Lr;have oH:=ae hgo;have hlo:=HS.out.lt;have Ls:∀b,b<p->Off p (.slice a ps.length c) b:=fun b hb=>⟨by omega,fun e=>by have:=(hlo b e).1;omega⟩;have hmo:fW wo:=hmx.held y5 (Ls _ nW);have hin:=aJ.out.keep (T:=fun b=>b<p) (Held.kept (y5.mono Ls)) (fun _ h _=>h)
     have hst:bT wo (fun b=>b<w.heap.size/\Off p (.slice a' qs.length c') b) na ns:=aQ.out.keep (Held.kept y5) (fun b hb hl=>⟨hl,hb.1,fun e=>by
      rcases oH.out b e with h|h
      ·exact hb.2 h
      ·omega⟩)
     have pB:=ae hst;have wA:=y5.size;have az:=ag.lt;have DJ:=Lr.lt
     have hw0:Off p (.slice a' qs.length c') w.heap.size:=⟨by omega,fun e=>by
      rcases oH.out _ e with h|h
      ·have:=(hlo _ h).2;omega
      ·omega⟩
     have Sd:=ae hw0;clear pQ Lr hgo hst Ls hlo hw0;obtain⟨hc0,aw,hl0⟩:=ag.see;by_cases hlt:k<x.keys.length
     ·obtain⟨b,o,rfl,tS,iC,iD,jc,iE,⟨d0,d1,d2,d3,d4⟩,hin'⟩:=hin.item (i:=k) (by omega)
      obtain⟨kb,ko,rfl,hSk,dk⟩:=hin.key hlt;have cP:=V.qi (x:=x) (i:=k) (by omega);have A4:=ae hin';have Sg:=ae (aa9 il ns hlt);have Sh:qs.length+(x.l[k]'(by omega)).count<=1000000:=by have h1:=Sc (x.l.take k) (x.keys.take k) ns;have h2:=Qh V.count x.l (k:=k) (by omega);have h3:=KA V.count x.l (k+1);have h4:=abd.out;have h5:=congrArg List.length pd.out;rw [List.length_append,List.length_map] at h5;omega
      have Si:=ae (Fz Hg.out (i:=k) (by omega));have Lt:=Hkz.out k hlt;have gh:(0:Int)<= (k:Int):=by omega
      have hk1:(k:Int)<(x.l.length:Int):=by omega
      have hk2:(k:Int)<(x.keys.length:Int):=by omega
      clear hin hin';go_upto_region 6 with fail
      refine aI (R:=fun wx=>Ext wo wx) (by exact Xt) ?_;rintro wb aP;have C0:=af.ext aP ag;have Sj:=af.ext aP Lq;have hzb:=aP.size;have d0:=aP.cell d0;have d1:=aP.cell d1;have d2:=aP.cell d2;have d3:=aP.cell d3;have d4:=aP.cell d4;have Sk:=ae (DA.out.ext aP);have Sl:=ae (pB.out.ext aP);have lG:=ae (A4.out.ext aP);have hmb:=hmo.ext aP;have hbb:Below p w wb:=Dk.trans (Below.mono aP (by omega));have uf:=y5.ext aP;clear hc0 aw hl0 ag Lq aP DA pB A4 hmo y5;have au:∀w',Ext wb w'-> (w'.cell? ⟨w.heap.size,4,none⟩=some (.slice (some ⟨b,o,none⟩) x.l.length lc)/\w'.cell? ⟨b,o+k*5,none⟩=some (.int .i64 (x.l[k]'(by omega)).k)/\w'.cell? ⟨b,o+k*5+1,none⟩=some (.int .i64 (x.l[k]'(by omega)).n)/\w'.cell? ⟨b,o+k*5+2,none⟩=some (.string (x.l[k]'(by omega)).s)/\w'.cell? ⟨b,o+k*5+3,none⟩=some (.slice iC (x.l[k]'(by omega)).keys.length iD)/\w'.cell? ⟨b,o+k*5+4,none⟩=some (.slice jc (x.l[k]'(by omega)).l.length iE)):=fun w' e=>⟨e.cell (C0.cells 4),e.cell (d0),e.cell (d1),e.cell (d2),e.cell (d3),e.cell (d4)⟩;refine fN au (c:=11) (by kernel_rfl) ?_;refine aH 0 [1,3,4,11] (hS:=au _ Xt) (h:= ?_);refine aH 1 [3,4,11] (hS:=au _ Xt) (h:= ?_);refine aH 2 [3,4,11] (hS:=au _ Xt) (h:= ?_);refine aH 3 [4,11] (hS:=au _ Xt) (h:= ?_);refine aH 4 [11] (hS:=au _ Xt) (h:= ?_);refine aH 5 [6,9,11] (hS:=au _ Xt) (h:= ?_);refine aH 7 [8,9,11] (hS:=au _ Xt) (h:= ?_);refine aH 10 [11] (hS:=au _ Xt) (h:= ?_);(try simp only [rl]);refine mQ (rs:= [6,8]) (by kernel_rfl) (by simp) ?_;refine cT.cons (Array.getElem?_eq_getElem (by decide)) (fun K hK=> ?_) (cT.cons (Array.getElem?_eq_getElem (by decide)) (fun K hK=> ?_) cT.nil)
      · (try simp only [rl])
        (try go_simp);(refine(AG ns na ns.length nc _ _ rfl hok (by omega) (Sl.out.ext Xt)).mono ?_);rintro e w2 ⟨a1,c1,rfl,ib,y7,h2⟩;(try go_simp);refine hK.out _ _ (fun _=>au _ Xt) ?_;clear hK K;(try simp only [rl]);refine aM 8 (h:=fun K hK=> ?_);(try simp only [rl]);go_simp;refine hK.out _ _ (fun _=>au _ Xt) ?_;clear hK K;(try simp only [rl]);refine aM 9 (h:=fun K hK=> ?_);(try simp only [rl]);have hbase:=h2.size;rw [if_pos (by simp [Region.wanted])];refine Lp (x.keys[k]) w2.heap.size (by rfl) (by rfl) (by rfl) (y7.ext Xt) aj (by omega) (by first|exact hbase|(simp at hbase⊢;omega)) ?_;intro g4 pC w4 bL hg4 rZ;have bX:Ext wb w4:=Ext.grown (by exact Xt) hg4 (fun g hg=>by have:=(y7.lt g hg).1;(try simp at this);omega);have abe:wb.heap.size<=g4:=by have:=(bL.lt g4 rfl).1;(try simp at this);omega
        have jf:Hid (bT w4 (Off p (.slice a' qs.length c')) (some ⟨g4,0,none⟩) (ns++ [x.keys[k]])):=by
         obtain⟨a5,c5,ju,-,-,pX⟩:=bL.strs;simp only [Value.slice.injEq,true_and] at ju;obtain⟨rfl,rfl⟩:=ju;rcases pX with h|⟨b5,o5,he,-,yZ⟩
         ·simp at h
         ·simp only [Option.some.injEq,Addr.mk.injEq] at he
          obtain⟨rfl,rfl,-⟩:=he;exact .inr ⟨_,_,rfl,⟨by omega,fun e=>by have:=(DJ _ e).2;omega⟩,yZ⟩
        have GR:aO (some ⟨g4,0,none⟩) (ns++ [x.keys[k]]).length pC:=by obtain⟨a5,c5,ju,ik,-,-⟩:=bL.strs;simp only [Value.slice.injEq,true_and] at ju;obtain⟨rfl,rfl⟩:=ju;rw [List.length_append];exact ik
        have DK:=ae (Sk.out.ext bX);have Lu:=af.ext bX Sj;have Lv:=af.ext bX C0;have Lx:=hmb.ext bX;clear bL y7 rZ hg4 h2 ib hbase;refine hK.out _ _ (fun _=>au _ bX) ?_;clear hK K;(try simp only [rl]);refine aM 11 (h:=fun K hK=> ?_);(try simp only [rl]);(try go_simp);have hrec:=ih (x.l[k]'(by omega)) iC iD jc iE (d+1) (ns++ [x.keys[k]]) (some ⟨g4,0,none⟩) pC p a' c' qs w4 (by omega) (by omega) Si.out (by rw [List.length_append];simp;omega) (fun q hq=>by rcases List.mem_append.1 hq with h|h;exact hnz q h;simp at h;rw [h];exact Lt) (lG.out.ext bX) GR jf.out Lu DK.out Sh nW Lx;rw [List.length_append] at hrec;(refine hrec.mono ?_);rintro e w5 ⟨rfl,a6,c6,bH,vt,bE,gL,LA⟩;(try go_simp);refine bD hK (h:= ?_);clear hK K;(try simp only [rl]);refine dE (by kernel_rfl) ?_ _;have ij:=bX.size;have oI:=af.held bE Lv Sd.out
        have eN:Held (Off p (.slice a ps.length c)) w w5:=⟨Nat.le_trans uf.size (Nat.le_trans ij bE.size),fun b hb hl=>by
         have e1:=bE.block b ⟨hb.1,fun e=>by
          rcases oH.out b e with h|h
          ·exact hb.2 h
          ·omega⟩ (by omega)
         rw [e1,Below.block bX b (by omega),uf.block b hb hl]⟩
        have LB:Below p w w5:=(hbb.trans (Below.mono bX (by omega))).trans LA;have LC:=bE.size;clear jf DK hrec;go_wp2_with fail;go_roundg (x.keys.length-(k+1))
        case measure=>omega
        case rel=>exact⟨k+1,a6,c6,_,by omega,by go_num,rfl,by rw [Sg.out,List.map_append,<-List.append_assoc,<-pd.out],aj,af.ext (w:=w5) Xt bH,vt.ext Xt,eN.ext Xt,fun g hg=>by
         rcases gL g hg with h|h
         ·exact oH.out g h
         ·exact .inr (by omega),LB.trans (Below.mono (B:=w5.heap.size) (by exact Xt) (by omega))⟩
      · (try simp only [rl])
        go_simp;refine hK.out _ _ (fun _=>au _ Xt) ?_;clear hK K;(try simp only [rl]);refine aM 6 (h:=fun K hK=> ?_);(try simp only [rl]);(try go_simp);(refine(AG ns na ns.length nc _ _ rfl hok (by omega) (Sl.out.ext Xt)).mono ?_);rintro e w2 ⟨a1,c1,rfl,ib,y7,h2⟩;(try go_simp);refine hK.out _ _ (fun _=>au _ Xt) ?_;clear hK K;(try simp only [rl]);refine aM 9 (h:=fun K hK=> ?_);(try simp only [rl]);have hbase:=h2.size;rw [if_pos (by simp [Region.wanted])];refine Lp (x.keys[k]) wb.heap.size (by rfl) (by rfl) (by rfl) (y7.ext Xt) aj (by omega) (by first|exact hbase|(simp at hbase⊢;omega)) ?_;intro g4 pC w4 bL hg4 rZ;have bX:Ext wb w4:=Ext.grown (by exact Xt) hg4 (fun g hg=>by have:=(y7.lt g hg).1;(try simp at this);omega);have abe:wb.heap.size<=g4:=by have:=(bL.lt g4 rfl).1;(try simp at this);omega
        have jf:Hid (bT w4 (Off p (.slice a' qs.length c')) (some ⟨g4,0,none⟩) (ns++ [x.keys[k]])):=by
         obtain⟨a5,c5,ju,-,-,pX⟩:=bL.strs;simp only [Value.slice.injEq,true_and] at ju;obtain⟨rfl,rfl⟩:=ju;rcases pX with h|⟨b5,o5,he,-,yZ⟩
         ·simp at h
         ·simp only [Option.some.injEq,Addr.mk.injEq] at he
          obtain⟨rfl,rfl,-⟩:=he;exact .inr ⟨_,_,rfl,⟨by omega,fun e=>by have:=(DJ _ e).2;omega⟩,yZ⟩
        have GR:aO (some ⟨g4,0,none⟩) (ns++ [x.keys[k]]).length pC:=by obtain⟨a5,c5,ju,ik,-,-⟩:=bL.strs;simp only [Value.slice.injEq,true_and] at ju;obtain⟨rfl,rfl⟩:=ju;rw [List.length_append];exact ik
        have DK:=ae (Sk.out.ext bX);have Lu:=af.ext bX Sj;have Lv:=af.ext bX C0;have Lx:=hmb.ext bX;clear bL y7 rZ hg4 h2 ib hbase;refine hK.out _ _ (fun _=>au _ bX) ?_;clear hK K;(try simp only [rl]);refine aM 11 (h:=fun K hK=> ?_);(try simp only [rl]);(try go_simp);have hrec:=ih (x.l[k]'(by omega)) iC iD jc iE (d+1) (ns++ [x.keys[k]]) (some ⟨g4,0,none⟩) pC p a' c' qs w4 (by omega) (by omega) Si.out (by rw [List.length_append];simp;omega) (fun q hq=>by rcases List.mem_append.1 hq with h|h;exact hnz q h;simp at h;rw [h];exact Lt) (lG.out.ext bX) GR jf.out Lu DK.out Sh nW Lx;rw [List.length_append] at hrec;(refine hrec.mono ?_);rintro e w5 ⟨rfl,a6,c6,bH,vt,bE,gL,LA⟩;(try go_simp);refine bD hK (h:= ?_);clear hK K;(try simp only [rl]);refine dE (by kernel_rfl) ?_ _;have ij:=bX.size;have oI:=af.held bE Lv Sd.out
        have eN:Held (Off p (.slice a ps.length c)) w w5:=⟨Nat.le_trans uf.size (Nat.le_trans ij bE.size),fun b hb hl=>by
         have e1:=bE.block b ⟨hb.1,fun e=>by
          rcases oH.out b e with h|h
          ·exact hb.2 h
          ·omega⟩ (by omega)
         rw [e1,Below.block bX b (by omega),uf.block b hb hl]⟩
        have LB:Below p w w5:=(hbb.trans (Below.mono bX (by omega))).trans LA;have LC:=bE.size;clear jf DK hrec;go_wp2_with fail;go_roundg (x.keys.length-(k+1))
        case measure=>omega
        case rel=>exact⟨k+1,a6,c6,_,by omega,by go_num,rfl,by rw [Sg.out,List.map_append,<-List.append_assoc,<-pd.out],aj,af.ext (w:=w5) Xt bH,vt.ext Xt,eN.ext Xt,fun g hg=>by
         rcases gL g hg with h|h
         ·exact oH.out g h
         ·exact .inr (by omega),LB.trans (Below.mono (B:=w5.heap.size) (by exact Xt) (by omega))⟩
     ·have hq:qs=ps++(x.eK ns).map lQ:=by
       rw [pd.out,A3.out,List.take_of_length_le (by omega),List.take_of_length_le (by omega)]
      have Hq:=ae hq;clear hq;go_wp2_with fail;go_end0;rw [<-Hq.out]
      exact⟨rfl,a',c',af.ext (w:=wo) Xt Lq,DA.out.ext Xt,y5.ext Xt,fun g hg=>by
       rcases oH.out g hg with h|h
       ·exact .inl h
       ·exact .inr (by omega),Dk.trans (Below.mono (B:=wo.heap.size) (by exact Xt) (by omega))⟩
theorem abf {x y:List UInt8} (h:x<=y):Op.bytesLess y x=false:=by
 rw [Go.Proofs.bytesLess_eq,decide_eq_false_iff_not];exact List.not_lt.2 h
theorem abg (ks:List ah):((ks.map (·.data.toList)).mergeSort fun x y=>decide (x<=y))=(ud ks).map (·.data.toList):=by
 obtain⟨ss,Gu⟩:∃ss,((ks.map (·.data.toList)).mergeSort fun x y=>decide (x<=y))=ss:=⟨_,rfl⟩;have hp:ss.Perm (ks.map (·.data.toList)):=Gu▸List.mergeSort_perm _ _;have hs:ss.Pairwise fun a b=>Op.bytesLess b a=false:=by
  rw [<-Gu];refine(List.pairwise_mergeSort (le:=fun x y=>decide (x<=y)) (fun a b c h1 h2=> ?_) (fun a b=> ?_) _).imp (fun h=>abf (by simpa using h))
  ·simp only [decide_eq_true_eq] at*;exact List.le_trans h1 h2
  ·simp only [Bool.or_eq_true,decide_eq_true_eq];exact List.le_total a b
 rw [Gu];have e1:(ss.map fun l=>(⟨l.toArray⟩:ah))=ud ks:=by
  refine sorted_perm ?_ (JV ks) ?_
  ·refine List.pairwise_map.2 (hs.imp fun h=> ?_)
   unfold bB;rw [ByteArray.toList_eq,ByteArray.toList_eq];exact h
  ·refine(hp.map fun l=>(⟨l.toArray⟩:ah)).trans ?_
   rw [List.map_map];have:(ks.map ((fun l=>(⟨l.toArray⟩:ah))∘fun x=>x.data.toList))=ks:=by
    conv=>rhs;rw [<-List.map_id ks]
    refine List.map_congr_left fun k _=> ?_;simp
   rw [this];exact(wF ks).symm
 rw [<-e1,List.map_map]
 conv=>lhs;rw [<-List.map_id ss]
 refine List.map_congr_left fun k _=> ?_;simp
theorem Sm (ks:List ah):(ks.map (·.data.toList)).map encStr=ks.map Value.string:=by
 rw [List.map_map];refine List.map_congr_left fun k _=> ?_;simp [encStr]
theorem abh (ks:List ah) (base:Nat) (a:aq) (c:Nat) (w:World) (hS:ek w base (.slice a ks.length c) ks.length ks) (hn:ks.length<=1073741824):
 Calls prog 114 #[.slice a ks.length c] w fun e w'=>e= .returned (.tuple #[])/\ek w' base (.slice a ks.length c) ks.length (ud ks)/\w.grownBy w' (Value.slice a ks.length c).ownBlock:=by
 rcases hS.2.2 with⟨hv,h0⟩|⟨g,cap,cur,hv,hb,hg,hnc,hcm,hcs,ht⟩
 ·have hk:ks= []:=List.eq_nil_of_length_eq_zero h0
  subst hk;refine(Tryz.slices_Sort_string_none a c w).mono ?_;rintro e w' ⟨rfl,rfl⟩;exact⟨rfl,hS,⟨rfl,rfl,rfl,Nat.le_refl _,fun _ _ _=>rfl⟩⟩
 ·simp only [Value.slice.injEq,true_and] at hv
  obtain⟨rfl,rfl⟩:=hv;have hlen:(ks.map (·.data.toList)).length=ks.length:=by simp
  have hH:Go.Sort.Holds encStr w g 0 (ks.map (·.data.toList)).toArray:=holds_of_block hg (by rw [Sm,hlen];simpa using ht);have hc:=Tryz.slices_Sort_string g 0 c (ks.map (·.data.toList)) w hH (Array.getElem?_eq_some_iff.1 hg).1 (by rw [hlen];omega);rw [hlen] at hc;refine hc.mono ?_;rintro e w' ⟨rfl,n,os,rfl⟩;rw [abg];have ho:=ownsRow_sorted (w:=w) (base:=base) (g:=g) (cap:=c) (n:=n) (os:=os) (cur:=cur) (ss:=ks.map (·.data.toList)) (ts:=(ud ks).map (·.data.toList)) (by simp [(wF ks).length_eq]) hb hg (by simpa using hnc) hcm hcs;rw [Sm,hlen] at ho;exact⟨rfl,⟨(wF ks).length_eq,ho⟩,grownBy_sorted _⟩
theorem PF (x:V) (ka:aq) (kc:Nat) (la:aq) (lc:Nat) (S:aA) (w:World) (hsz:x.size<=1073741824) (hin:x.In w S ka kc la lc) (hm:fW w):
 Calls prog 74 #[x.val ka kc la lc] w (aa1 x.leaves w):=by
 have aJ:=ae (hin.mono (T:=fun b=>b<w.heap.size) (fun b _ h=>h));clear hin;by_cases hc:x.fine=true/\x.k=5
 ·obtain⟨hf,h5⟩:=hc
  obtain⟨qs,pQ⟩:∃qs,(x.eK []).map lQ=qs:=⟨_,rfl⟩;have pd:=ae (show []++(x.eK []).map lQ=qs by rw [List.nil_append];exact pQ);have A3:=ae (show x.leaves=ud qs by rw [<-pQ];exact if_pos ⟨hf,h5⟩);have hgm:0<w.heap.size:=by obtain⟨m,h⟩:=hm;exact lu h
  have hcz:=uI hf;have hg:=FB hf;have Cx:(x.k !=5)=false:=by simpa using h5
  have Hf:=ae hf;have il:(ud qs).length=qs.length:=(wF _).length_eq;have az:qs.length<=x.count:=by rw [<-pQ,List.length_map];exact Lj x []
  clear hf h5 pQ;go_enter func74,ntmps74;go_upto_region 2 with fail
  refine aI (R:=fun wx=>aD wx w.heap.size x ka kc la lc/\af wx (w.heap.size+1) #[.slice none 0 0] 38/\Ext w wx) ⟨aj,aj,Xt⟩ ?_;rintro wa ⟨ag,ai,aF⟩;obtain⟨hc0,aw,hl0⟩:=ag.see;go_wp2_with fail;(refine(df x ka kc la lc _ _ hsz (aJ.out.ext Xt)).mono ?_);rw [Hf.out];rintro e w1 ⟨rfl,h1⟩;have ag:=af.ext h1 ag;have ai:=af.ext h1 ai;have hx1:Ext w w1:=aF.trans h1;clear h1 aF hc0 aw hl0;obtain⟨hc0,aw,hl0⟩:=ag.see;have hlB:=ai.lt;go_wp2_with fail;(refine(abb x.size x ka kc la lc 1 [] none 0 (w.heap.size+1) none 0 [] _ (Nat.le_refl _) hsz hg (by decide) (by simp) ((aJ.out.mono (T:=fun b=>b<w.heap.size+1) (fun b h _=>by omega)).ext Xt) aO.nil (.inl rfl) (af.ext (w:=w1) Xt ai) ⟨rfl,World.ownsRow_nil _ _ _ _⟩ (by simp;omega) (by omega) (hm.ext Xt)).mono ?_);rw [pd.out];rintro e w2 ⟨rfl,a,c,ak,uP,ug,hg2,hb2⟩;have hx2:Ext w w2:=Below.trans (Ext.trans hx1 (Ext.refl w1)) (Below.mono (B:=w.heap.size+1) (by exact hb2) (by omega));have cw:=ae uP;have hl2:=ak.lt;clear hc0 aw hl0 ag ai ug hg2 hb2 uP hx1;obtain⟨hc2,hf2,hl2⟩:=ak.see;go_wp2_with fail;(refine(abh _ _ a c _ cw.out (by omega)).mono ?_);rintro e w3 ⟨rfl,Kn,hg3⟩;have bK:=af.grown ak hg3 (fun e=>by have:=(cw.out.lt _ e.symm).1;omega);have hx3:Ext w w3:=Ext.grown hx2 hg3 (fun k hk=>by have:=(cw.out.lt k hk).1;omega);have jJ:=ae Kn;clear hc2 hf2 Kn hg3 ak cw;obtain⟨hc3,hf3,aS⟩:=bK.see;go_wp2_with fail;go_ret;rw [A3.out];obtain⟨a5,c5,he,hok,-,hst⟩:=jJ.out.strs;simp only [Value.slice.injEq,true_and] at he;obtain⟨rfl,rfl⟩:=he;exact⟨a,c,by rw [il];rfl,by rw [il];exact hok,(hst.ext Xt).keep (fun _ _ _=>rfl) (fun b hb _=>by omega),Xt⟩
 ·have A3:=ae (show x.leaves= [] from if_neg hc)
  cases hf:x.fine with
  |false=>
   have Hf:=ae hf;clear hf hc;go_enter func74,ntmps74;go_upto_region 2 with fail
   refine aI (R:=fun wx=>aD wx w.heap.size x ka kc la lc/\Ext w wx) ⟨aj,Xt⟩ ?_;rintro wa ⟨ag,aF⟩;obtain⟨hc0,aw,hl0⟩:=ag.see;go_wp2_with fail;(refine(df x ka kc la lc _ _ hsz (aJ.out.ext Xt)).mono ?_);rw [Hf.out];rintro e w1 ⟨rfl,h1⟩;go_wp2_with fail;go_ret;rw [A3.out];exact⟨none,0,rfl,aO.nil, .inl rfl,Xt⟩
  |true=>
   have Hf:=ae hf;have h5:(x.k !=5)=true:=by simp only [bne_iff_ne,ne_eq];exact fun h=>hc ⟨hf,h⟩
   clear hf hc;go_enter func74,ntmps74;go_upto_region 2 with fail
   refine aI (R:=fun wx=>aD wx w.heap.size x ka kc la lc/\Ext w wx) ⟨aj,Xt⟩ ?_;rintro wa ⟨ag,aF⟩;obtain⟨hc0,aw,hl0⟩:=ag.see;go_wp2_with fail;(refine(df x ka kc la lc _ _ hsz (aJ.out.ext Xt)).mono ?_);rw [Hf.out];rintro e w1 ⟨rfl,h1⟩;have ag:=af.ext h1 ag;clear hc0 aw hl0;obtain⟨hc0,aw,hl0⟩:=ag.see;go_wp2_with fail;go_ret;rw [A3.out];exact⟨none,0,rfl,aO.nil, .inl rfl,Xt⟩
theorem FL {x:V} {p:ah} (h:p∈x.leaves):p.size<=2000:=by
 obtain⟨-,-,r,rfl,-,-,hl,hp,-⟩:=rJ h;have h1:=JU r (fun a ha=>yx (hp a ha));have h2:(lQ r).size=(joinL (r.map (·.data.toList))).length:=by rw [<-GJ];exact Array.length_toList.symm
 omega
theorem qA {a b:ah} (h:a=b):(a.toList==b.toList)=true:=by rw [h,beq_self_eq_true]
theorem tP {a b:ah} (h:a≠b):(a.toList==b.toList)=false:=by
 rw [beq_eq_false_iff_ne];exact fun e=>h (ln e)
theorem abj (v want:V) (q p:ah) (r:List ah):lv v want q (p::r)=if(fO p q||fO q p)=true then true else if p=q then(match bI v p with|none=>true|some now=> !jg now ((bI want p).getD V.zero)) else lv v want q r:=rfl
theorem Kp {x:V} {p:ah}:((bI x p).getD V.zero).size<=x.size+1:=by
 cases h:bI x p with
 |none=>have e:V.zero.size=1:=by decide+kernel
        simp only [Option.getD_none];omega
 |some y=>have:=go_size (bQ p) (x:=x) (y:=y) h;simp only [Option.getD_some];omega
theorem Px (v:V) (ka:aq) (kc:Nat) (la:aq) (lc:Nat) (S:aA) (want:V) (kb:aq) (kd:Nat) (lb:aq) (ld:Nat) (T:aA) (q:ah) (w:World) (kP:v.size<=1000000000) (hwz:want.size<=1000000000)
 (hin:v.In w S ka kc la lc) (hjn:want.In w T kb kd lb ld) (hq:q.size<=1073741824) (hm:fW w):
 Calls prog 77 #[v.val ka kc la lc,want.val kb kd lb ld, .string q] w fun e w'=>e= .returned (.bool (fu v want q))/\Ext w w':=by
 have aJ:=ae hin;have aV:=ae hjn;have hll:=CL want;have Hwl:=ae (fun k (h:k<want.leaves.length)=>FL (List.getElem_mem h));have Sn:=ae (show lv v want q (want.leaves.drop 0)=fu v want q from rfl);clear hin hjn;go_enter func77,ntmps77;go_upto_region 1 with fail
 refine aI (R:=fun wx=>aD wx w.heap.size v ka kc la lc/\aD wx (w.heap.size+1) want kb kd lb ld/\Ext w wx) ⟨aj,aj,Xt⟩ ?_;rintro wa ⟨ag,ai,aF⟩;obtain⟨hc1,aB,az⟩:=ai.see;go_wp2_with fail;(refine(PF want kb kd lb ld _ _ (by omega) (aV.out.ext Xt) (hm.ext Xt)).mono ?_);rintro e w1 ⟨pa,pc,rfl,CP,CQ,h1⟩;have ag:=af.ext h1 ag;have ai:=af.ext h1 ai;have hx1:Ext w w1:=aF.trans h1;have aQ:=ae CQ;clear h1 aF hc1 aB az CQ;go_wp2_with fail
 go_loopg [16] want.leaves.length (fun g i wr=>∃k:Nat,k<=want.leaves.length/\i= .int .i64 k/\g=want.leaves.length-k/\lv v want q (want.leaves.drop k)=fu v want q/\Ext w1 wr)
 case atStart=>exact⟨0,Nat.zero_le _,rfl,rfl,Sn.out,Xt⟩
 case round=>
  obtain⟨k,hk,rfl,rfl,CK,hx⟩:=hrel;have DL:=ae CK;have ag:=af.ext hx ag;have ai:=af.ext hx ai;have cX:Ext w wr:=hx1.trans hx;clear CK Sn;by_cases hlt:k<want.leaves.length
  ·obtain⟨b,o,rfl,tS,hC⟩:=aQ.out.resolve_left (by intro h;rw [h] at hlt;simp at hlt)
   have d0:=hx.cell (hC k hlt);have yK:=Hwl.out k hlt;have uZ:=ae (show want.leaves[k]∈want.leaves from List.getElem_mem hlt);have pD:=ae (show lv v want q (want.leaves.drop k)=_ from(congrArg (lv v want q) (List.drop_eq_getElem_cons hlt)).trans (abj v want q _ _));obtain⟨p,hp⟩:∃p,want.leaves[k]=p:=⟨_,rfl⟩;rw [hp] at d0 yK uZ pD;clear hp hC
   cases ha1:fO p q with
   |true=>
    have Hr:=ae (show fu v want q=true by rw [<-DL.out,pD.out,ha1];rfl);have Ha:=ae ha1;clear ha1;go_wp2_with fail;(refine(tQ p q _ (by omega)).mono ?_);rw [Ha.out];rintro e w2 ⟨rfl,rfl⟩;go_wp2_with fail;go_ret;exact⟨dn Hr.out.symm,Xt⟩
   |false=>
    cases ha2:fO q p with
    |true=>
     have Hr:=ae (show fu v want q=true by rw [<-DL.out,pD.out,ha1,ha2];rfl);have Ha:=ae ha1;have Hb:=ae ha2;clear ha1 ha2;go_wp2_with fail;(refine(tQ p q _ (by omega)).mono ?_);rw [Ha.out];rintro e w2 ⟨rfl,rfl⟩;go_wp2_with fail;(refine(tQ q p _ (by omega)).mono ?_);rw [Hb.out];rintro e w3 ⟨rfl,rfl⟩;go_wp2_with fail;go_ret;exact⟨dn Hr.out.symm,Xt⟩
    |false=>
     have GU:=ae (show lv v want q (want.leaves.drop k)=if p=q then _ else _ by rw [pD.out,ha1,ha2];rfl);have Ha:=ae ha1;have Hb:=ae ha2;clear ha1 ha2 pD;by_cases kQ:p=q
     ·have hpb:=qA kQ
      have Hr:=ae (show fu v want q=_ by rw [<-DL.out,GU.out,if_pos kQ]);clear kQ GU;have hnz:((bI v p).getD V.zero).size<=1073741824:=by have:=Kp (x:=v) (p:=p);omega
      have br:((bI want p).getD V.zero).size<=1073741824:=by have:=Kp (x:=want) (p:=p);omega
      obtain⟨xv,hxv⟩:∃xv,(bI want p).getD V.zero=xv:=⟨_,rfl⟩;obtain⟨xb,aP⟩:∃xb,(bI want p).isSome=xb:=⟨_,rfl⟩;rw [hxv] at br Hr;have FY:=ae hxv;have FZ:=ae aP;clear hxv aP;go_wp2_with fail;(refine(tQ p q _ (by omega)).mono ?_);rw [Ha.out];rintro e w2 ⟨rfl,rfl⟩;go_wp2_with fail;(refine(tQ q p _ (by omega)).mono ?_);rw [Hb.out];rintro e w3 ⟨rfl,rfl⟩;obtain⟨hc0,aw,hl0⟩:=ag.see;go_wp2_with fail;(refine(CX v ka kc la lc _ p _ (by omega) (aJ.out.ext Xt) (by omega) (hm.ext Xt)).mono ?_)
      cases y8:bI v p with
      |none=>
       rw [y8] at Hr;rintro e w4 ⟨k2,c2,l2,d2,rfl,bZ,h4⟩;have ai:=af.ext (w':=w4) Xt ai;have bX:Ext w w4:=Xt;clear h4 hc0 aw hl0 y8 bZ;go_upto_region 8 with fail
       refine aI (R:=fun wx=>Ext w4 wx) (by exact Xt) ?_;rintro wb aP;have ai:=af.ext aP ai;have bG:Ext w wb:=bX.trans aP;clear aP;obtain⟨hc1,aB,az⟩:=ai.see;go_wp2_with fail;(refine(CX want kb kd lb ld _ p _ (by omega) (aV.out.ext Xt) (by omega) (hm.ext Xt)).mono ?_);rw [FY.out,FZ.out];rintro e w6 ⟨k3,c3,l3,d3,rfl,bj,h6⟩;go_wp2_with fail;go_ret;exact⟨dn Hr.out.symm,Xt⟩
      |some now=>
       rw [y8] at Hr hnz;simp only [Option.getD_some] at hnz;simp only [Option.getD_some,Option.isSome_some];rintro e w4 ⟨k2,c2,l2,d2,rfl,bZ,h4⟩;have vv:=ae (Rm bZ);have ai:=af.ext (w':=w4) Xt ai;have bX:Ext w w4:=Xt;clear h4 hc0 aw hl0 y8 bZ;go_upto_region 8 with fail
       refine aI (R:=fun wx=>aD wx w4.heap.size now k2 c2 l2 d2/\Ext w4 wx) ⟨aj,Xt⟩ ?_;rintro wb ⟨pZ,aP⟩;have ai:=af.ext aP ai;have vv:=ae (V.In.ext vv.out aP);have bG:Ext w wb:=bX.trans aP;clear aP;obtain⟨hc1,aB,az⟩:=ai.see;go_wp2_with fail;(refine(CX want kb kd lb ld _ p _ (by omega) (aV.out.ext Xt) (by omega) (hm.ext Xt)).mono ?_);rw [FY.out,FZ.out];rintro e w6 ⟨k3,c3,l3,d3,rfl,bj,h6⟩;have DM:=ae (Rm bj);have pZ:=af.ext (w':=w6) Xt pZ;have vv:=ae (V.In.ext (w':=w6) vv.out Xt);have bS:Ext w w6:=Xt;clear h6 hc1 aB az bj bG;go_upto_region 9 with fail
       refine aI (R:=fun wx=>aD wx w4.heap.size now k2 c2 l2 d2/\aD wx w6.heap.size xv k3 c3 l3 d3/\Ext w6 wx) ⟨aj,aj,Xt⟩ ?_;clear pZ;rintro wc ⟨pZ,A5,fC⟩;have bR:Ext w wc:=bS.trans fC;have vv:=ae (V.In.ext vv.out fC);have DM:=ae (V.In.ext DM.out fC);clear fC;obtain⟨GV,GX,y9⟩:=pZ.see;obtain⟨LD,LF,LG⟩:=A5.see;go_wp2_with fail;(refine(JN now xv k2 c2 l2 d2 _ k3 c3 l3 d3 _ _ hnz br (vv.out.ext Xt) (DM.out.ext Xt)).mono ?_);rintro e w8 ⟨rfl,h8⟩;go_wp2_with fail;go_ret;exact⟨dn Hr.out.symm,Xt⟩
     ·have hpb:=tP kQ
      have cY:=ae (show lv v want q (want.leaves.drop (k+1))=fu v want q by rw [<-DL.out,GU.out,if_neg kQ]);clear kQ GU;go_wp2_with fail;(refine(tQ p q _ (by omega)).mono ?_);rw [Ha.out];rintro e w2 ⟨rfl,rfl⟩;go_wp2_with fail;(refine(tQ q p _ (by omega)).mono ?_);rw [Hb.out];rintro e w3 ⟨rfl,rfl⟩;go_wp2_with fail;go_roundg (want.leaves.length-(k+1))
      case measure=>omega
      case rel=>exact⟨k+1,by omega,by go_num,rfl,cY.out,Xt⟩
  ·have Hr:=ae (show fu v want q=false by rw [<-DL.out,List.drop_eq_nil_of_le (show want.leaves.length<=k by omega)];rfl)
   go_wp2_with fail;go_ret;exact⟨dn Hr.out.symm,Xt⟩
end Go.Proofs.YtlcebdaghmdkeaaGreatDoor
