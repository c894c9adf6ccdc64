import Derived.Test.YtlcebdaghmdkeabGreatDoorM14
import Derived.Test.YtlcebdaghmdkeabGreatDoorM17
set_option linter.all false
set_option maxRecDepth 100000
set_option maxHeartbeats 64000000
namespace Go.Proofs.YtlcebdaghmdkeabGreatDoor
open Go.Proofs.Tryz
open Go.RowKit
attribute [local go_sem↓] Go.wp_at_zero Go.wp_at_succ
def Zb (w:World) (b:Nat):Prop:=∃vs T,w.heap[b]? =some (.cells vs T (0,0))/\ (T=36\/T=9)
theorem Zb.keep {w w':World} {b:Nat} (h:Zb w b) (e:w'.heap[b]? =w.heap[b]?):Zb w' b:=by
 obtain⟨vs,T,h1,h2⟩:=h;exact⟨vs,T,e.trans h1,h2⟩
theorem Zb.free {w:World} {b:Nat} (h:Zb w b) (i:Nat):w.frozen? ⟨b,i,none⟩=false:=by
 obtain⟨vs,T,h1,h2⟩:=h;exact af.free (show af w b vs T from h1) i
theorem dK.SZ {w:World} {base:Nat} {v:Value} {n:Nat} {ks:List ah} (h:dK w base v n ks):
 ∃a cap,v= .slice a n cap/\aM a n cap/\ks.length=n/\bC w (fun b=>base<=b/\Zb w b) a ks:=by
 obtain⟨a,c,rfl,hok,hl,hs⟩:=h.strs;refine⟨a,c,rfl,hok,hl,?_⟩;rcases hs with hs|⟨b,o,rfl,hb,hs⟩
 ·exact .inl hs
 ·by_cases h0:n=0
  ·exact .inl (List.length_eq_zero_iff.1 (by omega))
  ·obtain⟨g,cap,cur,hv,hg,hh,-⟩:=pz h.2 (by omega)
   simp only [Value.slice.injEq,Option.some.injEq,Addr.mk.injEq,and_true,true_and] at hv;obtain⟨⟨rfl,rfl⟩,-⟩:=hv;exact .inr ⟨_,_,rfl,⟨hb,cur,_,hh, .inr rfl⟩,hs⟩
def pG (w:World) (base:Nat) (S:aw) (v:Value) (l:List V) (k:Nat):Prop:=
 ∃xs,w.ownsRow base 36 5 v l.length xs/\cH w (fun b=>dR base (fun _=>False) v b/\Zb w b) (l.take k) (xs.take (k*5))/\cH w S (l.drop k) (xs.drop (k*5))
theorem pG.keep {w w':World} {base:Nat} {S:aw} {v:Value} {l:List V} {k:Nat} (h:pG w base S v l k) (hS:∀b,S b->b<base) (e:Held (fun b=>S b\/base<=b) w w'):pG w' base S v l k:=by
 obtain⟨xs,h1,h2,h3⟩:=h;have hF:∀b,dR base (fun _=>False) v b->base<=b:=fun b hb=>by rcases hb with hb|hb;exact hb.2.elim;exact hb.1
 exact⟨xs,dL h1 (fun b hb he=>e.block b (.inr (h1.lt b he).1) hb),h2.keep (fun b hb hl=>e.block b (.inr (hF b hb.1)) hl) (fun b h hl=>⟨h.1,h.2.keep (e.block b (.inr (hF b h.1)) hl)⟩),h3.keep (fun b hb hl=>e.block b (.inl hb) hl) (fun _ h _=>h)⟩
theorem pG.half {w:World} {base:Nat} {S:aw} {v:Value} {l:List V} {k:Nat} (h:pG w base S v l k):Half w base S v l k:=by
 obtain⟨xs,h1,h2,h3⟩:=h;exact⟨xs,h1,h2.mono fun _ h _=>h.1,h3⟩
theorem bC.qq {S:aw} {w w':World} {a:aq} {ks:List ah} (h:bC w (fun b=>S b/\Zb w b) a ks) (e:Kept S w w'):bC w' (fun b=>S b/\Zb w' b) a ks:=
 h.keep (e.mono fun b h=>h.1) (fun b h hl=>⟨h.1,h.2.keep (e b h.1 hl)⟩)
theorem V.In.qq {S:aw} {w w':World} {x:V} {ka:aq} {kc:Nat} {la:aq} {lc:Nat} (h:x.In w (fun b=>S b/\Zb w b) ka kc la lc) (e:Kept S w w'):x.In w' (fun b=>S b/\Zb w' b) ka kc la lc:=
 h.keep (e.mono fun b h=>h.1) (fun b h hl=>⟨h.1,h.2.keep (e b h.1 hl)⟩)
theorem Rows.qq {S:aw} {w w':World} {l:List V} {a:aq} (h:Rows w (fun b=>S b/\Zb w b) l a) (e:Kept S w w'):Rows w' (fun b=>S b/\Zb w' b) l a:=
 h.keep (e.mono fun b h=>h.1) (fun b h hl=>⟨h.1,h.2.keep (e b h.1 hl)⟩)
theorem pG.set {w:World} {base:Nat} {S:aw} {g c:Nat} {l:List V} {k:Nat} (h:pG w base S (.slice (some ⟨g,0,none⟩) l.length c) l k) (hS:∀b,S b->b<base) (hk:k<l.length) (hg:base<=g) {ka:aq} {kc:Nat} {la:aq} {lc:Nat}
 (hx:l[k].In w (fun b=>dR base (fun _=>False) (.slice (some ⟨g,0,none⟩) l.length c) b/\Zb w b) ka kc la lc):pG (w.setCells g (k*5) (l[k].five ka kc la lc)) base S (.slice (some ⟨g,0,none⟩) l.length c) l (k+1):=by
 obtain⟨xs,h1,h2,h3⟩:=h;have hl:=h1.1;have h5:(l[k].five ka kc la lc).length=5:=rfl;have hk1:Kept (fun b=>b≠g) w (w.setCells g (k*5) (l[k].five ka kc la lc)):=Held.kept (Held.jx (Held.refl _ _) (fun h=>h rfl) _ _);have hF:∀b,dR base (fun _=>False) (.slice (some ⟨g,0,none⟩) l.length c) b->b≠g:=fun b hb e=>by rcases hb with hb|hb;exact hb.2;exact hb.2 (by rw [e];rfl)
 have ho:=AJ (o:=k*5) (cs:=l[k].five ka kc la lc) h1 (by rw [h5];omega);refine⟨_,ho,?_,?_⟩
 ·rw [List.take_succ_eq_append_getElem hk,List.append_assoc,List.take_append,List.length_take,Nat.min_eq_left (by omega),List.take_take,Nat.min_eq_right (by omega),show (k+1)*5-k*5=5 by omega,List.take_append_of_le_length (by rw [h5];omega),List.take_of_length_le (l:=l[k].five ka kc la lc) (by rw [h5];omega)]
  exact(h2.keep (hk1.mono fun b h=>hF b h.1) (fun b h hl=>⟨h.1,h.2.keep (hk1 b (hF b h.1) hl)⟩)).snoc (hx.keep (hk1.mono fun b h=>hF b h.1) (fun b h hl=>⟨h.1,h.2.keep (hk1 b (hF b h.1) hl)⟩))
 ·have h4:=(h3.cut 1).2
  rw [List.drop_drop,List.drop_drop] at h4;rw [List.append_assoc,List.drop_append,List.length_take,Nat.min_eq_left (by omega),List.drop_of_length_le (l:=xs.take (k*5)) (by rw [List.length_take];omega),show (k+1)*5-k*5=5 by omega,List.nil_append,List.drop_left' h5];exact h4.keep (hk1.mono fun b hb=>by have:=hS b hb;omega) (fun _ h _=>h)
theorem pG.all {w:World} {base:Nat} {S:aw} {v:Value} {l:List V} (h:pG w base S v l l.length):∃a c,v= .slice a l.length c/\aM a l.length c/\Rows w (fun b=>base<=b/\Zb w b) l a:=by
 obtain⟨xs,h1,h2,-⟩:=h;rw [List.take_length,List.take_of_length_le (by have:=h1.1;omega)] at h2;obtain⟨a,c,rfl,hok⟩:=fG h1;refine⟨a,c,rfl,hok,?_⟩;by_cases h0:l.length=0
 ·exact .inl (List.length_eq_zero_iff.1 h0)
 ·obtain⟨g,cap,cur,hv,hb,hg,-⟩:=pz h1 (by omega)
  cases hv
  have hc:=h1.cells (g:=g) rfl;have h3:=h2.mono (T:=fun b=>base<=b/\Zb w b) fun b h _=>⟨by rcases h.1 with h|h;exact h.2.elim;exact h.1,h.2⟩;refine .inr ⟨g,0,rfl,⟨hb,cur,_,hg, .inl rfl⟩,fun i hi=> ?_⟩;obtain⟨ka,kc,la,lc,⟨e0,e1,e2,e3,e4⟩,hin⟩:=h3.item i hi;have hq:∀q u,xs[i*5+q]? =some u->w.cell? ⟨g,0+i*5+q,none⟩=some u:=fun q u hq=>by
   have:=hc _ u hq;rw [Addr.add_lit] at this
   rwa [Nat.add_assoc]
  exact⟨ka,kc,la,lc,⟨hq 0 _ e0,hq 1 _ e1,hq 2 _ e2,hq 3 _ e3,hq 4 _ e4⟩,hin⟩
def aeb (r:V) (w:World) (e:Ending) (w':World):Prop:=∃ka kc la lc,e= .returned (r.val ka kc la lc)/\r.In w' (fun b=>w.heap.size<=b/\Zb w' b) ka kc la lc/\Ext w w'
theorem adE (m:Nat):∀(x:V) (ka:aq) (kc:Nat) (la:aq) (lc:Nat) (S:aw) (w:World),x.size<=m->x.size<=1073741824->x.In w S ka kc la lc->
 Calls prog 34 #[x.val ka kc la lc] w (aeb x w):=by
 induction m with
 |zero=>intro x _ _ _ _ _ _ h;have:=x.size_pos;omega
 |succ m ih=>
  intro x ka kc la lc S w hm hsz hin;have Ih:=ae ih;have hl:=x.jO;have hlk:=x.xq;obtain⟨hko,hlo,hks,hrs⟩:=(V.df ..).1 (hin.mono (T:=fun b=>S b/\b<w.heap.size) fun b h hl=>⟨h,hl⟩);have Co:=ae hks;have Jd:=ae hrs;have Hko:=ae hko;have Hlo:=ae hlo;clear ih hin hks hrs hko hlo;go_enter func34,ntmps34;go_upto_region 1 with fail
  refine aI (R:=fun wx=>aC wx w.heap.size x ka kc la lc/\aN wx (w.heap.size+1)/\Ext w wx) ⟨bk,bk,Xt⟩ ?_;rintro wa ⟨ag,ai,aD⟩;have hz1:=ai.lt;have au:∀w',Ext wa w'-> (w'.cell? ⟨w.heap.size,3,none⟩=some (.slice ka x.keys.length kc)/\w'.cell? ⟨w.heap.size,4,none⟩=some (.slice la x.l.length lc)):=fun w' e=>⟨e.cell (ag.cells 3),e.cell (ag.cells 4)⟩;refine fC au (c:=7) (by kernel_rfl) ?_;refine aG 0 [7] (hS:=au _ Xt) (h:= ?_);refine aG 1 [7] (hS:=au _ Xt) (h:= ?_);refine aG 3 [7] (hS:=au _ Xt) (h:= ?_);refine aG 4 [7] (hS:=au _ Xt) (h:= ?_);(try simp only [rl]);refine aL 2 (h:=fun K hK=> ?_);(try simp only [rl]);(try go_simp);(refine(zT x.keys ka _ kc (fun b=>S b/\b<w.heap.size) _ rfl Hko.out (by omega) (Co.out.ext Xt)).mono ?_);rintro e w1 ⟨a1,c1,rfl,gP,hs1,h1⟩;(try go_simp);have hx1:Ext wa w1:=Xt;have hz2:=hx1.size;have aec:=ae gP;obtain⟨a1',c1',MW,aed,ou,oK⟩:=hs1.SZ
  cases MW
  have TW:=ae (show bC w1 (fun b=>(w.heap.size+2<=b/\b<w1.heap.size)/\Zb w1 b) a1 x.keys from oK.keep (fun _ _ _=>rfl) fun b h hl=>⟨⟨by have h:=h.1;(try simp at h);omega,hl⟩,h.2⟩);clear gP hs1 h1 aed ou oK;refine hK.out _ _ (fun _=>au _ Xt) ?_;clear hK K;refine aG 6 [7] (hS:=au _ Xt) (h:= ?_);(try simp only [rl]);refine aL 5 (h:=fun K hK=> ?_);(try simp only [rl]);(try go_simp);(refine(Fj x.l la _ lc (fun b=>S b/\b<w.heap.size) _ rfl Hlo.out (by omega) (Jd.out.ext Xt)).mono ?_);rintro e w2 ⟨a2,c2,rfl,fU,hrow2,h2⟩;(try go_simp);have hx2:Ext wa w2:=Xt;have zU:Ext w1 w2:=Xt;have hz3:=zU.size;have agm:=ae fU
  have oH:=ae (show bC w2 (fun b=>(w.heap.size+2<=b/\ (Value.slice a2 x.l.length c2).ownBlock≠some b)/\Zb w2 b) a1 x.keys from TW.out.keep (zU.kept _) fun b h hl=>⟨⟨h.1.1,fun he=>by
   have h:=h.1;obtain⟨ys,h3,-⟩:=hrow2;have:=(h3.lt b he).1
   (try simp at this);omega⟩,h.2.keep (Below.block zU b hl)⟩)
  have oD:=ae (show pG w2 (w.heap.size+2) (fun b=>S b/\b<w.heap.size) (.slice a2 x.l.length c2) x.l 0 from by
   obtain⟨ys,h3,h4⟩:=hrow2
   exact⟨ys,pI h3 (by(try simp);omega),by simp [cH],by simpa using h4⟩)
  have DC:=af.ext hx2 ag;have za:=af.ext hx2 ai;have hlB:=za.lt;clear fU hrow2 h2;refine hK.out _ _ (fun _=>au _ Xt) ?_;clear hK K;(try simp only [rl]);obtain⟨hc0,ax,hl0⟩:=DC.see;refine aL 7 (h:=fun K hK=> ?_);(try simp only [rl]);go_simp;refine br hK (h:= ?_);clear hK K;(try simp only [rl]);refine aL 8 (h:=fun K hK=> ?_);(try simp only [rl]);go_simp;refine br hK (h:= ?_);clear hK K;(try simp only [rl]);refine aL 9 (h:=fun K hK=> ?_);(try simp only [rl]);go_simp;refine br hK (h:= ?_);clear hK K;(try simp only [rl]);refine dw (by kernel_rfl) ?_ _;go_upto_region 2 with fail
  refine aI (R:=fun wx=>aC wx w.heap.size x a1 c1 a2 c2/\aN wx (w.heap.size+1)/\bC wx (fun b=>(w.heap.size+2<=b/\ (Value.slice a2 x.l.length c2).ownBlock≠some b)/\Zb wx b) a1 x.keys/\pG wx (w.heap.size+2) (fun b=>S b/\b<w.heap.size) (.slice a2 x.l.length c2) x.l 0/\Ext w wx) ⟨bk,bk,oH.out.qq ((Held.kept (T:=fun b=>w.heap.size+2<=b) aB).mono fun b h=>h.1),oD.out.keep (fun b h=>by omega) (by with_reducible repeat (first|exact Held.refl _ _|assumption|apply Held.drew|apply Held.drewN|apply Held.alloc|(refine Held.set ?_ ?_ _;rotate_left;(focus(first|(simp;done)|(simp;omega)|omega)))|(refine Held.ext ?_ (by assumption))|(refine Held.grown ?_ (by assumption) (by assumption))|(refine Held.trans ?_ (by assumption)))),Xt⟩ ?_;clear ag ai DC za hlB hc0 ax hl0 TW oH oD au aD hx1 hx2 zU;rintro wb ⟨ag,ai,hst,hrow,aO⟩;have aP:=ae hst;have oD:=ae hrow;clear hst hrow;have agn:=ai.lt;obtain⟨hc0,ax,hl0⟩:=ag.see;go_wp2_with fail
  go_loopg [3,15] x.l.length (fun g _ i wr=>∃k:Nat,k<=x.l.length/\i= .int .i64 k/\g=x.l.length-k/\aC wr w.heap.size x a1 c1 a2 c2/\aN wr (w.heap.size+1)/\bC wr (fun b=>(w.heap.size+2<=b/\ (Value.slice a2 x.l.length c2).ownBlock≠some b)/\Zb wr b) a1 x.keys/\pG wr (w.heap.size+2) (fun b=>S b/\b<w.heap.size) (.slice a2 x.l.length c2) x.l k/\Ext w wr)
  case atStart=>exact⟨0,by omega,rfl,rfl,ag,ai,aP.out,oD.out,aO⟩
  case round=>
   clear ag ai hc0 ax hl0 aP oD aO;obtain⟨k,hk,rfl,rfl,ag,ai,hst,hrow,hx⟩:=hrel;have aP:=ae hst;have oD:=ae hrow;have A6:=ai.lt;clear hst hrow;by_cases hlt:k<x.l.length
   ·obtain⟨g,c,hv,hgb,hgl,hfz⟩:=oD.out.half.block (by omega)
    cases hv
    obtain⟨fI,fJ,fW,fK,⟨d0,d1,d2,d3,d4⟩,hin'⟩:=oD.out.half.item hlt;have Af:=ae hin';have fS:=V.oZ hlt;have Hm:=ae (show x.l[k].size<=m from by omega);have nj:(0:Int)<= (k:Int):=by omega
    have np:(k:Int)<(x.l.length:Int):=by omega
    clear hin';obtain⟨hc0,ax,hl0⟩:=ag.see;go_upto_region 5 with fail
    have au:∀w',Ext wr w'-> (w'.cell? ⟨w.heap.size,4,none⟩=some (.slice (some ⟨g,0,none⟩) x.l.length c2)/\w'.cell? ⟨g,k*5,none⟩=some (.int .i64 x.l[k].k)/\w'.cell? ⟨g,k*5+1,none⟩=some (.int .i64 x.l[k].n)/\w'.cell? ⟨g,k*5+2,none⟩=some (.string x.l[k].s)/\w'.cell? ⟨g,k*5+3,none⟩=some (.slice fI x.l[k].keys.length fJ)/\w'.cell? ⟨g,k*5+4,none⟩=some (.slice fW x.l[k].l.length fK)):=
     fun w' e=>⟨e.cell (ag.cells 4),e.cell d0,e.cell d1,e.cell d2,e.cell d3,e.cell d4⟩
    refine fC au (c:=10) (by kernel_rfl) ?_;refine aG 0 [10] (hS:=au _ Xt) (h:= ?_);refine aG 1 [10] (hS:=au _ Xt) (h:= ?_);refine aG 2 [10] (hS:=au _ Xt) (h:= ?_);refine aG 3 [10] (hS:=au _ Xt) (h:= ?_);refine aG 4 [10] (hS:=au _ Xt) (h:= ?_);refine aG 5 [10] (hS:=au _ Xt) (h:= ?_);refine aG 6 [10] (hS:=au _ Xt) (h:= ?_);refine aG 7 [10] (hS:=au _ Xt) (h:= ?_);(try simp only [rl]);refine aL 8 (h:=fun K hK=> ?_);(try simp only [rl]);(try go_simp);(refine(Ih.out x.l[k] fI fJ fW fK (fun b=>S b/\b<w.heap.size) _ Hm.out (by omega) (Af.out.ext Xt)).mono ?_);rintro e w2 ⟨kb,kd,lb,ld,rfl,bR,h2⟩;(try go_simp);have hx2:Ext wr w2:=Xt;have hz2:=hx2.size
    have cn:=ae (show x.l[k].In w2 (fun b=>dR (w.heap.size+2) (fun _=>False) (.slice (some ⟨g,0,none⟩) x.l.length c2) b/\Zb w2 b) kb kd lb ld from bR.mono fun b h _=>⟨by
     have h:=h.1
     exact .inr ⟨by(try simp at h);omega,fun he=>by cases he;(try simp at h);omega⟩,h.2⟩)
    have TX:=ae (oD.out.keep (fun b h=>by omega) (hx2.held _));have oH:=ae (aP.out.qq (hx2.kept _));have DC:=af.ext hx2 ag;have za:=af.ext hx2 ai;have cP:Ext w w2:=hx.trans hx2;have aee:∀i,w2.frozen? ⟨g,i,none⟩=false:=fun i=>by rw [Below.frozen (p:=⟨g,i,none⟩) hx2 hgl];exact hfz i
    have d0:=hx2.cell d0;have d1:=hx2.cell d1;have d2:=hx2.cell d2;have d3:=hx2.cell d3;have d4:=hx2.cell d4;clear bR h2 hfz;refine hK.out _ _ (fun _=>au _ Xt) ?_;clear hK K;refine aG 9 [10] (hS:=au _ Xt) (h:= ?_);(try simp only [rl]);refine aL 10 (h:=fun K hK=> ?_);(try simp only [rl]);go_simp;refine br hK (h:= ?_);clear hK K;(try simp only [rl]);refine dw (by kernel_rfl) ?_ _;obtain⟨wj,ib⟩:∃wj,w2.setCells g (k*5) (x.l[k].five kb kd lb ld)=wj:=⟨_,rfl⟩;have Ag:aC wj w.heap.size x a1 c1 (some ⟨g,0,none⟩) c2:=by rw [<-ib];exact DC.mG (by omega) _ _
    have hj1:aN wj (w.heap.size+1):=by rw [<-ib];exact za.mG (by omega) _ _
    have hst:bC wj (fun b=>(w.heap.size+2<=b/\ (Value.slice (some ⟨g,0,none⟩) x.l.length c2).ownBlock≠some b)/\Zb wj b) a1 x.keys:=by rw [<-ib];exact oH.out.qq ((Held.kept (T:=fun b=>b≠g) (Held.jx (Held.refl _ _) (fun h=>h rfl) _ _)).mono fun b h e=>h.2 (by rw [e];rfl))
    have hrow:=TX.out.set (fun b h=>by omega) hlt hgb cn.out;have Gm:=cP.jx (g:=g) (by omega) (k*5) (x.l[k].five kb kd lb ld);rw [ib] at hrow Gm;have aP:=ae hst;have oD:=ae hrow;have r9:=ae ib;clear hst hrow ib oH TX cn aee d0 d1 d2 d3 d4;go_upto_region 6 with fail
    refine aI (R:=fun wy=>wy=wj) r9.out ?_;clear r9 DC za hx2 cP au hc0 ax hl0 ag ai;rintro wy rfl;go_wp2_with fail;go_roundg (x.l.length-(k+1))
    case measure=>omega
    case rel=>exact⟨k+1,by omega,by go_num,rfl,Ag,hj1,aP.out,oD.out,Gm⟩
   ·obtain rfl:k=x.l.length:=by omega
    obtain⟨a3,c3,hv,jw,TY⟩:=oD.out.all
    cases hv
    have Mq:=ae jw;have aef:=ae TY;have eJ:=ai.lt;clear jw TY;obtain⟨hc0,ax,hl0⟩:=ag.see;obtain⟨hc1,aA,ay⟩:=ai.see;go_wp2_with fail;refine aF (h:= ?_);exact⟨a1,c1,a2,c2,rfl,(V.df ..).2 ⟨aec.out,Mq.out,(aP.out.qq ((Held.kept (T:=fun b=>w.heap.size+2<=b) aB).mono fun b h=>h.1)).keep (fun _ _ _=>rfl) (fun b h _=>⟨by have:=h.1.1;omega,h.2⟩),(aef.out.qq (Held.kept (T:=fun b=>w.heap.size+2<=b) aB)).keep (fun _ _ _=>rfl) (fun b h _=>⟨by have:=h.1;omega,h.2⟩)⟩,Xt⟩
theorem adA (l:List Ow) (a:aq) (n c:Nat) (S:aw) (w:World) (hn:l.length=n) (hok:aM a n c) (hbig:n<=1073741824) (hl:cj w S l a):
 Calls prog 35 #[.slice a n c] w fun e w'=>∃a' c',e= .returned (.slice a' n c')/\aM a' n c'/\ji w' w.heap.size S (.slice a' n c') l 0/\Ext w w':=by
 subst hn;obtain⟨xs,h0,h1,h2⟩:=ZO hl;refine(adB a l.length c xs w hok hbig h0 h1 h2.ones).mono ?_;rintro e w' ⟨a',c',rfl,h3,h4,h5⟩;exact⟨a',c',rfl,h3, .nil rfl h4 (h2.keep (h5.kept _) (fun _ h _=>h)),h5⟩
theorem kZ.ext {S:aw} {w w':World} {t:Th} {ka:aq} {kc:Nat} {la:aq} {lc:Nat} {oa:aq} {oc:Nat} (h:kZ w S t ka kc la lc oa oc) (e:Ext w w'):kZ w' S t ka kc la lc oa oc:=h.keep (e.kept S) (fun _ h _=>h)
theorem ji.base {w:World} {b0 b1:Nat} {S:aw} {v:Value} {l:List Ow} (h:ji w b1 S v l 0) (hb:b0<=b1):ji w b0 S v l 0:=by
 obtain⟨xs,h1,h2,h3⟩:=h;exact⟨xs,pI h1 hb,by simp [cY],h3⟩
theorem ji.own {w:World} {b0:Nat} {S:aw} {v:Value} {l:List Ow} {k:Nat} (h:ji w b0 S v l k):∀b,v.ownBlock=some b->b0<=b/\b<w.heap.size:=by
 obtain⟨xs,h1,-,-⟩:=h;exact h1.lt
theorem SI {w:World} {g:Nat} {cur:Array Value} {T:TypeId} (h:af w g cur T) (h1:T≠36) (h2:T≠9):¬Zb w g:=by
 rintro⟨vs,U,h3,h4⟩;unfold af at h;rw [h] at h3;simp only [Option.some.injEq,Obj.cells.injEq] at h3;obtain⟨-,rfl,-⟩:=h3;rcases h4 with h4|h4
 ·exact h1 h4
 ·exact h2 h4
structure pF (w:World) (F:aw) (t:Th) (ka:aq) (kc:Nat) (la:aq) (lc:Nat) (oa:aq) (oc:Nat):Prop where
 v:t.v.In w (fun b=>F b/\Zb w b) ka kc la lc
 ok:aM oa t.ows.length oc
 ows:t.ows= []\/∃g,oa=some ⟨g,0,none⟩/\F g/\g<w.heap.size/\¬Zb w g/\∀i (h:i<t.ows.length),∃pa pc,w.cell? ⟨g,i*2,none⟩=some (.string t.ows[i].name)/\w.cell? ⟨g,i*2+1,none⟩=some (.slice pa t.ows[i].paths.length pc)/\aM pa t.ows[i].paths.length pc/\bC w (fun b=>F b/\Zb w b) pa t.ows[i].paths
theorem pF.keep {F G:aw} {w w':World} {t:Th} {ka:aq} {kc:Nat} {la:aq} {lc:Nat} {oa:aq} {oc:Nat} (h:pF w F t ka kc la lc oa oc) (hk:Kept F w w') (hT:∀b,F b->b<w.heap.size->G b) (hs:w.heap.size<=w'.heap.size):pF w' G t ka kc la lc oa oc:=by
 obtain⟨h1,h0,h2⟩:=h;refine⟨h1.keep (hk.mono fun b h=>h.1) (fun b h hl=>⟨hT b h.1 hl,h.2.keep (hk b h.1 hl)⟩),h0,?_⟩;rcases h2 with h2|⟨g,h3,h4,h5,h6,h7⟩
 ·exact .inl h2
 ·refine .inr ⟨g,h3,hT g h4 h5,Nat.lt_of_lt_of_le h5 hs,fun hz=>h6 (hz.keep (hk g h4 h5).symm),fun i hi=> ?_⟩
  obtain⟨pa,pc,e0,e1,e3,e2⟩:=h7 i hi;exact⟨pa,pc,hk.cell (p:=⟨g,i*2,none⟩) h4 e0,hk.cell (p:=⟨g,i*2+1,none⟩) h4 e1,e3,e2.keep (hk.mono fun b h=>h.1) (fun b h hl=>⟨hT b h.1 hl,h.2.keep (hk b h.1 hl)⟩)⟩
theorem pF.ext {F:aw} {w w':World} {t:Th} {ka:aq} {kc:Nat} {la:aq} {lc:Nat} {oa:aq} {oc:Nat} (h:pF w F t ka kc la lc oa oc) (e:Ext w w'):pF w' F t ka kc la lc oa oc:=h.keep (e.kept F) (fun _ h _=>h) e.size
def TZ (w:World) (F:aw):List Th->List Value->Prop
 | [],xs=>xs= []
 |x::r,xs=>∃ka kc la lc oa oc t,xs=x.cells ka kc la lc oa oc++t/\pF w F x ka kc la lc oa oc/\TZ w F r t
theorem TZ.keep {F G:aw} {w w':World} {l:List Th} {xs:List Value} (h:TZ w F l xs) (hk:Kept F w w') (hT:∀b,F b->b<w.heap.size->G b) (hs:w.heap.size<=w'.heap.size):TZ w' G l xs:=by
 induction l generalizing xs with
 |nil=>exact h
 |cons x r ih=>
  obtain⟨ka,kc,la,lc,oa,oc,t,rfl,h1,h2⟩:=h;exact⟨ka,kc,la,lc,oa,oc,t,rfl,h1.keep hk hT hs,ih h2⟩
theorem TZ.app {w:World} {F:aw} {l m:List Th} {xs ys:List Value} (h:TZ w F l xs) (k:TZ w F m ys):TZ w F (l++m) (xs++ys):=by
 induction l generalizing xs with
 |nil=>subst h;exact k
 |cons y r ih=>
  obtain⟨a,b,c,d,e,f,t,rfl,h1,h2⟩:=h;exact⟨a,b,c,d,e,f,_,by rw [List.append_assoc],h1,ih h2⟩
theorem TZ.at {w:World} {F:aw}:∀ {l:List Th} {xs:List Value},TZ w F l xs->∀i (hi:i<l.length),∃ka kc la lc oa oc,(∀q u,(l[i].cells ka kc la lc oa oc)[q]? =some u->xs[i*15+q]? =some u)/\pF w F l[i] ka kc la lc oa oc
 | [],_,_,i,hi=>by simp at hi
 |x::r,_,⟨ka,kc,la,lc,oa,oc,t,e,h1,_⟩,0,_=>⟨ka,kc,la,lc,oa,oc,fun q u hq=>by
   subst e;have hq:(x.cells ka kc la lc oa oc)[q]? =some u:=hq
   rw [Nat.zero_mul,Nat.zero_add,List.getElem?_append_left (List.getElem?_eq_some_iff.1 hq).1];exact hq,h1⟩
 |x::r,_,⟨_,_,_,_,_,_,t,e,_,h2⟩,i+1,hi=>by obtain⟨ka,kc,la,lc,oa,oc,h3,h4⟩:=h2.at i (by simpa using hi);refine⟨ka,kc,la,lc,oa,oc,fun q u hq=> ?_,h4⟩;subst e;rw [List.getElem?_append_right (by rw [Th.tG];omega),Th.tG,show (i+1)*15+q-15=i*15+q by omega];exact h3 q u (by simpa using hq)
theorem pF.th {w:World} {F:aw} {t:Th} {ka:aq} {kc:Nat} {la:aq} {lc:Nat} {oa:aq} {oc:Nat} (h:pF w F t ka kc la lc oa oc):kZ w F t ka kc la lc oa oc:=by
 obtain⟨h1,h2,h3⟩:=h;refine⟨h1.mono fun _ h _=>h.1,h2,?_⟩;rcases h3 with h3|⟨g,rfl,hF,-,-,h3⟩
 ·exact .inl h3
 ·refine .inr ⟨g,0,rfl,hF,fun i hi=> ?_⟩
  obtain⟨pa,pc,e0,e1,e2,e3⟩:=h3 i hi;rw [Nat.zero_add];exact⟨pa,pc,e0,e1,e2,e3.keep (fun _ _ _=>rfl) fun _ h _=>h.1⟩
theorem TZ.cells {w:World} {F:aw} {l:List Th} {xs:List Value} (h:TZ w F l xs):fA w F l xs:=by
 induction l generalizing xs with
 |nil=>exact h
 |cons x r ih=>
  obtain⟨ka,kc,la,lc,oa,oc,t,rfl,h1,h2⟩:=h;exact⟨ka,kc,la,lc,oa,oc,t,rfl,h1.th,ih h2⟩
def qm (w:World) (base:Nat) (v:Value) (n:Nat) (l:List Th):Prop:=
 l.length=n/\∃xs,w.ownsRow base 41 15 v n xs/\TZ w (dR base (fun _=>False) v) l xs
theorem qm.nil (w:World) (base:Nat):qm w base (.slice none 0 0) 0 []:=⟨rfl, [],World.ownsRow_nil _ _ _ _,rfl⟩
theorem qm.ext {w w':World} {base:Nat} {v:Value} {n:Nat} {l:List Th} (h:qm w base v n l) (e:Ext w w'):qm w' base v n l:=by
 obtain⟨h0,xs,h1,h2⟩:=h;exact⟨h0,xs,eu h1 e,h2.keep (e.kept _) (fun _ h _=>h) e.size⟩
def uP (w:World) (F:aw) (l:List Th) (a:aq):Prop:=
 l= []\/∃g,a=some ⟨g,0,none⟩/\F g/\g<w.heap.size/\¬Zb w g/\∀i (hi:i<l.length),∃ka kc la lc oa oc,(∀q u,(l[i].cells ka kc la lc oa oc)[q]? =some u->w.cell? ⟨g,i*15+q,none⟩=some u)/\pF w F l[i] ka kc la lc oa oc
theorem uP.keep {F G:aw} {w w':World} {l:List Th} {a:aq} (h:uP w F l a) (hk:Kept F w w') (hT:∀b,F b->b<w.heap.size->G b) (hs:w.heap.size<=w'.heap.size):uP w' G l a:=by
 rcases h with h|⟨g,h1,h2,h3,h4,h5⟩
 ·exact .inl h
 ·refine .inr ⟨g,h1,hT g h2 h3,Nat.lt_of_lt_of_le h3 hs,fun hz=>h4 (hz.keep (hk g h2 h3).symm),fun i hi=> ?_⟩
  obtain⟨ka,kc,la,lc,oa,oc,h6,h7⟩:=h5 i hi;exact⟨ka,kc,la,lc,oa,oc,fun q u hq=>hk.cell (p:=⟨g,i*15+q,none⟩) h2 (h6 q u hq),h7.keep hk hT hs⟩
theorem uP.ext {F:aw} {w w':World} {l:List Th} {a:aq} (h:uP w F l a) (e:Ext w w'):uP w' F l a:=h.keep (e.kept F) (fun _ h _=>h) e.size
theorem qm.az {w:World} {base:Nat} {v:Value} {n:Nat} {l:List Th} (h:qm w base v n l):∃a c,v= .slice a n c/\aM a n c/\l.length=n/\uP w (fun b=>base<=b) l a/\jF w (fun b=>base<=b) l a:=by
 obtain⟨h0,xs,h1,h2⟩:=h;have h3:=h2.keep (G:=fun b=>base<=b) (fun _ _ _=>rfl) (fun b hb _=>by rcases hb with hb|hb;exact hb.2.elim;exact hb.1) (Nat.le_refl _);obtain⟨a,c,rfl,hok⟩:=fG h1;refine⟨a,c,rfl,hok,h0,?_⟩;rcases h1.2 with⟨-,hn⟩|⟨g,cap,cur,hv,hb,hg,-,-,-,ht⟩
 ·have hl:l= []:=List.length_eq_zero_iff.1 (by omega)
  exact⟨.inl hl,xs, .inl hl,h3.cells⟩
 ·cases hv
  have hB:af w g cur 41:=hg;have hcs:∀j u,xs[j]? =some u->w.cell? ⟨g,j,none⟩=some u:=fun j u hj=>by
   have:=h1.cells (g:=g) rfl j u hj
   rwa [Addr.add_lit,Nat.zero_add] at this
  refine⟨.inr ⟨g,rfl,hb,hB.lt,SI hB (by decide) (by decide),fun i hi=> ?_⟩,xs, .inr ⟨g,rfl,hb,hB.lt,hcs⟩,h3.cells⟩;obtain⟨ka,kc,la,lc,oa,oc,h4,h5⟩:=h3.at i hi;exact⟨ka,kc,la,lc,oa,oc,fun q u hq=>hcs _ u (h4 q u hq),h5⟩
def nX (w:World) (base:Nat) (S:aw) (v:Value) (l:List Ow) (k:Nat):Prop:=
 ∃xs,w.ownsRow base 58 2 v l.length xs/\cY w (fun b=>dR base (fun _=>False) v b/\Zb w b) (l.take k) (xs.take (k*2))/\cY w S (l.drop k) (xs.drop (k*2))
theorem ji.z {w:World} {base:Nat} {S:aw} {v:Value} {l:List Ow} (h:ji w base S v l 0):nX w base S v l 0:=by
 obtain⟨xs,h1,-,h3⟩:=h;exact⟨xs,h1,by simp [cY],h3⟩
theorem nX.half {w:World} {base:Nat} {S:aw} {v:Value} {l:List Ow} {k:Nat} (h:nX w base S v l k):ji w base S v l k:=by
 obtain⟨xs,h1,h2,h3⟩:=h;exact⟨xs,h1,h2.keep (fun _ _ _=>rfl) fun _ h _=>h.1,h3⟩
theorem nX.keep {w w':World} {base:Nat} {S:aw} {v:Value} {l:List Ow} {k:Nat} (h:nX w base S v l k) (e:Held (fun b=>S b\/base<=b) w w'):nX w' base S v l k:=by
 obtain⟨xs,h1,h2,h3⟩:=h;have hF:∀b,dR base (fun _=>False) v b->base<=b:=fun b hb=>by rcases hb with hb|hb;exact hb.2.elim;exact hb.1
 exact⟨xs,dL h1 (fun b hb he=>e.block b (.inr (h1.lt b he).1) hb),h2.keep (fun b hb hl=>e.block b (.inr (hF b hb.1)) hl) (fun b h hl=>⟨h.1,h.2.keep (e.block b (.inr (hF b h.1)) hl)⟩),h3.keep (fun b hb hl=>e.block b (.inl hb) hl) (fun _ h _=>h)⟩
theorem nX.set {w:World} {base:Nat} {S:aw} {g c:Nat} {l:List Ow} {k:Nat} (h:nX w base S (.slice (some ⟨g,0,none⟩) l.length c) l k) (hS:∀b,S b->b<base) (hk:k<l.length) (hg:base<=g) {pa:aq} {pc:Nat}
 (hok:aM pa l[k].paths.length pc) (hx:bC w (fun b=>dR base (fun _=>False) (.slice (some ⟨g,0,none⟩) l.length c) b/\Zb w b) pa l[k].paths):nX (w.setCell ⟨g,k*2+1,none⟩ (.slice pa l[k].paths.length pc)) base S (.slice (some ⟨g,0,none⟩) l.length c) l (k+1):=by
 obtain⟨xs,h1,h2,h3⟩:=h;have hl:=h1.1;have hk1:Kept (fun b=>b≠g) w (w.setCell ⟨g,k*2+1,none⟩ (.slice pa l[k].paths.length pc)):=Held.kept (Held.set (Held.refl _ _) (fun h=>h rfl) _);have hF:∀b,dR base (fun _=>False) (.slice (some ⟨g,0,none⟩) l.length c) b->b≠g:=fun b hb e=>by rcases hb with hb|hb;exact hb.2;exact hb.2 (by rw [e];rfl)
 have ho:(w.setCell ⟨g,k*2+1,none⟩ (.slice pa l[k].paths.length pc)).ownsRow base 58 2 (.slice (some ⟨g,0,none⟩) l.length c) l.length _:=AJ (o:=k*2+1) (cs:= [.slice pa l[k].paths.length pc]) h1 (by simp only [List.length_cons,List.length_nil];omega);have h4:=(h3.cut 1).2;rw [List.drop_eq_getElem_cons hk] at h3;obtain⟨pa0,pc0,t,hx0,pK,h5⟩:=h3;rw [List.drop_drop,List.drop_drop] at h4;have e1:xs.take (k*2+1)=xs.take (k*2)++ [Value.string l[k].name]:=by rw [List.take_add,hx0];rfl
 have hlt:(xs.take (k*2)).length=k*2:=by rw [List.length_take];omega
 have e2:xs.take (k*2+1)++ [Value.slice pa l[k].paths.length pc]=xs.take (k*2)++ [Value.string l[k].name, .slice pa l[k].paths.length pc]:=by rw [e1,List.append_assoc];rfl
 have hl2:(xs.take (k*2)++ [Value.string l[k].name, .slice pa l[k].paths.length pc]).length=(k+1)*2:=by rw [List.length_append,hlt];simp;omega
 refine⟨_,ho,?_,?_⟩
 ·rw [e2,List.take_left' hl2,List.take_succ_eq_append_getElem hk]
  exact(h2.keep (hk1.mono fun b h=>hF b h.1) (fun b h hl=>⟨h.1,h.2.keep (hk1 b (hF b h.1) hl)⟩)).app (.one hok (hx.keep (hk1.mono fun b h=>hF b h.1) (fun b h hl=>⟨h.1,h.2.keep (hk1 b (hF b h.1) hl)⟩)))
 ·rw [e2,List.drop_left' hl2]
  exact h4.keep (hk1.mono fun b hb=>by have:=hS b hb;omega) (fun _ h _=>h)
theorem nX.all {w:World} {base:Nat} {S:aw} {v:Value} {l:List Ow} (h:nX w base S v l l.length):∃a c,v= .slice a l.length c/\aM a l.length c/\
 (l= []\/∃g,a=some ⟨g,0,none⟩/\base<=g/\g<w.heap.size/\¬Zb w g/\∀i (h:i<l.length),∃pa pc,w.cell? ⟨g,i*2,none⟩=some (.string l[i].name)/\w.cell? ⟨g,i*2+1,none⟩=some (.slice pa l[i].paths.length pc)/\aM pa l[i].paths.length pc/\bC w (fun b=>base<=b/\Zb w b) pa l[i].paths):=by
 obtain⟨xs,h1,h2,-⟩:=h;rw [List.take_length,List.take_of_length_le (by have:=h1.1;omega)] at h2;obtain⟨a,c,rfl,hok⟩:=fG h1;refine⟨a,c,rfl,hok,?_⟩;by_cases h0:l.length=0
 ·exact .inl (List.length_eq_zero_iff.1 h0)
 ·obtain⟨g,cap,cur,hv,hb,hg,-⟩:=pz h1 (by omega)
  cases hv
  have hB:af w g cur 58:=hg;have hc:=h1.cells (g:=g) rfl;have hq:∀q u,xs[q]? =some u->w.cell? ⟨g,q,none⟩=some u:=fun q u hq=>by
   have:=hc _ u hq
   rwa [Addr.add_lit,Nat.zero_add] at this
  refine .inr ⟨g,rfl,hb,hB.lt,SI hB (by decide) (by decide),fun i hi=> ?_⟩;obtain⟨pa,pc,e0,e1,e2,e3⟩:=h2.item i hi;exact⟨pa,pc,hq _ _ e0,hq _ _ e1,e2,e3.keep (fun _ _ _=>rfl) fun b h _=>⟨by rcases h.1 with h|h;exact h.2.elim;exact h.1,h.2⟩⟩
theorem adC {wr W:World} {ops:Array Oper} {rest:List Oper} {o:Oper} {a:Act} {Q:Exit->Act->World->Prop} {base n:Nat} {vl:Value} {l:List Th} {x:Th} {ka:aq} {kc:Nat} {la:aq} {lc:Nat} {oa:aq} {oc:Nat} (hgd:o.guard=none) (B:Nat) {s t:Operand}
 (ho:o.op= .call {callee:= .builtin .append,args:= #[s,t],argTypes:= #[26,26]}) (hs:a.eval s=vl) (hx:a.eval t= .slice (some ⟨B,0,none⟩) 1 1)
 (hI:qm wr base vl n l) (e:Ext wr W) (hv:pF W (fun b=>wr.heap.size<=b) x ka kc la lc oa oc) (hB:af W B (x.cells ka kc la lc oa oc).toArray 41) (hn:n<=1073741824) (hbase:base<=wr.heap.size)
 (h:∀g cap w',qm w' base (.slice (some ⟨g,0,none⟩) (n+1) cap) (n+1) (l++ [x])->W.grownBy w' vl.ownBlock->Held (fun b=>b<base) W w'->wpList prog ops Q rest (a.put o.dst (.slice (some ⟨g,0,none⟩) (n+1) cap)) w'):wpList prog ops Q (o::rest) a W:=by
 obtain⟨j0,hj,hy0,hy1,hy2⟩:=info_parts Tryz.A2;obtain⟨hl0,xs,pV,vM⟩:=hI;refine wpList_plain hgd fun _ hK=>wp_append_lies _ s t _ ho base 41 j0 _ 15 200 underlying26 hj hy0 hy1 hy2 rfl (by decide) vl n xs hs (eu pV e) ⟨B,0,none⟩ 1 1 (x.cells ka kc la lc oa oc) hx (by rfl) (World.news_of_block (cs:=(x.cells ka kc la lc oa oc).toArray) (t:=41) (fr:=(0,0)) hB) (Th.Gj x ka kc la lc oa oc) (by omega) (by unfold maxLen;omega) (by omega) (Nat.le_trans hbase e.size) _ rfl ?_;intro g cap w' hown hgrow hat hlt;have AK:∀b,vl.ownBlock=some b->base<=b/\b<wr.heap.size:=fun b hb=>pV.lt b hb;have hxs:=e.size;have hk1:Kept (fun b=>vl.ownBlock≠some b) W w':=fun b hb hl=>hgrow.block b hl (fun he=>hb he.symm);have hT:∀b,dR base (fun _=>False) vl b->b<W.heap.size->dR base (fun _=>False) (Value.slice (some ⟨g,0,none⟩) (n+1) cap) b:=fun b hb hl=>by
  rcases hb with hb|hb
  ·exact hb.2.elim
  ·refine .inr ⟨hb.1,fun he=> ?_⟩
   have hg:g=b:=by simpa [Value.ownBlock] using he
   subst hg;rcases hat with hat|hat
   ·exact hb.2 hat
   ·omega
 have qo:∀b,wr.heap.size<=b->b<W.heap.size->dR base (fun _=>False) (Value.slice (some ⟨g,0,none⟩) (n+1) cap) b:=fun b hb hl=> .inr ⟨by omega,fun he=>by
  have hg:g=b:=by simpa [Value.ownBlock] using he
  subst hg;rcases hat with hat|hat
  ·have:=(AK _ hat).2;omega
  ·omega⟩
 refine hK _ _ (h g cap w' ⟨by simp [hl0],_,hown,?_⟩ hgrow (Held.grown (Held.refl _ _) hgrow (fun q hq hT=>by have:=(AK q hq).1;omega)));have hws:=hgrow.size;refine((vM.keep (e.kept _) (fun _ h _=>h) e.size).keep (hk1.mono fun b hb=>by rcases hb with hb|hb;exact hb.2.elim;exact hb.2) hT hws).app ⟨ka,kc,la,lc,oa,oc, [],by simp,hv.keep (hk1.mono fun b hb he=>by have:=(AK b he).2;omega) qo hws,rfl⟩
theorem SJ (P:aw) (r:Nat) (s:Sv) (w:World) (h:Sat w P r s) (FI:s.az.length<=8) (hi:∀t∈s.az,t.v.size<=14640/\cF t.ows<=1800000):
 Calls prog 11 #[.pointer (some ⟨r,0,none⟩)] w fun e w'=>∃a c,e= .returned (.slice a s.az.length c)/\aM a s.az.length c/\uP w' (fun b=>w.heap.size<=b) s.az a/\jF w' (fun b=>w.heap.size<=b) s.az a/\Ext w w':=by
 obtain⟨v,xs,h⟩:=h;have H:=ae h.old;have Hi:=ae hi;obtain⟨va,vc,hv,adD⟩:=fG h.own;subst hv;have ag:=h.box;have hr:=h.box.lt;clear h hi adD;obtain⟨hc0,ax,hl0⟩:=ag.see;go_enter func11,ntmps11;go_wp2_with fail
 go_loopg [3,5,6,14] s.az.length (fun g t3 _ _ i wr=>∃k:Nat,k<=s.az.length/\i= .int .i64 k/\g=s.az.length-k/\Hid (qm wr w.heap.size t3 k (s.az.take k))/\Ext w wr)
 case atStart=>exact⟨0,by omega,rfl,rfl,ae (qm.nil _ _),Xt⟩
 case round=>
  obtain⟨k,hk,rfl,rfl,HO,hx⟩:=hrel;obtain⟨wo,rfl⟩:∃x,x=wr:=⟨_,rfl⟩;by_cases hlt:k<s.az.length
  ·obtain⟨g,c,ka,kc,la,lc,oa,oc,hv,hgl,hgr,uQ,hlc,hcs,hin⟩:=H.out.thing hlt
   cases hv
   obtain⟨hsz,iz⟩:=Hi.out _ (List.getElem_mem hlt);have hxk:∀j,k+1=j->s.az.take j=s.az.take k++ [s.az[k]]:=fun j e=>by rw [<-e,List.take_succ_eq_append_getElem hlt]
   have Hxk:=ae hxk;have nj:(0:Int)<= (k:Int):=by omega
   have np:(k:Int)<(s.az.length:Int):=by omega
   obtain⟨z,hz⟩:∃z,s.az[k]=z:=⟨_,rfl⟩;rw [hz] at hcs hsz hin iz;have aH:=ae (show kZ w (fun b=>b<w.heap.size) z ka kc la lc oa oc from hin.keep (fun _ _ _=>rfl) fun b h _=>h.1.2);have xO:=ae iz;have agc:z.ows.length<=1800000:=Nat.le_trans (vw _) iz;have Hz:=ae hz;have IV:=hx.size;have d0:wo.cell? ⟨g,k*15,none⟩=some (.string z.name):=hx.cell (hcs 0 _ rfl).1;have d1:=hx.cell (hcs 1 _ rfl).1;have d2:=hx.cell (hcs 2 _ rfl).1;have d3:=hx.cell (hcs 3 _ rfl).1;have d4:=hx.cell (hcs 4 _ rfl).1;have d5:=hx.cell (hcs 5 _ rfl).1;have d6:=hx.cell (hcs 6 _ rfl).1;have d7:=hx.cell (hcs 7 _ rfl).1;have d8:=hx.cell (hcs 8 _ rfl).1;have d9:=hx.cell (hcs 9 _ rfl).1;have d10:=hx.cell (hcs 10 _ rfl).1;have d11:=hx.cell (hcs 11 _ rfl).1;have d12:=hx.cell (hcs 12 _ rfl).1;have d13:=hx.cell (hcs 13 _ rfl).1;have d14:=hx.cell (hcs 14 _ rfl).1;clear hcs hin hxk iz hz;go_upto_region 7 with fail
   refine aI (R:=fun wx=>lG wx wo.heap.size z ka kc la lc oa oc/\Ext wo wx) ⟨aj,Xt⟩ ?_;clear d0 d1 d2 d3 d4 d5 d6 d7 d8 d9 d10 d11 d12 d13 d14;rintro wb ⟨ai,aO⟩;have hz1:=ai.lt;obtain⟨hc1,aA,ay⟩:=ai.see;go_wp2_with fail;(refine(adE z.v.size z.v ka kc la lc (fun b=>b<w.heap.size) _ (Nat.le_refl _) (by omega) (aH.out.v.ext Xt)).mono ?_);rintro e w2 ⟨kb,kd,lb,ld,rfl,hv2,h2⟩;have hx2:Ext wb w2:=Xt;have hy2:=hx2.size;have SK:=ae (show z.v.In w2 (fun b=>(wo.heap.size<b/\b<w2.heap.size)/\Zb w2 b) kb kd lb ld from hv2.mono fun b h hl=>⟨⟨by have h:=h.1;(try simp at h);omega,hl⟩,h.2⟩);have ak:=ai.ext hx2;clear hv2 h2 hc1 aA ay ai;obtain⟨hc2,hf2,hl2⟩:=ak.see;go_upto_region 8 with fail
   refine aI (R:=fun wx=>lG wx wo.heap.size z kb kd lb ld oa oc/\z.v.In wx (fun b=>(wo.heap.size<b/\b<w2.heap.size)/\Zb wx b) kb kd lb ld/\w2.heap.size<=wx.heap.size/\Ext wo wx) ⟨bk,SK.out.qq (Held.kept (T:=fun b=>wo.heap.size<b/\b<w2.heap.size) aB),by simp,Xt⟩ ?_;clear SK ak hy2 hx2 aO hc2 hf2 hl2 hz1;rintro wc ⟨bK,hv3,hy3,fg⟩;have SL:=ae hv3;have hz3:=bK.lt;clear hv3;obtain⟨hc3,hf3,aS⟩:=bK.see;go_wp2_with fail;(refine(adA z.ows oa _ oc (fun b=>b<w.heap.size) _ rfl aH.out.ok (by omega) (aH.out.ows.ext Xt)).mono ?_);rintro e w4 ⟨a4,c4,rfl,z8,LX,h4⟩;have bP:Ext wc w4:=Xt;have hy4:=bP.size;have Fy:=ae z8;have hs4:=LX.own;have SM:=ae (show z.v.In w4 (fun b=>(wo.heap.size<b/\ (Value.slice a4 z.ows.length c4).ownBlock≠some b)/\Zb w4 b) kb kd lb ld from(SL.out.qq (bP.kept _)).mono fun b h _=>⟨⟨h.1.1,fun he=>by have:=(hs4 b he).1;have h:=h.1;(try simp at this);omega⟩,h.2⟩);have SN:=ae (show nX w4 (wo.heap.size+1) (fun b=>b<w.heap.size) (.slice a4 z.ows.length c4) z.ows 0 from(LX.base (by(try simp);omega)).z);have hB4:=bK.ext bP;clear z8 LX h4 hs4 hc3 hf3 aS bK SL;obtain⟨rh,vY,hl4⟩:=hB4.see;go_upto_region 9 with fail
   refine aI (R:=fun wx=>lG wx wo.heap.size z kb kd lb ld a4 c4/\z.v.In wx (fun b=>(wo.heap.size<b/\ (Value.slice a4 z.ows.length c4).ownBlock≠some b)/\Zb wx b) kb kd lb ld/\nX wx (wo.heap.size+1) (fun b=>b<w.heap.size) (.slice a4 z.ows.length c4) z.ows 0/\Ext wo wx) ⟨bk,SM.out.qq (Held.kept (T:=fun b=>wo.heap.size<b/\ (Value.slice a4 z.ows.length c4).ownBlock≠some b) aB),SN.out.keep (by with_reducible repeat (first|exact Held.refl _ _|assumption|apply Held.drew|apply Held.drewN|apply Held.alloc|(refine Held.set ?_ ?_ _;rotate_left;(focus(first|(simp;done)|(simp;omega)|omega)))|(refine Held.ext ?_ (by assumption))|(refine Held.grown ?_ (by assumption) (by assumption))|(refine Held.trans ?_ (by assumption)))),Xt⟩ ?_;clear SM SN hB4 hy4 bP fg rh vY hl4 hz3 hy3;rintro wd ⟨gT,pO,SP,iB⟩;have SQ:=ae pO;have SR:=ae SP;clear pO SP;obtain⟨td,Gk,Gl⟩:=gT.see;go_wp2_with fail
   go_loopg [6,29] z.ows.length (fun g _ i wx=>∃j:Nat,j<=z.ows.length/\i= .int .i64 j/\g=z.ows.length-j/\lG wx wo.heap.size z kb kd lb ld a4 c4/\Hid (z.v.In wx (fun b=>(wo.heap.size<b/\ (Value.slice a4 z.ows.length c4).ownBlock≠some b)/\Zb wx b) kb kd lb ld)/\Hid (nX wx (wo.heap.size+1) (fun b=>b<w.heap.size) (.slice a4 z.ows.length c4) z.ows j)/\Ext wo wx)
   case atStart=>exact⟨0,by omega,rfl,rfl,gT,SQ,SR,iB⟩
   case round=>
    clear gT td Gk Gl SQ SR iB;obtain⟨j,hj,rfl,rfl,bB,LY,Ds,iR⟩:=hrel;by_cases hjl:j<z.ows.length
    ·obtain⟨g2,c2,hv,hgb,adF,hfz⟩:=Ds.out.half.block (by omega)
     cases hv
     obtain⟨pa,pc,e0,e1,BI,hps⟩:=Ds.out.half.item hjl;have adG:=ae BI;have mD:=ae hps;have SU:(0:Int)<= (j:Int):=by omega
     have SV:(j:Int)<(z.ows.length:Int):=by omega
     have hpl:z.ows[j].paths.length<=1800000:=by have h1:=Ow.qO z.ows[j];have h2:=qN (List.getElem_mem hjl);have h3:=xO.out;omega
     have Ef:=bB.lt;clear BI hps;obtain⟨jz,jA,jB⟩:=bB.see;go_upto_region 12 with fail
     have au:∀w',Ext wr w'-> (w'.cell? ⟨wo.heap.size,6,none⟩=some (.slice (some ⟨g2,0,none⟩) z.ows.length c4)/\w'.cell? ⟨g2,j*2+1,none⟩=some (.slice pa z.ows[j].paths.length pc)):=fun w' e=>⟨e.cell (bB.cells 6),e.cell e1⟩;refine fC au (c:=12) (by kernel_rfl) ?_;refine aG 0 [12] (hS:=au _ Xt) (h:= ?_);refine aG 1 [12] (hS:=au _ Xt) (h:= ?_);refine aG 2 [12] (hS:=au _ Xt) (h:= ?_);refine aG 3 [12] (hS:=au _ Xt) (h:= ?_);refine aG 4 [12] (hS:=au _ Xt) (h:= ?_);refine aG 5 [12] (hS:=au _ Xt) (h:= ?_);refine aG 6 [12] (hS:=au _ Xt) (h:= ?_);refine aG 7 [12] (hS:=au _ Xt) (h:= ?_);refine aG 8 [12] (hS:=au _ Xt) (h:= ?_);(try simp only [rl]);refine aL 9 (h:=fun K hK=> ?_);(try simp only [rl]);(try go_simp);(refine(zT z.ows[j].paths pa _ pc (fun b=>b<w.heap.size) _ rfl adG.out (by omega) (mD.out.ext Xt)).mono ?_);rintro e w7 ⟨a7,c7,rfl,SX,fu,h7⟩;(try go_simp);have cy:Ext wr w7:=Xt;have hy7:=cy.size;obtain⟨a7',c7',km,adH,hn7,SY⟩:=fu.SZ
     cases km
     have S3:=ae SX
     have kF:=ae (show bC w7 (fun b=>dR (wo.heap.size+1) (fun _=>False) (.slice (some ⟨g2,0,none⟩) z.ows.length c4) b/\Zb w7 b) a7 z.ows[j].paths from SY.keep (fun _ _ _=>rfl) fun b h _=>⟨.inr ⟨by have h:=h.1;(try simp at h);omega,fun he=>by
      have h:=h.1;have hg:g2=b:=by simpa [Value.ownBlock] using he
      (try simp at h);omega⟩,h.2⟩)
     have S4:=ae (Ds.out.keep (cy.held _));have S5:=ae (LY.out.qq (cy.kept _));have dF:=af.ext cy bB;have adI:∀i,w7.frozen? ⟨g2,i,none⟩=false:=fun i=>by rw [Below.frozen (p:=⟨g2,i,none⟩) cy adF];exact hfz i
     have e1:=cy.cell e1;have S6:Ext wo w7:=iR.trans cy;clear SX fu h7 adH hn7 SY hfz;refine hK.out _ _ (fun _=>au _ Xt) ?_;clear hK K;refine aG 10 [11,12] (hS:=au _ Xt) (h:= ?_);refine aG 11 [12] (hS:=au _ Xt) (h:= ?_);(try simp only [rl]);refine aL 12 (h:=fun K hK=> ?_);(try simp only [rl]);go_simp;refine br hK (h:= ?_);clear hK K;(try simp only [rl]);refine dw (by kernel_rfl) ?_ _;obtain⟨wj,ib⟩:∃wj,w7.setCell ⟨g2,j*2+1,none⟩ (.slice a7 z.ows[j].paths.length c7)=wj:=⟨_,rfl⟩;have Ag:lG wj wo.heap.size z kb kd lb ld (some ⟨g2,0,none⟩) c4:=by rw [<-ib];exact dF.other (p:=⟨g2,j*2+1,none⟩) (show wo.heap.size≠g2 by omega) _
     have hv:z.v.In wj (fun b=>(wo.heap.size<b/\ (Value.slice (some ⟨g2,0,none⟩) z.ows.length c4).ownBlock≠some b)/\Zb wj b) kb kd lb ld:=by rw [<-ib];exact S5.out.qq ((Held.kept (T:=fun b=>b≠g2) (Held.set (Held.refl _ _) (fun h=>h rfl) _)).mono fun b hb e=>hb.2 (by rw [e];rfl))
     have ho:nX wj (wo.heap.size+1) (fun b=>b<w.heap.size) (.slice (some ⟨g2,0,none⟩) z.ows.length c4) z.ows (j+1):=by rw [<-ib];exact S4.out.set (fun b hb=>by omega) hjl hgb S3.out kF.out
     have Gm:Ext wo wj:=by rw [<-ib];exact Xt
     have Hv:=ae hv;have Ho:=ae ho;have r9:=ae ib;clear hv ho ib S5 S4 kF S3 dF adI cy S6 au e0 e1 jz jA jB bB;go_upto_region 13 with fail
     refine aI (R:=fun wy=>wy=wj) r9.out ?_;clear r9;rintro wy rfl;go_wp2_with fail;go_roundg (z.ows.length-(j+1))
     case measure=>omega
     case rel=>exact⟨j+1,by omega,by go_num,rfl,Ag,Hv,Ho,Gm⟩
    ·obtain rfl:j=z.ows.length:=by omega
     obtain⟨a3,c3,hv,jw,S7⟩:=Ds.out.all
     cases hv
     have HT:=ae (show pF wr (fun b=>wo.heap.size<=b) z kb kd lb ld a4 c4 from⟨LY.out.mono fun b h _=>⟨by have:=h.1.1;omega,h.2⟩,jw,by
      rcases S7 with h|⟨g,h1,h2,h3,h4,h5⟩
      ·exact .inl h
      ·refine .inr ⟨g,h1,by omega,h3,h4,fun i hi=> ?_⟩
       obtain⟨pa,pc,f0,f1,f3,f2⟩:=h5 i hi
       exact⟨pa,pc,f0,f1,f3,f2.keep (fun _ _ _=>rfl) fun b h _=>⟨by have:=h.1;omega,h.2⟩⟩⟩)
     have Ef:=bB.lt;have vr:=hx.size;clear jw S7 LY Ds;obtain⟨jz,jA,jB⟩:=bB.see;go_upto_region 15 with(at_builtin;refine adC (by rfl) wr.heap.size (by rfl) (by rfl) (by rfl) HO.out Xt (HT.out.ext Xt) aj (by omega) vr ?_;intro g3 Aj w3 jd jC pM)
     have hx3:Ext w w3:=Ext.grown (Ext.trans hx (show Ext wo _ from Xt)) jC (fun q hq=>by obtain⟨-,xs,h1,-⟩:=HO.out;have:=(h1.lt q hq).1;omega);have C2:=ae (show qm w3 w.heap.size (.slice (some ⟨g3,0,none⟩) (k+1) Aj) (k+1) (s.az.take (k+1)) from by rw [Hxk.out (k+1) rfl,Hz.out];exact jd);clear jC pM HO HT jd;go_wp2_with fail;go_roundg (s.az.length-(k+1))
     case measure=>omega
     case rel=>exact⟨k+1,by omega,by go_num,rfl,C2,hx3⟩
  ·obtain rfl:k=s.az.length:=by omega
   have ho:=HO.out;rw [List.take_length] at ho;obtain⟨a,c,hv,hok,-,ht,hti⟩:=ho.az
   cases hv
   have eK:=ae hok;have Ht:=ae ht;have oM:=ae hti;clear ho hok ht hti HO;go_wp2_with fail;go_ret;exact⟨a,c,rfl,eK.out,Ht.out.ext Xt,oM.out.ext Xt,Xt⟩
theorem Gn (P:aw) (r:Nat) (s:Sv) (w:World) (h:Sat w P r s) (FI:s.az.length<=8) (hi:∀t∈s.az,t.v.size<=14640/\cF t.ows<=1800000):
 Calls prog 11 #[.pointer (some ⟨r,0,none⟩)] w fun e w'=>∃a c,e= .returned (.slice a s.az.length c)/\aM a s.az.length c/\jF w' (fun b=>w.heap.size<=b) s.az a/\Ext w w':=by
 refine(SJ P r s w h FI hi).mono ?_;rintro e w' ⟨a,c,rfl,h1,-,h2,h3⟩;exact⟨a,c,rfl,h1,h2,h3⟩
theorem afa (ks js:List ah) (a1 a2:aq) (n1 n2 c1 c2:Nat) (S1 S2:aw) (w:World) (h1:bC w S1 a1 ks) (h2:bC w S2 a2 js) (e1:ks.length=n1) (e2:js.length=n2) (hl:ks.length<=1073741824):
 Calls prog 26 #[.slice a1 n1 c1, .slice a2 n2 c2] w (yN (ks=js) w):=by
 subst e1;subst e2;by_cases hne:ks.length=js.length
 ·have hnb:((ks.length:Int) !=(js.length:Int))=false:=by simp [hne]
  have dS:=ae hne;clear hne;go_enter func26,ntmps26;go_wp2_with fail
  go_loopg [5,13] ks.length (fun g _ i wr=>∃k:Nat,k<=ks.length/\i= .int .i64 k/\g=ks.length-k/\Hid (ks.take k=js.take k)/\Ext w wr)
  case atStart=>exact⟨0,by omega,rfl,rfl,ae (by simp),Ext.refl _⟩
  case round=>
   obtain⟨k,hk,rfl,rfl,wK,hx⟩:=hrel;by_cases hlt:k<ks.length
   ·have zh:k<js.length:=by have:=dS.out;omega
    obtain⟨b1,o1,rfl,hS1,hc1⟩:=h1.resolve_left (by intro h;rw [h] at hlt;simp at hlt);obtain⟨b2,o2,rfl,qR,hc2⟩:=h2.resolve_left (by intro h;rw [h] at zh;simp at zh);have d0:=hx.cell (hc1 k hlt);have d1:=hx.cell (hc2 k zh);have nj:(0:Int)<= (k:Int):=by omega
    have np:(k:Int)<(ks.length:Int):=by omega
    have D6:(k:Int)<(js.length:Int):=by omega
    have GG:=ae (List.take_succ_eq_append_getElem hlt);have tC:=ae (List.take_succ_eq_append_getElem zh);clear hc1 hc2 h1 h2;by_cases he:ks[k]=js[k]
    ·have hb:=vF he
     have He:=ae he;clear he;go_wp2_with fail
     go_quiet (fail)
     go_wp2_with fail;go_roundg (ks.length-(k+1))
     case measure=>omega
     case rel=>exact⟨k+1,by omega,by go_num,rfl,ae (by rw [GG.out,tC.out,wK.out,He.out]),Xt⟩
    ·have hb:=vG he
     have He:=ae he;clear he;go_wp2_with fail
     go_quiet (fail)
     go_wp2_with fail;go_ret;exact⟨_,rfl,⟨fun h=>by(first|cases h|simp at h),fun h=>absurd (by subst h;rfl) He.out⟩,Xt⟩
   ·have cx:=ae (show ks=js by
     have:=wK.out
     rwa [List.take_of_length_le (by omega),List.take_of_length_le (by have:=dS.out;omega)] at this)
    clear h1 h2;go_wp2_with fail;go_ret;exact⟨_,rfl,⟨fun _=>cx.out,fun _=>rfl⟩,Xt⟩
 ·have hnb:((ks.length:Int) !=(js.length:Int))=true:=by simp;omega
  have dS:=ae hne;clear hne;go_enter func26,ntmps26;go_wp2_with fail;go_ret;exact⟨_,rfl,⟨fun h=>by(first|cases h|simp at h),fun h=>absurd (by rw [h]) dS.out⟩,Xt⟩
theorem afb (l m:List Ow) (a1 a2:aq) (n1 n2 c1 c2:Nat) (S1 S2:aw) (w:World) (h1:cj w S1 l a1) (h2:cj w S2 m a2) (e1:l.length=n1) (e2:m.length=n2) (hl:cF l<=1073741824):
 Calls prog 15 #[.slice a1 n1 c1, .slice a2 n2 c2] w (yN (l=m) w):=by
 subst e1;subst e2;have hll:=vw l;have Hl:=ae hl;by_cases hne:l.length=m.length
 ·have hnb:((l.length:Int) !=(m.length:Int))=false:=by simp [hne]
  have dS:=ae hne;have H1:=ae h1;have H2:=ae h2;clear hne h1 h2;go_enter func15,ntmps15;go_wp2_with fail
  go_loopg [5,13] l.length (fun g _ i wr=>∃k:Nat,k<=l.length/\i= .int .i64 k/\g=l.length-k/\Hid (l.take k=m.take k)/\Ext w wr)
  case atStart=>exact⟨0,by omega,rfl,rfl,ae (by simp),Ext.refl _⟩
  case round=>
   obtain⟨k,hk,rfl,rfl,wK,hx⟩:=hrel;by_cases hlt:k<l.length
   ·have zh:k<m.length:=by have:=dS.out;omega
    obtain⟨b1,o1,rfl,hS1,pa,pc,d0,d1,hs1,hst⟩:=(H1.out.ext hx).item hlt;obtain⟨b2,o2,rfl,qR,qa,qc,e0,e1,hs2,hsu⟩:=(H2.out.ext hx).item zh;have nj:(0:Int)<= (k:Int):=by omega
    have np:(k:Int)<(l.length:Int):=by omega
    have D6:(k:Int)<(m.length:Int):=by omega
    have GG:=ae (List.take_succ_eq_append_getElem hlt);have tC:=ae (List.take_succ_eq_append_getElem zh);have bF:=Ow.qO l[k];have Ge:=qN (List.getElem_mem hlt);obtain⟨x,hex⟩:∃x,l[k]=x:=⟨_,rfl⟩;obtain⟨y,MJ⟩:∃y,m[k]=y:=⟨_,rfl⟩;rw [hex] at d0 d1 hst GG bF Ge;rw [MJ] at e0 e1 hsu tC;have xX:x.paths.length<=1073741824:=by omega
    have aP:=ae hst;have Hsu:=ae hsu;have U9:=ae hex;have U':=ae MJ;clear hst hsu hex MJ hs1 hs2 bF Ge;by_cases he:x.name=y.name
    ·have hb:=vF he
     have He:=ae he;clear he;go_upto_region 6 with fail
     have au:∀w',Ext wr w'-> (w'.cell? ⟨b1,o1+k*2,none⟩=some (.string x.name)/\w'.cell? ⟨b1,o1+k*2+1,none⟩=some (.slice pa x.paths.length pc)/\w'.cell? ⟨b2,o2+k*2,none⟩=some (.string y.name)/\w'.cell? ⟨b2,o2+k*2+1,none⟩=some (.slice qa y.paths.length qc)):=fun w' e=>⟨e.cell (d0),e.cell (d1),e.cell (e0),e.cell (e1)⟩;refine nt au (by kernel_rfl) (au _ Xt) (fun hHeld=> ?_);refine aJ 0 (h:= ?_);refine aJ 1 (h:= ?_);refine aJ 2 (h:= ?_);refine aJ 3 (h:= ?_);refine aJ 4 (h:= ?_);refine aJ 5 (h:= ?_);refine aJ 6 (h:= ?_);refine aJ 7 (h:= ?_);refine aJ 8 (h:= ?_);refine aJ 9 (h:= ?_);refine aJ 10 (h:= ?_);refine aJ 11 (h:= ?_);refine aJ 12 (h:= ?_);refine aJ 13 (h:= ?_);refine aJ 14 (h:= ?_);refine aJ 15 (h:= ?_);refine aJ 16 (h:= ?_);refine aJ 17 (h:= ?_);refine aJ 18 (h:= ?_);refine aJ 19 (h:= ?_);refine aJ 20 (h:= ?_);refine aJ 21 (h:= ?_);(try simp only [rl]);refine iw 22 (h:=fun K hK=> ?_);(try simp only [rl]);(try go_simp);(refine(afa x.paths y.paths pa qa _ _ pc qc S1 S2 _ (aP.out.ext Xt) (Hsu.out.ext Xt) rfl rfl (by omega)).mono ?_);rintro e w2 ⟨b,rfl,hr,Va⟩;have Hr:=ae hr;clear hr;(try go_simp);refine hK.out _ _ (au _ Xt) (fun hHeld=> ?_);clear hK K;(try simp only [rl]);refine aJ 23 (h:= ?_);refine aJ 24 (h:= ?_);(try simp only [rl]);refine wpAnyH_done (by kernel_rfl) ?_ _
     cases b with
     |true=>
      have Hxy:=ae (show x=y by have h3:=Hr.out.1 rfl;have h4:=He.out;cases x;cases y;simp_all);go_wp2_with fail;go_roundg (l.length-(k+1))
      case measure=>omega
      case rel=>exact⟨k+1,by omega,by go_num,rfl,ae (by rw [GG.out,tC.out,wK.out,Hxy.out]),Xt⟩
     |false=>
      go_wp2_with fail;go_ret
      exact⟨_,rfl,⟨fun h=>by(first|cases h|simp at h),fun h=>by
       have h3:x=y:=by have h5:=U9.out;have h6:=U'.out;subst h;rw [<-h5,<-h6]
       have:=Hr.out.2 (by rw [h3])
       cases this⟩,Xt⟩
    ·have hb:=vG he
     have He:=ae he;clear he;go_upto_region 6 with fail
     have au:∀w',Ext wr w'-> (w'.cell? ⟨b1,o1+k*2,none⟩=some (.string x.name)/\w'.cell? ⟨b1,o1+k*2+1,none⟩=some (.slice pa x.paths.length pc)/\w'.cell? ⟨b2,o2+k*2,none⟩=some (.string y.name)/\w'.cell? ⟨b2,o2+k*2+1,none⟩=some (.slice qa y.paths.length qc)):=fun w' e=>⟨e.cell (d0),e.cell (d1),e.cell (e0),e.cell (e1)⟩;refine nt au (by kernel_rfl) (au _ Xt) (fun hHeld=> ?_);refine aJ 0 (h:= ?_);refine aJ 1 (h:= ?_);refine aJ 2 (h:= ?_);refine aJ 3 (h:= ?_);refine aJ 4 (h:= ?_);refine aJ 5 (h:= ?_);refine aJ 6 (h:= ?_);refine aJ 7 (h:= ?_);refine aJ 8 (h:= ?_);refine aJ 9 (h:= ?_);refine aJ 10 (h:= ?_);refine aJ 11 (h:= ?_);refine cJ 12 (h:= ?_);refine cJ 13 (h:= ?_);refine cJ 14 (h:= ?_);refine cJ 15 (h:= ?_);refine cJ 16 (h:= ?_);refine cJ 17 (h:= ?_);refine cJ 18 (h:= ?_);refine cJ 19 (h:= ?_);refine cJ 20 (h:= ?_);refine cJ 21 (h:= ?_);refine cJ 22 (h:= ?_);refine cJ 23 (h:= ?_);refine aJ 24 (h:= ?_);(try simp only [rl]);refine wpAnyH_done (by kernel_rfl) ?_ _;go_wp2_with fail;go_ret
     exact⟨_,rfl,⟨fun h=>by(first|cases h|simp at h),fun h=>by
      have h3:x=y:=by have h5:=U9.out;have h6:=U'.out;subst h;rw [<-h5,<-h6]
      exact absurd (by rw [h3]) He.out⟩,Xt⟩
   ·have cx:=ae (show l=m by
     have:=wK.out
     rwa [List.take_of_length_le (by omega),List.take_of_length_le (by have:=dS.out;omega)] at this)
    go_wp2_with fail;go_ret;exact⟨_,rfl,⟨fun _=>cx.out,fun _=>rfl⟩,Xt⟩
 ·have hnb:((l.length:Int) !=(m.length:Int))=true:=by simp;omega
  have dS:=ae hne;clear hne h1 h2;go_enter func15,ntmps15;go_wp2_with fail;go_ret;exact⟨_,rfl,⟨fun h=>by(first|cases h|simp at h),fun h=>absurd (by rw [h]) dS.out⟩,Xt⟩
end Go.Proofs.YtlcebdaghmdkeabGreatDoor
namespace Go.Proofs.YtlcebdaghmdkeabGreatDoor
open Go.Proofs.Tryz
open Go.RowKit
theorem acT (base g n cap k vb vc:Nat) (cur:Array Value) (new:List Value) (w:World) (TB:TypeId) (hb:base<=g) (hg:w.heap[g]? =some (.cells cur 41 (0,0))) (hnc:n<cap) (hm:cap<=maxLen) (hcs:cur.size=cap*15)
 (hk:k<n) (hB:af w vb new.toArray TB) (hvb:vb≠g) (hnew:new.length=15) (h1c:∀u∈cur.toList.take (n*15),u.oneCell'=true) (h1:∀u∈new,u.oneCell'=true):
 Calls prog 84 #[.slice (some ⟨g,0,none⟩) n cap, .int .i64 k, .slice (some ⟨vb,0,none⟩) 1 vc] w fun e w'=>e= .returned (.slice (some ⟨g,0,none⟩) (n+1) cap)/\
  w'.ownsRow base 41 15 (.slice (some ⟨g,0,none⟩) (n+1) cap) (n+1) ((cur.toList.take (n*15)).take (k*15)++new++(cur.toList.take (n*15)).drop (k*15))/\w.grownBy w' (some g):=by
 obtain⟨i0,hi,hz0,hz1,hz2⟩:=info_parts Tryz.A2;have hsz:(prog.info? 41).map (·.size)=some 15:=by rw [hi];simp [hz1]
 have hm2:cap<=9223372036854775807:=hm;have zq:(n+1)*15<=cap*15:=Nat.mul_le_mul_right _ hnc;have hB':w.heap[vb]? =some (.cells new.toArray TB (0,0)):=hB;have hov:∀lb cb,(callFunc 123 #[.slice (some ⟨vb,0,none⟩) 1 vc, .slice (some ⟨g,(k+1)*15,none⟩) lb cb]).run prog w= .ok (.value (.bool false)) w:=fun lb cb=>by
  rw [run_callFunc_extern func123 (by kernel_rfl) (by kernel_rfl) (by kernel_rfl) (e:=Extern.SlicesOverlaps.overlaps #[26,26] #[4]) (by kernel_rfl),
   Lib.run_overlaps_apart w 26 4 41 underlying26 15 (by intro w;simp [Go.sizeOf,typeInfo,hi,hz1]) ⟨vb,0,none⟩ ⟨g,(k+1)*15,none⟩ 1 vc lb cb hvb TB 41 new.length cur.size (by simp [World.shape?,hB']) (by simp [World.shape?,hg]) (by rw [hcs];omega) (hB.free 0) (hB.free new.length)]
  rfl
 obtain⟨cs,bU⟩:∃cs,cs=(cur.toList.take (n*15)).drop (k*15):=⟨_,rfl⟩;have hcl:cs.length=(n-k)*15:=by rw [bU];simp;omega
 have hcell:∀j v,cs[j]? =some v->w.drew.cell? ((⟨g,k*15,none⟩:Addr).add j)=some v:=fun j v hj=>by
  rw [Addr.add_lit,bU,List.getElem?_drop,List.getElem?_take] at*
  split at hj
  ·show w.cell? _=_
   rw [cell_of_row w g _ cur _ _ hg];simpa using hj
  ·cases hj
 have hlist:=E8 cur.toList new (k*15) (n*15) (by omega) (by rw [hnew,Array.length_toList,hcs];omega) cs bU;simp only at hlist;obtain⟨ay,hl2,aS⟩:=hlist;have nP:∀ty,(Builtin.copy_ #[26,26] ty #[.slice (some ⟨g,(k+1)*15,none⟩) (n-k) (cap-(k+1)), .slice (some ⟨g,k*15,none⟩) (n+1-k) (cap-k)]).run prog w.drew= .ok (goInt (n-k:Nat)) (w.drew.setRow g (cur.toList.take ((k+1)*15)++cs++cur.toList.drop ((k+1)*15+cs.length)).toArray):=fun ty=>
  mF w.drew _ _ ty 41 15 g ((k+1)*15) _ _ ⟨g,k*15,none⟩ _ _ cur 41 cs (n-k) underlying26 hsz (by simp only [Nat.min_def];split<;>omega) hg hcl hcell (by rw [hcl,hcs];omega) (fun v hv=>h1c v (List.mem_of_mem_drop (by rw [<-bU];exact hv)))
 have fq:(k+1)*15=k*15+new.length:=by omega
 obtain⟨c1,hc1⟩:∃c1,c1=cur.toList.take ((k+1)*15)++cs++cur.toList.drop ((k+1)*15+cs.length):=⟨_,rfl⟩;rw [<-hc1] at nP;rw [<-fq,<-hc1] at ay hl2 aS;obtain⟨W1,hW1⟩:∃W1,W1=w.drew.setRow g c1.toArray:=⟨_,rfl⟩;rw [<-hW1] at nP;have hg1:W1.heap[g]? =some (.cells c1.toArray 41 (0,0)):=by rw [hW1];exact setRow_heap w.drew g cur _ 41 _ hg
 have kY:∀ty,(Builtin.copy_ #[26,26] ty #[.slice (some ⟨g,k*15,none⟩) (n+1-k) (cap-k), .slice (some ⟨vb,0,none⟩) 1 vc]).run prog W1= .ok (goInt (1:Nat)) (W1.setRow g (c1.toArray.toList.take (k*15)++new++c1.toArray.toList.drop (k*15+new.length)).toArray):=fun ty=>
  mF W1 _ _ ty 41 15 g (k*15) _ _ ⟨vb,0,none⟩ _ _ c1.toArray 41 new 1 underlying26 hsz (by simp only [Nat.min_def];split<;>omega) hg1 (by omega) (fun j v hj=>by
   rw [Addr.add_lit,hW1,cell_setRow_other _ _ _ _ (by exact hvb)];show w.cell? _=_
   rw [cell_of_row w vb _ _ _ _ hB'];first|done|simpa using hj) (by simp only [List.size_toArray,aS,Array.length_toList,hcs,hnew];omega) h1
 rw [<-fq] at kY;simp only [List.toList_toArray] at kY;have mixed:prog.follows Departure.mixedOrders=true:=by kernel_rfl
 have hw1:IntKind.i64.wrap ((k:Int)+1)=(k:Int)+1:=by rw [IntKind.wrap_i64];omega
 have hz3:¬((k:Int)=(n:Int)):=by omega
 have hb1:(0:Int)<= (k:Int)+1:=by omega
 have htn:((k:Int)+1).toNat=k+1:=by omega
 have hb2:¬(cap=k+1):=by omega
 have hb3:(k:Int)<= (n:Int)+1:=by omega
 have hin:k<=n:=by omega
 have hb4:¬(cap=k):=by omega
 have iL:(W1.setRow g (c1.take (k*15)++new++c1.drop ((k+1)*15)).toArray).ownsRow base 41 15 (.slice (some ⟨g,0,none⟩) (n+1) cap) (n+1) ((cur.toList.take (n*15)).take (k*15)++new++(cur.toList.take (n*15)).drop (k*15)):=by
  refine qC hb (setRow_heap W1 g _ _ 41 _ hg1) hnc hm ?_ ?_
  ·rw [List.size_toArray,hl2,Array.length_toList,hcs]
  ·rw [<-ay,hnew]
   rw [show (n+1)*15=n*15+15 from by omega]
 have iM:w.grownBy (W1.setRow g (c1.take (k*15)++new++c1.drop ((k+1)*15)).toArray) (some g):=by rw [hW1];exact qD (mW (jo w.drew g _)) (jo _ g _)
 obtain⟨W2,hW2⟩:∃W2,W2=W1.setRow g (c1.take (k*15)++new++c1.drop ((k+1)*15)).toArray:=⟨_,rfl⟩;rw [<-hW2] at kY iL iM;have lZ:=ae iL;have jq:=ae iM;clear iL iM fq hW2 hW1 hg1 ay hl2 aS hc1 hcell bU hcl hg h1c h1 hcs hB hB';go_enter func84,ntmps84;go_wp2_with (simp only [hov])
 go_region_law_o (refine step_copy_runI rfl _ _ 26 26 rfl _ _ (by simp [Act.eval,Act.put]) (by simp [Act.eval,Act.put]) (nP _) ?_)
 go_wp2_with (at_builtin;refine wpList_copy_runI _ rfl _ _ 26 26 rfl _ _ rfl rfl (kY _) ?_);go_ret;exact⟨rfl,lZ.out,jq.out⟩
theorem acU (base g n cap k vb vc:Nat) (cur:Array Value) (new:List Value) (w:World) (TB:TypeId) (eB:base<=w.heap.size) (hg:w.heap[g]? =some (.cells cur 41 (0,0))) (hnc:n<=cap) (hfull:cap<n+1) (cZ:n<=1073741824) (hcs:cur.size=cap*15)
 (hk:k<n) (hB:af w vb new.toArray TB) (hnew:new.length=15) (h1c:∀u∈cur.toList.take (n*15),u.oneCell'=true) (h1:∀u∈new,u.oneCell'=true):
 Calls prog 84 #[.slice (some ⟨g,0,none⟩) n cap, .int .i64 k, .slice (some ⟨vb,0,none⟩) 1 vc] w fun e w'=>∃G,e= .returned (.slice (some ⟨w.heap.size,0,none⟩) (n+1) G)/\
  w'.ownsRow base 41 15 (.slice (some ⟨w.heap.size,0,none⟩) (n+1) G) (n+1) ((cur.toList.take (n*15)).take (k*15)++new++(cur.toList.take (n*15)).drop (k*15))/\Ext w w':=by
 obtain⟨i0,hi,hz0,hz1,hz2⟩:=info_parts Tryz.A2;have hsz:(prog.info? 41).map (·.size)=some 15:=by rw [hi];simp [hz1]
 obtain⟨cs,bU⟩:∃cs,cs=cur.toList.take (n*15):=⟨_,rfl⟩;rw [<-bU] at h1c⊢;have qi:n*15<=cap*15:=Nat.mul_le_mul_right _ hnc;have hcl:cs.length=n*15:=by rw [bU];simp;omega
 have uJ:g<w.heap.size:=lt_of_block hg;have Lx:vb<w.heap.size:=hB.lt;have hB':w.heap[vb]? =some (.cells new.toArray TB (0,0)):=hB;have hcell:∀j v,cs[j]? =some v->w.cell? ⟨g,j,none⟩=some v:=fun j v hj=>by
  rw [cell_of_row w g j cur _ _ hg];rw [bU,List.getElem?_take] at hj
  split at hj
  ·simpa using hj
  ·cases hj
 have hold:(Builtin.firstCells i0.size k (.slice (some ⟨g,0,none⟩) k cap)).run prog w.drew= .ok (cs.take (k*15)).toArray w.drew:=by
  rw [hz1]
  exact run_firstCells_some w.drew 15 k ⟨g,0,none⟩ k cap (cs.take (k*15)) (by rw [List.length_take];omega) (fun j v hj=>by
   rw [Addr.add_lit];rw [List.getElem?_take] at hj
   split at hj
   ·rw [Nat.zero_add];exact hcell j v hj
   ·cases hj)
 have hkk:(n:Int)+1-(k:Int)=((n+1-k:Nat):Int):=by omega
 have hik:k+(n+1-k)=n+1:=by omega
 have kX:∀ty,(Builtin.append_ #[26,3] ty #[.slice (some ⟨g,0,none⟩) k cap, .int .i64 ((n:Int)+1-(k:Int))]).run prog w=
  .ok (.slice (some ⟨w.heap.size,0,none⟩) (n+1) (grownCap w (n+1) cap 41)) (w.drew.alloc (.cells ((cs.take (k*15)).toArray++Builtin.zeroCells (Value.cells (.agg #[Value.string ⟨#[]⟩, .int .i64 0, .int .i64 0, .string ⟨#[]⟩, .slice none 0 0, .slice none 0 0, .slice none 0 0, .int .i64 0, .int .i64 0, .string ⟨#[]⟩, .string ⟨#[]⟩, .int .i64 0, .int .i64 0, .int .i64 0, .int .i64 0])) (n+1-k)++Builtin.zeroCells (Value.cells (.agg #[Value.string ⟨#[]⟩, .int .i64 0, .int .i64 0, .string ⟨#[]⟩, .slice none 0 0, .slice none 0 0, .slice none 0 0, .int .i64 0, .int .i64 0, .string ⟨#[]⟩, .string ⟨#[]⟩, .int .i64 0, .int .i64 0, .int .i64 0, .int .i64 0])) (grownCap w (n+1) cap 41-(n+1))) 41)):=fun ty=>by
  have h:=Lib.run_append_grow_zeros w 26 3 ty 41 i0 _ .i64 .i64 underlying26 underlying3 hi hz0 (some ⟨g,0,none⟩) k cap (cs.take (k*15)) hold (n+1-k) (by omega) (by omega) (by omega) (by omega) (by rw [hz2];omega) (by rw [hz2,hik];exact growslice_fits (by omega) (by omega));rw [hik] at h;rw [hkk];exact h
 obtain⟨G,hG⟩:∃G,G=grownCap w (n+1) cap 41:=⟨_,rfl⟩;have yO:n+1<=G:=by rw [hG];exact grownCap_ge w _ _ _
 have rT:G<=maxLen:=by rw [hG];exact grownCap_le_maxLen w (n+1) cap 41 (by unfold maxLen;omega)
 have LA:G<=9223372036854775807:=rT;rw [<-hG] at kX;obtain⟨z1,nQ⟩:∃z1,z1=(Builtin.zeroCells (Value.cells (.agg #[Value.string ⟨#[]⟩, .int .i64 0, .int .i64 0, .string ⟨#[]⟩, .slice none 0 0, .slice none 0 0, .slice none 0 0, .int .i64 0, .int .i64 0, .string ⟨#[]⟩, .string ⟨#[]⟩, .int .i64 0, .int .i64 0, .int .i64 0, .int .i64 0])) (n+1-k)).toList:=⟨_,rfl⟩;obtain⟨z2,nR⟩:∃z2,z2=(Builtin.zeroCells (Value.cells (.agg #[Value.string ⟨#[]⟩, .int .i64 0, .int .i64 0, .string ⟨#[]⟩, .slice none 0 0, .slice none 0 0, .slice none 0 0, .int .i64 0, .int .i64 0, .string ⟨#[]⟩, .string ⟨#[]⟩, .int .i64 0, .int .i64 0, .int .i64 0, .int .i64 0])) (G-(n+1))).toList:=⟨_,rfl⟩;have nS:z1.length=(n+1-k)*15:=by rw [nQ,Array.length_toList,size_zeroCells];simp [Value.cells]
 have rU:z2.length=(G-(n+1))*15:=by rw [nR,Array.length_toList,size_zeroCells];simp [Value.cells]
 obtain⟨c0,hc0⟩:∃c0:List Value,c0=cs.take (k*15)++z1++z2:=⟨_,rfl⟩;have hrow:(cs.take (k*15)).toArray++Builtin.zeroCells (Value.cells (.agg #[Value.string ⟨#[]⟩, .int .i64 0, .int .i64 0, .string ⟨#[]⟩, .slice none 0 0, .slice none 0 0, .slice none 0 0, .int .i64 0, .int .i64 0, .string ⟨#[]⟩, .string ⟨#[]⟩, .int .i64 0, .int .i64 0, .int .i64 0, .int .i64 0])) (n+1-k)++Builtin.zeroCells (Value.cells (.agg #[Value.string ⟨#[]⟩, .int .i64 0, .int .i64 0, .string ⟨#[]⟩, .slice none 0 0, .slice none 0 0, .slice none 0 0, .int .i64 0, .int .i64 0, .string ⟨#[]⟩, .string ⟨#[]⟩, .int .i64 0, .int .i64 0, .int .i64 0, .int .i64 0])) (G-(n+1))=c0.toArray:=by apply Array.toList_inj.1;rw [hc0,nQ,nR];simp
 rw [hrow] at kX;have hlist:=E9 cs new z1 z2 (k*15) (by omega) (by rw [nS,hnew,hcl];omega);simp only at hlist;rw [<-hc0] at hlist;obtain⟨ay,hl2,aS⟩:=hlist;have hl0:c0.length=G*15:=by rw [hc0,List.length_append,List.length_append,nS,rU,List.length_take,hcl];omega
 obtain⟨c1,hc1⟩:∃c1,c1=c0.take (k*15)++new++c0.drop (k*15+new.length):=⟨_,rfl⟩;rw [<-hc1] at ay hl2 aS;have fq:k*15+new.length=(k+1)*15:=by omega
 have nT:∀W:World,(∀b,W.heap[b]? =(w.drew.alloc (.cells c0.toArray 41)).heap[b]?)->W.heap[w.heap.size]? =some (.cells c0.toArray 41 (0,0)):=fun W h=>by rw [h];show (w.heap.push _)[w.heap.size]? =_;simp
 have yP:∀(W:World),(∀b,W.heap[b]? =(w.drew.alloc (.cells c0.toArray 41)).heap[b]?)->∀ty dc,(Builtin.copy_ #[26,26] ty #[.slice (some ⟨w.heap.size,k*15,none⟩) (n+1-k) dc, .slice (some ⟨vb,0,none⟩) 1 vc]).run prog W= .ok (goInt (1:Nat)) (W.setRow w.heap.size c1.toArray):=fun W hW ty dc=>by
  have h:=mF W 26 26 ty 41 15 w.heap.size (k*15) (n+1-k) dc ⟨vb,0,none⟩ 1 vc c0.toArray 41 new 1 underlying26 hsz (by simp only [Nat.min_def];split<;>omega) (nT W hW) (by omega) (fun j v hj=>by
   have yQ:W.heap[vb]? =some (.cells new.toArray TB (0,0)):=by rw [hW];show (w.heap.push _)[vb]? =_;rw [Array.getElem?_push,if_neg (by omega)];exact hB'
   rw [Addr.add_lit,cell_of_row W vb _ _ _ _ yQ];simpa using hj) (by rw [List.size_toArray,hl0,hnew];omega) h1
  simp only [List.toList_toArray] at h;rw [<-hc1] at h;exact h
 have LB:g≠w.heap.size:=by omega
 have nU:∀(W:World),W.heap[w.heap.size]? =some (.cells c1.toArray 41 (0,0))-> (∀b,b<w.heap.size->W.heap[b]? =w.heap[b]?)->∀ty dc sc,(Builtin.copy_ #[26,26] ty #[.slice (some ⟨w.heap.size,(k+1)*15,none⟩) (n-k) dc, .slice (some ⟨g,k*15,none⟩) (n-k) sc]).run prog W= .ok (goInt (n-k:Nat)) (W.setRow w.heap.size (c1.take (k*15+new.length)++cs.drop (k*15)++c1.drop (k*15+new.length+(cs.drop (k*15)).length)).toArray):=fun W hW hO ty dc sc=>by
  have h:=mF W 26 26 ty 41 15 w.heap.size ((k+1)*15) (n-k) dc ⟨g,k*15,none⟩ (n-k) sc c1.toArray 41 (cs.drop (k*15)) (n-k) underlying26 hsz (by simp) hW (by rw [List.length_drop,hcl];omega) (fun j v hj=>by
   have hbg:W.heap[g]? =some (.cells cur 41 (0,0)):=by rw [hO g uJ];exact hg
   rw [List.getElem?_drop] at hj;rw [Addr.add_lit,cell_of_row W g _ _ _ _ hbg,<-cell_of_row w g _ _ _ _ hg]
   exact hcell _ v hj) (by rw [List.size_toArray,aS,hl0,List.length_drop,hcl];omega) (fun v hv=>h1c v (List.mem_of_mem_drop hv))
  simp only [List.toList_toArray] at h;rw [fq];exact h
 obtain⟨c2,hc2⟩:∃c2,c2=c1.take (k*15+new.length)++cs.drop (k*15)++c1.drop (k*15+new.length+(cs.drop (k*15)).length):=⟨_,rfl⟩;rw [<-hc2] at nU ay hl2;have hfin:∀W:World,W.heap[w.heap.size]? =some (.cells c1.toArray 41 (0,0))-> (W.setRow w.heap.size c2.toArray).ownsRow base 41 15 (.slice (some ⟨w.heap.size,0,none⟩) (n+1) G) (n+1) (cs.take (k*15)++new++cs.drop (k*15)):=fun W hW=>by
  refine qC eB (setRow_heap W w.heap.size _ _ 41 _ hW) yO rT ?_ ?_
  ·rw [List.size_toArray,hl2,hl0]
  ·rw [<-ay,hcl,hnew]
   rw [show (n+1)*15=n*15+15 from by omega]
 have rV:∀W:World,W.heap[w.heap.size]? =some (.cells c0.toArray 41 (0,0))-> (W.setRow w.heap.size c1.toArray).heap[w.heap.size]? =some (.cells c1.toArray 41 (0,0)):=fun W hW=>setRow_heap W w.heap.size _ _ 41 _ hW;have mixed:prog.follows Departure.mixedOrders=true:=by kernel_rfl
 have hw1:IntKind.i64.wrap ((k:Int)+1)=(k:Int)+1:=by rw [IntKind.wrap_i64];omega
 have hz3:¬((k:Int)=(n:Int)):=by omega
 have iu:(cap:Int)<(n:Int)+1:=by omega
 have hb1:(0:Int)<= (k:Int)+1:=by omega
 have hin:k<=n:=by omega
 have htn:((k:Int)+1).toNat=k+1:=by omega
 have hb3:(k:Int)<= (n:Int):=by omega
 have LC:¬(G=k):=by omega
 have LD:¬(G=k+1):=by omega
 have lj:¬(cap=k):=by omega
 have hE:∀b:Nat,((w.alloc (.cells c0.toArray 41)).drew).heap[b]? =(w.drew.alloc (.cells c0.toArray 41)).heap[b]? :=fun _=>rfl;have nV:(((w.alloc (.cells c0.toArray 41)).drew.setRow w.heap.size c1.toArray).drew).heap[w.heap.size]? =some (.cells c1.toArray 41 (0,0)):=rV _ (nT _ hE);have rW:∀b,b<w.heap.size-> (((w.alloc (.cells c0.toArray 41)).drew.setRow w.heap.size c1.toArray).drew).heap[b]? =w.heap[b]? :=fun b hb=>by show ((w.drew.alloc (.cells c0.toArray 41)).setRow w.heap.size c1.toArray).heap[b]? =_;rw [setRow_other _ _ _ _ (by omega)];show (w.heap.push _)[b]? =_;rw [Array.getElem?_push,if_neg (by omega)]
 have bK:=nU _ nV rW;have rX:=hfin _ nV;have rY:Ext w ((((w.alloc (.cells c0.toArray 41)).drew.setRow w.heap.size c1.toArray).drew).setRow w.heap.size c2.toArray):=by refine Ext.grown (row:=some w.heap.size) (b:=w.alloc (.cells c0.toArray 41)) ((Ext.refl w).alloc _) ?_ (by simp);exact qD (b:=(w.alloc (.cells c0.toArray 41)).drew.setRow w.heap.size c1.toArray) (mW (jo (w.alloc (.cells c0.toArray 41)).drew w.heap.size c1.toArray)) (mW (jo (((w.alloc (.cells c0.toArray 41)).drew.setRow w.heap.size c1.toArray).drew) w.heap.size c2.toArray))
 have oN:=ae rX;have yR:=ae rY;clear hfin rX rY nU nV rW ay hl2 aS hc1 hc2 hcell bU hcl hg h1c h1 hcs hB hB' fq hold hkk hik nQ nR nS rU hc0 hrow hl0 hG qi nT rV hi hz0 hz1 hz2 hsz;go_enter func84,ntmps84
 go_wp2_with (first
  |(at_builtin;refine Lib.wpList_append_run _ rfl _ _ _ _ rfl _ _ rfl rfl _ _ (kX _) ?_)
  |(at_builtin;refine wpList_copy_runI _ rfl _ _ 26 26 rfl _ _ rfl rfl (yP _ hE _ _) ?_))
 go_region_law_o (refine step_copy_runI rfl _ _ 26 26 rfl (.slice (some ⟨w.heap.size,(k+1)*15,none⟩) (n-k) (G-(k+1))) (.slice (some ⟨g,k*15,none⟩) (n-k) (cap-k)) (by simp [Act.eval,Act.put]) (by simp [Act.eval,Act.put]) (bK _ _ _) ?_)
 go_wp2;go_ret;exact⟨G,rfl,oN.out,yR.out⟩
theorem acV (base n vb vc:Nat) (v:Value) (xs new:List Value) (w:World) (TB:TypeId) (eB:base<=w.heap.size) (hown:w.ownsRow base 41 15 v n xs) (cZ:n<=1073741824)
 (hB:af w vb new.toArray TB) (hnew:new.length=15) (h1:∀u∈new,u.oneCell'=true):
 Calls prog 84 #[v, .int .i64 n, .slice (some ⟨vb,0,none⟩) 1 vc] w fun e w'=>∃g cap,e= .returned (.slice (some ⟨g,0,none⟩) (n+1) cap)/\
  w'.ownsRow base 41 15 (.slice (some ⟨g,0,none⟩) (n+1) cap) (n+1) (xs++new)/\w.grownBy w' v.ownBlock/\ (v.ownBlock=some g\/g=w.heap.size):=by
 obtain⟨i0,hi,hz0,hz1,hz2⟩:=info_parts Tryz.A2;obtain⟨a,c,rfl,hok⟩:=fG hown;have hB':w.heap[vb]? =some (.cells new.toArray TB (0,0)):=hB;have hsl:(a=none/\n=0/\c=0)\/∃g,a=some ⟨g,0,none⟩:=by
  rcases hown.2 with⟨h,h0⟩|⟨g,cap,cur,h,-⟩
  ·simp only [Value.slice.injEq] at h;exact .inl ⟨h.1,h.2.1,h.2.2⟩
  ·simp only [Value.slice.injEq] at h;exact .inr ⟨g,h.1⟩
 have hcell:∀(j:Nat) (u:Value),new[j]? =some u->w.cell? ((⟨vb,0,none⟩:Addr).add j)=some u:=fun j u hj=>by rw [Addr.add_lit,cell_of_row w vb _ _ _ _ hB'];simpa using hj
 have rZ:=ae hcell;have bW:=ae hown;have hnc:=hok.1;have LF:c<=9223372036854775807:=hok.2.1;have hsk:(1:Nat)*15=new.length:=by omega
 clear hcell hown hB' hB hok;rcases hsl with⟨rfl,rfl,rfl⟩|⟨g0,rfl⟩
 ·go_enter func84,ntmps84
  go_wp2_with ((at_builtin;refine wpList_append_lies _ (by rfl) _ _ 26 (by rfl) base 41 i0 _ 15 200 underlying26 hi hz0 hz1 hz2 rfl (by decide) _ _ xs (by rfl) bW.out ⟨vb,0,none⟩ 1 vc new (by rfl) hsk.symm rZ.out h1 (by omega) (by unfold maxLen;omega) (by omega) eB _ rfl ?_;intro g6 bp w6 bz aW bX sU;have gL:=ae bz;have iC:=ae aW;have fF:=ae bX;clear bz aW bX));go_ret;exact⟨g6,bp,rfl,gL.out,iC.out,fF.out⟩
 ·go_enter func84,ntmps84
  go_wp2_with ((at_builtin;refine wpList_append_lies _ (by rfl) _ _ 26 (by rfl) base 41 i0 _ 15 200 underlying26 hi hz0 hz1 hz2 rfl (by decide) _ _ xs (by rfl) bW.out ⟨vb,0,none⟩ 1 vc new (by rfl) hsk.symm rZ.out h1 (by omega) (by unfold maxLen;omega) (by omega) eB _ rfl ?_;intro g6 bp w6 bz aW bX sU;have gL:=ae bz;have iC:=ae aW;have fF:=ae bX;clear bz aW bX))
  all_goals (go_ret;exact⟨g6,bp,rfl,gL.out,iC.out,fF.out⟩)
theorem acW (base n k vb vc:Nat) (v:Value) (xs new:List Value) (w:World) (TB:TypeId) (eB:base<=w.heap.size) (hown:w.ownsRow base 41 15 v n xs) (cZ:n<=1073741824) (hk:k<=n)
 (hB:af w vb new.toArray TB) (hvb:v.ownBlock≠some vb) (hnew:new.length=15) (h1c:∀u∈xs,u.oneCell'=true) (h1:∀u∈new,u.oneCell'=true):
 Calls prog 84 #[v, .int .i64 k, .slice (some ⟨vb,0,none⟩) 1 vc] w fun e w'=>∃g cap,e= .returned (.slice (some ⟨g,0,none⟩) (n+1) cap)/\
  w'.ownsRow base 41 15 (.slice (some ⟨g,0,none⟩) (n+1) cap) (n+1) (xs.take (k*15)++new++xs.drop (k*15))/\w.grownBy w' v.ownBlock/\ (v.ownBlock=some g\/g=w.heap.size):=by
 by_cases hkn:k=n
 ·subst hkn
  have hl:=hown.1;refine(acV base k vb vc v xs new w TB eB hown cZ hB hnew h1).mono ?_;rintro e w' ⟨g,cap,he,h2,h3,h4⟩;refine⟨g,cap,he,?_,h3,h4⟩;rw [List.take_of_length_le (by omega),List.drop_of_length_le (by omega),List.append_nil];exact h2
 ·obtain⟨g,cap,cur,rfl,hb,hg,hnc,hm,hcs,ht⟩:=pz hown (by omega)
  have ht':cur.toList.take (n*15)=xs:=by simpa using ht
  by_cases hroom:n<cap
  ·refine(acT base g n cap k vb vc cur new w TB hb hg hroom hm hcs (by omega) hB (fun e=>hvb (by rw [e];rfl)) hnew (by rw [ht'];exact h1c) h1).mono ?_
   rintro e w' ⟨he,h2,h3⟩;rw [ht'] at h2;exact⟨g,cap,he,h2,h3, .inl rfl⟩
  ·refine(acU base g n cap k vb vc cur new w TB eB hg hnc (by omega) cZ hcs (by omega) hB hnew (by rw [ht'];exact h1c) h1).mono ?_
   rintro e w' ⟨G,he,h2,h3⟩;rw [ht'] at h2;exact⟨w.heap.size,G,he,h2,⟨h3.os,h3.tape,h3.output,h3.size,fun k hk _=>h3.block k hk⟩, .inr rfl⟩
end Go.Proofs.YtlcebdaghmdkeabGreatDoor
