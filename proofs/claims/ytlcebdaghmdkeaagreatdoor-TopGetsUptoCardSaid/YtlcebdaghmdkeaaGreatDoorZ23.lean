import Derived.Test.YtlcebdaghmdkeaaGreatDoorZ8
import Derived.Test.YtlcebdaghmdkeaaGreatDoorZ22
set_option linter.all false
set_option maxRecDepth 100000
set_option maxHeartbeats 64000000
namespace Go.Proofs.YtlcebdaghmdkeaaGreatDoor
open Go.Proofs.Tryz
open Go.RowKit
attribute [local go_sem↓] Go.wp_at_zero Go.wp_at_succ
def Half (w:World) (base:Nat) (S:aA) (v:Value) (l:List V) (k:Nat):Prop:=
 ∃xs,w.ownsRow base 41 5 v l.length xs/\cV w (fR base (fun _=>False) v) (l.take k) (xs.take (k*5))/\cV w S (l.drop k) (xs.drop (k*5))
theorem Half.keep {w w':World} {base:Nat} {S:aA} {v:Value} {l:List V} {k:Nat} (h:Half w base S v l k) (hS:∀b,S b->b<base) (e:Held (fun b=>S b\/base<=b) w w'):Half w' base S v l k:=by
 obtain⟨xs,h1,h2,h3⟩:=h;exact⟨xs,eo h1 (fun b hb he=>e.block b (.inr (h1.lt b he).1) hb),h2.keep (fun b hb hl=>e.block b (.inr (by rcases hb with hb|hb;exact hb.2.elim;exact hb.1)) hl) (fun _ h _=>h),h3.keep (fun b hb hl=>e.block b (.inl hb) hl) (fun _ h _=>h)⟩
theorem Half.item {w:World} {base:Nat} {S:aA} {g c:Nat} {l:List V} {k:Nat} (h:Half w base S (.slice (some ⟨g,0,none⟩) l.length c) l k) (hk:k<l.length):V.Item w S g (k*5) l[k]:=by
 obtain⟨xs,h1,-,h3⟩:=h;rw [List.drop_eq_getElem_cons hk] at h3;obtain⟨ka,kc,la,lc,t,hx,hin,-⟩:=h3.Gy;have hc:=h1.cells (g:=g) rfl;have hq:∀q u,(l[k].five ka kc la lc)[q]? =some u->w.cell? ⟨g,k*5+q,none⟩=some u:=fun q u hq=>by
  have:=hc (k*5+q) u (by rw [<-List.getElem?_drop,hx,List.getElem?_append_left (List.getElem?_eq_some_iff.1 hq).1];exact hq)
  rwa [Addr.add_lit,Nat.zero_add] at this
 exact⟨ka,kc,la,lc,⟨hq 0 _ rfl,hq 1 _ rfl,hq 2 _ rfl,hq 3 _ rfl,hq 4 _ rfl⟩,hin⟩
theorem Half.set {w:World} {base:Nat} {S:aA} {g c:Nat} {l:List V} {k:Nat} (h:Half w base S (.slice (some ⟨g,0,none⟩) l.length c) l k) (hS:∀b,S b->b<base) (hk:k<l.length) (hg:base<=g) {ka:aq} {kc:Nat} {la:aq} {lc:Nat}
 (hx:l[k].In w (fR base (fun _=>False) (.slice (some ⟨g,0,none⟩) l.length c)) ka kc la lc):Half (w.setCells g (k*5) (l[k].five ka kc la lc)) base S (.slice (some ⟨g,0,none⟩) l.length c) l (k+1):=by
 obtain⟨xs,h1,h2,h3⟩:=h;have hl:=h1.1;have h5:(l[k].five ka kc la lc).length=5:=rfl;have hk1:Kept (fun b=>b≠g) w (w.setCells g (k*5) (l[k].five ka kc la lc)):=Held.kept (Held.kA (Held.refl _ _) (fun h=>h rfl) _ _);have hF:∀b,fR base (fun _=>False) (.slice (some ⟨g,0,none⟩) l.length c) b->b≠g:=fun b hb e=>by rcases hb with hb|hb;exact hb.2;exact hb.2 (by rw [e];rfl)
 have ho:=IJ (o:=k*5) (cs:=l[k].five ka kc la lc) h1 (by rw [h5];omega);refine⟨_,ho,?_,?_⟩
 ·rw [List.take_succ_eq_append_getElem hk,List.append_assoc,List.take_append,List.length_take,Nat.min_eq_left (by omega),List.take_take,Nat.min_eq_right (by omega),show (k+1)*5-k*5=5 by omega,List.take_append_of_le_length (by rw [h5];omega),List.take_of_length_le (l:=l[k].five ka kc la lc) (by rw [h5];omega)]
  exact(h2.keep (hk1.mono hF) (fun _ h _=>h)).snoc (hx.keep (hk1.mono hF) (fun _ h _=>h))
 ·have h4:=(h3.cut 1).2
  rw [List.drop_drop,List.drop_drop] at h4;rw [List.append_assoc,List.drop_append,List.length_take,Nat.min_eq_left (by omega),List.drop_of_length_le (l:=xs.take (k*5)) (by rw [List.length_take];omega),show (k+1)*5-k*5=5 by omega,List.nil_append,List.drop_left' h5];exact h4.keep (hk1.mono fun b hb=>by have:=hS b hb;omega) (fun _ h _=>h)
theorem Half.all {w:World} {base:Nat} {S:aA} {v:Value} {l:List V} (h:Half w base S v l l.length):∃a c,v= .slice a l.length c/\aO a l.length c/\Rows w (fun b=>base<=b) l a:=by
 obtain⟨xs,h1,h2,-⟩:=h;rw [List.take_length,List.take_of_length_le (by have:=h1.1;omega)] at h2;obtain⟨a,c,h3,h4,h5,h6⟩:=gN.rows (S:=fun _=>False) ⟨rfl,xs,h1,h2⟩;exact⟨a,c,h3,h4,h6.keep (fun _ _ _=>rfl) fun b hb _=>by rcases hb with hb|hb;exact hb.2.elim;exact hb⟩
theorem Half.block {w:World} {base:Nat} {S:aA} {v:Value} {l:List V} {k:Nat} (h:Half w base S v l k) (hl:0<l.length):∃g c,v= .slice (some ⟨g,0,none⟩) l.length c/\base<=g/\g<w.heap.size/\∀i,w.frozen? ⟨g,i,none⟩=false:=by
 obtain⟨xs,h1,-,-⟩:=h;obtain⟨g,cap,cur,hv,hb,hg,-⟩:=tZ h1 hl;have hB:af w g cur 41:=hg;exact⟨g,cap,hv,hb,hB.lt,hB.free⟩
theorem aeL (m:Nat):∀(x:V) (ka:aq) (kc:Nat) (la:aq) (lc:Nat) (S:aA) (w:World),x.size<=m->x.size<=1073741824->x.In w S ka kc la lc->
 Calls prog 24 #[x.val ka kc la lc] w (qm (fun _=>False) x w):=by
 induction m with
 |zero=>intro x _ _ _ _ _ _ h;have:=x.size_pos;omega
 |succ m ih=>
  intro x ka kc la lc S w hm hsz hin;have Ih:=ae ih;have hl:=x.kI;have hlk:=x.Ae;obtain⟨hko,hlo,hks,hrs⟩:=(V.dD ..).1 (hin.mono (T:=fun b=>S b/\b<w.heap.size) fun b h hl=>⟨h,hl⟩);have Dl:=ae hks;have Kq:=ae hrs;have Hko:=ae hko;have Hlo:=ae hlo;clear ih hin hks hrs hko hlo;go_enter func24,ntmps24;go_upto_region 1 with fail
  refine aI (R:=fun wx=>aD wx w.heap.size x ka kc la lc/\aN wx (w.heap.size+1)/\Ext w wx) ⟨aR,aR,Xt⟩ ?_;rintro wa ⟨ag,ai,aF⟩;have hz1:=ai.lt;have au:∀w',Ext wa w'-> (w'.cell? ⟨w.heap.size,3,none⟩=some (.slice ka x.keys.length kc)/\w'.cell? ⟨w.heap.size,4,none⟩=some (.slice la x.l.length lc)):=fun w' e=>⟨e.cell (ag.cells 3),e.cell (ag.cells 4)⟩;refine fN au (c:=7) (by kernel_rfl) ?_;refine aH 0 [7] (hS:=au _ Xt) (h:= ?_);refine aH 1 [7] (hS:=au _ Xt) (h:= ?_);refine aH 3 [7] (hS:=au _ Xt) (h:= ?_);refine aH 4 [7] (hS:=au _ Xt) (h:= ?_);(try simp only [rl]);refine aM 2 (h:=fun K hK=> ?_);(try simp only [rl]);(try go_simp);(refine(AG x.keys ka _ kc (fun b=>S b/\b<w.heap.size) _ rfl Hko.out (by omega) (Dl.out.ext Xt)).mono ?_);rintro e w1 ⟨a1,c1,rfl,ib,hs1,h1⟩;(try go_simp);have hx1:Ext wa w1:=Xt;have hz2:=hx1.size;have sZ:=ae ib;obtain⟨a1',c1',OB,afl,pj,lY⟩:=hs1.strs
  cases OB
  have Vn:=ae (show bT w1 (fun b=>w.heap.size+2<=b/\b<w1.heap.size) a1 x.keys from lY.keep (fun _ _ _=>rfl) fun b h hl=>⟨by(try simp at h);omega,hl⟩);clear ib hs1 h1 afl pj lY;refine hK.out _ _ (fun _=>au _ Xt) ?_;clear hK K;refine aH 6 [7] (hS:=au _ Xt) (h:= ?_);(try simp only [rl]);refine aM 5 (h:=fun K hK=> ?_);(try simp only [rl]);(try go_simp);(refine(GF x.l la _ lc (fun b=>S b/\b<w.heap.size) _ rfl Hlo.out (by omega) (Kq.out.ext Xt)).mono ?_);rintro e w2 ⟨a2,c2,rfl,gj,hrow2,h2⟩;(try go_simp);have hx2:Ext wa w2:=Xt;have C2:Ext w1 w2:=Xt;have hz3:=C2.size;have NL:=ae gj
  have pB:=ae (show bT w2 (fun b=>w.heap.size+2<=b/\ (Value.slice a2 x.l.length c2).ownBlock≠some b) a1 x.keys from(Vn.out.ext C2).keep (fun _ _ _=>rfl) fun b h _=>⟨h.1,fun he=>by
   obtain⟨ys,h3,-⟩:=hrow2;have:=(h3.lt b he).1
   (try simp at this);omega⟩)
  have px:=ae (show Half w2 (w.heap.size+2) (fun b=>S b/\b<w.heap.size) (.slice a2 x.l.length c2) x.l 0 from by
   obtain⟨ys,h3,h4⟩:=hrow2
   exact⟨ys,qd h3 (by(try simp);omega),by simp [cV],by simpa using h4⟩)
  have EC:=af.ext hx2 ag;have zI:=af.ext hx2 ai;have hlB:=zI.lt;clear gj hrow2 h2;refine hK.out _ _ (fun _=>au _ Xt) ?_;clear hK K;(try simp only [rl]);obtain⟨hc0,aw,hl0⟩:=EC.see;refine aM 7 (h:=fun K hK=> ?_);(try simp only [rl]);go_simp;refine bD hK (h:= ?_);clear hK K;(try simp only [rl]);refine aM 8 (h:=fun K hK=> ?_);(try simp only [rl]);go_simp;refine bD hK (h:= ?_);clear hK K;(try simp only [rl]);refine aM 9 (h:=fun K hK=> ?_);(try simp only [rl]);go_simp;refine bD hK (h:= ?_);clear hK K;(try simp only [rl]);refine dE (by kernel_rfl) ?_ _;go_upto_region 2 with fail
  refine aI (R:=fun wx=>aD wx w.heap.size x a1 c1 a2 c2/\aN wx (w.heap.size+1)/\bT wx (fun b=>w.heap.size+2<=b/\ (Value.slice a2 x.l.length c2).ownBlock≠some b) a1 x.keys/\Half wx (w.heap.size+2) (fun b=>S b/\b<w.heap.size) (.slice a2 x.l.length c2) x.l 0/\Ext w wx) ⟨aR,aR,pB.out.keep ((Held.kept (T:=fun b=>w.heap.size+2<=b) aC).mono fun b h=>h.1) (fun _ h _=>h),px.out.keep (fun b h=>by omega) (by with_reducible repeat (first|exact Held.refl _ _|assumption|apply Held.drew|apply Held.drewN|apply Held.alloc|(refine Held.set ?_ ?_ _;rotate_left;(focus(first|(simp;done)|(simp;omega)|omega)))|(refine Held.ext ?_ (by assumption))|(refine Held.grown ?_ (by assumption) (by assumption))|(refine Held.trans ?_ (by assumption)))),Xt⟩ ?_;clear ag ai EC zI hlB hc0 aw hl0 Vn pB px au aF hx1 hx2 C2;rintro wb ⟨ag,ai,hst,hrow,aP⟩;have aQ:=ae hst;have px:=ae hrow;clear hst hrow;have ahH:=ai.lt;obtain⟨hc0,aw,hl0⟩:=ag.see;go_wp2_with fail
  go_loopg [3,15] x.l.length (fun g _ i wr=>∃k:Nat,k<=x.l.length/\i= .int .i64 k/\g=x.l.length-k/\aD wr w.heap.size x a1 c1 a2 c2/\aN wr (w.heap.size+1)/\bT wr (fun b=>w.heap.size+2<=b/\ (Value.slice a2 x.l.length c2).ownBlock≠some b) a1 x.keys/\Half wr (w.heap.size+2) (fun b=>S b/\b<w.heap.size) (.slice a2 x.l.length c2) x.l k/\Ext w wr)
  case atStart=>exact⟨0,by omega,rfl,rfl,ag,ai,aQ.out,px.out,aP⟩
  case round=>
   clear ag ai hc0 aw hl0 aQ px aP;obtain⟨k,hk,rfl,rfl,ag,ai,hst,hrow,hx⟩:=hrel;have aQ:=ae hst;have px:=ae hrow;have uJ:=ai.lt;clear hst hrow;by_cases hlt:k<x.l.length
   ·obtain⟨g,c,hv,hgb,hgl,hfz⟩:=px.out.block (by omega)
    cases hv
    obtain⟨iC,iD,jc,iE,⟨d0,d1,d2,d3,d4⟩,hin'⟩:=px.out.item hlt;have A4:=ae hin';have cP:=V.qi hlt;have Hm:=ae (show x.l[k].size<=m from by omega);have mh:(0:Int)<= (k:Int):=by omega
    have ml:(k:Int)<(x.l.length:Int):=by omega
    clear hin';obtain⟨hc0,aw,hl0⟩:=ag.see;go_upto_region 5 with fail
    have au:∀w',Ext wr w'-> (w'.cell? ⟨w.heap.size,4,none⟩=some (.slice (some ⟨g,0,none⟩) x.l.length c2)/\w'.cell? ⟨g,k*5,none⟩=some (.int .i64 x.l[k].k)/\w'.cell? ⟨g,k*5+1,none⟩=some (.int .i64 x.l[k].n)/\w'.cell? ⟨g,k*5+2,none⟩=some (.string x.l[k].s)/\w'.cell? ⟨g,k*5+3,none⟩=some (.slice iC x.l[k].keys.length iD)/\w'.cell? ⟨g,k*5+4,none⟩=some (.slice jc x.l[k].l.length iE)):=
     fun w' e=>⟨e.cell (ag.cells 4),e.cell d0,e.cell d1,e.cell d2,e.cell d3,e.cell d4⟩
    refine fN au (c:=10) (by kernel_rfl) ?_;refine aH 0 [10] (hS:=au _ Xt) (h:= ?_);refine aH 1 [10] (hS:=au _ Xt) (h:= ?_);refine aH 2 [10] (hS:=au _ Xt) (h:= ?_);refine aH 3 [10] (hS:=au _ Xt) (h:= ?_);refine aH 4 [10] (hS:=au _ Xt) (h:= ?_);refine aH 5 [10] (hS:=au _ Xt) (h:= ?_);refine aH 6 [10] (hS:=au _ Xt) (h:= ?_);refine aH 7 [10] (hS:=au _ Xt) (h:= ?_);(try simp only [rl]);refine aM 8 (h:=fun K hK=> ?_);(try simp only [rl]);(try go_simp);(refine(Ih.out x.l[k] iC iD jc iE (fun b=>S b/\b<w.heap.size) _ Hm.out (by omega) (A4.out.ext Xt)).mono ?_);rintro e w2 ⟨kb,kd,lb,ld,rfl,bZ,h2⟩;(try go_simp);have hx2:Ext wr w2:=Xt;have hz2:=hx2.size
    have cE:=ae (show x.l[k].In w2 (fR (w.heap.size+2) (fun _=>False) (.slice (some ⟨g,0,none⟩) x.l.length c2)) kb kd lb ld from bZ.mono fun b h _=>by
     rcases h with h|h
     ·exact h.elim
     ·exact .inr ⟨by(try simp at h);omega,fun he=>by cases he;(try simp at h);omega⟩)
    have Vo:=ae (px.out.keep (fun b h=>by omega) (hx2.held _));have pB:=ae (aQ.out.ext hx2);have EC:=af.ext hx2 ag;have zI:=af.ext hx2 ai;have cX:Ext w w2:=hx.trans hx2;have afm:∀i,w2.frozen? ⟨g,i,none⟩=false:=fun i=>by rw [Below.frozen (p:=⟨g,i,none⟩) hx2 hgl];exact hfz i
    have d0:=hx2.cell d0;have d1:=hx2.cell d1;have d2:=hx2.cell d2;have d3:=hx2.cell d3;have d4:=hx2.cell d4;clear bZ h2 hfz;refine hK.out _ _ (fun _=>au _ Xt) ?_;clear hK K;refine aH 9 [10] (hS:=au _ Xt) (h:= ?_);(try simp only [rl]);refine aM 10 (h:=fun K hK=> ?_);(try simp only [rl]);go_simp;refine bD hK (h:= ?_);clear hK K;(try simp only [rl]);refine dE (by kernel_rfl) ?_ _;obtain⟨wj,iy⟩:∃wj,w2.setCells g (k*5) (x.l[k].five kb kd lb ld)=wj:=⟨_,rfl⟩;have A6:aD wj w.heap.size x a1 c1 (some ⟨g,0,none⟩) c2:=by rw [<-iy];exact EC.nG (by omega) _ _
    have hj1:aN wj (w.heap.size+1):=by rw [<-iy];exact zI.nG (by omega) _ _
    have hst:bT wj (fun b=>w.heap.size+2<=b/\ (Value.slice (some ⟨g,0,none⟩) x.l.length c2).ownBlock≠some b) a1 x.keys:=by rw [<-iy];exact pB.out.keep ((Held.kept (T:=fun b=>b≠g) (Held.kA (Held.refl _ _) (fun h=>h rfl) _ _)).mono fun b h e=>h.2 (by rw [e];rfl)) (fun _ h _=>h)
    have hrow:=Vo.out.set (fun b h=>by omega) hlt hgb cE.out;have xy:=cX.kA (g:=g) (by omega) (k*5) (x.l[k].five kb kd lb ld);rw [iy] at hrow xy;have aQ:=ae hst;have px:=ae hrow;have sW:=ae iy;clear hst hrow iy pB Vo cE afm d0 d1 d2 d3 d4;go_upto_region 6 with fail
    refine aI (R:=fun wy=>wy=wj) sW.out ?_;clear sW EC zI hx2 cX au hc0 aw hl0 ag ai;rintro wy rfl;go_wp2_with fail;go_roundg (x.l.length-(k+1))
    case measure=>omega
    case rel=>exact⟨k+1,by omega,by go_num,rfl,A6,hj1,aQ.out,px.out,xy⟩
   ·obtain rfl:k=x.l.length:=by omega
    obtain⟨a3,c3,hv,gK,Vp⟩:=px.out.all
    cases hv
    have NM:=ae gK;have afn:=ae Vp;have cx:=ai.lt;clear gK Vp;obtain⟨hc0,aw,hl0⟩:=ag.see;obtain⟨hc1,aB,az⟩:=ai.see;go_wp2_with fail;refine aG (h:= ?_);exact⟨a1,c1,a2,c2,rfl,(V.dD ..).2 ⟨sZ.out,NM.out,aQ.out.keep ((Held.kept (T:=fun b=>w.heap.size+2<=b) aC).mono fun b h=>h.1) (fun b h _=> .inr (by omega)),afn.out.keep (Held.kept (T:=fun b=>w.heap.size+2<=b) aC) (fun b h _=> .inr (by omega))⟩,Xt⟩
theorem aeJ (a:aq) (n c:Nat) (news:List Value) (w:World) (hok:aO a n c) (hbig:n<=1073741824) (hl:news.length=n*2) (hsrc:n=0\/∃ad,a=some ad/\∀j u,news[j]? =some u->w.cell? (ad.add j)=some u) (h1:∀u∈news,u.oneCell'=true):
 Calls prog 25 #[.slice a n c] w fun e w'=>∃a' c',e= .returned (.slice a' n c')/\aO a' n c'/\w'.ownsRow w.heap.size 69 2 (.slice a' n c') n news/\Ext w w':=by
 obtain⟨i0,hi,hz0,hz1,hz2⟩:=info_parts Tryz.DG;have Rx:∀(w:World) (a:aq) (n c n' c':Nat),(binOp .eql 42 (.slice a n c) (.slice none n' c')).run prog w= .ok (.bool a.isNone) w:=fun w a n c n' c'=>Lib.run_eql_slice_nil w _ _ a n c n' c' underlying42
 cases a with
 |none=>
  obtain rfl:=hok.2.2 rfl;obtain rfl:n=0:=by have:=hok.1;omega
  obtain rfl:news= []:=List.eq_nil_of_length_eq_zero (by simpa using hl);clear hok hl hsrc h1;go_enter func25,ntmps25;go_wp2_with fail;go_ret;exact⟨none,0,rfl,aO.nil,World.ownsRow_nil _ _ _ _,Ext.refl _⟩
 |some ad=>
  have hc:∀j u,news[j]? =some u->w.cell? (ad.add j)=some u:=by
   rcases hsrc with h0|⟨Ry,he,h⟩
   ·subst h0
    obtain rfl:news= []:=List.eq_nil_of_length_eq_zero (by simpa using hl);intro j u hj;simp at hj
   ·simp only [Option.some.injEq] at he;subst he;exact h
  have Hc:=ae hc;have Hl:=ae hl;clear hc hsrc hl;have h63:n<=maxLen:=by unfold maxLen;omega
  go_enter func25,ntmps25;go_wp2_with (at_builtin;refine wpList_append_own _ rfl _ _ 42 rfl w.heap.size 69 i0 _ 2 40 underlying42 hi hz0 hz1 hz2 rfl (by decide) _ _ _ rfl (World.ownsRow_made w #[] 0 (Nat.le_refl _) (Nat.zero_le _) (by simp)) ad n c news rfl ?qc1 ?qc2 ?qc3 ?qc4 ?qc5 ?qc6 ?_)
  case qc1=>exact Hl.out
  case qc2=>
   intro j u hj;exact Lib.cell?_alloc_some _ (Hc.out j u hj)
  case qc3=>exact h1
  case qc4=>rw [Nat.zero_add];exact h63
  case qc5=>rw [Nat.zero_add];omega
  case qc6=>simp
  intro v' w1 hown hgrow hnil;obtain⟨a',c',rfl,nE⟩:=gU hown;go_wp2;go_ret;refine⟨a',c',by simp,by simpa using nE,by simpa using hown,?_⟩;exact((Below.refl _ w).alloc (Nat.le_refl _) _).grown hgrow (by simp) (by intro k hk;simp [Value.ownBlock] at hk;omega)
theorem dI.cut {w:World} {T:aA} {l:List Ow} {xs:List Value} (h:dI w T l xs) (k:Nat):dI w T (l.take k) (xs.take (k*2))/\dI w T (l.drop k) (xs.drop (k*2)):=by
 induction l generalizing xs k with
 |nil=>subst h;simp [dI]
 |cons y r ih=>
  match k with
  |0=>simpa [dI] using h
  |k+1=>
   obtain⟨a,b,t,rfl,h1,h2⟩:=h;obtain⟨h3,h4⟩:=ih h2 k;rw [show (k+1)*2=k*2+1+1 by omega];exact⟨⟨a,b,_,rfl,h1,h3⟩,h4⟩
def jl (w:World) (base:Nat) (S:aA) (v:Value) (l:List Ow) (k:Nat):Prop:=
 ∃xs,w.ownsRow base 69 2 v l.length xs/\dI w (fR base (fun _=>False) v) (l.take k) (xs.take (k*2))/\dI w S (l.drop k) (xs.drop (k*2))
theorem jl.keep {w w':World} {base:Nat} {S:aA} {v:Value} {l:List Ow} {k:Nat} (h:jl w base S v l k) (e:Held (fun b=>S b\/base<=b) w w'):jl w' base S v l k:=by
 obtain⟨xs,h1,h2,h3⟩:=h;exact⟨xs,eo h1 (fun b hb he=>e.block b (.inr (h1.lt b he).1) hb),h2.keep (fun b hb hl=>e.block b (.inr (by rcases hb with hb|hb;exact hb.2.elim;exact hb.1)) hl) (fun _ h _=>h),h3.keep (fun b hb hl=>e.block b (.inl hb) hl) (fun _ h _=>h)⟩
theorem jl.item {w:World} {base:Nat} {S:aA} {g c:Nat} {l:List Ow} {k:Nat} (h:jl w base S (.slice (some ⟨g,0,none⟩) l.length c) l k) (hk:k<l.length):
 ∃pa pc,w.cell? ⟨g,k*2,none⟩=some (.string l[k].name)/\w.cell? ⟨g,k*2+1,none⟩=some (.slice pa l[k].paths.length pc)/\aO pa l[k].paths.length pc/\bT w S pa l[k].paths:=by
 obtain⟨xs,h1,-,h3⟩:=h;rw [List.drop_eq_getElem_cons hk] at h3;obtain⟨pa,pc,t,hx,hin,-⟩:=h3;have hc:=h1.cells (g:=g) rfl;have hq:∀q u,([Value.string l[k].name, .slice pa l[k].paths.length pc]++t)[q]? =some u->w.cell? ⟨g,k*2+q,none⟩=some u:=fun q u hq=>by
  have:=hc (k*2+q) u (by rw [<-List.getElem?_drop,hx];exact hq)
  rwa [Addr.add_lit,Nat.zero_add] at this
 exact⟨pa,pc,hq 0 _ rfl,hq 1 _ rfl,hin.1,hin.2⟩
theorem jl.set {w:World} {base:Nat} {S:aA} {g c:Nat} {l:List Ow} {k:Nat} (h:jl w base S (.slice (some ⟨g,0,none⟩) l.length c) l k) (hS:∀b,S b->b<base) (hk:k<l.length) (hg:base<=g) {pa:aq} {pc:Nat}
 (hok:aO pa l[k].paths.length pc) (hx:bT w (fR base (fun _=>False) (.slice (some ⟨g,0,none⟩) l.length c)) pa l[k].paths):jl (w.setCell ⟨g,k*2+1,none⟩ (.slice pa l[k].paths.length pc)) base S (.slice (some ⟨g,0,none⟩) l.length c) l (k+1):=by
 obtain⟨xs,h1,h2,h3⟩:=h;have hl:=h1.1;have hk1:Kept (fun b=>b≠g) w (w.setCell ⟨g,k*2+1,none⟩ (.slice pa l[k].paths.length pc)):=Held.kept (Held.set (Held.refl _ _) (fun h=>h rfl) _);have hF:∀b,fR base (fun _=>False) (.slice (some ⟨g,0,none⟩) l.length c) b->b≠g:=fun b hb e=>by rcases hb with hb|hb;exact hb.2;exact hb.2 (by rw [e];rfl)
 have ho:(w.setCell ⟨g,k*2+1,none⟩ (.slice pa l[k].paths.length pc)).ownsRow base 69 2 (.slice (some ⟨g,0,none⟩) l.length c) l.length _:=IJ (o:=k*2+1) (cs:= [.slice pa l[k].paths.length pc]) h1 (by simp only [List.length_cons,List.length_nil];omega);have h4:=(h3.cut 1).2;rw [List.drop_eq_getElem_cons hk] at h3;obtain⟨pa0,pc0,t,hx0,ki,h5⟩:=h3;rw [List.drop_drop,List.drop_drop] at h4;have e1:xs.take (k*2+1)=xs.take (k*2)++ [Value.string l[k].name]:=by rw [List.take_add,hx0];rfl
 have hlt:(xs.take (k*2)).length=k*2:=by rw [List.length_take];omega
 have e2:xs.take (k*2+1)++ [Value.slice pa l[k].paths.length pc]=xs.take (k*2)++ [Value.string l[k].name, .slice pa l[k].paths.length pc]:=by rw [e1,List.append_assoc];rfl
 have hl2:(xs.take (k*2)++ [Value.string l[k].name, .slice pa l[k].paths.length pc]).length=(k+1)*2:=by rw [List.length_append,hlt];simp;omega
 refine⟨_,ho,?_,?_⟩
 ·rw [e2,List.take_left' hl2,List.take_succ_eq_append_getElem hk]
  exact(h2.keep (hk1.mono hF) (fun _ h _=>h)).app (.one hok (hx.keep (hk1.mono hF) (fun _ h _=>h)))
 ·rw [e2,List.drop_left' hl2]
  exact h4.keep (hk1.mono fun b hb=>by have:=hS b hb;omega) (fun _ h _=>h)
theorem jl.block {w:World} {base:Nat} {S:aA} {v:Value} {l:List Ow} {k:Nat} (h:jl w base S v l k) (hl:0<l.length):∃g c,v= .slice (some ⟨g,0,none⟩) l.length c/\base<=g/\g<w.heap.size/\∀i,w.frozen? ⟨g,i,none⟩=false:=by
 obtain⟨xs,h1,-,-⟩:=h;obtain⟨g,cap,cur,hv,hb,hg,-⟩:=tZ h1 hl;have hB:af w g cur 69:=hg;exact⟨g,cap,hv,hb,hB.lt,hB.free⟩
theorem jl.all {w:World} {base:Nat} {S:aA} {v:Value} {l:List Ow} (h:jl w base S v l l.length):∃a c,v= .slice a l.length c/\aO a l.length c/\cz w (fun b=>base<=b) l a:=by
 obtain⟨xs,h1,h2,-⟩:=h;rw [List.take_length,List.take_of_length_le (by have:=h1.1;omega)] at h2;obtain⟨a,c,h3,h4,h5,h6⟩:=kz.rows (S:=fun _=>False) ⟨rfl,xs,h1,h2⟩;exact⟨a,c,h3,h4,h6.keep (fun _ _ _=>rfl) fun b hb _=>by rcases hb with hb|hb;exact hb.2.elim;exact hb⟩
theorem jl.nil {w:World} {base:Nat} {S:aA} {l:List Ow} {a:aq} {c n:Nat} {xs:List Value} (hn:l.length=n) (h:w.ownsRow base 69 2 (.slice a n c) n xs) (hc:dI w S l xs):jl w base S (.slice a n c) l 0:=by
 subst hn;exact⟨xs,h,by simp [dI],by simpa using hc⟩
def pL (w:World) (base:Nat) (v:Value) (n:Nat) (l:List Th):Prop:=
 l.length=n/\∃xs,w.ownsRow base 46 15 v n xs/\fU w (fR base (fun _=>False) v) l xs
theorem pL.nil (w:World) (base:Nat):pL w base (.slice none 0 0) 0 []:=⟨rfl, [],World.ownsRow_nil _ _ _ _,rfl⟩
theorem pL.ext {w w':World} {base:Nat} {v:Value} {n:Nat} {l:List Th} (h:pL w base v n l) (e:Ext w w'):pL w' base v n l:=by
 obtain⟨h0,xs,h1,h2⟩:=h;exact⟨h0,xs,eT h1 e,h2.keep (e.kept _) (fun _ h _=>h)⟩
theorem pL.form {w:World} {base:Nat} {v:Value} {n:Nat} {l:List Th} (h:pL w base v n l):∃a c,v= .slice a n c/\aO a n c:=by
 obtain⟨-,xs,h1,-⟩:=h;exact gU h1
def fT (w:World) (S:aA) (l:List Th) (a:aq):Prop:=
 ∃xs,(l= []\/∃b,a=some ⟨b,0,none⟩/\S b/\b<w.heap.size/\∀j u,xs[j]? =some u->w.cell? ⟨b,j,none⟩=some u)/\fU w S l xs
theorem pL.ay {w:World} {base:Nat} {v:Value} {n:Nat} {l:List Th} (h:pL w base v n l):∃a c,v= .slice a n c/\aO a n c/\l.length=n/\fT w (fun b=>base<=b) l a:=by
 obtain⟨h0,xs,h1,h2⟩:=h;have h3:=h2.keep (T:=fun b=>base<=b) (fun _ _ _=>rfl) (fun b hb _=>by rcases hb with hb|hb;exact hb.2.elim;exact hb.1);obtain⟨a,c,rfl,hok⟩:=gU h1;refine⟨a,c,rfl,hok,h0,xs,?_,h3⟩;rcases h1.2 with⟨-,hn⟩|⟨g,cap,cur,hv,hb,hg,-,-,-,ht⟩
 ·exact .inl (List.length_eq_zero_iff.1 (by omega))
 ·cases hv
  have hB:af w g cur 46:=hg;refine .inr ⟨g,rfl,hb,hB.lt,fun j u hj=> ?_⟩;have:=h1.cells (g:=g) rfl j u hj
  rwa [Addr.add_lit,Nat.zero_add] at this
theorem fT.ext {w w':World} {S:aA} {l:List Th} {a:aq} (h:fT w S l a) (e:Ext w w'):fT w' S l a:=by
 obtain⟨xs,h1,h2⟩:=h;refine⟨xs,?_,h2.keep (e.kept _) (fun _ h _=>h)⟩;rcases h1 with h1|⟨b,h3,h4,h5,h6⟩
 ·exact .inl h1
 ·exact .inr ⟨b,h3,h4,Nat.lt_of_lt_of_le h5 e.size,fun j u hj=>e.cell (h6 j u hj)⟩
theorem fT.at {w:World} {S:aA} {l:List Th} {a:aq} (h:fT w S l a) {i:Nat} (hi:i<l.length):∃b ka kc la lc oa oc,a=some ⟨b,0,none⟩/\S b/\b<w.heap.size/\ (∀q u,(l[i].cells ka kc la lc oa oc)[q]? =some u->w.cell? ⟨b,i*15+q,none⟩=some u)/\kG w S l[i] ka kc la lc oa oc:=by
 obtain⟨xs,h1,h2⟩:=h;obtain⟨b,h3,h4,h5,h6⟩:=h1.resolve_left (by intro e;rw [e] at hi;simp at hi);obtain⟨ka,kc,la,lc,oa,oc,h7,h8⟩:=h2.at hi;refine⟨b,ka,kc,la,lc,oa,oc,h3,h4,h5,fun q u hq=> ?_,h8⟩;rw [<-h7,List.getElem?_take] at hq
 split at hq
 ·rw [List.getElem?_drop] at hq;exact h6 _ _ hq
 ·cases hq
theorem aeS {wr W:World} {ops:Array Oper} {rest:List Oper} {o:Oper} {a:Act} {Q:Exit->Act->World->Prop} {base n:Nat} {vl:Value} {l:List Th} {x:Th} {ka:aq} {kc:Nat} {la:aq} {lc:Nat} {oa:aq} {oc:Nat} (hgd:o.guard=none) (B:Nat) {s t:Operand}
 (ho:o.op= .call {callee:= .builtin .append,args:= #[s,t],argTypes:= #[29,29]}) (hs:a.eval s=vl) (hx:a.eval t= .slice (some ⟨B,0,none⟩) 1 1)
 (hI:pL wr base vl n l) (e:Ext wr W) (hv:kG W (fun b=>wr.heap.size<=b) x ka kc la lc oa oc) (hB:af W B (x.cells ka kc la lc oa oc).toArray 46) (hn:n<=1073741824) (hbase:base<=wr.heap.size)
 (h:∀g cap w',pL w' base (.slice (some ⟨g,0,none⟩) (n+1) cap) (n+1) (l++ [x])->W.grownBy w' vl.ownBlock->Held (fun b=>b<base) W w'->wpList prog ops Q rest (a.put o.dst (.slice (some ⟨g,0,none⟩) (n+1) cap)) w'):wpList prog ops Q (o::rest) a W:=by
 obtain⟨j0,hj,hy0,hy1,hy2⟩:=info_parts Tryz.BX;obtain⟨hl0,xs,qC,wN⟩:=hI;refine wpList_plain hgd fun _ hK=>wp_append_lies _ s t _ ho base 46 j0 _ 15 200 underlying29 hj hy0 hy1 hy2 rfl (by decide) vl n xs hs (eT qC e) ⟨B,0,none⟩ 1 1 (x.cells ka kc la lc oa oc) hx (by rfl) (World.news_of_block (cs:=(x.cells ka kc la lc oa oc).toArray) (t:=46) (fr:=(0,0)) hB) (Th.IQ x ka kc la lc oa oc) (by omega) (by unfold maxLen;omega) (by omega) (Nat.le_trans hbase e.size) _ rfl ?_;intro g cap w' hown hgrow hat hlt;have BH:∀b,vl.ownBlock=some b->base<=b/\b<wr.heap.size:=fun b hb=>qC.lt b hb;have hxs:=e.size;have hk1:Kept (fun b=>vl.ownBlock≠some b) W w':=fun b hb hl=>hgrow.block b hl (fun he=>hb he.symm);have hT:∀b,fR base (fun _=>False) vl b->b<W.heap.size->fR base (fun _=>False) (Value.slice (some ⟨g,0,none⟩) (n+1) cap) b:=fun b hb hl=>by
  rcases hb with hb|hb
  ·exact hb.2.elim
  ·refine .inr ⟨hb.1,fun he=> ?_⟩
   have hg:g=b:=by simpa [Value.ownBlock] using he
   subst hg;rcases hat with hat|hat
   ·exact hb.2 hat
   ·omega
 have qZ:∀b,wr.heap.size<=b->b<W.heap.size->fR base (fun _=>False) (Value.slice (some ⟨g,0,none⟩) (n+1) cap) b:=fun b hb hl=> .inr ⟨by omega,fun he=>by
  have hg:g=b:=by simpa [Value.ownBlock] using he
  subst hg;rcases hat with hat|hat
  ·have:=(BH _ hat).2;omega
  ·omega⟩
 refine hK _ _ (h g cap w' ⟨by simp [hl0],_,hown,?_⟩ hgrow (Held.grown (Held.refl _ _) hgrow (fun q hq hT=>by have:=(BH q hq).1;omega)));refine((wN.keep (e.kept _) (fun _ h _=>h)).keep (hk1.mono fun b hb=>by rcases hb with hb|hb;exact hb.2.elim;exact hb.2) hT).app ⟨ka,kc,la,lc,oa,oc, [],by simp,hv.keep (hk1.mono fun b hb he=>by have:=(BH b he).2;omega) qZ,rfl⟩
theorem aeI (l:List Ow) (a:aq) (n c:Nat) (S:aA) (w:World) (hn:l.length=n) (hok:aO a n c) (hbig:n<=1073741824) (hl:cz w S l a):
 Calls prog 25 #[.slice a n c] w fun e w'=>∃a' c',e= .returned (.slice a' n c')/\aO a' n c'/\jl w' w.heap.size S (.slice a' n c') l 0/\Ext w w':=by
 subst hn;obtain⟨xs,h0,h1,h2⟩:=aaZ hl;refine(aeJ a l.length c xs w hok hbig h0 h1 h2.ones).mono ?_;rintro e w' ⟨a',c',rfl,h3,h4,h5⟩;exact⟨a',c',rfl,h3, .nil rfl h4 (h2.keep (h5.kept _) (fun _ h _=>h)),h5⟩
theorem kG.ext {S:aA} {w w':World} {t:Th} {ka:aq} {kc:Nat} {la:aq} {lc:Nat} {oa:aq} {oc:Nat} (h:kG w S t ka kc la lc oa oc) (e:Ext w w'):kG w' S t ka kc la lc oa oc:=h.keep (e.kept S) (fun _ h _=>h)
theorem jl.base {w:World} {b0 b1:Nat} {S:aA} {v:Value} {l:List Ow} (h:jl w b1 S v l 0) (hb:b0<=b1):jl w b0 S v l 0:=by
 obtain⟨xs,h1,h2,h3⟩:=h;exact⟨xs,qd h1 hb,by simp [dI],h3⟩
theorem jl.own {w:World} {b0:Nat} {S:aA} {v:Value} {l:List Ow} {k:Nat} (h:jl w b0 S v l k):∀b,v.ownBlock=some b->b0<=b/\b<w.heap.size:=by
 obtain⟨xs,h1,-,-⟩:=h;exact h1.lt
theorem pK (P:aA) (r:Nat) (s:Sv) (w:World) (h:Sat w P r s) (zf:s.ay.length<=8) (hi:∀t∈s.ay,t.v.size<=14640/\cN t.ows<=1800000):
 Calls prog 11 #[.pointer (some ⟨r,0,none⟩)] w fun e w'=>∃a c,e= .returned (.slice a s.ay.length c)/\aO a s.ay.length c/\fT w' (fun b=>w.heap.size<=b) s.ay a/\Ext w w':=by
 obtain⟨v,xs,h⟩:=h;have H:=ae h.old;have Hi:=ae hi;obtain⟨va,vc,hv,aeK⟩:=gU h.own;subst hv;have ag:=h.box;have hr:=h.box.lt;clear h hi aeK;obtain⟨hc0,aw,hl0⟩:=ag.see;go_enter func11,ntmps11;go_wp2_with fail
 go_loopg [3,5,6,14] s.ay.length (fun g t3 _ _ i wr=>∃k:Nat,k<=s.ay.length/\i= .int .i64 k/\g=s.ay.length-k/\Hid (pL wr w.heap.size t3 k (s.ay.take k))/\Ext w wr)
 case atStart=>exact⟨0,by omega,rfl,rfl,ae (pL.nil _ _),Xt⟩
 case round=>
  obtain⟨k,hk,rfl,rfl,HO,hx⟩:=hrel;obtain⟨wo,rfl⟩:∃x,x=wr:=⟨_,rfl⟩;by_cases hlt:k<s.ay.length
  ·obtain⟨g,c,ka,kc,la,lc,oa,oc,hv,hgl,hgr,vN,hlc,hcs,hin⟩:=H.out.thing hlt
   cases hv
   obtain⟨hsz,ji⟩:=Hi.out _ (List.getElem_mem hlt);have hxk:∀j,k+1=j->s.ay.take j=s.ay.take k++ [s.ay[k]]:=fun j e=>by rw [<-e,List.take_succ_eq_append_getElem hlt]
   have Hxk:=ae hxk;have mh:(0:Int)<= (k:Int):=by omega
   have ml:(k:Int)<(s.ay.length:Int):=by omega
   obtain⟨z,hz⟩:∃z,s.ay[k]=z:=⟨_,rfl⟩;rw [hz] at hcs hsz hin ji;have aJ:=ae (show kG w (fun b=>b<w.heap.size) z ka kc la lc oa oc from hin.keep (fun _ _ _=>rfl) fun b h _=>h.1.2);have CM:=ae ji;have ahy:z.ows.length<=1800000:=Nat.le_trans (ym _) ji;have Hz:=ae hz;have J7:=hx.size;have d0:wo.cell? ⟨g,k*15,none⟩=some (.string z.name):=hx.cell (hcs 0 _ rfl).1;have d1:=hx.cell (hcs 1 _ rfl).1;have d2:=hx.cell (hcs 2 _ rfl).1;have d3:=hx.cell (hcs 3 _ rfl).1;have d4:=hx.cell (hcs 4 _ rfl).1;have d5:=hx.cell (hcs 5 _ rfl).1;have d6:=hx.cell (hcs 6 _ rfl).1;have d7:=hx.cell (hcs 7 _ rfl).1;have d8:=hx.cell (hcs 8 _ rfl).1;have d9:=hx.cell (hcs 9 _ rfl).1;have d10:=hx.cell (hcs 10 _ rfl).1;have d11:=hx.cell (hcs 11 _ rfl).1;have d12:=hx.cell (hcs 12 _ rfl).1;have d13:=hx.cell (hcs 13 _ rfl).1;have d14:=hx.cell (hcs 14 _ rfl).1;clear hcs hin hxk ji hz;go_upto_region 7 with fail
   refine aI (R:=fun wx=>fx wx wo.heap.size z ka kc la lc oa oc/\Ext wo wx) ⟨aj,Xt⟩ ?_;clear d0 d1 d2 d3 d4 d5 d6 d7 d8 d9 d10 d11 d12 d13 d14;rintro wb ⟨ai,aP⟩;have hz1:=ai.lt;obtain⟨hc1,aB,az⟩:=ai.see;go_wp2_with fail;(refine(aeL z.v.size z.v ka kc la lc (fun b=>b<w.heap.size) _ (Nat.le_refl _) (by omega) (aJ.out.v.ext Xt)).mono ?_);rintro e w2 ⟨kb,kd,lb,ld,rfl,hv2,h2⟩;have hx2:Ext wb w2:=Xt;have hy2:=hx2.size;have Us:=ae (show z.v.In w2 (fun b=>wo.heap.size<b/\b<w2.heap.size) kb kd lb ld from hv2.mono fun b h hl=>⟨by rcases h with h|h;exact h.elim;omega,hl⟩);have ak:=ai.ext hx2;clear hv2 h2 hc1 aB az ai;obtain⟨hc2,hf2,hl2⟩:=ak.see;go_upto_region 8 with fail
   refine aI (R:=fun wx=>fx wx wo.heap.size z kb kd lb ld oa oc/\z.v.In wx (fun b=>wo.heap.size<b/\b<w2.heap.size) kb kd lb ld/\w2.heap.size<=wx.heap.size/\Ext wo wx) ⟨aR,Us.out.keep (Held.kept (T:=fun b=>wo.heap.size<b/\b<w2.heap.size) aC) (fun _ h _=>h),by simp,Xt⟩ ?_;clear Us ak hy2 hx2 aP hc2 hf2 hl2 hz1;rintro wc ⟨bK,hv3,hy3,fC⟩;have Ut:=ae hv3;have hz3:=bK.lt;clear hv3;obtain⟨hc3,hf3,aS⟩:=bK.see;go_wp2_with fail;(refine(aeI z.ows oa _ oc (fun b=>b<w.heap.size) _ rfl aJ.out.ok (by omega) (aJ.out.ows.ext Xt)).mono ?_);rintro e w4 ⟨a4,c4,rfl,AV,Nn,h4⟩;have bX:Ext wc w4:=Xt;have hy4:=bX.size;have GR:=ae AV;have hs4:=Nn.own;have Uu:=ae (show z.v.In w4 (fun b=>wo.heap.size<b/\ (Value.slice a4 z.ows.length c4).ownBlock≠some b) kb kd lb ld from(Ut.out.ext bX).mono fun b h _=>⟨h.1,fun he=>by have:=(hs4 b he).1;(try simp at this);omega⟩);have Uv:=ae (show jl w4 (wo.heap.size+1) (fun b=>b<w.heap.size) (.slice a4 z.ows.length c4) z.ows 0 from Nn.base (by(try simp);omega));have hB4:=bK.ext bX;clear AV Nn h4 hs4 hc3 hf3 aS bK Ut;obtain⟨vp,AZ,hl4⟩:=hB4.see;go_upto_region 9 with fail
   refine aI (R:=fun wx=>fx wx wo.heap.size z kb kd lb ld a4 c4/\z.v.In wx (fun b=>wo.heap.size<b/\ (Value.slice a4 z.ows.length c4).ownBlock≠some b) kb kd lb ld/\jl wx (wo.heap.size+1) (fun b=>b<w.heap.size) (.slice a4 z.ows.length c4) z.ows 0/\Ext wo wx) ⟨aR,Uu.out.keep (Held.kept (T:=fun b=>wo.heap.size<b/\ (Value.slice a4 z.ows.length c4).ownBlock≠some b) aC) (fun _ h _=>h),Uv.out.keep (by with_reducible repeat (first|exact Held.refl _ _|assumption|apply Held.drew|apply Held.drewN|apply Held.alloc|(refine Held.set ?_ ?_ _;rotate_left;(focus(first|(simp;done)|(simp;omega)|omega)))|(refine Held.ext ?_ (by assumption))|(refine Held.grown ?_ (by assumption) (by assumption))|(refine Held.trans ?_ (by assumption)))),Xt⟩ ?_;clear Uu Uv hB4 hy4 bX fC vp AZ hl4 hz3 hy3;rintro wd ⟨jd,qo,Uw,iM⟩;have Ux:=ae qo;have Uy:=ae Uw;clear qo Uw;obtain⟨yZ,hf5,hl5⟩:=jd.see;go_wp2_with fail
   go_loopg [6,29] z.ows.length (fun g _ i wx=>∃j:Nat,j<=z.ows.length/\i= .int .i64 j/\g=z.ows.length-j/\fx wx wo.heap.size z kb kd lb ld a4 c4/\Hid (z.v.In wx (fun b=>wo.heap.size<b/\ (Value.slice a4 z.ows.length c4).ownBlock≠some b) kb kd lb ld)/\Hid (jl wx (wo.heap.size+1) (fun b=>b<w.heap.size) (.slice a4 z.ows.length c4) z.ows j)/\Ext wo wx)
   case atStart=>exact⟨0,by omega,rfl,rfl,jd,Ux,Uy,iM⟩
   case round=>
    clear jd yZ hf5 hl5 Ux Uy iM;obtain⟨j,hj,rfl,rfl,bH,Np,Et,jO⟩:=hrel;by_cases hjl:j<z.ows.length
    ·obtain⟨g2,c2,hv,hgb,aeM,hfz⟩:=Et.out.block (by omega)
     cases hv
     obtain⟨pa,pc,e0,e1,CP,hps⟩:=Et.out.item hjl;have aeN:=ae CP;have nz:=ae hps;have aeO:(0:Int)<= (j:Int):=by omega
     have aeP:(j:Int)<(z.ows.length:Int):=by omega
     have hpl:z.ows[j].paths.length<=1800000:=by have h1:=Ow.tL z.ows[j];have h2:=tK (List.getElem_mem hjl);have h3:=CM.out;omega
     have Co:=bH.lt;clear CP hps;obtain⟨jR,jS,jT⟩:=bH.see;go_upto_region 12 with fail
     have au:∀w',Ext wr w'-> (w'.cell? ⟨wo.heap.size,6,none⟩=some (.slice (some ⟨g2,0,none⟩) z.ows.length c4)/\w'.cell? ⟨g2,j*2+1,none⟩=some (.slice pa z.ows[j].paths.length pc)):=fun w' e=>⟨e.cell (bH.cells 6),e.cell e1⟩;refine fN au (c:=12) (by kernel_rfl) ?_;refine aH 0 [12] (hS:=au _ Xt) (h:= ?_);refine aH 1 [12] (hS:=au _ Xt) (h:= ?_);refine aH 2 [12] (hS:=au _ Xt) (h:= ?_);refine aH 3 [12] (hS:=au _ Xt) (h:= ?_);refine aH 4 [12] (hS:=au _ Xt) (h:= ?_);refine aH 5 [12] (hS:=au _ Xt) (h:= ?_);refine aH 6 [12] (hS:=au _ Xt) (h:= ?_);refine aH 7 [12] (hS:=au _ Xt) (h:= ?_);refine aH 8 [12] (hS:=au _ Xt) (h:= ?_);(try simp only [rl]);refine aM 9 (h:=fun K hK=> ?_);(try simp only [rl]);(try go_simp);(refine(AG z.ows[j].paths pa _ pc (fun b=>b<w.heap.size) _ rfl aeN.out (by omega) (nz.out.ext Xt)).mono ?_);rintro e w7 ⟨a7,c7,rfl,Uz,fH,h7⟩;(try go_simp);have bR:Ext wr w7:=Xt;have hy7:=bR.size;obtain⟨a7',c7',kK,aeQ,hn7,UA⟩:=fH.strs
     cases kK
     have UB:=ae Uz
     have kX:=ae (show bT w7 (fR (wo.heap.size+1) (fun _=>False) (.slice (some ⟨g2,0,none⟩) z.ows.length c4)) a7 z.ows[j].paths from UA.keep (fun _ _ _=>rfl) fun b h _=> .inr ⟨by(try simp at h);omega,fun he=>by
      have hg:g2=b:=by simpa [Value.ownBlock] using he
      (try simp at h);omega⟩)
     have UC:=ae (Et.out.keep (bR.held _));have UD:=ae (Np.out.ext bR);have dJ:=af.ext bR bH;have aeR:∀i,w7.frozen? ⟨g2,i,none⟩=false:=fun i=>by rw [Below.frozen (p:=⟨g2,i,none⟩) bR aeM];exact hfz i
     have e1:=bR.cell e1;have Eu:Ext wo w7:=jO.trans bR;clear Uz fH h7 aeQ hn7 UA hfz;refine hK.out _ _ (fun _=>au _ Xt) ?_;clear hK K;refine aH 10 [11,12] (hS:=au _ Xt) (h:= ?_);refine aH 11 [12] (hS:=au _ Xt) (h:= ?_);(try simp only [rl]);refine aM 12 (h:=fun K hK=> ?_);(try simp only [rl]);go_simp;refine bD hK (h:= ?_);clear hK K;(try simp only [rl]);refine dE (by kernel_rfl) ?_ _;obtain⟨wj,iy⟩:∃wj,w7.setCell ⟨g2,j*2+1,none⟩ (.slice a7 z.ows[j].paths.length c7)=wj:=⟨_,rfl⟩;have A6:fx wj wo.heap.size z kb kd lb ld (some ⟨g2,0,none⟩) c4:=by rw [<-iy];exact dJ.other (p:=⟨g2,j*2+1,none⟩) (show wo.heap.size≠g2 by omega) _
     have hv:z.v.In wj (fun b=>wo.heap.size<b/\ (Value.slice (some ⟨g2,0,none⟩) z.ows.length c4).ownBlock≠some b) kb kd lb ld:=by rw [<-iy];exact UD.out.keep ((Held.kept (T:=fun b=>b≠g2) (Held.set (Held.refl _ _) (fun h=>h rfl) _)).mono fun b hb e=>hb.2 (by rw [e];rfl)) (fun _ h _=>h)
     have ho:jl wj (wo.heap.size+1) (fun b=>b<w.heap.size) (.slice (some ⟨g2,0,none⟩) z.ows.length c4) z.ows (j+1):=by rw [<-iy];exact UC.out.set (fun b hb=>by omega) hjl hgb UB.out kX.out
     have xy:Ext wo wj:=by rw [<-iy];exact Xt
     have Hv:=ae hv;have Ho:=ae ho;have sW:=ae iy;clear hv ho iy UD UC kX UB dJ aeR bR Eu au e0 e1 jR jS jT bH;go_upto_region 13 with fail
     refine aI (R:=fun wy=>wy=wj) sW.out ?_;clear sW;rintro wy rfl;go_wp2_with fail;go_roundg (z.ows.length-(j+1))
     case measure=>omega
     case rel=>exact⟨j+1,by omega,by go_num,rfl,A6,Hv,Ho,xy⟩
    ·obtain rfl:j=z.ows.length:=by omega
     obtain⟨a3,c3,hv,gK,UE⟩:=Et.out.all
     cases hv
     have HT:=ae (show kG wr (fun b=>wo.heap.size<=b) z kb kd lb ld a4 c4 from⟨Np.out.mono fun b h _=>by omega,gK,UE.mono fun b h _=>by omega⟩);have Co:=bH.lt;have wA:=hx.size;clear gK UE Np Et;obtain⟨jR,jS,jT⟩:=bH.see;go_upto_region 15 with(at_builtin;refine aeS (by rfl) wr.heap.size (by rfl) (by rfl) (by rfl) HO.out Xt (HT.out.ext Xt) aj (by omega) wA ?_;intro g3 Bb w3 lH jU B6)
     have hx3:Ext w w3:=Ext.grown (Ext.trans hx (show Ext wo _ from Xt)) jU (fun q hq=>by obtain⟨-,xs,h1,-⟩:=HO.out;have:=(h1.lt q hq).1;omega);have D4:=ae (show pL w3 w.heap.size (.slice (some ⟨g3,0,none⟩) (k+1) Bb) (k+1) (s.ay.take (k+1)) from by rw [Hxk.out (k+1) rfl,Hz.out];exact lH);clear jU B6 HO HT lH;go_wp2_with fail;go_roundg (s.ay.length-(k+1))
     case measure=>omega
     case rel=>exact⟨k+1,by omega,by go_num,rfl,D4,hx3⟩
  ·obtain rfl:k=s.ay.length:=by omega
   have ho:=HO.out;rw [List.take_length] at ho;obtain⟨a,c,hv,hok,-,ht⟩:=ho.ay
   cases hv
   have dv:=ae hok;have Ht:=ae ht;clear ho hok ht HO;go_wp2_with fail;go_ret;exact⟨a,c,rfl,dv.out,Ht.out.ext Xt,Xt⟩
theorem agv (ks js:List ah) (a1 a2:aq) (n1 n2 c1 c2:Nat) (S1 S2:aA) (w:World) (h1:bT w S1 a1 ks) (h2:bT w S2 a2 js) (e1:ks.length=n1) (e2:js.length=n2) (hl:ks.length<=1073741824):
 Calls prog 58 #[.slice a1 n1 c1, .slice a2 n2 c2] w (zr (ks=js) w):=by
 subst e1;subst e2;by_cases hne:ks.length=js.length
 ·have hnb:((ks.length:Int) !=(js.length:Int))=false:=by simp [hne]
  have dW:=ae hne;clear hne;go_enter func58,ntmps58;go_wp2_with fail
  go_loopg [5,13] ks.length (fun g _ i wr=>∃k:Nat,k<=ks.length/\i= .int .i64 k/\g=ks.length-k/\Hid (ks.take k=js.take k)/\Ext w wr)
  case atStart=>exact⟨0,by omega,rfl,rfl,ae (by simp),Ext.refl _⟩
  case round=>
   obtain⟨k,hk,rfl,rfl,xu,hx⟩:=hrel;by_cases hlt:k<ks.length
   ·have zR:k<js.length:=by have:=dW.out;omega
    obtain⟨b1,o1,rfl,hS1,hc1⟩:=h1.resolve_left (by intro h;rw [h] at hlt;simp at hlt);obtain⟨b2,o2,rfl,uP,hc2⟩:=h2.resolve_left (by intro h;rw [h] at zR;simp at zR);have d0:=hx.cell (hc1 k hlt);have d1:=hx.cell (hc2 k zR);have mh:(0:Int)<= (k:Int):=by omega
    have ml:(k:Int)<(ks.length:Int):=by omega
    have Fe:(k:Int)<(js.length:Int):=by omega
    have I3:=ae (List.take_succ_eq_append_getElem hlt);have um:=ae (List.take_succ_eq_append_getElem zR);clear hc1 hc2 h1 h2;by_cases he:ks[k]=js[k]
    ·have hb:=qA he
     have He:=ae he;clear he;go_wp2_with fail
     go_quiet (fail)
     go_wp2_with fail;go_roundg (ks.length-(k+1))
     case measure=>omega
     case rel=>exact⟨k+1,by omega,by go_num,rfl,ae (by rw [I3.out,um.out,xu.out,He.out]),Xt⟩
    ·have hb:=tP he
     have He:=ae he;clear he;go_wp2_with fail
     go_quiet (fail)
     go_wp2_with fail;go_ret;exact⟨_,rfl,⟨fun h=>by(first|cases h|simp at h),fun h=>absurd (by subst h;rfl) He.out⟩,Xt⟩
   ·have cF:=ae (show ks=js by
     have:=xu.out
     rwa [List.take_of_length_le (by omega),List.take_of_length_le (by have:=dW.out;omega)] at this)
    clear h1 h2;go_wp2_with fail;go_ret;exact⟨_,rfl,⟨fun _=>cF.out,fun _=>rfl⟩,Xt⟩
 ·have hnb:((ks.length:Int) !=(js.length:Int))=true:=by simp;omega
  have dW:=ae hne;clear hne;go_enter func58,ntmps58;go_wp2_with fail;go_ret;exact⟨_,rfl,⟨fun h=>by(first|cases h|simp at h),fun h=>absurd (by rw [h]) dW.out⟩,Xt⟩
theorem agw (l m:List Ow) (a1 a2:aq) (n1 n2 c1 c2:Nat) (S1 S2:aA) (w:World) (h1:cz w S1 l a1) (h2:cz w S2 m a2) (e1:l.length=n1) (e2:m.length=n2) (hl:cN l<=1073741824):
 Calls prog 36 #[.slice a1 n1 c1, .slice a2 n2 c2] w (zr (l=m) w):=by
 subst e1;subst e2;have hll:=ym l;have Hl:=ae hl;by_cases hne:l.length=m.length
 ·have hnb:((l.length:Int) !=(m.length:Int))=false:=by simp [hne]
  have dW:=ae hne;have H1:=ae h1;have H2:=ae h2;clear hne h1 h2;go_enter func36,ntmps36;go_wp2_with fail
  go_loopg [5,13] l.length (fun g _ i wr=>∃k:Nat,k<=l.length/\i= .int .i64 k/\g=l.length-k/\Hid (l.take k=m.take k)/\Ext w wr)
  case atStart=>exact⟨0,by omega,rfl,rfl,ae (by simp),Ext.refl _⟩
  case round=>
   obtain⟨k,hk,rfl,rfl,xu,hx⟩:=hrel;by_cases hlt:k<l.length
   ·have zR:k<m.length:=by have:=dW.out;omega
    obtain⟨b1,o1,rfl,hS1,pa,pc,d0,d1,hs1,hst⟩:=(H1.out.ext hx).item hlt;obtain⟨b2,o2,rfl,uP,qa,qc,e0,e1,hs2,hsu⟩:=(H2.out.ext hx).item zR;have mh:(0:Int)<= (k:Int):=by omega
    have ml:(k:Int)<(l.length:Int):=by omega
    have Fe:(k:Int)<(m.length:Int):=by omega
    have I3:=ae (List.take_succ_eq_append_getElem hlt);have um:=ae (List.take_succ_eq_append_getElem zR);have br:=Ow.tL l[k];have Iu:=tK (List.getElem_mem hlt);obtain⟨x,hex⟩:∃x,l[k]=x:=⟨_,rfl⟩;obtain⟨y,Oj⟩:∃y,m[k]=y:=⟨_,rfl⟩;rw [hex] at d0 d1 hst I3 br Iu;rw [Oj] at e0 e1 hsu um;have yK:x.paths.length<=1073741824:=by omega
    have aQ:=ae hst;have Hsu:=ae hsu;have Ws:=ae hex;have Wt:=ae Oj;clear hst hsu hex Oj hs1 hs2 br Iu;by_cases he:x.name=y.name
    ·have hb:=qA he
     have He:=ae he;clear he;go_upto_region 6 with fail
     have au:∀w',Ext wr w'-> (w'.cell? ⟨b1,o1+k*2,none⟩=some (.string x.name)/\w'.cell? ⟨b1,o1+k*2+1,none⟩=some (.slice pa x.paths.length pc)/\w'.cell? ⟨b2,o2+k*2,none⟩=some (.string y.name)/\w'.cell? ⟨b2,o2+k*2+1,none⟩=some (.slice qa y.paths.length qc)):=fun w' e=>⟨e.cell (d0),e.cell (d1),e.cell (e0),e.cell (e1)⟩;refine pk au (by kernel_rfl) (au _ Xt) (fun hHeld=> ?_);refine aK 0 (h:= ?_);refine aK 1 (h:= ?_);refine aK 2 (h:= ?_);refine aK 3 (h:= ?_);refine aK 4 (h:= ?_);refine aK 5 (h:= ?_);refine aK 6 (h:= ?_);refine aK 7 (h:= ?_);refine aK 8 (h:= ?_);refine aK 9 (h:= ?_);refine aK 10 (h:= ?_);refine aK 11 (h:= ?_);refine aK 12 (h:= ?_);refine aK 13 (h:= ?_);refine aK 14 (h:= ?_);refine aK 15 (h:= ?_);refine aK 16 (h:= ?_);refine aK 17 (h:= ?_);refine aK 18 (h:= ?_);refine aK 19 (h:= ?_);refine aK 20 (h:= ?_);refine aK 21 (h:= ?_);(try simp only [rl]);refine kv 22 (h:=fun K hK=> ?_);(try simp only [rl]);(try go_simp);(refine(agv x.paths y.paths pa qa _ _ pc qc S1 S2 _ (aQ.out.ext Xt) (Hsu.out.ext Xt) rfl rfl (by omega)).mono ?_);rintro e w2 ⟨b,rfl,hr,Wu⟩;have Hr:=ae hr;clear hr;(try go_simp);refine hK.out _ _ (au _ Xt) (fun hHeld=> ?_);clear hK K;(try simp only [rl]);refine aK 23 (h:= ?_);refine aK 24 (h:= ?_);(try simp only [rl]);refine wpAnyH_done (by kernel_rfl) ?_ _
     cases b with
     |true=>
      have Hxy:=ae (show x=y by have h3:=Hr.out.1 rfl;have h4:=He.out;cases x;cases y;simp_all);go_wp2_with fail;go_roundg (l.length-(k+1))
      case measure=>omega
      case rel=>exact⟨k+1,by omega,by go_num,rfl,ae (by rw [I3.out,um.out,xu.out,Hxy.out]),Xt⟩
     |false=>
      go_wp2_with fail;go_ret
      exact⟨_,rfl,⟨fun h=>by(first|cases h|simp at h),fun h=>by
       have h3:x=y:=by have h5:=Ws.out;have h6:=Wt.out;subst h;rw [<-h5,<-h6]
       have:=Hr.out.2 (by rw [h3])
       cases this⟩,Xt⟩
    ·have hb:=tP he
     have He:=ae he;clear he;go_upto_region 6 with fail
     have au:∀w',Ext wr w'-> (w'.cell? ⟨b1,o1+k*2,none⟩=some (.string x.name)/\w'.cell? ⟨b1,o1+k*2+1,none⟩=some (.slice pa x.paths.length pc)/\w'.cell? ⟨b2,o2+k*2,none⟩=some (.string y.name)/\w'.cell? ⟨b2,o2+k*2+1,none⟩=some (.slice qa y.paths.length qc)):=fun w' e=>⟨e.cell (d0),e.cell (d1),e.cell (e0),e.cell (e1)⟩;refine pk au (by kernel_rfl) (au _ Xt) (fun hHeld=> ?_);refine aK 0 (h:= ?_);refine aK 1 (h:= ?_);refine aK 2 (h:= ?_);refine aK 3 (h:= ?_);refine aK 4 (h:= ?_);refine aK 5 (h:= ?_);refine aK 6 (h:= ?_);refine aK 7 (h:= ?_);refine aK 8 (h:= ?_);refine aK 9 (h:= ?_);refine aK 10 (h:= ?_);refine aK 11 (h:= ?_);refine cO 12 (h:= ?_);refine cO 13 (h:= ?_);refine cO 14 (h:= ?_);refine cO 15 (h:= ?_);refine cO 16 (h:= ?_);refine cO 17 (h:= ?_);refine cO 18 (h:= ?_);refine cO 19 (h:= ?_);refine cO 20 (h:= ?_);refine cO 21 (h:= ?_);refine cO 22 (h:= ?_);refine cO 23 (h:= ?_);refine aK 24 (h:= ?_);(try simp only [rl]);refine wpAnyH_done (by kernel_rfl) ?_ _;go_wp2_with fail;go_ret
     exact⟨_,rfl,⟨fun h=>by(first|cases h|simp at h),fun h=>by
      have h3:x=y:=by have h5:=Ws.out;have h6:=Wt.out;subst h;rw [<-h5,<-h6]
      exact absurd (by rw [h3]) He.out⟩,Xt⟩
   ·have cF:=ae (show l=m by
     have:=xu.out
     rwa [List.take_of_length_le (by omega),List.take_of_length_le (by have:=dW.out;omega)] at this)
    go_wp2_with fail;go_ret;exact⟨_,rfl,⟨fun _=>cF.out,fun _=>rfl⟩,Xt⟩
 ·have hnb:((l.length:Int) !=(m.length:Int))=true:=by simp;omega
  have dW:=ae hne;clear hne h1 h2;go_enter func36,ntmps36;go_wp2_with fail;go_ret;exact⟨_,rfl,⟨fun h=>by(first|cases h|simp at h),fun h=>absurd (by rw [h]) dW.out⟩,Xt⟩
end Go.Proofs.YtlcebdaghmdkeaaGreatDoor
namespace Go.Proofs.YtlcebdaghmdkeaaGreatDoor
open Go.Proofs.Tryz
open Go.ChangeShapes Go.WideShapes Go.ChangeAt Go.RowKit Go.Deep Go.Joins
open Go.ChangeMaps (open_string shut_string)
theorem Tryz.O2:prog.cellsOf 24=8:=by kernel_rfl
def uN (w:World) (b o:Nat) (x:Ac):Prop:=
 w.cell? ⟨b,o,none⟩=some (.int .i64 x.k)/\w.cell? ⟨b,o+1,none⟩=some (.string x.name)/\w.cell? ⟨b,o+2,none⟩=some (.string x.who)/\w.cell? ⟨b,o+3,none⟩=some (.string x.body)/\
 w.cell? ⟨b,o+4,none⟩=some (.int .i64 x.ver)/\w.cell? ⟨b,o+5,none⟩=some (.int .i64 x.n)/\w.cell? ⟨b,o+6,none⟩=some (.int .i64 x.ord)/\w.cell? ⟨b,o+7,none⟩=some (.bool x.force)
def jL (w:World) (S:aA) (l:List Ac) (a:aq):Prop:=
 l= []\/∃b o,a=some ⟨b,o,none⟩/\S b/\∀i (h:i<l.length),uN w b (o+i*8) l[i]
theorem uN.keep {S:aA} {w w':World} {b o:Nat} {x:Ac} (h:uN w b o x) (hk:Kept S w w') (hS:S b):uN w' b o x:=by
 obtain⟨h0,h1,h2,h3,h4,h5,h6,h7⟩:=h;exact⟨hk.cell hS h0,hk.cell hS h1,hk.cell hS h2,hk.cell hS h3,hk.cell hS h4,hk.cell hS h5,hk.cell hS h6,hk.cell hS h7⟩
theorem jL.keep {S:aA} {w w':World} {l:List Ac} {a:aq} (h:jL w S l a) (hk:Kept S w w'):jL w' S l a:=by
 rcases h with h|⟨b,o,rfl,hS,hr⟩
 ·exact .inl h
 ·exact .inr ⟨b,o,rfl,hS,fun i hi=>(hr i hi).keep hk hS⟩
theorem jL.mono {w:World} {S T:aA} {l:List Ac} {a:aq} (h:jL w S l a) (hT:∀b,S b->T b):jL w T l a:=by
 rcases h with h|⟨b,o,rfl,hS,hr⟩
 ·exact .inl h
 ·exact .inr ⟨b,o,rfl,hT b hS,hr⟩
def Ac.size (x:Ac):Nat:=1+x.name.size+x.who.size+x.body.size
def iJ (l:List Ac):Nat:=(l.map Ac.size).sum
theorem Ff (l:List Ac):l.length<=iJ l:=Ck Ac.size (fun x=>by unfold Ac.size;omega) l
theorem Jz {l:List Ac} {o:Ac} (h:o∈l):o.size<=iJ l:=vX Ac.size h
theorem O3 {H:Type} {enc:TypeId×Value->H} {w:World} {base:Nat} {spare:Nat->Bool} {held:Bool} {fuel:Nat} {cs:List Value} {x:DataW H×List MemPlace}
 (h:DataW.trod enc prog w base spare held fuel 24 cs=some x):∃o:Ac,cs= [.int .i64 o.k, .string o.name, .string o.who, .string o.body, .int .i64 o.ver, .int .i64 o.n, .int .i64 o.ord, .bool o.force]/\o.size<=Rows.uptoBulk x.1:=by
 obtain⟨xs,n,rfl,hx,hcl,hxl,hall⟩:=DataW.trod_struct underlying24 h;rw [Tryz.O2] at hcl
 match cs,hcl with
 | [c0,c1,c2,c3,c4,c5,c6,c7],_=>
   match xs,hxl with
   | [x0,x1,x2,x3,x4,x5,x6,x7],_=>
     have t0:DataW.trod enc prog w base spare held n 3 [c0]=some x0:=hall 0 _ rfl;have t1:DataW.trod enc prog w base spare held n 9 [c1]=some x1:=hall 1 _ rfl;have t2:DataW.trod enc prog w base spare held n 9 [c2]=some x2:=hall 2 _ rfl;have t3:DataW.trod enc prog w base spare held n 9 [c3]=some x3:=hall 3 _ rfl;have t4:DataW.trod enc prog w base spare held n 3 [c4]=some x4:=hall 4 _ rfl;have t5:DataW.trod enc prog w base spare held n 3 [c5]=some x5:=hall 5 _ rfl;have t6:DataW.trod enc prog w base spare held n 3 [c6]=some x6:=hall 6 _ rfl;have t7:DataW.trod enc prog w base spare held n 4 [c7]=some x7:=hall 7 _ rfl;obtain⟨i0,e0,-,-⟩:=DataW.trod_int underlying3 t0;obtain⟨s1,e1,f1,-⟩:=DataW.trod_string underlying9 t1;obtain⟨s2,e2,f2,-⟩:=DataW.trod_string underlying9 t2;obtain⟨s3,e3,f3,-⟩:=DataW.trod_string underlying9 t3;obtain⟨i4,e4,-,-⟩:=DataW.trod_int underlying3 t4;obtain⟨i5,e5,-,-⟩:=DataW.trod_int underlying3 t5;obtain⟨i6,e6,-,-⟩:=DataW.trod_int underlying3 t6;obtain⟨b7,e7,-⟩:=DataW.trod_bool underlying4 t7;have h1:s1.size+1=Rows.uptoBulk x1.1:=by rw [f1];simp only [Rows.uptoBulk,Array.length_toList];rfl
     have h2:s2.size+1=Rows.uptoBulk x2.1:=by rw [f2];simp only [Rows.uptoBulk,Array.length_toList];rfl
     have h3:s3.size+1=Rows.uptoBulk x3.1:=by rw [f3];simp only [Rows.uptoBulk,Array.length_toList];rfl
     simp only [List.cons.injEq,and_true] at e0 e1 e2 e3 e4 e5 e6 e7;subst e0 e1 e2 e3 e4 e5 e6 e7;have agK:Rows.uptoBulk x.1=Rows.uptoBulk x0.1+(Rows.uptoBulk x1.1+(Rows.uptoBulk x2.1+(Rows.uptoBulk x3.1+(Rows.uptoBulk x4.1+(Rows.uptoBulk x5.1+(Rows.uptoBulk x6.1+(Rows.uptoBulk x7.1+0)))))))+1:=by rw [hx];simp only [Rows.uptoBulk,O4,List.map_cons,List.map_nil,List.sum_cons,List.sum_nil]
     exact⟨⟨i0,s1,s2,s3,i4,i5,i6,b7⟩,rfl,by unfold Ac.size;simp only;omega⟩
theorem Ak {H:Type} {enc:TypeId×Value->H} {w:World} {base:Nat} {spare:Nat->Bool} {held:Bool} {fuel:Nat} {c:Value} {x:DataW H×List MemPlace}
 (h:DataW.trod enc prog w base spare held fuel 22 [c]=some x):∃a cap l,c= .slice a l.length cap/\aO a l.length cap/\jL w (Old w) l a/\iJ l+1<=Rows.uptoBulk x.1:=by
 rcases DataW.trod_slice underlying22 h with⟨hc,hy⟩|⟨a,len,cap,elems,rest,k,hk,hc,hy,hb,hl,hm,hlen,hel,-,-⟩
 ·simp only [List.cons.injEq,and_true] at hc
  exact⟨none,0, [],hc,aO.nil, .inl rfl,by have:=Xn x.1;simpa [iJ] using this⟩
 ·simp only [List.cons.injEq,and_true] at hc
  subst hc;obtain⟨b,o,sp⟩:=a;simp only at hb hm hel
  have took:∀i,i<len->∃(cs':List Value) (v:Ac),w.cells? base ((⟨b,o,sp⟩:Addr).add (i*8)) 8=some cs'/\cs'= [.int .i64 v.k, .string v.name, .string v.who, .string v.body, .int .i64 v.ver, .int .i64 v.n, .int .i64 v.ord, .bool v.force]/\
   (∀hi:i<elems.length,v.size<=Rows.uptoBulk (elems[i]).1):=by
   intro i hi;have he:=hel i hi;rw [List.getElem?_eq_getElem (by omega),Tryz.O2] at he;obtain⟨cs',h1,h2⟩:=Option.bind_eq_some_iff.1 he;obtain⟨v,hcs,hv⟩:=O3 h2;exact⟨cs',v,h1,hcs,fun _=>hv⟩
  have hsp:0<len->sp=none:=by intro h;obtain⟨cs',v,h1,rfl,-⟩:=took 0 h;obtain⟨_,_,hcell⟩:=World.cells?_some h1;have:=World.cell?_spot (hcell 0 (by omega));simpa [Addr.add] using this
  have each:∀i,i<len->∃v:Ac,uN w b (o+i*8) v/\sp=none/\b<w.heap.size/\ (∀hi:i<elems.length,v.size<=Rows.uptoBulk (elems[i]).1):=by intro i hi;have Xo:=hsp (by omega);subst Xo;obtain⟨cs',v,h1,rfl,hv⟩:=took i hi;obtain⟨_,_,hcell⟩:=World.cells?_some h1;have g:=fun j (hj:j<8)=>hcell j hj;simp only [Addr.add_lit] at g;have g0:=g 0 (by omega);have g1:=g 1 (by omega);have g2:=g 2 (by omega);have g3:=g 3 (by omega);have g4:=g 4 (by omega);have g5:=g 5 (by omega);have g6:=g 6 (by omega);have g7:=g 7 (by omega);simp only [Nat.add_zero,List.getElem?_cons_zero,List.getElem?_cons_succ] at g0 g1 g2 g3 g4 g5 g6 g7;have hlt:=lu g0;exact⟨v,⟨g0,g1,g2,g3,g4,g5,g6,g7⟩,rfl,hlt,hv⟩
  obtain⟨l,az,hl2⟩:=Xp each;subst az;refine⟨some ⟨b,o,sp⟩,cap,l,rfl,⟨hl,hm,by simp⟩,?_,?_⟩
  ·by_cases h0:l= []
   ·exact .inl h0
   ·have hpos:=List.length_pos_iff.2 h0
    obtain⟨-,hsp,hlt,-⟩:=hl2 0 hpos;subst hsp;exact .inr ⟨b,o,rfl,hlt,fun i hi=>(hl2 i hi).1⟩
  ·have hle:(l.map Ac.size).sum<= ((elems.map (·.1)).map Rows.uptoBulk).sum:=by
    have h2:∀i (hi:i<l.length) (hj:i<elems.length),(l[i]).size<=Rows.uptoBulk (elems[i]).1:=fun i hi hj=>(hl2 i hi).2.2.2 hj;exact Xq l (elems.map (·.1)) Ac.size Rows.uptoBulk (by simp [hlen]) (fun i hi hj=>by have:=h2 i hi (by simpa using hj);simpa using this)
   have:x.1= .slice (elems.map (·.1)) (rest.map (·.1)):=by rw [hy]
   rw [this];unfold iJ;simp only [Rows.uptoBulk,O4];omega
theorem O5 {H:Type} {enc:TypeId×Value->H} {w:World} {base b0:Nat} {spare:Nat->Bool} {held:Bool} {r:Reach} {v:Value} {d:DataW H} {p:List MemPlace}
 (hv:Value.okWide prog w r b0 24 v) (h:DataW.Trod enc prog w base spare held 24 v d p):∃x:Ac,v= .agg #[.int .i64 x.k, .string x.name, .string x.who, .string x.body, .int .i64 x.ver, .int .i64 x.n, .int .i64 x.ord, .bool x.force]/\x.size<=Rows.uptoBulk d:=by
 obtain⟨cs,rfl,hsz⟩:=okWide_struct underlying24 hv;obtain⟨fuel,hf⟩:=h;obtain⟨x,hc,hs⟩:=O3 hf;refine⟨x,?_,hs⟩;simp only [Value.cells] at hc;rw [<-hc]
end Go.Proofs.YtlcebdaghmdkeaaGreatDoor
