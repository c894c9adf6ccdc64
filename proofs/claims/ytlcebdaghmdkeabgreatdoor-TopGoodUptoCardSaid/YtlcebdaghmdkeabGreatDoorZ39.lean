import Derived.Test.YtlcebdaghmdkeabGreatDoorZ10
import Derived.Test.YtlcebdaghmdkeabGreatDoorZ14
import Derived.Test.YtlcebdaghmdkeabGreatDoorZ17
set_option linter.all false
set_option maxRecDepth 100000
set_option maxHeartbeats 64000000
namespace Go.Proofs.YtlcebdaghmdkeabGreatDoor
open Go.Proofs.Tryz
open Go.RowKit
attribute [local go_sem↓] Go.wp_at_zero Go.wp_at_succ
def Half (w:World) (base:Nat) (S:az) (v:Value) (l:List V) (k:Nat):Prop:=
 ∃xs,w.ownsRow base 36 5 v l.length xs/\cQ w (fX base (fun _=>False) v) (l.take k) (xs.take (k*5))/\cQ w S (l.drop k) (xs.drop (k*5))
theorem Half.keep {w w':World} {base:Nat} {S:az} {v:Value} {l:List V} {k:Nat} (h:Half w base S v l k) (hS:∀b,S b->b<base) (e:Held (fun b=>S b\/base<=b) w w'):Half w' base S v l k:=by
 obtain⟨xs,h1,h2,h3⟩:=h;exact⟨xs,dX h1 (fun b hb he=>e.block b (.inr (h1.lt b he).1) hb),h2.keep (fun b hb hl=>e.block b (.inr (by rcases hb with hb|hb;exact hb.2.elim;exact hb.1)) hl) (fun _ h _=>h),h3.keep (fun b hb hl=>e.block b (.inl hb) hl) (fun _ h _=>h)⟩
theorem Half.item {w:World} {base:Nat} {S:az} {g c:Nat} {l:List V} {k:Nat} (h:Half w base S (.slice (some ⟨g,0,none⟩) l.length c) l k) (hk:k<l.length):V.Item w S g (k*5) l[k]:=by
 obtain⟨xs,h1,-,h3⟩:=h;rw [List.drop_eq_getElem_cons hk] at h3;obtain⟨ka,kc,la,lc,t,hx,hin,-⟩:=h3.Gm;have hc:=h1.cells (g:=g) rfl;have hq:∀q u,(l[k].five ka kc la lc)[q]? =some u->w.cell? ⟨g,k*5+q,none⟩=some u:=fun q u hq=>by
  have:=hc (k*5+q) u (by rw [<-List.getElem?_drop,hx,List.getElem?_append_left (List.getElem?_eq_some_iff.1 hq).1];exact hq)
  rwa [Addr.add_lit,Nat.zero_add] at this
 exact⟨ka,kc,la,lc,⟨hq 0 _ rfl,hq 1 _ rfl,hq 2 _ rfl,hq 3 _ rfl,hq 4 _ rfl⟩,hin⟩
theorem Half.set {w:World} {base:Nat} {S:az} {g c:Nat} {l:List V} {k:Nat} (h:Half w base S (.slice (some ⟨g,0,none⟩) l.length c) l k) (hS:∀b,S b->b<base) (hk:k<l.length) (hg:base<=g) {ka:au} {kc:Nat} {la:au} {lc:Nat}
 (hx:l[k].In w (fX base (fun _=>False) (.slice (some ⟨g,0,none⟩) l.length c)) ka kc la lc):Half (w.setCells g (k*5) (l[k].five ka kc la lc)) base S (.slice (some ⟨g,0,none⟩) l.length c) l (k+1):=by
 obtain⟨xs,h1,h2,h3⟩:=h;have hl:=h1.1;have h5:(l[k].five ka kc la lc).length=5:=rfl;have hk1:Kept (fun b=>b≠g) w (w.setCells g (k*5) (l[k].five ka kc la lc)):=Held.kept (Held.gh (Held.refl _ _) (fun h=>h rfl) _ _);have hF:∀b,fX base (fun _=>False) (.slice (some ⟨g,0,none⟩) l.length c) b->b≠g:=fun b hb e=>by rcases hb with hb|hb;exact hb.2;exact hb.2 (by rw [e];rfl)
 have ho:=Iq (o:=k*5) (cs:=l[k].five ka kc la lc) h1 (by rw [h5];omega);refine⟨_,ho,?_,?_⟩
 ·rw [List.take_succ_eq_append_getElem hk,List.append_assoc,List.take_append,List.length_take,Nat.min_eq_left (by omega),List.take_take,Nat.min_eq_right (by omega),show (k+1)*5-k*5=5 by omega,List.take_append_of_le_length (by rw [h5];omega),List.take_of_length_le (l:=l[k].five ka kc la lc) (by rw [h5];omega)]
  exact(h2.keep (hk1.mono hF) (fun _ h _=>h)).snoc (hx.keep (hk1.mono hF) (fun _ h _=>h))
 ·have h4:=(h3.cut 1).2
  rw [List.drop_drop,List.drop_drop] at h4;rw [List.append_assoc,List.drop_append,List.length_take,Nat.min_eq_left (by omega),List.drop_of_length_le (l:=xs.take (k*5)) (by rw [List.length_take];omega),show (k+1)*5-k*5=5 by omega,List.nil_append,List.drop_left' h5];exact h4.keep (hk1.mono fun b hb=>by have:=hS b hb;omega) (fun _ h _=>h)
theorem Half.all {w:World} {base:Nat} {S:az} {v:Value} {l:List V} (h:Half w base S v l l.length):∃a c,v= .slice a l.length c/\aM a l.length c/\Rows w (fun b=>base<=b) l a:=by
 obtain⟨xs,h1,h2,-⟩:=h;rw [List.take_length,List.take_of_length_le (by have:=h1.1;omega)] at h2;obtain⟨a,c,h3,h4,h5,h6⟩:=gQ.rows (S:=fun _=>False) ⟨rfl,xs,h1,h2⟩;exact⟨a,c,h3,h4,h6.keep (fun _ _ _=>rfl) fun b hb _=>by rcases hb with hb|hb;exact hb.2.elim;exact hb⟩
theorem Half.block {w:World} {base:Nat} {S:az} {v:Value} {l:List V} {k:Nat} (h:Half w base S v l k) (hl:0<l.length):∃g c,v= .slice (some ⟨g,0,none⟩) l.length c/\base<=g/\g<w.heap.size/\∀i,w.frozen? ⟨g,i,none⟩=false:=by
 obtain⟨xs,h1,-,-⟩:=h;obtain⟨g,cap,cur,hv,hb,hg,-⟩:=uh h1 hl;have hB:af w g cur 36:=hg;exact⟨g,cap,hv,hb,hB.lt,hB.free⟩
theorem aeJ (m:Nat):∀(x:V) (ka:au) (kc:Nat) (la:au) (lc:Nat) (S:az) (w:World),x.size<=m->x.size<=1073741824->x.In w S ka kc la lc->
 Calls prog 34 #[x.val ka kc la lc] w (qA (fun _=>False) x w):=by
 induction m with
 |zero=>intro x _ _ _ _ _ _ h;have:=x.size_pos;omega
 |succ m ih=>
  intro x ka kc la lc S w hm hsz hin;have Ih:=ae ih;have hl:=x.kB;have hlk:=x.Ar;obtain⟨hko,hlo,hks,hrs⟩:=(V.dz ..).1 (hin.mono (T:=fun b=>S b/\b<w.heap.size) fun b h hl=>⟨h,hl⟩);have Dt:=ae hks;have Km:=ae hrs;have Hko:=ae hko;have Hlo:=ae hlo;clear ih hin hks hrs hko hlo;go_enter func34,ntmps34;go_upto_region 1 with fail
  refine aI (R:=fun wx=>aD wx w.heap.size x ka kc la lc/\aN wx (w.heap.size+1)/\Ext w wx) ⟨aQ,aQ,Xt⟩ ?_;rintro wa ⟨ag,ai,aH⟩;have hz1:=ai.lt;have aq:∀w',Ext wa w'-> (w'.cell? ⟨w.heap.size,3,none⟩=some (.slice ka x.keys.length kc)/\w'.cell? ⟨w.heap.size,4,none⟩=some (.slice la x.l.length lc)):=fun w' e=>⟨e.cell (ag.cells 3),e.cell (ag.cells 4)⟩;refine fF aq (c:=7) (by kernel_rfl) ?_;refine aG 0 [7] (hS:=aq _ Xt) (h:= ?_);refine aG 1 [7] (hS:=aq _ Xt) (h:= ?_);refine aG 3 [7] (hS:=aq _ Xt) (h:= ?_);refine aG 4 [7] (hS:=aq _ Xt) (h:= ?_);(try simp only [rl]);refine aK 2 (h:=fun K hK=> ?_);(try simp only [rl]);(try go_simp);(refine(AZ x.keys ka _ kc (fun b=>S b/\b<w.heap.size) _ rfl Hko.out (by omega) (Dt.out.ext Xt)).mono ?_);rintro e w1 ⟨a1,c1,rfl,ib,hs1,h1⟩;(try go_simp);have hx1:Ext wa w1:=Xt;have hz2:=hx1.size;have aff:=ae ib;obtain⟨a1',c1',OP,afg,oY,pC⟩:=hs1.strs
  cases OP
  have Vn:=ae (show bR w1 (fun b=>w.heap.size+2<=b/\b<w1.heap.size) a1 x.keys from pC.keep (fun _ _ _=>rfl) fun b h hl=>⟨by(try simp at h);omega,hl⟩);clear ib hs1 h1 afg oY pC;refine hK.out _ _ (fun _=>aq _ Xt) ?_;clear hK K;refine aG 6 [7] (hS:=aq _ Xt) (h:= ?_);(try simp only [rl]);refine aK 5 (h:=fun K hK=> ?_);(try simp only [rl]);(try go_simp);(refine(Gr x.l la _ lc (fun b=>S b/\b<w.heap.size) _ rfl Hlo.out (by omega) (Km.out.ext Xt)).mono ?_);rintro e w2 ⟨a2,c2,rfl,gj,hrow2,h2⟩;(try go_simp);have hx2:Ext wa w2:=Xt;have yY:Ext w1 w2:=Xt;have hz3:=yY.size;have ahF:=ae gj
  have pz:=ae (show bR w2 (fun b=>w.heap.size+2<=b/\ (Value.slice a2 x.l.length c2).ownBlock≠some b) a1 x.keys from(Vn.out.ext yY).keep (fun _ _ _=>rfl) fun b h _=>⟨h.1,fun he=>by
   obtain⟨ys,h3,-⟩:=hrow2;have:=(h3.lt b he).1
   (try simp at this);omega⟩)
  have pn:=ae (show Half w2 (w.heap.size+2) (fun b=>S b/\b<w.heap.size) (.slice a2 x.l.length c2) x.l 0 from by
   obtain⟨ys,h3,h4⟩:=hrow2
   exact⟨ys,qw h3 (by(try simp);omega),by simp [cQ],by simpa using h4⟩)
  have ER:=af.ext hx2 ag;have zZ:=af.ext hx2 ai;have hlB:=zZ.lt;clear gj hrow2 h2;refine hK.out _ _ (fun _=>aq _ Xt) ?_;clear hK K;(try simp only [rl]);obtain⟨hc0,aw,hl0⟩:=ER.see;refine aK 7 (h:=fun K hK=> ?_);(try simp only [rl]);go_simp;refine bz hK (h:= ?_);clear hK K;(try simp only [rl]);refine aK 8 (h:=fun K hK=> ?_);(try simp only [rl]);go_simp;refine bz hK (h:= ?_);clear hK K;(try simp only [rl]);refine aK 9 (h:=fun K hK=> ?_);(try simp only [rl]);go_simp;refine bz hK (h:= ?_);clear hK K;(try simp only [rl]);refine cZ (by kernel_rfl) ?_ _;go_upto_region 2 with fail
  refine aI (R:=fun wx=>aD wx w.heap.size x a1 c1 a2 c2/\aN wx (w.heap.size+1)/\bR wx (fun b=>w.heap.size+2<=b/\ (Value.slice a2 x.l.length c2).ownBlock≠some b) a1 x.keys/\Half wx (w.heap.size+2) (fun b=>S b/\b<w.heap.size) (.slice a2 x.l.length c2) x.l 0/\Ext w wx) ⟨aQ,aQ,pz.out.keep ((Held.kept (T:=fun b=>w.heap.size+2<=b) aC).mono fun b h=>h.1) (fun _ h _=>h),pn.out.keep (fun b h=>by omega) (by with_reducible repeat (first|exact Held.refl _ _|assumption|apply Held.drew|apply Held.drewN|apply Held.alloc|(refine Held.set ?_ ?_ _;rotate_left;(focus(first|(simp;done)|(simp;omega)|omega)))|(refine Held.ext ?_ (by assumption))|(refine Held.grown ?_ (by assumption) (by assumption))|(refine Held.trans ?_ (by assumption)))),Xt⟩ ?_;clear ag ai ER zZ hlB hc0 aw hl0 Vn pz pn aq aH hx1 hx2 yY;rintro wb ⟨ag,ai,hst,hrow,aO⟩;have aP:=ae hst;have pn:=ae hrow;clear hst hrow;have ahG:=ai.lt;obtain⟨hc0,aw,hl0⟩:=ag.see;go_wp2_with fail
  go_loopg [3,15] x.l.length (fun g _ i wr=>∃k:Nat,k<=x.l.length/\i= .int .i64 k/\g=x.l.length-k/\aD wr w.heap.size x a1 c1 a2 c2/\aN wr (w.heap.size+1)/\bR wr (fun b=>w.heap.size+2<=b/\ (Value.slice a2 x.l.length c2).ownBlock≠some b) a1 x.keys/\Half wr (w.heap.size+2) (fun b=>S b/\b<w.heap.size) (.slice a2 x.l.length c2) x.l k/\Ext w wr)
  case atStart=>exact⟨0,by omega,rfl,rfl,ag,ai,aP.out,pn.out,aO⟩
  case round=>
   clear ag ai hc0 aw hl0 aP pn aO;obtain⟨k,hk,rfl,rfl,ag,ai,hst,hrow,hx⟩:=hrel;have aP:=ae hst;have pn:=ae hrow;have yz:=ai.lt;clear hst hrow;by_cases hlt:k<x.l.length
   ·obtain⟨g,c,hv,hgb,hgl,hfz⟩:=pn.out.block (by omega)
    cases hv
    obtain⟨iD,iE,iY,iF,⟨d0,d1,d2,d3,d4⟩,hin'⟩:=pn.out.item hlt;have Bg:=ae hin';have gf:=V.qy hlt;have Hm:=ae (show x.l[k].size<=m from by omega);have kY:(0:Int)<= (k:Int):=by omega
    have kZ:(k:Int)<(x.l.length:Int):=by omega
    clear hin';obtain⟨hc0,aw,hl0⟩:=ag.see;go_upto_region 5 with fail
    have aq:∀w',Ext wr w'-> (w'.cell? ⟨w.heap.size,4,none⟩=some (.slice (some ⟨g,0,none⟩) x.l.length c2)/\w'.cell? ⟨g,k*5,none⟩=some (.int .i64 x.l[k].k)/\w'.cell? ⟨g,k*5+1,none⟩=some (.int .i64 x.l[k].n)/\w'.cell? ⟨g,k*5+2,none⟩=some (.string x.l[k].s)/\w'.cell? ⟨g,k*5+3,none⟩=some (.slice iD x.l[k].keys.length iE)/\w'.cell? ⟨g,k*5+4,none⟩=some (.slice iY x.l[k].l.length iF)):=
     fun w' e=>⟨e.cell (ag.cells 4),e.cell d0,e.cell d1,e.cell d2,e.cell d3,e.cell d4⟩
    refine fF aq (c:=10) (by kernel_rfl) ?_;refine aG 0 [10] (hS:=aq _ Xt) (h:= ?_);refine aG 1 [10] (hS:=aq _ Xt) (h:= ?_);refine aG 2 [10] (hS:=aq _ Xt) (h:= ?_);refine aG 3 [10] (hS:=aq _ Xt) (h:= ?_);refine aG 4 [10] (hS:=aq _ Xt) (h:= ?_);refine aG 5 [10] (hS:=aq _ Xt) (h:= ?_);refine aG 6 [10] (hS:=aq _ Xt) (h:= ?_);refine aG 7 [10] (hS:=aq _ Xt) (h:= ?_);(try simp only [rl]);refine aK 8 (h:=fun K hK=> ?_);(try simp only [rl]);(try go_simp);(refine(Ih.out x.l[k] iD iE iY iF (fun b=>S b/\b<w.heap.size) _ Hm.out (by omega) (Bg.out.ext Xt)).mono ?_);rintro e w2 ⟨kb,kd,lb,ld,rfl,bN,h2⟩;(try go_simp);have hx2:Ext wr w2:=Xt;have hz2:=hx2.size
    have bE:=ae (show x.l[k].In w2 (fX (w.heap.size+2) (fun _=>False) (.slice (some ⟨g,0,none⟩) x.l.length c2)) kb kd lb ld from bN.mono fun b h _=>by
     rcases h with h|h
     ·exact h.elim
     ·exact .inr ⟨by(try simp at h);omega,fun he=>by cases he;(try simp at h);omega⟩)
    have Vo:=ae (pn.out.keep (fun b h=>by omega) (hx2.held _));have pz:=ae (aP.out.ext hx2);have ER:=af.ext hx2 ag;have zZ:=af.ext hx2 ai;have dJ:Ext w w2:=hx.trans hx2;have afh:∀i,w2.frozen? ⟨g,i,none⟩=false:=fun i=>by rw [Below.frozen (p:=⟨g,i,none⟩) hx2 hgl];exact hfz i
    have d0:=hx2.cell d0;have d1:=hx2.cell d1;have d2:=hx2.cell d2;have d3:=hx2.cell d3;have d4:=hx2.cell d4;clear bN h2 hfz;refine hK.out _ _ (fun _=>aq _ Xt) ?_;clear hK K;refine aG 9 [10] (hS:=aq _ Xt) (h:= ?_);(try simp only [rl]);refine aK 10 (h:=fun K hK=> ?_);(try simp only [rl]);go_simp;refine bz hK (h:= ?_);clear hK K;(try simp only [rl]);refine cZ (by kernel_rfl) ?_ _;obtain⟨wj,iz⟩:∃wj,w2.setCells g (k*5) (x.l[k].five kb kd lb ld)=wj:=⟨_,rfl⟩;have Bh:aD wj w.heap.size x a1 c1 (some ⟨g,0,none⟩) c2:=by rw [<-iz];exact ER.nj (by omega) _ _
    have hj1:aN wj (w.heap.size+1):=by rw [<-iz];exact zZ.nj (by omega) _ _
    have hst:bR wj (fun b=>w.heap.size+2<=b/\ (Value.slice (some ⟨g,0,none⟩) x.l.length c2).ownBlock≠some b) a1 x.keys:=by rw [<-iz];exact pz.out.keep ((Held.kept (T:=fun b=>b≠g) (Held.gh (Held.refl _ _) (fun h=>h rfl) _ _)).mono fun b h e=>h.2 (by rw [e];rfl)) (fun _ h _=>h)
    have hrow:=Vo.out.set (fun b h=>by omega) hlt hgb bE.out;have mF:=dJ.gh (g:=g) (by omega) (k*5) (x.l[k].five kb kd lb ld);rw [iz] at hrow mF;have aP:=ae hst;have pn:=ae hrow;have tB:=ae iz;clear hst hrow iz pz Vo bE afh d0 d1 d2 d3 d4;go_upto_region 6 with fail
    refine aI (R:=fun wy=>wy=wj) tB.out ?_;clear tB ER zZ hx2 dJ aq hc0 aw hl0 ag ai;rintro wy rfl;go_wp2_with fail;go_roundg (x.l.length-(k+1))
    case measure=>omega
    case rel=>exact⟨k+1,by omega,by go_num,rfl,Bh,hj1,aP.out,pn.out,mF⟩
   ·obtain rfl:k=x.l.length:=by omega
    obtain⟨a3,c3,hv,jI,Vp⟩:=pn.out.all
    cases hv
    have NM:=ae jI;have afi:=ae Vp;have cX:=ai.lt;clear jI Vp;obtain⟨hc0,aw,hl0⟩:=ag.see;obtain⟨hc1,aA,ay⟩:=ai.see;go_wp2_with fail;refine aF (h:= ?_);exact⟨a1,c1,a2,c2,rfl,(V.dz ..).2 ⟨aff.out,NM.out,aP.out.keep ((Held.kept (T:=fun b=>w.heap.size+2<=b) aC).mono fun b h=>h.1) (fun b h _=> .inr (by omega)),afi.out.keep (Held.kept (T:=fun b=>w.heap.size+2<=b) aC) (fun b h _=> .inr (by omega))⟩,Xt⟩
theorem aeH (a:au) (n c:Nat) (news:List Value) (w:World) (hok:aM a n c) (hbig:n<=1073741824) (hl:news.length=n*2) (hsrc:n=0\/∃ad,a=some ad/\∀j u,news[j]? =some u->w.cell? (ad.add j)=some u) (h1:∀u∈news,u.oneCell'=true):
 Calls prog 35 #[.slice a n c] w fun e w'=>∃a' c',e= .returned (.slice a' n c')/\aM a' n c'/\w'.ownsRow w.heap.size 58 2 (.slice a' n c') n news/\Ext w w':=by
 obtain⟨i0,hi,hz0,hz1,hz2⟩:=info_parts Tryz.DT;have Rv:∀(w:World) (a:au) (n c n' c':Nat),(binOp .eql 37 (.slice a n c) (.slice none n' c')).run prog w= .ok (.bool a.isNone) w:=fun w a n c n' c'=>Lib.run_eql_slice_nil w _ _ a n c n' c' underlying37
 cases a with
 |none=>
  obtain rfl:=hok.2.2 rfl;obtain rfl:n=0:=by have:=hok.1;omega
  obtain rfl:news= []:=List.eq_nil_of_length_eq_zero (by simpa using hl);clear hok hl hsrc h1;go_enter func35,ntmps35;go_wp2_with fail;go_ret;exact⟨none,0,rfl,aM.nil,World.ownsRow_nil _ _ _ _,Ext.refl _⟩
 |some ad=>
  have hc:∀j u,news[j]? =some u->w.cell? (ad.add j)=some u:=by
   rcases hsrc with h0|⟨K1,he,h⟩
   ·subst h0
    obtain rfl:news= []:=List.eq_nil_of_length_eq_zero (by simpa using hl);intro j u hj;simp at hj
   ·simp only [Option.some.injEq] at he;subst he;exact h
  have Hc:=ae hc;have Hl:=ae hl;clear hc hsrc hl;have h63:n<=maxLen:=by unfold maxLen;omega
  go_enter func35,ntmps35;go_wp2_with (at_builtin;refine wpList_append_own _ rfl _ _ 37 rfl w.heap.size 58 i0 _ 2 40 underlying37 hi hz0 hz1 hz2 rfl (by decide) _ _ _ rfl (World.ownsRow_made w #[] 0 (Nat.le_refl _) (Nat.zero_le _) (by simp)) ad n c news rfl ?qc1 ?qc2 ?qc3 ?qc4 ?qc5 ?qc6 ?_)
  case qc1=>exact Hl.out
  case qc2=>
   intro j u hj;exact Lib.cell?_alloc_some _ (Hc.out j u hj)
  case qc3=>exact h1
  case qc4=>rw [Nat.zero_add];exact h63
  case qc5=>rw [Nat.zero_add];omega
  case qc6=>simp
  intro v' w1 hown hgrow hnil;obtain⟨a',c',rfl,fL⟩:=fT hown;go_wp2;go_ret;refine⟨a',c',by simp,by simpa using fL,by simpa using hown,?_⟩;exact((Below.refl _ w).alloc (Nat.le_refl _) _).grown hgrow (by simp) (by intro k hk;simp [Value.ownBlock] at hk;omega)
theorem dF.cut {w:World} {T:az} {l:List Ow} {xs:List Value} (h:dF w T l xs) (k:Nat):dF w T (l.take k) (xs.take (k*2))/\dF w T (l.drop k) (xs.drop (k*2)):=by
 induction l generalizing xs k with
 |nil=>subst h;simp [dF]
 |cons y r ih=>
  match k with
  |0=>simpa [dF] using h
  |k+1=>
   obtain⟨a,b,t,rfl,h1,h2⟩:=h;obtain⟨h3,h4⟩:=ih h2 k;rw [show (k+1)*2=k*2+1+1 by omega];exact⟨⟨a,b,_,rfl,h1,h3⟩,h4⟩
def jh (w:World) (base:Nat) (S:az) (v:Value) (l:List Ow) (k:Nat):Prop:=
 ∃xs,w.ownsRow base 58 2 v l.length xs/\dF w (fX base (fun _=>False) v) (l.take k) (xs.take (k*2))/\dF w S (l.drop k) (xs.drop (k*2))
theorem jh.keep {w w':World} {base:Nat} {S:az} {v:Value} {l:List Ow} {k:Nat} (h:jh w base S v l k) (e:Held (fun b=>S b\/base<=b) w w'):jh w' base S v l k:=by
 obtain⟨xs,h1,h2,h3⟩:=h;exact⟨xs,dX h1 (fun b hb he=>e.block b (.inr (h1.lt b he).1) hb),h2.keep (fun b hb hl=>e.block b (.inr (by rcases hb with hb|hb;exact hb.2.elim;exact hb.1)) hl) (fun _ h _=>h),h3.keep (fun b hb hl=>e.block b (.inl hb) hl) (fun _ h _=>h)⟩
theorem jh.item {w:World} {base:Nat} {S:az} {g c:Nat} {l:List Ow} {k:Nat} (h:jh w base S (.slice (some ⟨g,0,none⟩) l.length c) l k) (hk:k<l.length):
 ∃pa pc,w.cell? ⟨g,k*2,none⟩=some (.string l[k].name)/\w.cell? ⟨g,k*2+1,none⟩=some (.slice pa l[k].paths.length pc)/\aM pa l[k].paths.length pc/\bR w S pa l[k].paths:=by
 obtain⟨xs,h1,-,h3⟩:=h;rw [List.drop_eq_getElem_cons hk] at h3;obtain⟨pa,pc,t,hx,hin,-⟩:=h3;have hc:=h1.cells (g:=g) rfl;have hq:∀q u,([Value.string l[k].name, .slice pa l[k].paths.length pc]++t)[q]? =some u->w.cell? ⟨g,k*2+q,none⟩=some u:=fun q u hq=>by
  have:=hc (k*2+q) u (by rw [<-List.getElem?_drop,hx];exact hq)
  rwa [Addr.add_lit,Nat.zero_add] at this
 exact⟨pa,pc,hq 0 _ rfl,hq 1 _ rfl,hin.1,hin.2⟩
theorem jh.set {w:World} {base:Nat} {S:az} {g c:Nat} {l:List Ow} {k:Nat} (h:jh w base S (.slice (some ⟨g,0,none⟩) l.length c) l k) (hS:∀b,S b->b<base) (hk:k<l.length) (hg:base<=g) {pa:au} {pc:Nat}
 (hok:aM pa l[k].paths.length pc) (hx:bR w (fX base (fun _=>False) (.slice (some ⟨g,0,none⟩) l.length c)) pa l[k].paths):jh (w.setCell ⟨g,k*2+1,none⟩ (.slice pa l[k].paths.length pc)) base S (.slice (some ⟨g,0,none⟩) l.length c) l (k+1):=by
 obtain⟨xs,h1,h2,h3⟩:=h;have hl:=h1.1;have hk1:Kept (fun b=>b≠g) w (w.setCell ⟨g,k*2+1,none⟩ (.slice pa l[k].paths.length pc)):=Held.kept (Held.set (Held.refl _ _) (fun h=>h rfl) _);have hF:∀b,fX base (fun _=>False) (.slice (some ⟨g,0,none⟩) l.length c) b->b≠g:=fun b hb e=>by rcases hb with hb|hb;exact hb.2;exact hb.2 (by rw [e];rfl)
 have ho:(w.setCell ⟨g,k*2+1,none⟩ (.slice pa l[k].paths.length pc)).ownsRow base 58 2 (.slice (some ⟨g,0,none⟩) l.length c) l.length _:=Iq (o:=k*2+1) (cs:= [.slice pa l[k].paths.length pc]) h1 (by simp only [List.length_cons,List.length_nil];omega);have h4:=(h3.cut 1).2;rw [List.drop_eq_getElem_cons hk] at h3;obtain⟨pa0,pc0,t,hx0,kU,h5⟩:=h3;rw [List.drop_drop,List.drop_drop] at h4;have e1:xs.take (k*2+1)=xs.take (k*2)++ [Value.string l[k].name]:=by rw [List.take_add,hx0];rfl
 have hlt:(xs.take (k*2)).length=k*2:=by rw [List.length_take];omega
 have e2:xs.take (k*2+1)++ [Value.slice pa l[k].paths.length pc]=xs.take (k*2)++ [Value.string l[k].name, .slice pa l[k].paths.length pc]:=by rw [e1,List.append_assoc];rfl
 have hl2:(xs.take (k*2)++ [Value.string l[k].name, .slice pa l[k].paths.length pc]).length=(k+1)*2:=by rw [List.length_append,hlt];simp;omega
 refine⟨_,ho,?_,?_⟩
 ·rw [e2,List.take_left' hl2,List.take_succ_eq_append_getElem hk]
  exact(h2.keep (hk1.mono hF) (fun _ h _=>h)).app (.one hok (hx.keep (hk1.mono hF) (fun _ h _=>h)))
 ·rw [e2,List.drop_left' hl2]
  exact h4.keep (hk1.mono fun b hb=>by have:=hS b hb;omega) (fun _ h _=>h)
theorem jh.block {w:World} {base:Nat} {S:az} {v:Value} {l:List Ow} {k:Nat} (h:jh w base S v l k) (hl:0<l.length):∃g c,v= .slice (some ⟨g,0,none⟩) l.length c/\base<=g/\g<w.heap.size/\∀i,w.frozen? ⟨g,i,none⟩=false:=by
 obtain⟨xs,h1,-,-⟩:=h;obtain⟨g,cap,cur,hv,hb,hg,-⟩:=uh h1 hl;have hB:af w g cur 58:=hg;exact⟨g,cap,hv,hb,hB.lt,hB.free⟩
theorem jh.all {w:World} {base:Nat} {S:az} {v:Value} {l:List Ow} (h:jh w base S v l l.length):∃a c,v= .slice a l.length c/\aM a l.length c/\cx w (fun b=>base<=b) l a:=by
 obtain⟨xs,h1,h2,-⟩:=h;rw [List.take_length,List.take_of_length_le (by have:=h1.1;omega)] at h2;obtain⟨a,c,h3,h4,h5,h6⟩:=j6.rows (S:=fun _=>False) ⟨rfl,xs,h1,h2⟩;exact⟨a,c,h3,h4,h6.keep (fun _ _ _=>rfl) fun b hb _=>by rcases hb with hb|hb;exact hb.2.elim;exact hb⟩
theorem jh.nil {w:World} {base:Nat} {S:az} {l:List Ow} {a:au} {c n:Nat} {xs:List Value} (hn:l.length=n) (h:w.ownsRow base 58 2 (.slice a n c) n xs) (hc:dF w S l xs):jh w base S (.slice a n c) l 0:=by
 subst hn;exact⟨xs,h,by simp [dF],by simpa using hc⟩
def pI (w:World) (base:Nat) (v:Value) (n:Nat) (l:List Th):Prop:=
 l.length=n/\∃xs,w.ownsRow base 41 15 v n xs/\fY w (fX base (fun _=>False) v) l xs
theorem pI.nil (w:World) (base:Nat):pI w base (.slice none 0 0) 0 []:=⟨rfl, [],World.ownsRow_nil _ _ _ _,rfl⟩
theorem pI.ext {w w':World} {base:Nat} {v:Value} {n:Nat} {l:List Th} (h:pI w base v n l) (e:Ext w w'):pI w' base v n l:=by
 obtain⟨h0,xs,h1,h2⟩:=h;exact⟨h0,xs,eD h1 e,h2.keep (e.kept _) (fun _ h _=>h)⟩
theorem pI.form {w:World} {base:Nat} {v:Value} {n:Nat} {l:List Th} (h:pI w base v n l):∃a c,v= .slice a n c/\aM a n c:=by
 obtain⟨-,xs,h1,-⟩:=h;exact fT h1
def jk (w:World) (S:az) (l:List Th) (a:au):Prop:=
 ∃xs,(l= []\/∃b,a=some ⟨b,0,none⟩/\S b/\b<w.heap.size/\∀j u,xs[j]? =some u->w.cell? ⟨b,j,none⟩=some u)/\fY w S l xs
theorem pI.ax {w:World} {base:Nat} {v:Value} {n:Nat} {l:List Th} (h:pI w base v n l):∃a c,v= .slice a n c/\aM a n c/\l.length=n/\jk w (fun b=>base<=b) l a:=by
 obtain⟨h0,xs,h1,h2⟩:=h;have h3:=h2.keep (T:=fun b=>base<=b) (fun _ _ _=>rfl) (fun b hb _=>by rcases hb with hb|hb;exact hb.2.elim;exact hb.1);obtain⟨a,c,rfl,hok⟩:=fT h1;refine⟨a,c,rfl,hok,h0,xs,?_,h3⟩;rcases h1.2 with⟨-,hn⟩|⟨g,cap,cur,hv,hb,hg,-,-,-,ht⟩
 ·exact .inl (List.length_eq_zero_iff.1 (by omega))
 ·cases hv
  have hB:af w g cur 41:=hg;refine .inr ⟨g,rfl,hb,hB.lt,fun j u hj=> ?_⟩;have:=h1.cells (g:=g) rfl j u hj
  rwa [Addr.add_lit,Nat.zero_add] at this
theorem jk.ext {w w':World} {S:az} {l:List Th} {a:au} (h:jk w S l a) (e:Ext w w'):jk w' S l a:=by
 obtain⟨xs,h1,h2⟩:=h;refine⟨xs,?_,h2.keep (e.kept _) (fun _ h _=>h)⟩;rcases h1 with h1|⟨b,h3,h4,h5,h6⟩
 ·exact .inl h1
 ·exact .inr ⟨b,h3,h4,Nat.lt_of_lt_of_le h5 e.size,fun j u hj=>e.cell (h6 j u hj)⟩
theorem jk.at {w:World} {S:az} {l:List Th} {a:au} (h:jk w S l a) {i:Nat} (hi:i<l.length):∃b ka kc la lc oa oc,a=some ⟨b,0,none⟩/\S b/\b<w.heap.size/\ (∀q u,(l[i].cells ka kc la lc oa oc)[q]? =some u->w.cell? ⟨b,i*15+q,none⟩=some u)/\ji w S l[i] ka kc la lc oa oc:=by
 obtain⟨xs,h1,h2⟩:=h;obtain⟨b,h3,h4,h5,h6⟩:=h1.resolve_left (by intro e;rw [e] at hi;simp at hi);obtain⟨ka,kc,la,lc,oa,oc,h7,h8⟩:=h2.at hi;refine⟨b,ka,kc,la,lc,oa,oc,h3,h4,h5,fun q u hq=> ?_,h8⟩;rw [<-h7,List.getElem?_take] at hq
 split at hq
 ·rw [List.getElem?_drop] at hq;exact h6 _ _ hq
 ·cases hq
theorem aeO {wr W:World} {ops:Array Oper} {rest:List Oper} {o:Oper} {a:Act} {Q:Exit->Act->World->Prop} {base n:Nat} {vl:Value} {l:List Th} {x:Th} {ka:au} {kc:Nat} {la:au} {lc:Nat} {oa:au} {oc:Nat} (hgd:o.guard=none) (B:Nat) {s t:Operand}
 (ho:o.op= .call {callee:= .builtin .append,args:= #[s,t],argTypes:= #[26,26]}) (hs:a.eval s=vl) (hx:a.eval t= .slice (some ⟨B,0,none⟩) 1 1)
 (hI:pI wr base vl n l) (e:Ext wr W) (hv:ji W (fun b=>wr.heap.size<=b) x ka kc la lc oa oc) (hB:af W B (x.cells ka kc la lc oa oc).toArray 41) (hn:n<=1073741824) (hbase:base<=wr.heap.size)
 (h:∀g cap w',pI w' base (.slice (some ⟨g,0,none⟩) (n+1) cap) (n+1) (l++ [x])->W.grownBy w' vl.ownBlock->Held (fun b=>b<base) W w'->wpList prog ops Q rest (a.put o.dst (.slice (some ⟨g,0,none⟩) (n+1) cap)) w'):wpList prog ops Q (o::rest) a W:=by
 obtain⟨j0,hj,hy0,hy1,hy2⟩:=info_parts Tryz.Cc;obtain⟨hl0,xs,pk,xa⟩:=hI;refine wpList_plain hgd fun _ hK=>wp_append_lies _ s t _ ho base 41 j0 _ 15 200 underlying26 hj hy0 hy1 hy2 rfl (by decide) vl n xs hs (eD pk e) ⟨B,0,none⟩ 1 1 (x.cells ka kc la lc oa oc) hx (by rfl) (World.news_of_block (cs:=(x.cells ka kc la lc oa oc).toArray) (t:=41) (fr:=(0,0)) hB) (Th.tD x ka kc la lc oa oc) (by omega) (by unfold maxLen;omega) (by omega) (Nat.le_trans hbase e.size) _ rfl ?_;intro g cap w' hown hgrow hat hlt;have BN:∀b,vl.ownBlock=some b->base<=b/\b<wr.heap.size:=fun b hb=>pk.lt b hb;have hxs:=e.size;have hk1:Kept (fun b=>vl.ownBlock≠some b) W w':=fun b hb hl=>hgrow.block b hl (fun he=>hb he.symm);have hT:∀b,fX base (fun _=>False) vl b->b<W.heap.size->fX base (fun _=>False) (Value.slice (some ⟨g,0,none⟩) (n+1) cap) b:=fun b hb hl=>by
  rcases hb with hb|hb
  ·exact hb.2.elim
  ·refine .inr ⟨hb.1,fun he=> ?_⟩
   have hg:g=b:=by simpa [Value.ownBlock] using he
   subst hg;rcases hat with hat|hat
   ·exact hb.2 hat
   ·omega
 have rB:∀b,wr.heap.size<=b->b<W.heap.size->fX base (fun _=>False) (Value.slice (some ⟨g,0,none⟩) (n+1) cap) b:=fun b hb hl=> .inr ⟨by omega,fun he=>by
  have hg:g=b:=by simpa [Value.ownBlock] using he
  subst hg;rcases hat with hat|hat
  ·have:=(BN _ hat).2;omega
  ·omega⟩
 refine hK _ _ (h g cap w' ⟨by simp [hl0],_,hown,?_⟩ hgrow (Held.grown (Held.refl _ _) hgrow (fun q hq hT=>by have:=(BN q hq).1;omega)));refine((xa.keep (e.kept _) (fun _ h _=>h)).keep (hk1.mono fun b hb=>by rcases hb with hb|hb;exact hb.2.elim;exact hb.2) hT).app ⟨ka,kc,la,lc,oa,oc, [],by simp,hv.keep (hk1.mono fun b hb he=>by have:=(BN b he).2;omega) rB,rfl⟩
theorem aeG (l:List Ow) (a:au) (n c:Nat) (S:az) (w:World) (hn:l.length=n) (hok:aM a n c) (hbig:n<=1073741824) (hl:cx w S l a):
 Calls prog 35 #[.slice a n c] w fun e w'=>∃a' c',e= .returned (.slice a' n c')/\aM a' n c'/\jh w' w.heap.size S (.slice a' n c') l 0/\Ext w w':=by
 subst hn;obtain⟨xs,h0,h1,h2⟩:=aa0 hl;refine(aeH a l.length c xs w hok hbig h0 h1 h2.ones).mono ?_;rintro e w' ⟨a',c',rfl,h3,h4,h5⟩;exact⟨a',c',rfl,h3, .nil rfl h4 (h2.keep (h5.kept _) (fun _ h _=>h)),h5⟩
theorem ji.ext {S:az} {w w':World} {t:Th} {ka:au} {kc:Nat} {la:au} {lc:Nat} {oa:au} {oc:Nat} (h:ji w S t ka kc la lc oa oc) (e:Ext w w'):ji w' S t ka kc la lc oa oc:=h.keep (e.kept S) (fun _ h _=>h)
theorem jh.base {w:World} {b0 b1:Nat} {S:az} {v:Value} {l:List Ow} (h:jh w b1 S v l 0) (hb:b0<=b1):jh w b0 S v l 0:=by
 obtain⟨xs,h1,h2,h3⟩:=h;exact⟨xs,qw h1 hb,by simp [dF],h3⟩
theorem jh.own {w:World} {b0:Nat} {S:az} {v:Value} {l:List Ow} {k:Nat} (h:jh w b0 S v l k):∀b,v.ownBlock=some b->b0<=b/\b<w.heap.size:=by
 obtain⟨xs,h1,-,-⟩:=h;exact h1.lt
theorem zR (P:az) (r:Nat) (s:Sv) (w:World) (h:Sat w P r s) (Bk:s.ax.length<=8) (hi:∀t∈s.ax,t.v.size<=14640/\cw t.ows<=1800000):
 Calls prog 11 #[.pointer (some ⟨r,0,none⟩)] w fun e w'=>∃a c,e= .returned (.slice a s.ax.length c)/\aM a s.ax.length c/\jk w' (fun b=>w.heap.size<=b) s.ax a/\Ext w w':=by
 obtain⟨v,xs,h⟩:=h;have H:=ae h.old;have Hi:=ae hi;obtain⟨va,vc,hv,aeI⟩:=fT h.own;subst hv;have ag:=h.box;have hr:=h.box.lt;clear h hi aeI;obtain⟨hc0,aw,hl0⟩:=ag.see;go_enter func11,ntmps11;go_wp2_with fail
 go_loopg [3,5,6,14] s.ax.length (fun g t3 _ _ i wr=>∃k:Nat,k<=s.ax.length/\i= .int .i64 k/\g=s.ax.length-k/\Hid (pI wr w.heap.size t3 k (s.ax.take k))/\Ext w wr)
 case atStart=>exact⟨0,by omega,rfl,rfl,ae (pI.nil _ _),Xt⟩
 case round=>
  obtain⟨k,hk,rfl,rfl,HO,hx⟩:=hrel;obtain⟨wo,rfl⟩:∃x,x=wr:=⟨_,rfl⟩;by_cases hlt:k<s.ax.length
  ·obtain⟨g,c,ka,kc,la,lc,oa,oc,hv,hgl,hgr,vX,hlc,hcs,hin⟩:=H.out.thing hlt
   cases hv
   obtain⟨hsz,jt⟩:=Hi.out _ (List.getElem_mem hlt);have hxk:∀j,k+1=j->s.ax.take j=s.ax.take k++ [s.ax[k]]:=fun j e=>by rw [<-e,List.take_succ_eq_append_getElem hlt]
   have Hxk:=ae hxk;have kY:(0:Int)<= (k:Int):=by omega
   have kZ:(k:Int)<(s.ax.length:Int):=by omega
   obtain⟨z,hz⟩:∃z,s.ax[k]=z:=⟨_,rfl⟩;rw [hz] at hcs hsz hin jt;have aJ:=ae (show ji w (fun b=>b<w.heap.size) z ka kc la lc oa oc from hin.keep (fun _ _ _=>rfl) fun b h _=>h.1.2);have CQ:=ae jt;have ahw:z.ows.length<=1800000:=Nat.le_trans (tQ _) jt;have Hz:=ae hz;have J3:=hx.size;have d0:wo.cell? ⟨g,k*15,none⟩=some (.string z.name):=hx.cell (hcs 0 _ rfl).1;have d1:=hx.cell (hcs 1 _ rfl).1;have d2:=hx.cell (hcs 2 _ rfl).1;have d3:=hx.cell (hcs 3 _ rfl).1;have d4:=hx.cell (hcs 4 _ rfl).1;have d5:=hx.cell (hcs 5 _ rfl).1;have d6:=hx.cell (hcs 6 _ rfl).1;have d7:=hx.cell (hcs 7 _ rfl).1;have d8:=hx.cell (hcs 8 _ rfl).1;have d9:=hx.cell (hcs 9 _ rfl).1;have d10:=hx.cell (hcs 10 _ rfl).1;have d11:=hx.cell (hcs 11 _ rfl).1;have d12:=hx.cell (hcs 12 _ rfl).1;have d13:=hx.cell (hcs 13 _ rfl).1;have d14:=hx.cell (hcs 14 _ rfl).1;clear hcs hin hxk jt hz;go_upto_region 7 with fail
   refine aI (R:=fun wx=>fu wx wo.heap.size z ka kc la lc oa oc/\Ext wo wx) ⟨aj,Xt⟩ ?_;clear d0 d1 d2 d3 d4 d5 d6 d7 d8 d9 d10 d11 d12 d13 d14;rintro wb ⟨ai,aO⟩;have hz1:=ai.lt;obtain⟨hc1,aA,ay⟩:=ai.see;go_wp2_with fail;(refine(aeJ z.v.size z.v ka kc la lc (fun b=>b<w.heap.size) _ (Nat.le_refl _) (by omega) (aJ.out.v.ext Xt)).mono ?_);rintro e w2 ⟨kb,kd,lb,ld,rfl,hv2,h2⟩;have hx2:Ext wb w2:=Xt;have hy2:=hx2.size;have Uw:=ae (show z.v.In w2 (fun b=>wo.heap.size<b/\b<w2.heap.size) kb kd lb ld from hv2.mono fun b h hl=>⟨by rcases h with h|h;exact h.elim;omega,hl⟩);have ak:=ai.ext hx2;clear hv2 h2 hc1 aA ay ai;obtain⟨hc2,hf2,hl2⟩:=ak.see;go_upto_region 8 with fail
   refine aI (R:=fun wx=>fu wx wo.heap.size z kb kd lb ld oa oc/\z.v.In wx (fun b=>wo.heap.size<b/\b<w2.heap.size) kb kd lb ld/\w2.heap.size<=wx.heap.size/\Ext wo wx) ⟨aQ,Uw.out.keep (Held.kept (T:=fun b=>wo.heap.size<b/\b<w2.heap.size) aC) (fun _ h _=>h),by simp,Xt⟩ ?_;clear Uw ak hy2 hx2 aO hc2 hf2 hl2 hz1;rintro wc ⟨aV,hv3,hy3,fh⟩;have Ux:=ae hv3;have hz3:=aV.lt;clear hv3;obtain⟨hc3,hf3,aR⟩:=aV.see;go_wp2_with fail;(refine(aeG z.ows oa _ oc (fun b=>b<w.heap.size) _ rfl aJ.out.ok (by omega) (aJ.out.ows.ext Xt)).mono ?_);rintro e w4 ⟨a4,c4,rfl,Ba,Nj,h4⟩;have bH:Ext wc w4:=Xt;have hy4:=bH.size;have GG:=ae Ba;have hs4:=Nj.own;have Uy:=ae (show z.v.In w4 (fun b=>wo.heap.size<b/\ (Value.slice a4 z.ows.length c4).ownBlock≠some b) kb kd lb ld from(Ux.out.ext bH).mono fun b h _=>⟨h.1,fun he=>by have:=(hs4 b he).1;(try simp at this);omega⟩);have Uz:=ae (show jh w4 (wo.heap.size+1) (fun b=>b<w.heap.size) (.slice a4 z.ows.length c4) z.ows 0 from Nj.base (by(try simp);omega));have hB4:=aV.ext bH;clear Ba Nj h4 hs4 hc3 hf3 aR aV Ux;obtain⟨se,xu,hl4⟩:=hB4.see;go_upto_region 9 with fail
   refine aI (R:=fun wx=>fu wx wo.heap.size z kb kd lb ld a4 c4/\z.v.In wx (fun b=>wo.heap.size<b/\ (Value.slice a4 z.ows.length c4).ownBlock≠some b) kb kd lb ld/\jh wx (wo.heap.size+1) (fun b=>b<w.heap.size) (.slice a4 z.ows.length c4) z.ows 0/\Ext wo wx) ⟨aQ,Uy.out.keep (Held.kept (T:=fun b=>wo.heap.size<b/\ (Value.slice a4 z.ows.length c4).ownBlock≠some b) aC) (fun _ h _=>h),Uz.out.keep (by with_reducible repeat (first|exact Held.refl _ _|assumption|apply Held.drew|apply Held.drewN|apply Held.alloc|(refine Held.set ?_ ?_ _;rotate_left;(focus(first|(simp;done)|(simp;omega)|omega)))|(refine Held.ext ?_ (by assumption))|(refine Held.grown ?_ (by assumption) (by assumption))|(refine Held.trans ?_ (by assumption)))),Xt⟩ ?_;clear Uy Uz hB4 hy4 bH fh se xu hl4 hz3 hy3;rintro wd ⟨eY,qB,UA,dG⟩;have UB:=ae qB;have UC:=ae UA;clear qB UA;obtain⟨kN,tv,tA⟩:=eY.see;go_wp2_with fail
   go_loopg [6,29] z.ows.length (fun g _ i wx=>∃j:Nat,j<=z.ows.length/\i= .int .i64 j/\g=z.ows.length-j/\fu wx wo.heap.size z kb kd lb ld a4 c4/\Hid (z.v.In wx (fun b=>wo.heap.size<b/\ (Value.slice a4 z.ows.length c4).ownBlock≠some b) kb kd lb ld)/\Hid (jh wx (wo.heap.size+1) (fun b=>b<w.heap.size) (.slice a4 z.ows.length c4) z.ows j)/\Ext wo wx)
   case atStart=>exact⟨0,by omega,rfl,rfl,eY,UB,UC,dG⟩
   case round=>
    clear eY kN tv tA UB UC dG;obtain⟨j,hj,rfl,rfl,bB,Nk,EF,iL⟩:=hrel;by_cases hjl:j<z.ows.length
    ·obtain⟨g2,c2,hv,hgb,aeK,hfz⟩:=EF.out.block (by omega)
     cases hv
     obtain⟨pa,pc,e0,e1,CU,hps⟩:=EF.out.item hjl;have aeL:=ae CU;have mY:=ae hps;have Ii:(0:Int)<= (j:Int):=by omega
     have Ij:(j:Int)<(z.ows.length:Int):=by omega
     have hpl:z.ows[j].paths.length<=1800000:=by have h1:=Ow.qH z.ows[j];have h2:=qG (List.getElem_mem hjl);have h3:=CQ.out;omega
     have Fk:=bB.lt;clear CU hps;obtain⟨je,jf,jg⟩:=bB.see;go_upto_region 12 with fail
     have aq:∀w',Ext wr w'-> (w'.cell? ⟨wo.heap.size,6,none⟩=some (.slice (some ⟨g2,0,none⟩) z.ows.length c4)/\w'.cell? ⟨g2,j*2+1,none⟩=some (.slice pa z.ows[j].paths.length pc)):=fun w' e=>⟨e.cell (bB.cells 6),e.cell e1⟩;refine fF aq (c:=12) (by kernel_rfl) ?_;refine aG 0 [12] (hS:=aq _ Xt) (h:= ?_);refine aG 1 [12] (hS:=aq _ Xt) (h:= ?_);refine aG 2 [12] (hS:=aq _ Xt) (h:= ?_);refine aG 3 [12] (hS:=aq _ Xt) (h:= ?_);refine aG 4 [12] (hS:=aq _ Xt) (h:= ?_);refine aG 5 [12] (hS:=aq _ Xt) (h:= ?_);refine aG 6 [12] (hS:=aq _ Xt) (h:= ?_);refine aG 7 [12] (hS:=aq _ Xt) (h:= ?_);refine aG 8 [12] (hS:=aq _ Xt) (h:= ?_);(try simp only [rl]);refine aK 9 (h:=fun K hK=> ?_);(try simp only [rl]);(try go_simp);(refine(AZ z.ows[j].paths pa _ pc (fun b=>b<w.heap.size) _ rfl aeL.out (by omega) (mY.out.ext Xt)).mono ?_);rintro e w7 ⟨a7,c7,rfl,UD,fO,h7⟩;(try go_simp);have cW:Ext wr w7:=Xt;have hy7:=cW.size;obtain⟨a7',c7',kD,aeM,hn7,UE⟩:=fO.strs
     cases kD
     have UF:=ae UD
     have kQ:=ae (show bR w7 (fX (wo.heap.size+1) (fun _=>False) (.slice (some ⟨g2,0,none⟩) z.ows.length c4)) a7 z.ows[j].paths from UE.keep (fun _ _ _=>rfl) fun b h _=> .inr ⟨by(try simp at h);omega,fun he=>by
      have hg:g2=b:=by simpa [Value.ownBlock] using he
      (try simp at h);omega⟩)
     have UG:=ae (EF.out.keep (cW.held _));have UH:=ae (Nk.out.ext cW);have dh:=af.ext cW bB;have aeN:∀i,w7.frozen? ⟨g2,i,none⟩=false:=fun i=>by rw [Below.frozen (p:=⟨g2,i,none⟩) cW aeK];exact hfz i
     have e1:=cW.cell e1;have pJ:Ext wo w7:=iL.trans cW;clear UD fO h7 aeM hn7 UE hfz;refine hK.out _ _ (fun _=>aq _ Xt) ?_;clear hK K;refine aG 10 [11,12] (hS:=aq _ Xt) (h:= ?_);refine aG 11 [12] (hS:=aq _ Xt) (h:= ?_);(try simp only [rl]);refine aK 12 (h:=fun K hK=> ?_);(try simp only [rl]);go_simp;refine bz hK (h:= ?_);clear hK K;(try simp only [rl]);refine cZ (by kernel_rfl) ?_ _;obtain⟨wj,iz⟩:∃wj,w7.setCell ⟨g2,j*2+1,none⟩ (.slice a7 z.ows[j].paths.length c7)=wj:=⟨_,rfl⟩;have Bh:fu wj wo.heap.size z kb kd lb ld (some ⟨g2,0,none⟩) c4:=by rw [<-iz];exact dh.other (p:=⟨g2,j*2+1,none⟩) (show wo.heap.size≠g2 by omega) _
     have hv:z.v.In wj (fun b=>wo.heap.size<b/\ (Value.slice (some ⟨g2,0,none⟩) z.ows.length c4).ownBlock≠some b) kb kd lb ld:=by rw [<-iz];exact UH.out.keep ((Held.kept (T:=fun b=>b≠g2) (Held.set (Held.refl _ _) (fun h=>h rfl) _)).mono fun b hb e=>hb.2 (by rw [e];rfl)) (fun _ h _=>h)
     have ho:jh wj (wo.heap.size+1) (fun b=>b<w.heap.size) (.slice (some ⟨g2,0,none⟩) z.ows.length c4) z.ows (j+1):=by rw [<-iz];exact UG.out.set (fun b hb=>by omega) hjl hgb UF.out kQ.out
     have mF:Ext wo wj:=by rw [<-iz];exact Xt
     have Hv:=ae hv;have Ho:=ae ho;have tB:=ae iz;clear hv ho iz UH UG kQ UF dh aeN cW pJ aq e0 e1 je jf jg bB;go_upto_region 13 with fail
     refine aI (R:=fun wy=>wy=wj) tB.out ?_;clear tB;rintro wy rfl;go_wp2_with fail;go_roundg (z.ows.length-(j+1))
     case measure=>omega
     case rel=>exact⟨j+1,by omega,by go_num,rfl,Bh,Hv,Ho,mF⟩
    ·obtain rfl:j=z.ows.length:=by omega
     obtain⟨a3,c3,hv,jI,UI⟩:=EF.out.all
     cases hv
     have HT:=ae (show ji wr (fun b=>wo.heap.size<=b) z kb kd lb ld a4 c4 from⟨Nk.out.mono fun b h _=>by omega,jI,UI.mono fun b h _=>by omega⟩);have Fk:=bB.lt;have qE:=hx.size;clear jI UI Nk EF;obtain⟨je,jf,jg⟩:=bB.see;go_upto_region 15 with(at_builtin;refine aeO (by rfl) wr.heap.size (by rfl) (by rfl) (by rfl) HO.out Xt (HT.out.ext Xt) aj (by omega) qE ?_;intro g3 zB w3 lD jK Ch)
     have hx3:Ext w w3:=Ext.grown (Ext.trans hx (show Ext wo _ from Xt)) jK (fun q hq=>by obtain⟨-,xs,h1,-⟩:=HO.out;have:=(h1.lt q hq).1;omega);have xJ:=ae (show pI w3 w.heap.size (.slice (some ⟨g3,0,none⟩) (k+1) zB) (k+1) (s.ax.take (k+1)) from by rw [Hxk.out (k+1) rfl,Hz.out];exact lD);clear jK Ch HO HT lD;go_wp2_with fail;go_roundg (s.ax.length-(k+1))
     case measure=>omega
     case rel=>exact⟨k+1,by omega,by go_num,rfl,xJ,hx3⟩
  ·obtain rfl:k=s.ax.length:=by omega
   have ho:=HO.out;rw [List.take_length] at ho;obtain⟨a,c,hv,hok,-,ht⟩:=ho.ax
   cases hv
   have dN:=ae hok;have Ht:=ae ht;clear ho hok ht HO;go_wp2_with fail;go_ret;exact⟨a,c,rfl,dN.out,Ht.out.ext Xt,Xt⟩
end Go.Proofs.YtlcebdaghmdkeabGreatDoor
