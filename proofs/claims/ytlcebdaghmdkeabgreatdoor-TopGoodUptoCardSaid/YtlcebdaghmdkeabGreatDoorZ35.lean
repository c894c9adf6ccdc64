import Derived.Test.YtlcebdaghmdkeabGreatDoorZ19
import Derived.Test.YtlcebdaghmdkeabGreatDoorZ33
import Derived.Test.YtlcebdaghmdkeabGreatDoorZ34
set_option linter.all false
set_option maxRecDepth 100000
set_option maxHeartbeats 64000000
namespace Go.Proofs.YtlcebdaghmdkeabGreatDoor
open Go.Proofs.Tryz
open Go.RowKit
attribute [local go_sem↓] Go.wp_at_zero Go.wp_at_succ
abbrev Rp.val (x:Rp):Value:= .agg #[.int .i64 x.c, .int .i64 x.n, .string x.b]
def Ik (P:az) (r:Nat) (x:Sv×Rp) (w:World) (e:Ending) (w':World):Prop:=
 e= .returned x.2.val/\Sat w' (aW P w) r x.1/\aT (fun b=>¬P b) w w'
theorem aW.old {P:az} {w:World}:∀b,P b->aW P w b:=fun _ h=> .inl h
theorem Kept.of {T:az} {w w':World} {P:az} {r:Nat} {s:Sv} {v:Value} {xs:List Value} (h:ey w P r s v xs) (e:Ext w w'):Sat w' (aW P w) r s:=⟨v,xs,(h.ext e).mono aW.old⟩
theorem Iw {w w':World} {g o:Nat} {cs:List Value} (h:∀q u,cs[q]? =some u->w.cell? ⟨g,o+q,none⟩=some u/\w.frozen? ⟨g,o+q,none⟩=false) (e:Ext w w'):∀q u,cs[q]? =some u->w'.cell? ⟨g,o+q,none⟩=some u/\w'.frozen? ⟨g,o+q,none⟩=false:=
 fun q u hq=>⟨e.cell (h q u hq).1,by rw [Below.frozen (p:=⟨g,o+q,none⟩) e (lh (h q u hq).1)];exact(h q u hq).2⟩
theorem Vk:∀ {l:List V} {xs:List (Int×Int)},nC l=some xs->xs.length=l.length
 | [],xs,h=>by cases h;rfl
 |x::r,xs,h=>by
  rw [nC] at h
  split at h
  ·rename_i p l hp hl
   cases h
   simp [Vk hl]
  ·cases h
theorem NF (x:V):(gZ (dx x)).length<=8:=by
 unfold dx
 split
 ·split
  ·simp [gZ]
  ·split
   ·split
    ·simp [gZ]
    ·split
     ·rename_i h
      split
      ·rename_i hs
       have:=Vk hs;simp only [gZ];omega
      ·simp [gZ]
     ·simp [gZ]
   ·simp [gZ]
 ·simp [gZ]
theorem fY.status {w:World} {T:az} {l:List Th} {xs:List Value} (h:fY w T l xs) {k:Nat} (hk:k<l.length) (x:St):
 fY w T (l.set k {l[k] with st:=x}) (xs.take (k*15+9)++ [.string x.sb, .string x.cm, .int .i64 x.ph, .int .i64 x.sp, .int .i64 x.wt, .int .i64 x.si]++xs.drop (k*15+9+6)):=by
 obtain⟨h1,h2⟩:=h.cut k;rw [List.drop_eq_getElem_cons hk] at h2;obtain⟨ka,kc,la,lc,oa,oc,t,hB,hti,hr⟩:=h2;rw [List.set_eq_take_append_cons_drop,if_pos hk];have:=h1.app (m:= {l[k] with st:=x}::l.drop (k+1)) ⟨ka,kc,la,lc,oa,oc,t,rfl,⟨hti.v,hti.ok,hti.ows⟩,hr⟩;have e15:xs.drop (k*15+9+6)=t:=by rw [show k*15+9+6=k*15+15 by omega,<-List.drop_drop,hB];exact List.drop_left' (Th.x8 ..)
 rw [List.take_add,hB,e15];simpa [Th.cells] using this
theorem ey.status {w w':World} {P:az} {r g c:Nat} {s:Sv} {xs:List Value} (h:ey w P r s (.slice (some ⟨g,0,none⟩) s.ax.length c) xs) (hx:Ext w w') {k:Nat} (hk:k<s.ax.length) (x:St):
 ey (w'.setCells g (k*15+9) [.string x.sb, .string x.cm, .int .i64 x.ph, .int .i64 x.sp, .int .i64 x.wt, .int .i64 x.si]) P r {s with ax:=s.ax.set k {s.ax[k] with st:=x}} (.slice (some ⟨g,0,none⟩) s.ax.length c) (xs.take (k*15+9)++ [.string x.sb, .string x.cm, .int .i64 x.ph, .int .i64 x.sp, .int .i64 x.wt, .int .i64 x.si]++xs.drop (k*15+9+6)):=by
 have h:=h.ext hx;have hrow:=h.row g rfl;refine⟨h.box.nj (fun e=>hrow.2 e.symm) _ _,h.pr,?_,h.row,?_⟩
 ·have:=Iq (o:=k*15+9) (cs:= [.string x.sb, .string x.cm, .int .i64 x.ph, .int .i64 x.sp, .int .i64 x.wt, .int .i64 x.si]) h.own (by simp only [List.length_cons,List.length_nil];omega)
  simpa using this
 ·refine((h.cells.keep ?_ (fun _ h _=>h)).status hk x)
  exact Held.kept (Held.gh (Held.refl _ _) (fun hb=>hb.2.2 rfl) _ _)
theorem St.afa (x:St):∀u∈ ([.string x.sb, .string x.cm, .int .i64 x.ph, .int .i64 x.sp, .int .i64 x.wt, .int .i64 x.si]:List Value),u.oneCell'=true:=by
 intro u hu;simp only [List.mem_cons,List.not_mem_nil,or_false] at hu;rcases hu with rfl|rfl|rfl|rfl|rfl|rfl<;>rfl
theorem UQ (P:az) (r:Nat) (s:Sv) (k:Nat) (t:Th) (o:Int) (w:World) (fR:Sat w P r s) (hk:k<s.ax.length) (ht:s.ax[k]=t) (hz:t.v.size<=1073741824) (hb:s.ax.length<=1073741824):
 Calls prog 57 #[.pointer (some ⟨r,0,none⟩), .int .i64 k, .int .i64 o] w (Ik P r (xV s k t o) w):=by
 obtain⟨v,xs,h⟩:=fR;obtain⟨g,c,ka,kc,la,lc,oa,oc,rfl,hg,hgr,vX,hnc,hcs,hti⟩:=h.thing hk;rw [ht] at hcs hti;have ag:=h.box;have hlr:=ag.lt;have fx:=ae h;have aJ:=ae hti.v;have G6:=ae (fun q u hq=>(hcs q u hq).2);have Ht:=ae ht;have zV:=ae vX;obtain⟨sp,hsp⟩:∃sp,dx t.v=sp:=⟨_,rfl⟩;obtain⟨⟨x,er⟩,hn⟩:∃n,fD (mD sp) (gZ sp) t.st s.time o=n:=⟨_,rfl⟩;have Hn:=ae hn;have rC:=ae hsp
 have ig:=ae (show xV s k t o=if er≠0 then(s, .no er) else({s with ax:=s.ax.set k {t with st:=x}}, .num x.ph) by
  unfold xV Th.ord Th.next
  rw [hsp,hn];by_cases h0:er=0
  ·subst h0;simp
  ·simp [h0])
 have hxl:(gZ sp).length<=9223372036854775807:=by have:=NF t.v;rw [hsp] at this;omega
 have Hc:=ae hcs;have iN:=ag;clear h hcs hti ht hn hsp vX ag;go_enter func57,ntmps57;go_upto_region 1 with fail
 refine aI (R:=fun wx=>jm wx w.heap.size/\Ext w wx) ⟨aj,Xt⟩ ?_;rintro wa ⟨ai,aH⟩;obtain⟨d0,d1,d2,d3,d4,d5,d6,d7,d8,d9,d10,d11,d12,d13,d14⟩:=BJ (Iw Hc.out aH);have ag:=af.ext aH iN;obtain⟨hc0,aw,hl0⟩:=ag.see;have hz1:=ai.lt;go_wp2_with fail;(refine(Ig t.v ka kc la lc _ _ hz (aJ.out.ext Xt)).mono ?_);rintro e w1 hR;rw [rC.out] at hR;obtain⟨a1,n1,c1,rfl,ay,pC,-,h1⟩:=ux.val hR;have hz2:=h1.size;have hx1:Ext w w1:=Xt;have ai:=af.ext h1 ai;clear hR d0 d1 d2 d3 d4 d5 d6 d7 d8 d9 d10 d11 d12 d13 d14 ag hc0 aw hl0;go_upto_region 3 with fail
 refine aI (R:=fun wx=>jm wx w.heap.size/\af wx w1.heap.size #[.string (mD sp), .slice a1 n1 c1] 50/\StepsIn wx a1 (gZ sp)/\Ext w wx) ⟨aj,aj,pC.ext Xt,Xt⟩ ?_;clear ai pC h1 hx1 aH;rintro wb ⟨ai,ak,hst,aO⟩;have hz3:=ak.lt;obtain⟨d0,d1,d2,d3,d4,d5,d6,d7,d8,d9,d10,d11,d12,d13,d14⟩:=BJ (Iw Hc.out aO);have ag:=af.ext aO iN;obtain⟨hc0,aw,hl0⟩:=ag.see
 go_cut [10,11] (fun CR s11 wx=>∃b,CR= .pointer (some ⟨b,0,none⟩)/\s11= .int .i64 er/\af wx b #[.string x.sb, .string x.cm, .int .i64 x.ph, .int .i64 x.sp, .int .i64 x.wt, .int .i64 x.si] 39/\w.heap.size<b/\jm wx w.heap.size/\Ext w wx)
 case first=>
  have aq:∀w',Ext wb w'-> (w'.cell? ⟨w1.heap.size,0,none⟩=some (.string (mD sp))/\w'.cell? ⟨w1.heap.size,1,none⟩=some (.slice a1 n1 c1)/\w'.cell? ⟨g,k*15+9,none⟩=some (.string t.st.sb)/\w'.cell? ⟨g,k*15+10,none⟩=some (.string t.st.cm)/\w'.cell? ⟨g,k*15+11,none⟩=some (.int .i64 t.st.ph)/\w'.cell? ⟨g,k*15+12,none⟩=some (.int .i64 t.st.sp)/\w'.cell? ⟨g,k*15+13,none⟩=some (.int .i64 t.st.wt)/\w'.cell? ⟨g,k*15+14,none⟩=some (.int .i64 t.st.si)/\w'.cell? ⟨r,1,none⟩=some (.int .i64 s.time)):=
   fun w' e=>⟨e.cell (ak.cells 0),e.cell (ak.cells 1),e.cell d9,e.cell d10,e.cell d11,e.cell d12,e.cell d13,e.cell d14,e.cell (ag.cells 1)⟩
  refine lO aq (by kernel_rfl) (aq _ Xt) (fun hHeld=> ?_);refine aB 0 (h:= ?_);refine aB 1 (h:= ?_);refine aB 2 (h:= ?_);refine aB 3 (h:= ?_);refine aB 4 (h:= ?_);refine aB 5 (h:= ?_);refine aB 6 (h:= ?_);refine aB 7 (h:= ?_);refine aB 8 (h:= ?_);refine aB 9 (h:= ?_);(try simp only [rl]);refine wpAnyH_ready (rs:= [10,14]) (by kernel_rfl) (by simp) ?_;refine AllReadyH.cons (Array.getElem?_eq_getElem (by decide)) (fun K hK=> ?_) (AllReadyH.cons (Array.getElem?_eq_getElem (by decide)) (fun K hK=> ?_) AllReadyH.nil)
  · (try simp only [rl])
    (try go_simp);(refine(M3 Hn.out _ hxl (hst.ext Xt) ay.symm).mono ?_);rintro e w2 ⟨rfl,h2⟩;(try go_simp);have hx2:Ext wb w2:=Xt;have zZ:=af.ext hx2 ai;have gJ:=hx2.size;refine hK.out _ _ (aq _ Xt) (fun hHeld=> ?_);clear hK K;refine aB 11 (h:= ?_);refine aB 12 (h:= ?_);refine aB 13 (h:= ?_);(try simp only [rl]);refine fJ 14 (h:=fun K hK=> ?_);(try simp only [rl]);go_simp;refine hK.out _ _ (aq _ Xt) (fun hHeld=> ?_);clear hK K;(try simp only [rl]);refine fJ 15 (h:=fun K hK=> ?_);(try simp only [rl]);go_simp;refine hK.out _ _ (aq _ Xt) (fun hHeld=> ?_);clear hK K;(try simp only [rl]);refine fJ 16 (h:=fun K hK=> ?_);(try simp only [rl]);go_simp;refine hK.out _ _ (aq _ Xt) (fun hHeld=> ?_);clear hK K;(try simp only [rl]);refine wpAnyH_done (by kernel_rfl) ?_ _;go_wp2_with fail
    go_meet
    exact⟨_,rfl,rfl,aj,by omega,aj,Xt⟩
  · (try simp only [rl])
    go_simp;refine hK.out _ _ (aq _ Xt) (fun hHeld=> ?_);clear hK K;(try simp only [rl]);refine fJ 10 (h:=fun K hK=> ?_);(try simp only [rl]);(try go_simp);(refine(M3 Hn.out _ hxl (hst.ext Xt) ay.symm).mono ?_);rintro e w2 ⟨rfl,h2⟩;(try go_simp);have mf:af w2 wb.heap.size #[.string ⟨#[]⟩, .string ⟨#[]⟩, .int .i64 0, .int .i64 0, .int .i64 0, .int .i64 0] 39:=af.ext h2 aj;have hx2:Ext wb w2:=Xt;have zZ:=af.ext hx2 ai;have gJ:=hx2.size;obtain⟨hct,hft,hlt⟩:=mf.see;refine hK.out _ _ (aq _ Xt) (fun hHeld=> ?_);clear hK K;refine aB 11 (h:= ?_);refine aB 12 (h:= ?_);refine aB 13 (h:= ?_);(try simp only [rl]);refine fJ 15 (h:=fun K hK=> ?_);(try simp only [rl]);go_simp;refine hK.out _ _ (aq _ Xt) (fun hHeld=> ?_);clear hK K;(try simp only [rl]);refine fJ 16 (h:=fun K hK=> ?_);(try simp only [rl]);go_simp;refine hK.out _ _ (aq _ Xt) (fun hHeld=> ?_);clear hK K;(try simp only [rl]);refine wpAnyH_done (by kernel_rfl) ?_ _;go_wp2_with fail
    go_meet
    exact⟨_,rfl,rfl,aj,by omega,aj,Xt⟩
 case rest=>
  clear ag hc0 aw hl0 ai ak d0 d1 d2 d3 d4 d5 d6 d7 d8 d9 d10 d11 d12 d13 d14;obtain⟨b,rfl,rfl,hBb,fB,ai,hx⟩:=hcut;have hlb:=hBb.lt;obtain⟨hcb,xp,hlb⟩:=hBb.see;obtain⟨hc1,aA,ay⟩:=ai.see;by_cases h0:er=0
  ·subst h0
   have kM:Hid (wc.there g (k*15+9) 6):=Vi (cs:=t.cells ka kc la lc oa oc) (Iw Hc.out hx) (by rw [Th.x8];omega);go_upto_region 7 with(refine wpList_store_mid rfl 39 _ _ rfl g (k*15+9) #[.string x.sb, .string x.cm, .int .i64 x.ph, .int .i64 x.sp, .int .i64 x.wt, .int .i64 x.si] (by rfl) (by rfl) (by exact kM.out) Tryz.ae9 (all_oneCell_toArray (St.afa x)) ?_)
   refine aI (R:=fun wy=>ey wy (fun b=>P b/\b<w.heap.size) r {s with ax:=s.ax.set k {t with st:=x}} (.slice (some ⟨g,0,none⟩) s.ax.length c) (xs.take (k*15+9)++ [.string x.sb, .string x.cm, .int .i64 x.ph, .int .i64 x.sp, .int .i64 x.wt, .int .i64 x.si]++xs.drop (k*15+9+6))/\af wy b #[.string x.sb, .string x.cm, .int .i64 x.ph, .int .i64 x.sp, .int .i64 x.wt, .int .i64 x.si] 39/\jm wy w.heap.size/\aT (fun b=>¬P b) w wy)
    ⟨by have:=fx.out.old.status (w':=wc) Xt hk x;rw [Ht.out] at this;exact this,hBb.nj (by omega) _ _,ai.nj (by omega) _ _,(Ext.upd hx _).sets (fun h=>absurd zV.out h) _ _⟩ ?_
   clear hBb ai hcb xp hlb hc1 aA ay kM;rintro wd ⟨fR,hBb,ai,hup⟩;have rA:=ae fR;clear fR;obtain⟨hcb,xp,hlb⟩:=hBb.see;obtain⟨hc1,aA,ay⟩:=ai.see;go_wp2_with fail;refine aF (h:= ?_);rw [ig.out,if_neg (by simp)];exact⟨rfl,⟨_,_,(rA.out.keep ((Held.kept (T:=fun b=>b<w.heap.size) aC).mono fun b hb=>hb.2)).mono fun b hb=> .inl hb.1⟩,fy⟩
  ·have r9:(er !=0)=true:=by simpa using h0
   have hup:aT (fun b=>¬P b) w wc:=hx.upd _;have afb:=ae (ig.out.trans (if_pos h0));clear h0;go_wp2_with fail;refine aF (h:= ?_);rw [afb.out];exact⟨rfl,⟨_,_,((fx.out.old.ext hx).keep ((Held.kept (T:=fun b=>b<w.heap.size) aC).mono fun b hb=>hb.2)).mono fun b hb=> .inl hb.1⟩,fy⟩
end Go.Proofs.YtlcebdaghmdkeabGreatDoor
