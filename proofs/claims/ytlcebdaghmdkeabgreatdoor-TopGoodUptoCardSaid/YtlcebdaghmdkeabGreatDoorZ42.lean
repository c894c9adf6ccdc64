import Derived.Test.YtlcebdaghmdkeabGreatDoorZ41
set_option linter.all false
set_option maxRecDepth 100000
set_option maxHeartbeats 64000000
namespace Go.Proofs.YtlcebdaghmdkeabGreatDoor
open Go.Proofs.Tryz
open Go.RowKit
attribute [local go_sem↓] Go.wp_at_zero Go.wp_at_succ
theorem vY (er:Int) (w:World):Calls prog 51 #[.int .i64 er] w fun e w'=>e= .returned (Rp.no er).val/\Ext w w':=by
 go_enter func51,ntmps51;go_wp2_with fail;refine aF (h:= ?_);exact⟨rfl,Xt⟩
structure Inv (s:Sv):Prop where
 len:s.ax.length<=8
 dL:cz (s.ax.map Th.name)
 size:∀t∈s.ax,t.v.size<=14640/\cw t.ows<=1800000/\0<=t.gen/\t.gen<=1000000
 last:0<=s.last/\s.last<=1000000
 time:0<=s.time/\s.time<=1099511627776
 acts:0<=s.acts/\s.acts<=1000000
def jl (P:az) (w:World):Prop:=∀w',aT (fun b=>¬P b) w w'->cM w'/\rN w'
theorem jl.next {P:az} {w w':World} (h:jl P w) (u:aT (fun b=>¬P b) w w'):jl P w':=fun _ k=>h _ (u.trans k)
theorem ey.act {w w':World} {P:az} {r:Nat} {s:Sv} {v:Value} {xs:List Value} (h:ey w P r s v xs) (hx:Ext w w') (n:Int):ey (w'.setCell ⟨r,3,none⟩ (.int .i64 n)) P r {s with acts:=n} v xs:=by
 have h:=h.ext hx;have hB:af (w'.setCell ⟨r,3,none⟩ (.int .i64 n)) r #[v, .int .i64 s.time, .int .i64 s.last, .int .i64 n] 74:=h.box.set 3 _;have hk:Kept (fun b=>b≠r) w' (w'.setCell ⟨r,3,none⟩ (.int .i64 n)):=Held.kept aC;exact⟨hB,h.pr,dX h.own (fun b hl he=>hk b (h.row b he).2 hl),h.row,h.cells.keep (fun b hb hl=>hk b hb.2.1 hl) (fun _ h _=>h)⟩
theorem Sat.fin {P:az} {w wx w6 w':World} {r:Nat} {s:Sv} (h:Sat w6 (aW (fun b=>P b/\b<w.heap.size) wx) r s) (hz:w.heap.size+2<=wx.heap.size) (k:Held (fun b=>b≠w.heap.size+1) w6 w'):Sat w' (aW P w) r s:=
 (h.keep (k.kept.mono fun b hb=>by rcases hb with hb|hb<;>omega)).mono fun b hb=>by
  rcases hb with hb|hb
  ·exact .inl hb.1
  ·exact .inr (by omega)
theorem Sat.uC {P:az} {w w6 w':World} {r:Nat} {s:Sv} (h:Sat w6 (fun b=>P b/\b<w.heap.size) r s) (k:Held (fun b=>b≠w.heap.size+1) w6 w'):Sat w' (aW P w) r s:=
 (h.keep (k.kept.mono fun b hb=>by omega)).mono fun b hb=> .inl hb.1
theorem Np (l:List Th) (name:ah):fw l name<=l.length:=by
 unfold fw posOf;have:=(List.takeWhile_sublist (fun k=>bC k name) (l:=l.map Th.name)).length_le;simpa using this
theorem aeR {w:World} {g o:Nat} {t t':Th} {ka:au} {kc:Nat} {la:au} {lc:Nat} {oa:au} {oc:Nat} (h:∀q u,(t.cells ka kc la lc oa oc)[q]? =some u->w.cell? ⟨g,o+q,none⟩=some u/\w.frozen? ⟨g,o+q,none⟩=false) (e:t=t'):
 ∀q u,(t'.cells ka kc la lc oa oc)[q]? =some u->w.cell? ⟨g,o+q,none⟩=some u/\w.frozen? ⟨g,o+q,none⟩=false:=e▸h
theorem aeS (g c k n:Nat) (xs:List Value) (w:World) (hk:k<n) (hn:n<=1073741824) (hown:w.ownsRow 0 41 15 (.slice (some ⟨g,0,none⟩) n c) n xs) (h1:∀u∈xs,u.oneCell'=true):
 Calls prog 55 #[.slice (some ⟨g,0,none⟩) n c, .int .i64 k, .int .i64 ((k:Int)+1)] w fun e w'=>e= .returned (.slice (some ⟨g,0,none⟩) (n-1) c)/\
  w'.ownsRow 0 41 15 (.slice (some ⟨g,0,none⟩) (n-1) c) (n-1) (xs.take (k*15)++xs.drop ((k+1)*15))/\w.grownBy w' (some g):=by
 obtain⟨m,rfl⟩:∃m,n=m+1:=⟨n-1,by omega⟩;obtain⟨g',cap,cur,hv,hb,hg,hnc,hm,hcs,ht⟩:=uh hown (by omega)
 cases hv
 have ht':cur.toList.take ((m+1)*15)=xs:=by simpa using ht
 subst ht';exact W7 0 g m c k cur w hb hg (by omega) hm hcs (by omega) h1
theorem ey.del {w wq wi:World} {P:az} {r g c k:Nat} {s:Sv} {xs:List Value} (h:ey w P r s (.slice (some ⟨g,0,none⟩) s.ax.length c) xs) (hx:Ext w wq) (hk:k<s.ax.length)
 (hown:wi.ownsRow 0 41 15 (.slice (some ⟨g,0,none⟩) (s.ax.length-1) c) (s.ax.length-1) (xs.take (k*15)++xs.drop ((k+1)*15))) (hgr:wq.grownBy wi (some g)):
 ey (wi.setCell ⟨r,0,none⟩ (.slice (some ⟨g,0,none⟩) (s.ax.length-1) c)) P r {s with ax:=s.ax.take k++s.ax.drop (k+1)} (.slice (some ⟨g,0,none⟩) (s.ax.length-1) c) (xs.take (k*15)++xs.drop ((k+1)*15)):=by
 have hrow:=h.row g rfl;have hxs:=hx.size
 have hB:af (wi.setCell ⟨r,0,none⟩ (.slice (some ⟨g,0,none⟩) (s.ax.length-1) c)) r #[.slice (some ⟨g,0,none⟩) (s.ax.length-1) c, .int .i64 s.time, .int .i64 s.last, .int .i64 s.acts] 74:=
  ((af.ext hx h.box).grown hgr (fun e=>hrow.2 (Option.some.inj e).symm)).set 0 _
 have hk1:Kept (fun b=>P b/\b≠r/\ (Value.slice (some ⟨g,0,none⟩) s.ax.length c).ownBlock≠some b) w (wi.setCell ⟨r,0,none⟩ (.slice (some ⟨g,0,none⟩) (s.ax.length-1) c)):=fun b hb hl=>by rw [Below.heap_setCell _ _ _ _ (by exact hb.2.1),hgr.block b (by omega) (fun e=>hb.2.2 (by cases e;rfl)),Below.block hx b hl]
 refine⟨hB,h.pr,?_,fun q hq=>by cases hq;exact hrow,?_⟩
 ·have:(s.ax.take k++s.ax.drop (k+1)).length=s.ax.length-1:=by simp;omega
  show World.ownsRow _ 0 _ 15 _ (s.ax.take k++s.ax.drop (k+1)).length _;rw [this];exact dX hown (fun b hb he=>by cases he;rw [Below.heap_setCell _ _ _ _ (by exact hrow.2)])
 ·have:=h.cells.keep hk1 (fun b hb _=>hb)
  exact(this.cut k).1.app (this.cut (k+1)).2
theorem aeT (s:Sv) (n:Int):(oM s n).2= .no (oM s n).2.c:=by
 unfold oM
 split<;>rfl
theorem EJ (P:az) (r:Nat) (s:Sv) (a:Ac) (w:World) (fR:Sat w P r s) (hi:Inv s) (hl:jl P w) (hnz:a.name.size<=1048576) (hbz:a.body.size<=1048576) (hwz:a.who.size<=1048576):
 Calls prog 31 #[.pointer (some ⟨r,0,none⟩), .agg #[.int .i64 a.k, .string a.name, .string a.who, .string a.body, .int .i64 a.ver, .int .i64 a.n, .int .i64 a.ord, .bool a.force]] w (Ik P r (bP s a) w):=by
 obtain⟨v,xs,h⟩:=fR;have ag:=h.box;have hlr:=ag.lt;have fx:=ae h.old;have BI:=ae h.pr;have hlen:=hi.len;obtain⟨ha0,ha1⟩:=hi.acts;obtain⟨ht0,ht1⟩:=hi.time;obtain⟨hs0,hs1⟩:=hi.last;have Hi:=ae hi;have Hl:=ae hl;clear h hi hl;by_cases hfull:300<=s.acts
 ·have Hr:=ae (show bP s a=(s, .no 10) by unfold bP;rw [if_pos hfull])
  obtain⟨hc0,aw,hl0⟩:=ag.see;go_enter func31,ntmps31;go_wp2_with fail;(refine(vY 10 _).mono ?_);rintro e w1 ⟨rfl,h1⟩;have hR:jm w1 (w.heap.size+1):=af.ext h1 aQ;have hx1:Ext w w1:=Xt;have hup:aT (fun b=>¬P b) w w1:=hx1.upd _;have eU:=hR.lt;have dY:=ae (show Sat w1 _ r s from⟨_,_,fx.out.ext hx1⟩);clear h1;obtain⟨hcR,jO,eU⟩:=hR.see;go_wp2_with fail;refine aF (h:= ?_);rw [Hr.out];exact⟨rfl,dY.out.uC aC,fy⟩
 ·obtain⟨n1,oY⟩:∃n1,s.acts+1=n1:=⟨_,rfl⟩
  have Hr:=ae (show bP s a=EK {s with acts:=n1} a by unfold bP;rw [if_neg hfull,oY]);have Qa:=ae oY;obtain⟨hc0,aw,hl0⟩:=ag.see;go_enter func31,ntmps31;go_upto_region 7 with fail
  refine aI (R:=fun wx=>qq wx w.heap.size a/\jm wx (w.heap.size+1)/\Sat wx (fun b=>P b/\b<w.heap.size) r {s with acts:=n1}/\aT (fun b=>¬P b) w wx) ⟨aQ,aQ,⟨_,_,(fx.out.act (Ext.refl w) n1).ext Xt⟩,((aT.refl _ w).set (p:=⟨r,3,none⟩) (fun h=>absurd BI.out h) _).ext Xt⟩ ?_;clear ag hc0 aw hl0 oY;rintro wb ⟨hA,hR,hs1,hup⟩;have dY:=ae hs1;have Nq:=hR.lt;clear hs1;obtain⟨jP,jQ,hlA⟩:=hA.see;by_cases hk:a.k<1\/9<a.k
  ·replace Hr:=ae (show bP s a=({s with acts:=n1}, .no 9) by rw [Hr.out];unfold EK;rw [if_pos hk])
   rcases hk with hk|hk
   ·go_wp2_with fail
    (refine(vY 9 _).mono ?_);rintro e w2 ⟨rfl,h2⟩;have hx2:Ext wb w2:=Xt;have bW:=af.ext hx2 hR;have hs2:=dY.out.ext hx2;have ry:=hup.ext hx2;have jv:=ae hs2;clear h2 hs2;obtain⟨hcR,jO,eU⟩:=bW.see;go_wp2_with fail;refine aF (h:= ?_);rw [Hr.out];exact⟨rfl,jv.out.uC aC,fy⟩
   ·have gS:¬a.k<1:=by omega
    go_wp2_with fail;(refine(vY 9 _).mono ?_);rintro e w2 ⟨rfl,h2⟩;have hx2:Ext wb w2:=Xt;have bW:=af.ext hx2 hR;have hs2:=dY.out.ext hx2;have ry:=hup.ext hx2;have jv:=ae hs2;clear h2 hs2;obtain⟨hcR,jO,eU⟩:=bW.see;go_wp2_with fail;refine aF (h:= ?_);rw [Hr.out];exact⟨rfl,jv.out.uC aC,fy⟩
  ·have gS:¬a.k<1:=by omega
   have hk9:¬9<a.k:=by omega
   replace Hr:=ae (show bP s a=if a.k=8 then oM {s with acts:=n1} a.n else if gK a.name=false then({s with acts:=n1}, .no 1) else if a.k=1\/ (a.k=5/\gG s.ax a.name=false) then rz {s with acts:=n1} a (fw s.ax a.name) (gG s.ax a.name) else if gG s.ax a.name=false then({s with acts:=n1}, .no 3) else match s.ax[fw s.ax a.name]? with|some t=>uD {s with acts:=n1} (fw s.ax a.name) t a|none=>({s with acts:=n1}, .no 3) by rw [Hr.out];unfold EK;rw [if_neg hk];rfl);clear hk;by_cases h8:a.k=8
   ·have h8b:(a.k==8)=true:=by simpa using h8
    replace Hr:=ae (show bP s a=oM {s with acts:=n1} a.n by rw [Hr.out,if_pos h8]);clear h8;go_wp2_with fail;(refine(aeU (fun b=>P b/\b<w.heap.size) r {s with acts:=n1} a.n _ (dY.out.ext Xt) (by simp only;omega) (fun t ht=>by have:=(Hi.out.size t ht).1;omega) ht0 ht1).mono ?_);rintro e w2 ⟨rfl,hs2,hu2⟩;have ry:=hup.over hu2 (fun b h hl hq=>h hq.1);have bW:=af.held (T:=fun b=>¬(P b/\b<w.heap.size)) ⟨hu2.size,hu2.block⟩ (show jm _ (w.heap.size+1) from hR) (fun h=>by omega);have jv:=ae hs2;have hz2:=ry.size;clear hs2 hu2 jP jQ hlA hA hR;go_wp2_with fail;(refine(vY _ _).mono ?_);rintro e w3 ⟨rfl,h3⟩;have bT:=af.ext h3 bW;have eU:=bT.lt;have zU:=ae (jv.out.ext h3);have Nr:=ry.ext h3;have htk:=aeT {s with acts:=n1} a.n;have mW:=ae htk;clear h3 htk bW;obtain⟨hcR,jO,eU⟩:=bT.see;go_wp2_with fail;refine aF (h:= ?_);rw [Hr.out];exact⟨by rw [<-mW.out],zU.out.fin (by omega) aC,fy⟩
   ·have h8b:(a.k==8)=false:=by simpa using h8
    replace Hr:=ae (show bP s a=if gK a.name=false then({s with acts:=n1}, .no 1) else if a.k=1\/ (a.k=5/\gG s.ax a.name=false) then rz {s with acts:=n1} a (fw s.ax a.name) (gG s.ax a.name) else if gG s.ax a.name=false then({s with acts:=n1}, .no 3) else match s.ax[fw s.ax a.name]? with|some t=>uD {s with acts:=n1} (fw s.ax a.name) t a|none=>({s with acts:=n1}, .no 3) by rw [Hr.out,if_neg h8]);clear h8;have Hs:=dY
    cases eF:gK a.name with
    |false=>
     have ij:=ae eF;replace Hr:=ae (show bP s a=({s with acts:=n1}, .no 1) by rw [Hr.out,if_pos eF]);clear eF;go_wp2_with fail;(refine(p5 a.name _ (by omega)).mono ?_);rw [ij.out];rintro e w1 ⟨rfl,rfl⟩;go_wp2_with fail;(refine(vY 1 _).mono ?_);rintro e w7 ⟨rfl,h7⟩;have cW:Ext wb w7:=Xt;have iA:=af.ext cW hR;have fO:=Hs.out.ext cW;have xU:=hup.ext cW;have eU:=iA.lt;have kQ:=ae fO;clear h7 fO hR;obtain⟨hcR,jO,eU⟩:=iA.see;go_wp2_with fail;refine aF (h:= ?_);rw [Hr.out];exact⟨rfl,kQ.out.uC aC,fy⟩
    |true=>
     have ij:=ae eF;obtain⟨k,hk⟩:∃k,fw s.ax a.name=k:=⟨_,rfl⟩;obtain⟨ok,hok⟩:∃b,gG s.ax a.name=b:=⟨_,rfl⟩;replace Hr:=ae (show bP s a=if a.k=1\/ (a.k=5/\ok=false) then rz {s with acts:=n1} a k ok else if ok=false then({s with acts:=n1}, .no 3) else match s.ax[k]? with|some t=>uD {s with acts:=n1} k t a|none=>({s with acts:=n1}, .no 3) by rw [Hr.out,if_neg (by rw [eF];simp),hk,hok]);have hkl:k<=s.ax.length:=by rw [<-hk];exact Np _ _
     have Hk:=ae hk;have dN:=ae hok;clear eF hk hok;go_wp2_with fail;(refine(p5 a.name _ (by omega)).mono ?_);rw [ij.out];rintro e w1 ⟨rfl,rfl⟩;go_wp2_with fail;(refine(aeV (fun b=>P b/\b<w.heap.size) r {s with acts:=n1} a.name _ (dY.out.ext Xt) (by simp only;omega) Hi.out.dL).mono ?_);rintro e w2 ⟨rfl,h2⟩;simp only;rw [Hk.out,dN.out];have hx2:Ext wb w2:=Xt;have hA:=af.ext hx2 hA;have hR:=af.ext hx2 hR;have Hs:=ae (dY.out.ext hx2);have hup:=hup.ext hx2;have Nq:=hR.lt;clear h2 hx2 jP jQ hlA;obtain⟨jP,jQ,hlA⟩:=hA.see;by_cases hcr:a.k=1\/ (a.k=5/\ok=false)
     ·replace Hr:=ae (show bP s a=rz {s with acts:=n1} a k ok by rw [Hr.out,if_pos hcr])
      rcases hcr with h1|⟨h5,rfl⟩
      ·have h1b:(a.k==1)=true:=by simpa using h1
       clear h1;go_wp2_with fail;(refine(UM (fun b=>P b/\b<w.heap.size) r {s with acts:=n1} a k ok _ (Hs.out.ext Xt) hkl (by simp only;omega) hs0 (by simp only;omega) hbz hwz (Hl.out _ (hup.ext Xt)).1 (Hl.out _ (hup.ext Xt)).2).mono ?_);rintro e w7 ⟨rfl,fO,jz⟩;have xU:=hup.over jz (fun b h hl hq=>h hq.1);have iA:=af.held (T:=fun b=>¬(P b/\b<w.heap.size)) ⟨jz.size,jz.block⟩ (af.ext (w:=w2) Xt hR) (fun h=>by omega);have eU:=iA.lt;have hzs:=jz.size;have kQ:=ae fO;clear fO jz hR;obtain⟨hcR,jO,eU⟩:=iA.see;go_wp2_with fail;refine aF (h:= ?_);rw [Hr.out];refine⟨rfl,kQ.out.fin (by(try simp);omega) ?_,fy⟩
       with_reducible repeat (first|exact Held.refl _ _|assumption|apply Held.drew|apply Held.drewN|apply Held.alloc|(refine Held.set ?_ ?_ _;rotate_left;(focus(first|(simp;done)|(simp;omega)|omega)))|(refine Held.ext ?_ (by assumption))|(refine Held.grown ?_ (by assumption) (by assumption))|(refine Held.trans ?_ (by assumption)))
      ·have h1b:(a.k==1)=false:=by simp;omega
       have pT:(a.k==5)=true:=by simpa using h5
       clear h5;go_wp2_with fail;(refine(UM (fun b=>P b/\b<w.heap.size) r {s with acts:=n1} a k false _ (Hs.out.ext Xt) hkl (by simp only;omega) hs0 (by simp only;omega) hbz hwz (Hl.out _ (hup.ext Xt)).1 (Hl.out _ (hup.ext Xt)).2).mono ?_);rintro e w7 ⟨rfl,fO,jz⟩;have xU:=hup.over jz (fun b h hl hq=>h hq.1);have iA:=af.held (T:=fun b=>¬(P b/\b<w.heap.size)) ⟨jz.size,jz.block⟩ (af.ext (w:=w2) Xt hR) (fun h=>by omega);have eU:=iA.lt;have hzs:=jz.size;have kQ:=ae fO;clear fO jz hR;obtain⟨hcR,jO,eU⟩:=iA.see;go_wp2_with fail;refine aF (h:= ?_);rw [Hr.out];refine⟨rfl,kQ.out.fin (by(try simp);omega) ?_,fy⟩
       with_reducible repeat (first|exact Held.refl _ _|assumption|apply Held.drew|apply Held.drewN|apply Held.alloc|(refine Held.set ?_ ?_ _;rotate_left;(focus(first|(simp;done)|(simp;omega)|omega)))|(refine Held.ext ?_ (by assumption))|(refine Held.grown ?_ (by assumption) (by assumption))|(refine Held.trans ?_ (by assumption)))
     ·have h1b:(a.k==1)=false:=by simpa using fun h=>hcr (.inl h)
      cases ok with
      |false=>
       have pT:(a.k==5)=false:=by simpa using fun h=>hcr (.inr ⟨h,rfl⟩)
       replace Hr:=ae (show bP s a=({s with acts:=n1}, .no 3) by rw [Hr.out,if_neg hcr,if_pos rfl]);clear hcr;go_wp2_with fail;(refine(vY 3 _).mono ?_);rintro e w7 ⟨rfl,h7⟩;have cW:Ext w2 w7:=Xt;have iA:=af.ext cW hR;have fO:=Hs.out.ext cW;have xU:=hup.ext cW;have eU:=iA.lt;have kQ:=ae fO;clear h7 fO hR;obtain⟨hcR,jO,eU⟩:=iA.see;go_wp2_with fail;refine aF (h:= ?_);rw [Hr.out];exact⟨rfl,kQ.out.uC aC,fy⟩
      |true=>
       have hkn:k<s.ax.length:=by
        rcases Nat.lt_or_ge k s.ax.length with h|h
        ·exact h
        ·have:=UN (l:=s.ax) (name:=a.name) (by rw [Hk.out];omega)
         rw [dN.out] at this;cases this
       obtain⟨t,ht⟩:∃t,s.ax[k]=t:=⟨_,rfl⟩;replace Hr:=ae (show bP s a=uD {s with acts:=n1} k t a by rw [Hr.out,if_neg hcr,if_neg (by simp),List.getElem?_eq_getElem hkn,ht]);obtain⟨Ns,UO,ahx,ahy⟩:=Hi.out.size t (by rw [<-ht];exact List.getElem_mem hkn);have Ht:=ae ht;clear hcr ht;go_upto_region 14 with fail
       go_cut [80] (fun s80 wx=>s80= .bool false/\w2=wx)
       case first=>
        by_cases h5:a.k=5
        ·have pT:(a.k==5)=true:=by simpa using h5
         clear h5;go_wp2_with fail
         go_meet
         exact⟨rfl,rfl⟩
        ·have pT:(a.k==5)=false:=by simpa using h5
         clear h5;go_wp2_with fail
         go_meet
         exact⟨rfl,rfl⟩
       case rest=>
        obtain⟨rfl,rfl⟩:=hcut;obtain⟨v2,Il,Im⟩:=Hs.out;obtain⟨g,c,ka,kc,la,lc,oa,oc,rfl,hg,hgr,vX,hnc,hcs,hti⟩:=Im.thing hkn;replace hcs:=aeR hcs Ht.out;have qX:=ae (show ji w2 (fun b=>(P b/\b<w.heap.size)/\b≠r/\b≠g) t ka kc la lc oa oc from by have h:=Ht.out;subst h;exact hti);have rA:=ae Im;have ag:=Im.box;have zV:=ae vX;obtain⟨hc0,aw,hl0⟩:=ag.see;obtain⟨d0,d1,d2,d3,d4,d5,d6,d7,d8,d9,d10,d11,d12,d13,d14⟩:=BJ hcs;clear Im hti hcs vX;go_upto_region 19 with fail
        refine aI (R:=fun wx=>qq wx w.heap.size a/\jm wx (w.heap.size+1)/\fu wx w2.heap.size t ka kc la lc oa oc/\Ext w2 wx) ⟨aQ,aQ,aQ,Xt⟩ ?_;clear hA hR ag hc0 aw hl0 jP jQ hlA d0 d1 d2 d3 d4 d5 d6 d7 d8 d9 d10 d11 d12 d13 d14 Hs;rintro wc ⟨hA,hR,hT,hx⟩;have Hs:=ae (show Sat wc (fun b=>P b/\b<w.heap.size) r {s with acts:=n1} from⟨_,_,rA.out.ext hx⟩);replace hup:=hup.ext hx;have Nt:=hT.lt;have Fk:w.heap.size+2<=w2.heap.size:=by omega
        obtain⟨jP,jQ,hlA⟩:=hA.see;obtain⟨iB,iC,fE⟩:=hT.see;by_cases h9:a.k=9
        ·have h9b:(a.k==9)=true:=by simpa using h9
         have DU:(a.k==6)=false:=by simp;omega
         replace Hr:=ae (show bP s a=({s with acts:=n1},EL t) by rw [Hr.out];unfold uD;rw [if_neg (by omega),if_pos h9]);clear h9;obtain⟨⟨pb,pe⟩,hp⟩:∃z,lv t.v=z:=⟨_,rfl⟩;have Hp:=ae hp;clear hp;go_wp2_with fail;(refine(abX t.v ka kc la lc _ _ (by omega) (qX.out.v.ext Xt) (Hl.out _ (hup.ext Xt)).1).mono ?_);rw [Hp.out];rintro e w3 ⟨rfl,h3⟩;have hx3:Ext wc w3:=Xt;have hR:=af.ext hx3 hR;have hT:=af.ext hx3 hT;replace Hs:=ae (Hs.out.ext hx3);replace hup:=hup.ext hx3;have eU:=hR.lt;clear h3 jP jQ hlA iB iC fE hA hx;by_cases hpe:pe=0
         ·subst hpe
          replace Hr:=ae (show bP s a=({s with acts:=n1},⟨0,t.ver,⟨pb.toArray⟩⟩) by rw [Hr.out];unfold EL;rw [Hp.out,if_neg (by simp)]);obtain⟨hcR,jO,eU⟩:=hR.see;obtain⟨iB,iC,fE⟩:=hT.see;go_wp2_with fail;refine aF (h:= ?_);rw [Hr.out];refine⟨rfl,Hs.out.uC ?_,fy⟩
          with_reducible repeat (first|exact Held.refl _ _|assumption|apply Held.drew|apply Held.drewN|apply Held.alloc|(refine Held.set ?_ ?_ _;rotate_left;(focus(first|(simp;done)|(simp;omega)|omega)))|(refine Held.ext ?_ (by assumption))|(refine Held.grown ?_ (by assumption) (by assumption))|(refine Held.trans ?_ (by assumption)))
         ·have ahz:(pe !=0)=true:=by simpa using hpe
          replace Hr:=ae (show bP s a=({s with acts:=n1}, .no pe) by rw [Hr.out];unfold EL;rw [Hp.out,if_pos hpe]);clear hpe;go_wp2_with fail;(refine(vY pe _).mono ?_);rintro e w7 ⟨rfl,h7⟩;have cW:Ext w3 w7:=Xt;have iA:=af.ext cW hR;have fO:=Hs.out.ext cW;have xU:=hup.ext cW;have eU:=iA.lt;have kQ:=ae fO;clear h7 fO hR;obtain⟨hcR,jO,eU⟩:=iA.see;go_wp2_with fail;refine aF (h:= ?_);rw [Hr.out];exact⟨rfl,kQ.out.uC aC,fy⟩
        ·have h9b:(a.k==9)=false:=by simpa using h9
         by_cases h7:a.k=7
         ·have Li:(a.k==7)=true:=by simpa using h7
          have DU:(a.k==6)=false:=by simp;omega
          replace Hr:=ae (show bP s a=xV {s with acts:=n1} k t a.ord by rw [Hr.out];unfold uD;rw [if_neg (by omega),if_neg h9,if_pos h7]);clear h7 h9;go_wp2_with fail;(refine(UQ (fun b=>P b/\b<w.heap.size) r {s with acts:=n1} k t a.ord _ (Hs.out.ext Xt) hkn Ht.out (by omega) (by simp only;omega)).mono ?_);rintro e w7 ⟨rfl,fO,jz⟩;have xU:=hup.over jz (fun b h hl hq=>h hq.1);have iA:=af.held (T:=fun b=>¬(P b/\b<w.heap.size)) ⟨jz.size,jz.block⟩ (af.ext (w:=wc) Xt hR) (fun h=>by omega);have eU:=iA.lt;have hzs:=jz.size;have kQ:=ae fO;clear fO jz hR;obtain⟨hcR,jO,eU⟩:=iA.see;go_wp2_with fail;refine aF (h:= ?_);rw [Hr.out];refine⟨rfl,kQ.out.fin (by(try simp);omega) ?_,fy⟩
          with_reducible repeat (first|exact Held.refl _ _|assumption|apply Held.drew|apply Held.drewN|apply Held.alloc|(refine Held.set ?_ ?_ _;rotate_left;(focus(first|(simp;done)|(simp;omega)|omega)))|(refine Held.ext ?_ (by assumption))|(refine Held.grown ?_ (by assumption) (by assumption))|(refine Held.trans ?_ (by assumption)))
         ·have Li:(a.k==7)=false:=by simpa using h7
          by_cases h6:a.k=6
          ·have DU:(a.k==6)=true:=by simpa using h6
           replace Hr:=ae (show bP s a=({s with acts:=n1,ax:=s.ax.take k++s.ax.drop (k+1)}, .num t.ver) by rw [Hr.out];unfold uD;rw [if_pos h6]);clear h6 h7 h9;have ag:=(rA.out.ext hx).box;have hrg:r≠g:=fun e=>hgr e.symm;have vR:g<w.heap.size:=zV.out.2;obtain⟨hc0,aw,hl0⟩:=ag.see;go_wp2_with fail;(refine(aeS g c k s.ax.length Il _ hkn (by omega) (eD rA.out.own Xt) rA.out.cells.one).mono ?_);rintro e w3 ⟨rfl,eH,zW⟩;have hz3:=zW.size;have aV:=(af.ext (w:=wc) Xt ag).grown zW (fun e=>hrg (Option.some.inj e));have bT:=(af.ext (w:=wc) Xt hR).grown zW (fun e=>by have:=Option.some.inj e;omega);have Io:=(af.ext (w:=wc) Xt hT).grown zW (fun e=>by have:=Option.some.inj e;omega);have Nr:aT (fun b=>¬P b) w w3:=(aT.ext hup Xt).grown zW (fun q hq h=>absurd zV.out.1 (by cases hq;exact h));have ahA:=aV.lt;have eU:=bT.lt;have fE:=Io.lt;obtain⟨wj,iz⟩:∃wj,w3.setCell ⟨r,0,none⟩ (.slice (some ⟨g,0,none⟩) (s.ax.length-1) c)=wj:=⟨_,rfl⟩;have hsj:ey wj (fun b=>P b/\b<w.heap.size) r {s with acts:=n1,ax:=s.ax.take k++s.ax.drop (k+1)} (.slice (some ⟨g,0,none⟩) (s.ax.length-1) c) (Il.take (k*15)++Il.drop ((k+1)*15)):=by rw [<-iz];exact rA.out.del (by with_reducible repeat (first|exact Ext.refl _|assumption|apply Ext.drew|apply Ext.drewN|apply Ext.alloc|(refine Ext.setCell ?_ ?_ _;rotate_left;(focus(first|(simp;done)|(simp;omega)|omega)))|refine Ext.trans ?_ (by assumption))) hkn eH zW
           have UR:jm wj (w.heap.size+1):=by rw [<-iz];exact bT.other (by simp;omega) _
           have UT:fu wj w2.heap.size t ka kc la lc oa oc:=by rw [<-iz];exact Io.other (by simp;omega) _
           have ahB:aT (fun b=>¬P b) w wj:=by rw [<-iz];exact Nr.set (fun h=>absurd BI.out h) _
           have tB:=ae iz;have Hsj:=ae (show Sat wj _ r _ from⟨_,_,hsj⟩);clear iz hsj eH zW bT Io Nr jP jQ hlA iB iC fE hc0 aw hl0 hA hR hT ag;obtain⟨hc3,hf3,aR⟩:=aV.see;go_upto_region 22 with fail
           refine aI (R:=fun wy=>wy=wj) tB.out ?_;clear tB aV hc3 hf3 aR hup Hs;rintro wy rfl;have eU:=UR.lt;have fE:=UT.lt;obtain⟨hcR,jO,eU⟩:=UR.see;obtain⟨iB,iC,fE⟩:=UT.see;go_wp2_with fail;refine aF (h:= ?_);rw [Hr.out];refine⟨rfl,Hsj.out.uC ?_,fy⟩
           with_reducible repeat (first|exact Held.refl _ _|assumption|apply Held.drew|apply Held.drewN|apply Held.alloc|(refine Held.set ?_ ?_ _;rotate_left;(focus(first|(simp;done)|(simp;omega)|omega)))|(refine Held.ext ?_ (by assumption))|(refine Held.grown ?_ (by assumption) (by assumption))|(refine Held.trans ?_ (by assumption)))
          ·have DU:(a.k==6)=false:=by simpa using h6
           replace Hr:=ae (show bP s a=if a.k≠5/\a.ver≠0/\a.ver≠t.ver then({s with acts:=n1}, .no 7) else if(cL t.v t.ows a).2.2≠0 then({s with acts:=n1}, .no (cL t.v t.ows a).2.2) else pK {s with acts:=n1} k t (cL t.v t.ows a).1 (cL t.v t.ows a).2.1 by rw [Hr.out];unfold uD;rw [if_neg h6,if_neg h9,if_neg h7]);clear h6 h7 h9;by_cases hold:a.k≠5/\a.ver≠0/\a.ver≠t.ver
           ·replace Hr:=ae (show bP s a=({s with acts:=n1}, .no 7) by rw [Hr.out,if_pos hold])
            have pT:(a.k !=5)=true:=by simpa using hold.1
            have hv0:(a.ver !=0)=true:=by simpa using hold.2.1
            have hvt:(a.ver !=t.ver)=true:=by simpa using hold.2.2
            clear hold;go_wp2_with fail;(refine(vY 7 _).mono ?_);rintro e w7 ⟨rfl,h7⟩;have cW:Ext wc w7:=Xt;have iA:=af.ext cW hR;have fO:=Hs.out.ext cW;have xU:=hup.ext cW;have eU:=iA.lt;have kQ:=ae fO;clear h7 fO hR;obtain⟨hcR,jO,eU⟩:=iA.see;go_wp2_with fail;refine aF (h:= ?_);rw [Hr.out];exact⟨rfl,kQ.out.uC aC,fy⟩
           ·go_upto_region 30 with fail
            go_cut [153] (fun aeW wx=>aeW= .bool false/\wc=wx)
            case first=>
             by_cases h5:a.k=5
             ·have pT:(a.k !=5)=false:=by simpa using h5
              clear h5 hold;go_wp2_with fail
              go_meet
              exact⟨rfl,rfl⟩
             ·have pT:(a.k !=5)=true:=by simpa using h5
              by_cases hv:a.ver=0
              ·have hv0:(a.ver !=0)=false:=by simpa using hv
               clear h5 hold hv;go_wp2_with fail
               go_meet
               exact⟨rfl,rfl⟩
              ·have hv0:(a.ver !=0)=true:=by simpa using hv
               have hvt:(a.ver !=t.ver)=false:=by simpa using Classical.byContradiction fun h=>hold ⟨h5,hv,h⟩
               clear h5 hold hv;go_wp2_with fail
               go_meet
               exact⟨rfl,rfl⟩
            case rest=>
             obtain⟨rfl,rfl⟩:=hcut;obtain⟨⟨u,m,ce⟩,hch⟩:∃z,cL t.v t.ows a=z:=⟨_,rfl⟩;replace Hr:=ae (show bP s a=if ce≠0 then({s with acts:=n1}, .no ce) else pK {s with acts:=n1} k t u m by rw [Hr.out,if_neg hold,hch]);have mQ:u.size<=14640:=by have:=UU (v:=t.v) (ows:=t.ows) (a:=a) Ns;rw [hch] at this;exact this
             have vA:cw m<=2050000:=by have:=UW (v:=t.v) (ows:=t.ows) (a:=a) UO;rw [hch] at this;simp only at this;omega
             have mo:=ae hch;clear hold hch;go_wp2_with fail;(refine(UX t ka kc la lc oa oc a (fun b=>(P b/\b<w.heap.size)/\b≠r/\b≠g) _ (qX.out.v.ext Xt) qX.out.ok (qX.out.ows.ext Xt) Ns (by omega) hbz hwz (Hl.out _ (hup.ext Xt)).1 (Hl.out _ (hup.ext Xt)).2).mono ?_);rw [mo.out];rintro e w3 ⟨k2,c2,l2,d2,a5,c5,rfl,bN,il,xW,h3⟩;have hx3:Ext w2 w3:=Xt;have hR:=af.ext (w:=wc) (w':=w3) Xt hR;replace hup:=aT.ext (c:=w3) hup Xt;have vR:g<w.heap.size:=zV.out.2;have bg:=ae (show u.In w3 (fun b=>(aW P w b/\b≠w.heap.size+1)/\b≠r/\b≠g) k2 c2 l2 d2 from bN.mono fun q h _=>by rcases h with h|h;exact⟨⟨.inl h.1.1,by omega⟩,h.2⟩;exact⟨⟨.inr (by(try simp at h);omega),by(try simp at h);omega⟩,by(try simp at h);omega,by(try simp at h);omega⟩);have aeX:=ae (show cx w3 (fun b=>(aW P w b/\b≠w.heap.size+1)/\b≠r/\b≠g) m a5 from xW.mono fun q h _=>by rcases h with h|h;exact⟨⟨.inl h.1.1,by omega⟩,h.2⟩;exact⟨⟨.inr (by(try simp at h);omega),by(try simp at h);omega⟩,by(try simp at h);omega,by(try simp at h);omega⟩);have EM:=ae il;replace Hs:=ae (Hs.out.ext (w':=w3) Xt);clear bN il xW h3 hx jP jQ hlA iB iC fE hA hT;by_cases h0:ce=0
             ·subst h0
              replace Hr:=ae (show bP s a=pK {s with acts:=n1} k t u m by rw [Hr.out,if_neg (by simp)]);go_upto_region 33 with fail
              refine aI (R:=fun wx=>jm wx (w.heap.size+1)/\aD wx w3.heap.size u k2 c2 l2 d2/\Ext w3 wx) ⟨aQ,aQ,Xt⟩ ?_;clear hR;rintro wd ⟨hR,hU,dG⟩;replace hup:=hup.ext dG;have hzd:=hU.lt;have hz3:=hx3.size;obtain⟨Q,hQ⟩:∃Q:az,Q=fun b=>aW P w b/\b≠w.heap.size+1:=⟨_,rfl⟩
              have HQ:=ae hQ;have Nu:∀b,((aW P w b/\b≠w.heap.size+1)/\b≠r/\b≠g)-> (Q b/\b≠r/\ (Value.slice (some ⟨g,0,none⟩) s.ax.length c).ownBlock≠some b):=fun b h=>⟨by rw [hQ];exact h.1,h.2.1,fun e=>h.2.2 (by cases e;rfl)⟩;have Nv:=ae (fun(w':World) (e:Ext wd w')=>UY Q r {s with acts:=n1} (.slice (some ⟨g,0,none⟩) s.ax.length c) Il k t u k2 c2 l2 d2 m a5 c5 w' ((rA.out.ext (hx3.trans (dG.trans e))).mono fun b h=>by rw [hQ];exact⟨.inl h.1,by omega⟩) hkn Ht.out ((bg.out.ext (dG.trans e)).mono fun b h _=>Nu b h) EM.out ((aeX.out.ext (dG.trans e)).mono fun b h _=>Nu b h) (by omega) (by omega) (by omega) (by simp only;omega) hs0 (by simp only;omega) (by omega) (by omega));clear hQ Nu;obtain⟨xX,xY,pL⟩:=hU.see;go_wp2_with fail;(refine(Nv.out _ Xt).mono ?_);rintro e w7 ⟨rfl,fO,jz⟩;have vZ:∀b,Q b->aW P w b/\b≠w.heap.size+1:=fun b h=>by rw [HQ.out] at h;exact h
              have iA:=af.held (T:=fun b=>¬Q b) ⟨jz.size,jz.block⟩ (af.ext (w:=wd) Xt hR) (fun h=>(vZ _ h).2 rfl);have xU:aT (fun b=>¬P b) w w7:=(aT.ext hup Xt).over jz (fun b h hl hq=>by rcases(vZ b hq).1 with h'|h';exact h h';omega);have hzs:=jz.size;have eU:=iA.lt;have kQ:=ae (Sat.mono (Q:=fun b=>aW P w b/\b≠w.heap.size+1) fO fun b h=>by rcases h with h|h;exact vZ b h;exact⟨.inr (by(try simp at h);omega),by(try simp at h);omega⟩);clear fO jz hR vZ HQ;obtain⟨hcR,jO,eU⟩:=iA.see;go_wp2_with fail;refine aF (h:= ?_);rw [Hr.out];refine⟨rfl,(kQ.out.keep (Kept.mono (Held.kept (T:=fun b=>b≠w.heap.size+1) ?_) fun b hb=>hb.2)).mono fun b hb=>hb.1,fy⟩
              with_reducible repeat (first|exact Held.refl _ _|assumption|apply Held.drew|apply Held.drewN|apply Held.alloc|(refine Held.set ?_ ?_ _;rotate_left;(focus(first|(simp;done)|(simp;omega)|omega)))|(refine Held.ext ?_ (by assumption))|(refine Held.grown ?_ (by assumption) (by assumption))|(refine Held.trans ?_ (by assumption)))
             ·have r9:(ce !=0)=true:=by simpa using h0
              replace Hr:=ae (show bP s a=({s with acts:=n1}, .no ce) by rw [Hr.out,if_pos h0]);clear h0;go_upto_region 33 with fail
              refine aI (R:=fun wx=>jm wx (w.heap.size+1)/\Ext w3 wx) ⟨aQ,Xt⟩ ?_;clear hR;rintro wd ⟨hR,dG⟩;replace hup:=hup.ext dG;replace Hs:=ae (Hs.out.ext dG);go_wp2_with fail;(refine(vY ce _).mono ?_);rintro e w7 ⟨rfl,h7⟩;have cW:Ext wd w7:=Xt;have iA:=af.ext cW hR;have fO:=Hs.out.ext cW;have xU:=hup.ext cW;have eU:=iA.lt;have kQ:=ae fO;clear h7 fO hR;obtain⟨hcR,jO,eU⟩:=iA.see;go_wp2_with fail;refine aF (h:= ?_);rw [Hr.out];exact⟨rfl,kQ.out.uC aC,fy⟩
end Go.Proofs.YtlcebdaghmdkeabGreatDoor
namespace Go.Proofs.YtlcebdaghmdkeabGreatDoor
open Go.RowKit
def Sv.on (s:Sv):Sv:= {s with acts:=s.acts+1}
inductive Step (s:Sv) (a:Ac):Sv->Rp->Prop
 |full (h:300<=s.acts):Step s a s (.no 10)
 |no (e:Int) (h:s.acts<300) (he:e≠0) (h7:e=7↔(2<=a.k/\a.k<=4/\∃k,∃h:k<s.ax.length,s.ax[k].name=a.name/\a.ver≠0/\a.ver≠s.ax[k].ver)):Step s a s.on (.no e)
 |tick (h:s.acts<300) (hk:a.k=8) (h1:1<=a.n) (h2:a.n<=1099511627776-s.time):Step s a ⟨s.ax.map fun t=>t.ord (s.time+a.n) 0,s.time+a.n,s.last,s.acts+1⟩ (.no 0)
 |del (h:s.acts<300) (hk:a.k=6) (k:Nat) (hl:k<s.ax.length) (hn:s.ax[k].name=a.name):Step s a ⟨s.ax.take k++s.ax.drop (k+1),s.time,s.last,s.acts+1⟩ (.num s.ax[k].ver)
 |get (h:s.acts<300) (hk:a.k=9) (k:Nat) (hl:k<s.ax.length) (hn:s.ax[k].name=a.name) (hp:(lv s.ax[k].v).2=0):Step s a s.on ⟨0,s.ax[k].ver,⟨(lv s.ax[k].v).1.toArray⟩⟩
 |ord (h:s.acts<300) (hk:a.k=7) (k:Nat) (hl:k<s.ax.length) (hn:s.ax[k].name=a.name) (h0:(s.ax[k].next s.time a.ord).2=0):Step s a ⟨s.ax.set k (s.ax[k].ord s.time a.ord),s.time,s.last,s.acts+1⟩ (.num (s.ax[k].next s.time a.ord).1.ph)
 |keep (h:s.acts<300) (hk:2<=a.k/\a.k<=5) (k:Nat) (hl:k<s.ax.length) (hn:s.ax[k].name=a.name) (hv:a.k=5\/a.ver=0\/a.ver=s.ax[k].ver) (v:V) (ows:List Ow) (hc:cL s.ax[k].v s.ax[k].ows a=(v,ows,0)) (hs:dx v≠none):
   Step s a ⟨s.ax.set k (s.ax[k].kept v ows s.time s.last),s.time,if s.ax[k].turn v ows then s.last+1 else s.last,s.acts+1⟩ (.num (s.ax[k].kept v ows s.time s.last).ver)
 |IQ (h:s.acts<300) (hk:a.k=1\/a.k=5) (hh:gG s.ax a.name=false) (hn:gK a.name=true) (hl:s.ax.length<8) (v:V) (ows:List Ow) (hc:cL V.cd [] a=(v,ows,0)) (hs:dx v≠none):
   Step s a ⟨s.ax.take (fw s.ax a.name)++(pM a.name v).kept v ows s.time s.last::s.ax.drop (fw s.ax a.name),s.time,s.last+1,s.acts+1⟩ (.num (s.last+1))
theorem af9 {l:List Th} {name:ah} (h:gG l name=true):∃hl:fw l name<l.length,l[fw l name].name=name:=by
 have h1:fw l name<l.length:=by have:=tR h;rw [List.length_map] at this;exact this
 exact⟨h1,by have:=AK h;rw [List.getElem_map] at this;exact this⟩
theorem Wx {l:List Th} (hr:cz (l.map Th.name)) {k:Nat} (hk:k<l.length):gG l l[k].name=true/\fw l l[k].name=k:=
 ⟨Fq hr (List.mem_map_of_mem (List.getElem_mem hk)),KC hr (by simpa using hk) (by simp)⟩
theorem IV {l:List Th} {name:ah} (hr:cz (l.map Th.name)) (h:gG l name=false):∀t∈l,t.name≠name:=fun t ht e=>
 FZ hr h (e▸List.mem_map_of_mem ht)
theorem Wy {l:List Th} (hr:cz (l.map Th.name)) {i j:Nat} (hi:i<l.length) (hj:j<l.length) (h:l[i].name=l[j].name):i=j:=by
 have h1:=(Wx hr hi).2;rw [h,(Wx hr hj).2] at h1;exact h1.symm
theorem aga (s:Bytes):(dQ s).2=0\/ (dQ s).2=1\/ (dQ s).2=2:=by
 unfold dQ
 split
 ·exact .inr (.inr rfl)
 ·split
  ·exact .inl rfl
  ·exact .inr (.inl rfl)
theorem agb (x:V):(lv x).2=0\/ (lv x).2=1\/ (lv x).2=2:=by
 unfold lv
 split
 ·exact .inr (.inl rfl)
 ·split
  ·exact .inr (.inr rfl)
  ·exact .inl rfl
theorem agc (v:V):(jM v).2=0\/ (jM v).2=1\/ (jM v).2=2:=by
 unfold jM
 split
 ·exact .inr (.inl rfl)
 ·split
  ·exact .inr (.inr rfl)
  ·split
   ·exact .inr (.inl rfl)
   ·exact .inl rfl
theorem agd (v p:V):(mL v p).2≠7:=by
 unfold mL
 split
 ·simp
 ·split<;>simp
theorem age {im:ah} {xs:List (Int×Int)} {s:St} {now o:Int}:(fD im xs s now o).2≠7:=by
 unfold fD
 repeat' split
 all_goals simp
theorem agf (v:V) (l:List Ow) (who:ah) (want:V) (f:Bool):(ik v l who want f).2.2.2≠7:=by
 unfold ik
 repeat' split
 all_goals simp
theorem Wz {F:lZ} (hF:∀x a,(F x a).2≠7):∀(l:List ah) (x:V),(bU F l x).2≠7
 | [],x=>by simp [bU]
 |a::r,x=>by
  rw [bU]
  split
  ·exact hF _ _
  ·split
   ·simp
   ·split
    ·simp
    ·rename_i y hy
     split
     ·simp
     ·exact Wz hF r y
theorem agh (y x:V) (a:ah):(jn y x a).2≠7:=by
 unfold jn
 repeat' split
 all_goals simp
theorem agi (x:V) (a:ah):(pR x a).2≠7:=by
 unfold pR
 repeat' split
 all_goals simp
theorem agj (y x:V) (a:ah):(ia y x a).2≠7:=by
 unfold ia
 repeat' split
 all_goals simp
theorem Ox {F:lZ} (hF:∀x a,(F x a).2≠7) (x:V) (p:ah):(gH x p F).2≠7:=by
 unfold gH
 repeat' split
 all_goals first|exact Wz hF _ _|simp
theorem agk (x:V) (p:ah):(bZ x p).2≠7:=by
 unfold bZ
 repeat' split
 all_goals simp
theorem WA (x:V) (p:ah) (y:V):(eV x p y).2≠7:=by
 unfold eV
 repeat' split
 all_goals first|exact Ox (agh y) _ _|simp
theorem agl (x:V) (p:ah) (y:V):(jT x p y).2≠7:=by
 unfold jT
 repeat' split
 all_goals first|exact Ox (agj y) _ _|simp
theorem WB (x:V) (p:ah):(jU x p).2≠7:=Ox agi _ _
theorem agm (x:V) (f p:ah) (y:V):(nR x f p y).2≠7:=by
 unfold nR
 repeat' split
 all_goals first|exact WB _ _|exact WA _ _ _|simp
theorem agn (x:V) (o:bM):(bO x o).2≠7:=by
 unfold bO
 repeat' split
 all_goals first|exact WB _ _|exact WA _ _ _|exact agl _ _ _|exact agk _ _|exact agm _ _ _ _|simp
theorem WC:∀(l:List bM) (x:V),(fc l x).2≠7
 | [],x=>by simp [fc]
 |o::r,x=>by
  rw [fc]
  split
  ·exact agn _ _
  ·exact WC r _
theorem agp (x:V) (l:List bM):(kK x l).2≠7:=by
 unfold kK
 repeat' split
 all_goals first|exact WC _ _|simp
theorem agq (v b:V) (k:Int):(oN v b k).2≠7:=by
 unfold oN
 repeat' split
 ·exact agd _ _
 ·exact agp _ _
 ·have:=agc b
  simp only;omega
 ·simp
theorem WD (v:V) (ows:List Ow) (a:Ac):(cL v ows a).2.2≠7:=by
 unfold cL;have h:=aga a.body.data.toList
 repeat' split
 ·simp only
  omega
 ·exact agf _ _ _ _ _
 ·exact agq _ _ _
theorem BZ {s:Sv} {a:Ac} (h:¬(2<=a.k/\a.k<=4)) {e:Int} (he:e≠7):e=7↔(2<=a.k/\a.k<=4/\∃k,∃h:k<s.ax.length,s.ax[k].name=a.name/\a.ver≠0/\a.ver≠s.ax[k].ver):=
 ⟨fun q=>absurd q he,fun q=>absurd ⟨q.1,q.2.1⟩ h⟩
theorem IW {s:Sv} {a:Ac} (hr:cz (s.ax.map Th.name)) (h:gG s.ax a.name=false) {e:Int} (he:e≠7):e=7↔(2<=a.k/\a.k<=4/\∃k,∃h:k<s.ax.length,s.ax[k].name=a.name/\a.ver≠0/\a.ver≠s.ax[k].ver):=
 ⟨fun q=>absurd q he,fun⟨_,_,k,hk,hn,_⟩=>absurd hn (IV hr h _ (List.getElem_mem hk))⟩
theorem agr {s:Sv} {a:Ac} (hr:cz (s.ax.map Th.name)) {k:Nat} (hk:k<s.ax.length) (hn:s.ax[k].name=a.name) (hv:a.ver=0\/a.ver=s.ax[k].ver) {e:Int} (he:e≠7):e=7↔(2<=a.k/\a.k<=4/\∃k,∃h:k<s.ax.length,s.ax[k].name=a.name/\a.ver≠0/\a.ver≠s.ax[k].ver):=
 ⟨fun q=>absurd q he,fun⟨_,_,j,hj,hm,h0,h1⟩=>by
  obtain rfl:j=k:=Wy hr hj hk (by rw [hm,hn]);rcases hv with h|h
  ·exact absurd h h0
  ·exact absurd h h1⟩
theorem af0 (s:Sv) (a:Ac) (hr:cz (s.ax.map Th.name)) (eF:∀t∈s.ax,gK t.name=true):Step s a (bP s a).1 (bP s a).2:=by
 unfold bP;by_cases hf:300<=s.acts
 ·rw [if_pos hf];exact .full hf
 rw [if_neg hf];have h:s.acts<300:=by omega
 unfold EK;by_cases h1:a.k<1\/9<a.k
 ·rw [if_pos h1];exact .no 9 h (by decide) (BZ (by omega) (by decide))
 rw [if_neg h1];by_cases h8:a.k=8
 ·rw [if_pos h8]
  unfold oM;dsimp only;by_cases ht:a.n<1\/1099511627776-s.time<a.n
  ·rw [if_pos ht];exact .no 8 h (by decide) (BZ (by omega) (by decide))
  ·rw [if_neg ht];exact .tick h h8 (by omega) (by omega)
 rw [if_neg h8];by_cases hn:gK a.name=false
 ·rw [if_pos hn]
  refine .no 1 h (by decide) ⟨fun q=>absurd q (by decide),fun⟨_,_,k,hk,hm,_⟩=> ?_⟩;have:=eF _ (List.getElem_mem hk);rw [hm,hn] at this
  cases this
 rw [if_neg hn];have hn:gK a.name=true:=by simpa using hn
 dsimp only;by_cases hc:a.k=1\/ (a.k=5/\gG s.ax a.name=false)
 ·rw [if_pos hc]
  unfold rz;dsimp only;by_cases hh:gG s.ax a.name=true
  ·rw [if_pos hh]
   have:a.k=1:=by rcases hc with hc|hc;exact hc;rw [hh] at hc;exact absurd hc.2 (by decide)
   exact .no 6 h (by decide) (BZ (by omega) (by decide))
  rw [if_neg hh];have hh:gG s.ax a.name=false:=by simpa using hh
  by_cases hl:8<=s.ax.length
  ·rw [if_pos hl];exact .no 10 h (by decide) (IW hr hh (by decide))
  rw [if_neg hl];by_cases he:(cL V.cd [] a).2.2≠0
  ·rw [if_pos he];exact .no _ h he (IW hr hh (WD _ _ _))
  rw [if_neg he];by_cases hs:dx (cL V.cd [] a).1=none
  ·rw [if_pos hs];exact .no 1 h (by decide) (IW hr hh (by decide))
  rw [if_neg hs];unfold pK;rw [if_neg hs];have hlen:fw s.ax a.name<=s.ax.length:=Np _ _
  have key:=Step.IQ (s:=s) h (by rcases hc with hc|hc;exact .inl hc;exact .inr hc.1) hh hn (by omega) (cL V.cd [] a).1 (cL V.cd [] a).2.1 (by
   have:(cL V.cd [] a).2.2=0:=Classical.byContradiction he
   rw [<-this]) hs
  have ht:(pM a.name (cL V.cd [] a).1).turn (cL V.cd [] a).1 (cL V.cd [] a).2.1=true:=rfl;have WE:((pM a.name (cL V.cd [] a).1).kept (cL V.cd [] a).1 (cL V.cd [] a).2.1 s.time s.last).ver=s.last+1:=by unfold Th.kept;simp only [ht,if_true]
  have ags:(s.ax.take (fw s.ax a.name)++pM a.name (cL V.cd [] a).1::s.ax.drop (fw s.ax a.name)).set (fw s.ax a.name) ((pM a.name (cL V.cd [] a).1).kept (cL V.cd [] a).1 (cL V.cd [] a).2.1 s.time s.last)=
   s.ax.take (fw s.ax a.name)++(pM a.name (cL V.cd [] a).1).kept (cL V.cd [] a).1 (cL V.cd [] a).2.1 s.time s.last::s.ax.drop (fw s.ax a.name):=by
   rw [List.set_append_right _ _ (by rw [List.length_take];omega),List.length_take,Nat.min_eq_left hlen,Nat.sub_self,List.set_cons_zero]
  dsimp only at WE⊢;rw [ags,WE,ht,if_pos rfl];exact key
 rw [if_neg hc];by_cases hh:gG s.ax a.name=false
 ·rw [if_pos hh];exact .no 3 h (by decide) (IW hr hh (by decide))
 rw [if_neg hh];have hh:gG s.ax a.name=true:=by simpa using hh
 obtain⟨hl,hnn⟩:=af9 hh;rw [List.getElem?_eq_getElem hl];generalize fw s.ax a.name=k at hl hnn⊢;dsimp only;have h15:a.k≠1:=fun q=>hc (.inl q);unfold uD;by_cases h6:a.k=6
 ·rw [if_pos h6];exact .del h h6 k hl hnn
 rw [if_neg h6];by_cases h9:a.k=9
 ·rw [if_pos h9]
  unfold EL;by_cases hp:(lv s.ax[k].v).2≠0
  ·rw [if_pos hp];exact .no _ h hp (BZ (by omega) (by have:=agb s.ax[k].v;omega))
  ·rw [if_neg hp];exact .get h h9 k hl hnn (Classical.byContradiction hp)
 rw [if_neg h9];by_cases h7:a.k=7
 ·rw [if_pos h7]
  unfold xV;dsimp only;by_cases hp:(s.ax[k].next s.time a.ord).2≠0
  ·rw [if_pos hp];exact .no _ h hp (BZ (by omega) age)
  ·rw [if_neg hp];exact .ord h h7 k hl hnn (Classical.byContradiction hp)
 rw [if_neg h7];by_cases hv:a.k≠5/\a.ver≠0/\a.ver≠s.ax[k].ver
 ·rw [if_pos hv];exact .no 7 h (by decide) ⟨fun _=>⟨by omega,by omega,k,hl,hnn,hv.2.1,hv.2.2⟩,fun _=>rfl⟩
 rw [if_neg hv];have hv:a.k=5\/a.ver=0\/a.ver=s.ax[k].ver:=by omega
 have hno:∀ {e:Int},e≠7-> (e=7↔(2<=a.k/\a.k<=4/\∃k,∃h:k<s.ax.length,s.ax[k].name=a.name/\a.ver≠0/\a.ver≠s.ax[k].ver)):=fun {e} he=>by
  by_cases h5:a.k=5
  ·exact BZ (by omega) he
  ·exact agr hr hl hnn (by omega) he
 by_cases he:(cL s.ax[k].v s.ax[k].ows a).2.2≠0
 ·rw [if_pos he];exact .no _ h he (hno (WD _ _ _))
 rw [if_neg he];unfold pK;by_cases hs:dx (cL s.ax[k].v s.ax[k].ows a).1=none
 ·rw [if_pos hs];exact .no 1 h (by decide) (hno (by decide))
 rw [if_neg hs]
 exact .keep h (by omega) k hl hnn hv _ _ (by
  have:(cL s.ax[k].v s.ax[k].ows a).2.2=0:=Classical.byContradiction he
  rw [<-this]) hs
structure nE (v:V) (l:List Ow):Prop where
 good:gU l=true
 there:∀o∈l,∀p∈o.paths,bG v p≠none
 small:∀o∈l,ft o.paths<=240120
theorem nE.nil (v:V):nE v []:=⟨by decide,(fun o h=>(by cases h)),(fun o h=>(by cases h))⟩
theorem VE {s:ah} (h:gK s=true):1<=s.size/\s.size<=12:=by
 unfold gK at h;simp only [Bool.and_eq_true,decide_eq_true_eq] at h;exact⟨h.1.2,h.2⟩
theorem VY {B:Nat}:∀(l:List Ow),(∀o∈l,o.size<=B)->cw l<=l.length*B
 | [],_=>by simp [cw]
 |o::r,h=>by have h1:=VY r (fun q hq=>h q (by simp [hq]));have h2:=h o (by simp);unfold cw at h1⊢;rw [List.map_cons,List.sum_cons,List.length_cons,Nat.add_mul];omega
theorem nE.size {v:V} {l:List Ow} (h:nE v l):cw l<=1800000:=by
 obtain⟨h1,-,h3⟩:=(CJ l).1 h.good
 have:=VY (B:=250000) l (fun o ho=>by
  have h4:=h.small o ho;have h5:=VE (h1 o ho).1;unfold Ow.size
  omega)
 have:l.length*250000<=6*250000:=Nat.mul_le_mul_right _ h3;omega
theorem nE.keep {v w:V} {l:List Ow} (h:nE v l):nE w (np w l):=by
 have hm:∀o∈np w l,∃o'∈l,o'.name=o.name/\o.paths≠ []/\o.paths=o'.paths.filter (fun p=>(bG w p).isSome):=by
  intro o ho;obtain⟨o',h1,h2⟩:=List.mem_filterMap.1 ho;unfold jc at h2
  split at h2
  ·cases h2
  ·rename_i hne
   simp only [Option.some.injEq] at h2;subst h2;exact⟨o',h1,rfl,hne,rfl⟩
 obtain⟨g1,g2,g3⟩:=(CJ l).1 h.good;refine⟨(CJ _).2 ⟨fun o ho=> ?_,?_,Nat.le_trans (List.length_filterMap_le _ _) g3⟩,fun o ho p hp=> ?_,fun o ho=> ?_⟩
 ·obtain⟨o',h1,h2,h3,h4⟩:=hm o ho
  obtain⟨k1,k2,k3⟩:=g1 o' h1;obtain⟨k4,k5⟩:=(CI _).1 k3;refine⟨h2▸k1,h3,(CI _).2 ⟨fun p hp=> ?_,?_⟩⟩
  ·rw [h4] at hp;exact k4 p (List.mem_filter.1 hp).1
  ·rw [h4];exact k5.sublist List.filter_sublist
 ·refine PN ?_ g2
  unfold np;clear hm g1 g2 g3 h
  induction l with
  |nil=>simp
  |cons o r ih=>
   rw [List.filterMap_cons];unfold jc at ih⊢;by_cases hk:o.paths.filter (fun p=>(bG w p).isSome)= []
   ·simp only [hk,if_true];exact .cons _ ih
   ·simp only [hk,if_false,List.map_cons];exact ih.cons₂ _
 ·obtain⟨o',h1,h2,h3,h4⟩:=hm o ho
  rw [h4] at hp;have:=(List.mem_filter.1 hp).2;intro e;rw [e] at this
  cases this
 ·obtain⟨o',h1,h2,h3,h4⟩:=hm o ho
  rw [h4];exact Nat.le_trans (FE _ _) (h.small o' h1)
theorem afX {v:V} {l:List Ow} {who:ah} {want w:V} {f:Bool} {m:List Ow} {c:List (ah×ah)} (h:ik v l who want f=(w,m,c,0)) {o:Ow} (ho:o∈ez v want who l) {p:ah} (hp:p∈o.paths) {x:V} (hx:bG v p=some x):bG w p=some x:=by
 obtain⟨hb,hc,rfl,rfl,hwf,-,-⟩:=CN h;obtain⟨tT,yP,-,-,hgl,-⟩:=AP hb;obtain⟨o',ho',CO,mX,hpw,-⟩:=wT ho;obtain⟨hpo,hw⟩:=hpw p hp;obtain⟨r,hr,Lg⟩:=A1 hgl ho' hpo;have DR:∀z:V,bG z p=bp r z:=fun z=>by unfold bG bJ;rw [hr];rfl
 rw [DR] at hx⊢;unfold eZ;obtain⟨hds,-⟩:=AQ want.leaves (ez v want who l) (lS who l) (gq tT);refine Fs want.leaves hds (fun _ h=>h) (fun p' hp'=> ?_) (Lf _ _ _ (gq tT) (fun p' hp' gy=> ?_) hx)
 ·obtain⟨-,-,s,-,hs,-⟩:=qJ hp'
  have hnd':bJ p'=s:=by unfold bJ;rw [hs];rfl
  by_cases he:p'=p
  ·refine .inr fun z hz wR=> ?_
   subst he;rw [hr] at hs
   cases hs
   obtain⟨now,zo,Lh⟩:=(Gz want.leaves hw).2 hp';rw [DR] at zo;rw [hx] at zo
   cases zo
   unfold iJ;rw [hnd',CH r Lg hz wR Lh];exact wR
  ·exact .inl (by rw [hnd'];exact RX hw hp' hs hr he)
 ·obtain⟨o2,ho2,afY⟩:=J7 hp'
  obtain⟨s,hs,-⟩:=A1 hgl ho2 afY;have hnd':bJ p'=s:=by unfold bJ;rw [hs];rfl
  rw [hnd'];have sj:qK p' p=false:=by unfold p9 at gy;have:=List.any_eq_false.1 gy o ho;simp only [Bool.not_eq_true] at this;have:=List.any_eq_false.1 this p hp;simpa using this
  unfold qK at sj;simp only [Bool.or_eq_false_iff,decide_eq_false_iff_not] at sj;exact Le hs hr sj.1.1 sj.1.2 sj.2
theorem nE.apply {v:V} {l:List Ow} {who:ah} {want w:V} {f:Bool} {m:List Ow} {c:List (ah×ah)} (h:nE v l) (ha:ik v l who want f=(w,m,c,0)):nE w m:=by
 obtain⟨-,hg,hwf,FC,-⟩:=PH ha;have ha':=ha;obtain⟨hb,hc,rfl,rfl,-,-,-⟩:=CN ha;obtain⟨tT,yP,qB,tU,hgl,hwho⟩:=AP hb;obtain⟨hds,-⟩:=AQ want.leaves (ez v want who l) (lS who l) (gq tT);refine⟨hg,fun o ho p hp=> ?_,fun o ho=> ?_⟩
 ·rcases FA ho with ho|⟨rfl,-⟩
  ·obtain⟨o',ho',-,-,hpw,-⟩:=wT ho
   have h1:=h.there o' ho' p (hpw p hp).1
   cases hx:bG v p with
   |none=>exact absurd hx h1
   |some x=>rw [afX ha' ho hp hx];simp
  ·obtain⟨y,hy,-⟩:=JJ (want:=want) want.leaves hp (fun _ h=>h) hds
   intro e;unfold eZ at e;rw [hy] at e
   cases e
 ·rcases FA ho with ho|⟨rfl,-⟩
  ·obtain⟨o',ho',-,-,-,-,h6⟩:=wT ho
   rw [h6];exact Nat.le_trans (FE _ _) (h.small o' ho')
  ·have h3:=JR (B:=2000) want.leaves (fun p hp=>CP hp)
   have h4:=AU want;have h5:want.leaves.length*2001<=120*2001:=Nat.mul_le_mul_right _ h4;simp only;omega
theorem nE.VZ {v w:V} {l m:List Ow} {a:Ac} (h:nE v l) (hc:cL v l a=(w,m,0)):nE w m:=by
 unfold cL at hc
 split at hc
 ·rename_i hne
  simp only [Prod.mk.injEq] at hc;exact absurd hc.2.2 hne
 ·split at hc
  ·simp only [Prod.mk.injEq] at hc
   exact h.apply (f:=a.force) (who:=a.who) (want:=(dQ a.body.data.toList).1) (c:=(ik v l a.who (dQ a.body.data.toList).1 a.force).2.2.1) (by rw [<-hc.1,<-hc.2.1,<-hc.2.2])
  ·simp only [Prod.mk.injEq] at hc
   obtain⟨rfl,rfl,-⟩:=hc;exact h.keep
structure yg (last:Int) (t:Th):Prop where
 name:gK t.name=true
 spec:dx t.v≠none
 st:iy t.st=true
 cm:t.st.cm=mD (dx t.v)
 ows:nE t.v t.ows
 gen:1<=t.gen/\t.gen<=t.ver/\t.ver<=last
theorem yg.mono {a b:Int} {t:Th} (h:yg a t) (hab:a<=b):yg b t:=⟨h.name,h.spec,h.st,h.cm,h.ows,h.gen.1,h.gen.2.1,Int.le_trans h.gen.2.2 hab⟩
theorem IL (im:ah) (xs:List (Int×Int)) (s:St) (now o:Int) (h:(fD im xs s now o).2=0):fD im xs s now o=((fD im xs s now o).1,0):=by rw [<-h]
theorem yg.ord {last:Int} {t:Th} (h:yg last t) (time o:Int):yg last (t.ord time o):=by
 unfold Th.ord
 split
 ·rename_i h0
  have h1:=IL _ _ _ _ _ h0;exact⟨h.name,h.spec,M4 h1,(Oh h1).2.1,h.ows,h.gen⟩
 ·exact h
theorem V2 {last time:Int} {t:Th} {v:V} {ows:List Ow} (hn:gK t.name=true) (hst:iy t.st=true) (hg:0<=t.gen/\t.gen<=t.ver/\t.ver<=last) (h0:t.ver=0\/1<=t.gen) (hs:dx v≠none) (ho:nE v ows) (t0:0<=time) (t1:time<=1099511627776):
 yg (if t.turn v ows then last+1 else last) (t.kept v ows time last):=by
 obtain⟨hG,hf,h5⟩:=z8 hs;have h1:=IL (mD (dx v)) (gZ (dx v)) t.st time 0 (Ul hG hst t0 t1 (by decide) (by decide));refine⟨hn,hs,M4 h1,(Oh h1).2.1,ho,?_⟩;unfold Th.kept;dsimp only;have ht:t.other v=true->t.turn v ows=true:=fun e=>by unfold Th.turn;rw [e];rfl
 have hv:t.other v=false->t.ver≠0:=fun e=>by unfold Th.other at e;simp only [Bool.or_eq_false_iff,decide_eq_false_iff_not] at e;exact e.1
 cases h2:t.other v<;>cases h3:t.turn v ows
 ·have:=hv h2;simp;omega
 ·have:=hv h2;simp;omega
 ·rw [ht h2] at h3;cases h3
 ·simp;omega
structure Ok (s:Sv):Prop where
 len:s.ax.length<=8
 dL:cz (s.ax.map Th.name)
 ax:∀t∈s.ax,yg s.last t
 last:0<=s.last/\s.last<=s.acts
 acts:s.acts<=300
 time:0<=s.time/\s.time<=1099511627776
theorem Ok.new:Ok bQ:=⟨by simp [bQ],by simp [bQ],fun t h=>by simp [bQ] at h,by simp [bQ],by simp [bQ],by simp [bQ]⟩
theorem Ok.inv {s:Sv} (h:Ok s):Inv s:=by
 obtain⟨h1,h2,h3,h4,h5,h6⟩:=h;exact⟨h1,h2,fun t ht=>⟨oV (z8 (h3 t ht).spec).2.1,(h3 t ht).ows.size,by have:=(h3 t ht).gen;omega,by have:=(h3 t ht).gen;omega⟩,by omega,h6,by omega⟩
theorem V3 {l:List Th} {k:Nat} {t:Th} (hk:k<l.length) (h:t.name=l[k].name):(l.set k t).map Th.name=l.map Th.name:=by
 rw [List.map_set,h];refine List.ext_getElem (by simp) fun i h1 h2=> ?_;rw [List.getElem_set]
 split
 ·rename_i e;subst e;simp
 ·rfl
theorem IP (t:Th) (time o:Int):(t.ord time o).name=t.name:=by unfold Th.ord;split<;>rfl
theorem mem_set {l:List Th} {k:Nat} {t u:Th} (h:u∈l.set k t):u=t\/u∈l:=(List.mem_or_eq_of_mem_set h).symm
theorem Ok.step {s s':Sv} {a:Ac} {r:Rp} (h:Ok s) (hs:Step s a s' r):Ok s':=by
 obtain⟨h1,h2,h3,h4,h5,h6⟩:=h
 cases hs with
 |full h=>exact⟨h1,h2,h3,h4,h5,h6⟩
 |no e h he=>exact⟨h1,h2,h3,by simp only [Sv.on];omega,by simp only [Sv.on];omega,h6⟩
 |get h hk k hl hn hp=>exact⟨h1,h2,h3,by simp only [Sv.on];omega,by simp only [Sv.on];omega,h6⟩
 |tick h hk g1 g2=>
  refine⟨by simpa using h1,?_,fun t ht=> ?_,by simp only;omega,by simp only;omega,by simp only;omega⟩
  ·rw [List.map_map,show (Th.name∘fun t=>t.ord (s.time+a.n) 0)=Th.name from funext fun t=>IP t _ _]
   exact h2
  ·obtain⟨u,hu,rfl⟩:=List.mem_map.1 ht
   exact(h3 u hu).ord _ _
 |del h hk k hl hn=>
  refine⟨by simp only [List.length_append,List.length_take,List.length_drop];omega,?_,fun t ht=> ?_,by simp only;omega,by simp only;omega,h6⟩
  ·have:=Qw h2 k
   rwa [<-List.map_take,<-List.map_drop,<-List.map_append] at this
  ·rcases List.mem_append.1 ht with ht|ht
   ·exact h3 t (List.mem_of_mem_take ht)
   ·exact h3 t (List.mem_of_mem_drop ht)
 |ord h hk k hl hn h0=>
  refine⟨by simpa using h1,?_,fun t ht=> ?_,by simp only;omega,by simp only;omega,h6⟩
  ·show cz ((s.ax.set k _).map Th.name)
   rw [V3 hl (IP _ _ _)];exact h2
  ·rcases mem_set ht with rfl|ht
   ·exact(h3 _ (List.getElem_mem hl)).ord _ _
   ·exact h3 t ht
 |keep h hk k hl hn hv v ows hc hs=>
  have hT:=h3 _ (List.getElem_mem hl);have hb:s.last<= (if s.ax[k].turn v ows then s.last+1 else s.last):=by split<;>omega
  refine⟨by simpa using h1,?_,fun t ht=> ?_,?_,by simp only;omega,h6⟩
  ·show cz ((s.ax.set k _).map Th.name)
   rw [V3 (t:=s.ax[k].kept v ows s.time s.last) hl rfl];exact h2
  ·rcases mem_set ht with rfl|ht
   ·exact V2 hT.name hT.st (by have:=hT.gen;omega) (.inr hT.gen.1) hs (hT.ows.VZ hc) h6.1 h6.2
   ·exact(h3 t ht).mono hb
  ·simp only
   split<;>omega
 |IQ h hk hh hn hl v ows hc hs=>
  obtain⟨hG,hf,G9⟩:=z8 hs;obtain⟨hst,-⟩:=afZ hG;have hlen:=Np s.ax a.name;refine⟨by simp only [List.length_append,List.length_take,List.length_cons,List.length_drop];omega,?_,fun t ht=> ?_,by simp only;omega,by simp only;omega,h6⟩
  ·have:=CM h2 hh
   show cz (List.map Th.name _);rw [List.map_append,List.map_cons,List.map_take,List.map_drop];exact this
  ·have hkk:=V2 (t:=pM a.name v) (last:=s.last) (ows:=ows) hn hst ⟨Int.le_refl 0,Int.le_refl 0,h4.1⟩ (.inl rfl) hs ((nE.nil V.cd).VZ hc) h6.1 h6.2
   rw [show (pM a.name v).turn v ows=true from rfl,if_pos rfl] at hkk;rcases List.mem_append.1 ht with ht|ht
   ·exact(h3 t (List.mem_of_mem_take ht)).mono (by simp only;omega)
   ·rcases List.mem_cons.1 ht with rfl|ht
    ·exact hkk
    ·exact(h3 t (List.mem_of_mem_drop ht)).mono (by simp only;omega)
theorem Ok.so {s:Sv} (h:Ok s) (a:Ac):Step s a (bP s a).1 (bP s a).2:=af0 s a h.dL fun t ht=>(h.ax t ht).name
theorem Ok.next {s:Sv} (h:Ok s) (a:Ac):Ok (bP s a).1:=h.step (h.so a)
theorem Ok.IJ {s:Sv} (h:Ok s):∀(l:List Ac),Ok (eI s l):=fun l=>by
 unfold eI
 induction l generalizing s with
 |nil=>exact h
 |cons a r ih=>exact ih (h.next a)
theorem V4 {s s':Sv} {a:Ac} {r:Rp} (hs:Step s a s' r) (h:s.acts<300):s'.acts=s.acts+1:=by
 cases hs<;>first|rfl|omega
theorem af1 {l:List Ac} (hl:l.length<=100):(eI bQ l).acts=l.length:=by
 have:∀(l:List Ac) (s:Sv),Ok s->s.acts+l.length<=300-> (eI s l).acts=s.acts+l.length:=by
  intro l
  induction l with
  |nil=>intro s _ _;simp [eI]
  |cons a r ih=>
   intro s hok hle;simp only [List.length_cons] at hle;have h1:=V4 (hok.so a) (by omega);have h2:=ih _ (hok.next a) (by omega);unfold eI at h2⊢;rw [List.foldl_cons,h2,h1,List.length_cons];omega
 have h:=this l bQ .new (by simp only [bQ];omega);rw [h];simp [bQ]
def jA (l:List Th) (name:ah):Option Th:=l.find? fun t=>decide (t.name=name)
theorem z7 {l:List Th} {name:ah} {t:Th} (h:jA l name=some t):t∈l/\t.name=name:=
 ⟨List.mem_of_find?_eq_some h,by have:=List.find?_some h;simpa using this⟩
theorem agt {l:List Th} {name:ah} (h:jA l name=none):∀t∈l,t.name≠name:=fun t ht=>by
 have:=List.find?_eq_none.1 h t ht;simpa using this
theorem IX {l:List Th} (hr:cz (l.map Th.name)) {t u:Th} (ht:t∈l) (hu:u∈l) (h:t.name=u.name):t=u:=by
 obtain⟨i,hi,rfl⟩:=List.getElem_of_mem ht;obtain⟨j,hj,rfl⟩:=List.getElem_of_mem hu;obtain rfl:i=j:=Wy hr hi hj h;rfl
theorem BX {l:List Th} (hr:cz (l.map Th.name)) {t:Th} (ht:t∈l):jA l t.name=some t:=by
 cases h:jA l t.name with
 |none=>exact absurd rfl (agt h t ht)
 |some u=>obtain⟨h1,h2⟩:=z7 h;rw [IX hr h1 ht h2]
theorem agu {l:List Th} {name:ah} (h:∀t∈l,t.name≠name):jA l name=none:=
 List.find?_eq_none.2 fun t ht=>by simpa using h t ht
theorem af6 {l:List Th} {k:Nat} {t:Th} (hk:k<l.length):t∈l.set k t:=by
 have h:(l.set k t)[k]'(by simpa using hk)=t:=by simp
 have h2:(l.set k t)[k]'(by simpa using hk)∈l.set k t:=List.getElem_mem _
 rwa [h] at h2
inductive From (s:Sv) (a:Ac) (t:Th):Prop
 |same (h:t∈s.ax)
 |ord (u:Th) (h:u∈s.ax) (time o:Int) (e:t=u.ord time o)
 |kept (u:Th) (h:u∈s.ax) (v:V) (ows:List Ow) (hs:dx v≠none) (e:t=u.kept v ows s.time s.last)
 |new (hh:gG s.ax a.name=false) (v:V) (ows:List Ow) (hs:dx v≠none) (e:t=(pM a.name v).kept v ows s.time s.last)
theorem WG {s s':Sv} {a:Ac} {r:Rp} (h:Step s a s' r) {t:Th} (ht:t∈s'.ax):From s a t:=by
 cases h with
 |full h=>exact .same ht
 |no e h he=>exact .same ht
 |get h hk k hl hn hp=>exact .same ht
 |tick h hk=>obtain⟨u,hu,rfl⟩:=List.mem_map.1 ht;exact .ord u hu _ _ rfl
 |del h hk k hl hn=>
  rcases List.mem_append.1 ht with ht|ht
  ·exact .same (List.mem_of_mem_take ht)
  ·exact .same (List.mem_of_mem_drop ht)
 |ord h hk k hl hn h0=>
  rcases mem_set ht with rfl|ht
  ·exact .ord _ (List.getElem_mem hl) _ _ rfl
  ·exact .same ht
 |keep h hk k hl hn hv v ows hc hs=>
  rcases mem_set ht with rfl|ht
  ·exact .kept _ (List.getElem_mem hl) v ows hs rfl
  ·exact .same ht
 |IQ h hk hh hn hl v ows hc hs=>
  rcases List.mem_append.1 ht with ht|ht
  ·exact .same (List.mem_of_mem_take ht)
  ·rcases List.mem_cons.1 ht with rfl|ht
   ·exact .new hh v ows hs rfl
   ·exact .same (List.mem_of_mem_drop ht)
theorem From.there {s:Sv} {a:Ac} {t:Th} (hr:cz (s.ax.map Th.name)) (h:From s a t):
 (jA s.ax t.name=none/\t.gen=1/\t.ver=s.last+1)\/
 ∃u,jA s.ax t.name=some u/\ ((t.v=u.v/\t.ows=u.ows/\t.ver=u.ver/\t.gen=u.gen)\/ (∃v ows,dx v≠none/\t=u.kept v ows s.time s.last)):=by
 cases h with
 |same h=>exact .inr ⟨t,BX hr h, .inl ⟨rfl,rfl,rfl,rfl⟩⟩
 |ord u h time o e=>
  subst e;refine .inr ⟨u,by rw [IP];exact BX hr h, .inl ?_⟩;unfold Th.ord
  split<;>exact⟨rfl,rfl,rfl,rfl⟩
 |kept u h v ows hs e=>subst e;exact .inr ⟨u,BX hr h, .inr ⟨v,ows,hs,rfl⟩⟩
 |new hh v ows hs e=>
  subst e;refine .inl ⟨agu (IV hr hh),rfl,rfl⟩
theorem afR {s s':Sv} {a:Ac} {r:Rp} (ho:Ok s) (h:Step s a s' r) {t:Th} (ht:t∈s'.ax):
 (jA s.ax t.name=none->t.gen=1/\s.last<t.ver)/\
 ∀u,jA s.ax t.name=some u-> (t.v=u.v->t.ows=u.ows->t.ver=u.ver/\t.gen=u.gen)/\ (¬(t.v=u.v/\t.ows=u.ows)->s.last<t.ver/\ (t.gen=u.gen+1\/ (t.v=u.v/\t.gen=u.gen))):=by
 rcases(WG h ht).there ho.dL with⟨h0,h1,h2⟩|⟨u,hu,hc⟩
 ·exact⟨fun _=>⟨h1,by omega⟩,fun u hu=>(by rw [h0] at hu;cases hu)⟩
 ·refine⟨fun e=>(by rw [hu] at e;cases e),fun u' hu'=> ?_⟩
  rw [hu] at hu'
  cases hu'
  rcases hc with⟨h1,h2,h3,h4⟩|⟨v,ows,hs,e⟩
  ·exact⟨fun _ _=>⟨h3,h4⟩,fun hne=>absurd ⟨h1,h2⟩ hne⟩
  ·have hg:=(ho.ax u (z7 hu).1).gen
   have h0:u.ver≠0:=by omega
   subst e;have hoth:u.other v=false↔v=u.v:=by unfold Th.other;rw [decide_eq_false h0,Bool.false_or,Bool.not_eq_false'];exact ve v u.v
   have Oy:u.turn v ows=false↔v=u.v/\ows=u.ows:=by unfold Th.turn;rw [Bool.or_eq_false_iff,hoth,Bool.not_eq_false',NJ]
   unfold Th.kept;dsimp only
   cases h2:u.other v with
   |false=>
    have e1:=hoth.1 h2
    cases h3:u.turn v ows with
    |false=>exact⟨fun _ _=>⟨rfl,rfl⟩,fun hne=>absurd (Oy.1 h3) hne⟩
    |true=>exact⟨fun e2 e3=>absurd (Oy.2 ⟨e2,e3⟩) (by rw [h3];decide),fun _=>⟨by simp;omega, .inr ⟨e1,rfl⟩⟩⟩
   |true=>
    have hne:¬v=u.v:=fun e=>by rw [hoth.2 e] at h2;cases h2
    cases h3:u.turn v ows with
    |false=>exact absurd (Oy.1 h3).1 hne
    |true=>exact⟨fun e2 _=>absurd e2 hne,fun _=>⟨by simp;omega, .inl rfl⟩⟩
theorem afU {s s':Sv} {a:Ac} {r:Rp} (ho:Ok s) (h:Step s a s' r) {t:Th} (ht:t∈s'.ax):
 (0<=t.st.wt/\t.st.wt<=100/\ (t.st.ph=1->t.st.wt=100)/\ (t.st.ph=4->t.st.wt=0)/\ (t.st.ph=1↔t.st.sb=t.st.cm))/\
 ∀u,jA s.ax t.name=some u-> (t.st.cm=u.st.cm->t.st.ph≠1->t.st.ph≠4->u.st.sp<=t.st.sp)/\ (t.st.sb=u.st.sb\/t.st.sb=t.st.cm):=by
 have hok:=(ho.step h).ax t ht;have hg:=hok.st;have hg':=hg;simp only [iy,decide_eq_true_eq] at hg';have Oz:t.st.sb=t.st.cm↔t.st.sb.toList=t.st.cm.toList:=⟨fun e=>by rw [e],EU⟩;obtain⟨-,-,-,-,hw0,hw1,-,-,-,cV⟩:=hg';refine⟨⟨hw0,hw1,fun q=> ?_,fun q=> ?_,?_⟩,fun u hu=> ?_⟩
 ·rcases cV with h|h|h
  ·exact h.2.2.1
  ·omega
  ·omega
 ·rcases cV with h|h|h<;>omega
 ·rw [Oz]
  rcases cV with h|h|h
  ·exact⟨fun _=>h.2.1,fun _=>h.1⟩
  ·exact⟨fun q=>by omega,fun q=>absurd q h.2.2.2⟩
  ·exact⟨fun q=>by omega,fun q=>absurd q h.2⟩
 ·obtain⟨EW,hun⟩:=z7 hu
  have hk:=ho.ax u EW;have B0:t.st.ph≠1->t.st.ph≠4->t.st.ph=2\/t.st.ph=3:=fun h1 h4=>by rcases cV with h|h|h<;>omega
  have key:∀im xs now o,fD im xs u.st now o=(t.st,0)-> (t.st.cm=u.st.cm->t.st.ph≠1->t.st.ph≠4->u.st.sp<=t.st.sp)/\ (t.st.sb=u.st.sb\/t.st.sb=t.st.cm):=by
   intro im xs now o hn;obtain⟨b1,b2,b3,-⟩:=Oh hn;refine⟨fun e h1 h4=>b3 (by rw [<-b2,e]) (B0 h1 h4),?_⟩;rcases b1 with b1|b1
   ·exact .inl b1
   ·exact .inr (by rw [b1.2,b2])
  have hsame:t.st=u.st-> (t.st.cm=u.st.cm->t.st.ph≠1->t.st.ph≠4->u.st.sp<=t.st.sp)/\ (t.st.sb=u.st.sb\/t.st.sb=t.st.cm):=fun e=>by rw [e];exact⟨fun _ _ _=>Int.le_refl _, .inl rfl⟩
  cases WG h ht with
  |same h'=>rw [IX ho.dL h' EW hun.symm];exact⟨fun _ _ _=>Int.le_refl _, .inl rfl⟩
  |ord u' h' time o e=>
   have e2:u'=u:=IX ho.dL h' EW (by rw [hun,e,IP]);subst e2;by_cases h0:(u'.next time o).2=0
   ·have e3:t.st=(u'.next time o).1:=by rw [e];unfold Th.ord;rw [if_pos h0]
    have h1:=IL _ _ _ _ _ h0;exact key _ _ _ _ (by rw [e3];exact h1)
   ·exact hsame (by rw [e];unfold Th.ord;rw [if_neg h0])
  |kept u' h' v ows hs e=>
   have e2:u'=u:=IX ho.dL h' EW (by rw [hun,e];rfl);subst e2;obtain⟨hG,hf,h5⟩:=z8 hs;have h1:=IL (mD (dx v)) (gZ (dx v)) u'.st s.time 0 (Ul hG hk.st ho.time.1 ho.time.2 (by decide) (by decide));exact key _ _ _ _ (by rw [e];exact h1)
  |new hh v ows hs e=>
   exact absurd (show u.name=a.name by rw [hun,e];rfl) (IV ho.dL hh u EW)
end Go.Proofs.YtlcebdaghmdkeabGreatDoor
