import Derived.Test.YtlcebdaghmdkeabGreatDoorM17
import Derived.Test.YtlcebdaghmdkeabGreatDoorM20
import Derived.Test.YtlcebdaghmdkeabGreatDoorM26
set_option linter.all false
set_option maxRecDepth 100000
set_option maxHeartbeats 64000000
namespace Go.Proofs.YtlcebdaghmdkeabGreatDoor
open Go.Proofs.Tryz
open Go.RowKit
attribute [local go_sem↓] Go.wp_at_zero Go.wp_at_succ
abbrev Rp.val (x:Rp):Value:= .agg #[.int .i64 x.c, .int .i64 x.n, .string x.b]
def Gp (P:aw) (r:Nat) (x:Sv×Rp) (w:World) (e:Ending) (w':World):Prop:=
 e= .returned x.2.val/\Sat w' (aU P w) r x.1/\aQ (fun b=>¬P b) w w'
theorem aU.old {P:aw} {w:World}:∀b,P b->aU P w b:=fun _ h=> .inl h
theorem Kept.of {T:aw} {w w':World} {P:aw} {r:Nat} {s:Sv} {v:Value} {xs:List Value} (h:dX w P r s v xs) (e:Ext w w'):Sat w' (aU P w) r s:=⟨v,xs,(h.ext e).mono aU.old⟩
theorem Gv {w w':World} {g o:Nat} {cs:List Value} (h:∀q u,cs[q]? =some u->w.cell? ⟨g,o+q,none⟩=some u/\w.frozen? ⟨g,o+q,none⟩=false) (e:Ext w w'):∀q u,cs[q]? =some u->w'.cell? ⟨g,o+q,none⟩=some u/\w'.frozen? ⟨g,o+q,none⟩=false:=
 fun q u hq=>⟨e.cell (h q u hq).1,by rw [Below.frozen (p:=⟨g,o+q,none⟩) e (ku (h q u hq).1)];exact(h q u hq).2⟩
theorem TT:∀ {l:List V} {xs:List (Int×Int)},mP l=some xs->xs.length=l.length
 | [],xs,h=>by cases h;rfl
 |x::r,xs,h=>by
  rw [mP] at h
  split at h
  ·rename_i p l hp hl
   cases h
   simp [TT hl]
  ·cases h
theorem Mk (x:V):(ia (dD x)).length<=8:=by
 unfold dD
 split
 ·split
  ·simp [ia]
  ·split
   ·split
    ·simp [ia]
    ·split
     ·rename_i h
      split
      ·rename_i hs
       have:=TT hs;simp only [ia];omega
      ·simp [ia]
     ·simp [ia]
   ·simp [ia]
 ·simp [ia]
theorem fA.status {w:World} {T:aw} {l:List Th} {xs:List Value} (h:fA w T l xs) {k:Nat} (hk:k<l.length) (x:St):
 fA w T (l.set k {l[k] with st:=x}) (xs.take (k*15+9)++ [.string x.sb, .string x.cm, .int .i64 x.ph, .int .i64 x.sp, .int .i64 x.wt, .int .i64 x.si]++xs.drop (k*15+9+6)):=by
 obtain⟨h1,h2⟩:=h.cut k;rw [List.drop_eq_getElem_cons hk] at h2;obtain⟨ka,kc,la,lc,oa,oc,t,hB,hti,hr⟩:=h2;rw [List.set_eq_take_append_cons_drop,if_pos hk];have:=h1.app (m:= {l[k] with st:=x}::l.drop (k+1)) ⟨ka,kc,la,lc,oa,oc,t,rfl,⟨hti.v,hti.ok,hti.ows⟩,hr⟩;have e15:xs.drop (k*15+9+6)=t:=by rw [show k*15+9+6=k*15+15 by omega,<-List.drop_drop,hB];exact List.drop_left' (Th.tG ..)
 rw [List.take_add,hB,e15];simpa [Th.cells] using this
theorem dX.status {w w':World} {P:aw} {r g c:Nat} {s:Sv} {xs:List Value} (h:dX w P r s (.slice (some ⟨g,0,none⟩) s.az.length c) xs) (hx:Ext w w') {k:Nat} (hk:k<s.az.length) (x:St):
 dX (w'.setCells g (k*15+9) [.string x.sb, .string x.cm, .int .i64 x.ph, .int .i64 x.sp, .int .i64 x.wt, .int .i64 x.si]) P r {s with az:=s.az.set k {s.az[k] with st:=x}} (.slice (some ⟨g,0,none⟩) s.az.length c) (xs.take (k*15+9)++ [.string x.sb, .string x.cm, .int .i64 x.ph, .int .i64 x.sp, .int .i64 x.wt, .int .i64 x.si]++xs.drop (k*15+9+6)):=by
 have h:=h.ext hx;have hrow:=h.row g rfl;refine⟨h.box.mG (fun e=>hrow.2 e.symm) _ _,h.pr,?_,h.row,?_⟩
 ·have:=AJ (o:=k*15+9) (cs:= [.string x.sb, .string x.cm, .int .i64 x.ph, .int .i64 x.sp, .int .i64 x.wt, .int .i64 x.si]) h.own (by simp only [List.length_cons,List.length_nil];omega)
  simpa using this
 ·refine((h.cells.keep ?_ (fun _ h _=>h)).status hk x)
  exact Held.kept (Held.jx (Held.refl _ _) (fun hb=>hb.2.2 rfl) _ _)
theorem St.ad6 (x:St):∀u∈ ([.string x.sb, .string x.cm, .int .i64 x.ph, .int .i64 x.sp, .int .i64 x.wt, .int .i64 x.si]:List Value),u.oneCell'=true:=by
 intro u hu;simp only [List.mem_cons,List.not_mem_nil,or_false] at hu;rcases hu with rfl|rfl|rfl|rfl|rfl|rfl<;>rfl
theorem Td (P:aw) (r:Nat) (s:Sv) (k:Nat) (t:Th) (o:Int) (w:World) (gi:Sat w P r s) (hk:k<s.az.length) (ht:s.az[k]=t) (hz:t.v.size<=1073741824) (hb:s.az.length<=1073741824):
 Calls prog 57 #[.pointer (some ⟨r,0,none⟩), .int .i64 k, .int .i64 o] w (Gp P r (wP s k t o) w):=by
 obtain⟨v,xs,h⟩:=gi;obtain⟨g,c,ka,kc,la,lc,oa,oc,rfl,hg,hgr,uQ,hnc,hcs,hti⟩:=h.thing hk;rw [ht] at hcs hti;have ag:=h.box;have hlr:=ag.lt;have eV:=ae h;have aH:=ae hti.v;have FU:=ae (fun q u hq=>(hcs q u hq).2);have Ht:=ae ht;have y5:=ae uQ;obtain⟨sp,hsp⟩:∃sp,dD t.v=sp:=⟨_,rfl⟩;obtain⟨⟨x,er⟩,hn⟩:∃n,fy (mN sp) (ia sp) t.st s.time o=n:=⟨_,rfl⟩;have Hn:=ae hn;have qy:=ae hsp
 have gU:=ae (show wP s k t o=if er≠0 then(s, .no er) else({s with az:=s.az.set k {t with st:=x}}, .num x.ph) by
  unfold wP Th.ord Th.next
  rw [hsp,hn];by_cases h0:er=0
  ·subst h0;simp
  ·simp [h0])
 have hxl:(ia sp).length<=9223372036854775807:=by have:=Mk t.v;rw [hsp] at this;omega
 have Hc:=ae hcs;have iD:=ag;clear h hcs hti ht hn hsp uQ ag;go_enter func57,ntmps57;go_upto_region 1 with fail
 refine aI (R:=fun wx=>iU wx w.heap.size/\Ext w wx) ⟨aj,Xt⟩ ?_;rintro wa ⟨ai,aD⟩;obtain⟨d0,d1,d2,d3,d4,d5,d6,d7,d8,d9,d10,d11,d12,d13,d14⟩:=AP (Gv Hc.out aD);have ag:=af.ext aD iD;obtain⟨hc0,ax,hl0⟩:=ag.see;have hz1:=ai.lt;go_wp2_with fail;(refine(LV t.v ka kc la lc _ _ hz (aH.out.ext Xt)).mono ?_);rintro e w1 hR;rw [qy.out] at hR;obtain⟨a1,n1,c1,rfl,ay,oK,-,h1⟩:=uK.val hR;have hz2:=h1.size;have hx1:Ext w w1:=Xt;have ai:=af.ext h1 ai;clear hR d0 d1 d2 d3 d4 d5 d6 d7 d8 d9 d10 d11 d12 d13 d14 ag hc0 ax hl0;go_upto_region 3 with fail
 refine aI (R:=fun wx=>iU wx w.heap.size/\af wx w1.heap.size #[.string (mN sp), .slice a1 n1 c1] 50/\StepsIn wx a1 (ia sp)/\Ext w wx) ⟨aj,aj,oK.ext Xt,Xt⟩ ?_;clear ai oK h1 hx1 aD;rintro wb ⟨ai,ak,hst,aO⟩;have hz3:=ak.lt;obtain⟨d0,d1,d2,d3,d4,d5,d6,d7,d8,d9,d10,d11,d12,d13,d14⟩:=AP (Gv Hc.out aO);have ag:=af.ext aO iD;obtain⟨hc0,ax,hl0⟩:=ag.see
 go_cut [10,11] (fun BG s11 wx=>∃b,BG= .pointer (some ⟨b,0,none⟩)/\s11= .int .i64 er/\af wx b #[.string x.sb, .string x.cm, .int .i64 x.ph, .int .i64 x.sp, .int .i64 x.wt, .int .i64 x.si] 39/\w.heap.size<b/\iU wx w.heap.size/\Ext w wx)
 case first=>
  have au:∀w',Ext wb w'-> (w'.cell? ⟨w1.heap.size,0,none⟩=some (.string (mN sp))/\w'.cell? ⟨w1.heap.size,1,none⟩=some (.slice a1 n1 c1)/\w'.cell? ⟨g,k*15+9,none⟩=some (.string t.st.sb)/\w'.cell? ⟨g,k*15+10,none⟩=some (.string t.st.cm)/\w'.cell? ⟨g,k*15+11,none⟩=some (.int .i64 t.st.ph)/\w'.cell? ⟨g,k*15+12,none⟩=some (.int .i64 t.st.sp)/\w'.cell? ⟨g,k*15+13,none⟩=some (.int .i64 t.st.wt)/\w'.cell? ⟨g,k*15+14,none⟩=some (.int .i64 t.st.si)/\w'.cell? ⟨r,1,none⟩=some (.int .i64 s.time)):=
   fun w' e=>⟨e.cell (ak.cells 0),e.cell (ak.cells 1),e.cell d9,e.cell d10,e.cell d11,e.cell d12,e.cell d13,e.cell d14,e.cell (ag.cells 1)⟩
  refine nt au (by kernel_rfl) (au _ Xt) (fun hHeld=> ?_);refine aJ 0 (h:= ?_);refine aJ 1 (h:= ?_);refine aJ 2 (h:= ?_);refine aJ 3 (h:= ?_);refine aJ 4 (h:= ?_);refine aJ 5 (h:= ?_);refine aJ 6 (h:= ?_);refine aJ 7 (h:= ?_);refine aJ 8 (h:= ?_);refine aJ 9 (h:= ?_);(try simp only [rl]);refine wpAnyH_ready (rs:= [10,14]) (by kernel_rfl) (by simp) ?_;refine AllReadyH.cons (Array.getElem?_eq_getElem (by decide)) (fun K hK=> ?_) (AllReadyH.cons (Array.getElem?_eq_getElem (by decide)) (fun K hK=> ?_) AllReadyH.nil)
  · (try simp only [rl])
    (try go_simp);(refine(LH Hn.out _ hxl (hst.ext Xt) ay.symm).mono ?_);rintro e w2 ⟨rfl,h2⟩;(try go_simp);have hx2:Ext wb w2:=Xt;have za:=af.ext hx2 ai;have iu:=hx2.size;refine hK.out _ _ (au _ Xt) (fun hHeld=> ?_);clear hK K;refine aJ 11 (h:= ?_);refine aJ 12 (h:= ?_);refine aJ 13 (h:= ?_);(try simp only [rl]);refine iw 14 (h:=fun K hK=> ?_);(try simp only [rl]);go_simp;refine hK.out _ _ (au _ Xt) (fun hHeld=> ?_);clear hK K;(try simp only [rl]);refine iw 15 (h:=fun K hK=> ?_);(try simp only [rl]);go_simp;refine hK.out _ _ (au _ Xt) (fun hHeld=> ?_);clear hK K;(try simp only [rl]);refine iw 16 (h:=fun K hK=> ?_);(try simp only [rl]);go_simp;refine hK.out _ _ (au _ Xt) (fun hHeld=> ?_);clear hK K;(try simp only [rl]);refine wpAnyH_done (by kernel_rfl) ?_ _;go_wp2_with fail
    go_meet
    exact⟨_,rfl,rfl,aj,by omega,aj,Xt⟩
  · (try simp only [rl])
    go_simp;refine hK.out _ _ (au _ Xt) (fun hHeld=> ?_);clear hK K;(try simp only [rl]);refine iw 10 (h:=fun K hK=> ?_);(try simp only [rl]);(try go_simp);(refine(LH Hn.out _ hxl (hst.ext Xt) ay.symm).mono ?_);rintro e w2 ⟨rfl,h2⟩;(try go_simp);have xx:af w2 wb.heap.size #[.string ⟨#[]⟩, .string ⟨#[]⟩, .int .i64 0, .int .i64 0, .int .i64 0, .int .i64 0] 39:=af.ext h2 aj;have hx2:Ext wb w2:=Xt;have za:=af.ext hx2 ai;have iu:=hx2.size;obtain⟨hct,hft,hlt⟩:=xx.see;refine hK.out _ _ (au _ Xt) (fun hHeld=> ?_);clear hK K;refine aJ 11 (h:= ?_);refine aJ 12 (h:= ?_);refine aJ 13 (h:= ?_);(try simp only [rl]);refine iw 15 (h:=fun K hK=> ?_);(try simp only [rl]);go_simp;refine hK.out _ _ (au _ Xt) (fun hHeld=> ?_);clear hK K;(try simp only [rl]);refine iw 16 (h:=fun K hK=> ?_);(try simp only [rl]);go_simp;refine hK.out _ _ (au _ Xt) (fun hHeld=> ?_);clear hK K;(try simp only [rl]);refine wpAnyH_done (by kernel_rfl) ?_ _;go_wp2_with fail
    go_meet
    exact⟨_,rfl,rfl,aj,by omega,aj,Xt⟩
 case rest=>
  clear ag hc0 ax hl0 ai ak d0 d1 d2 d3 d4 d5 d6 d7 d8 d9 d10 d11 d12 d13 d14;obtain⟨b,rfl,rfl,hBb,eB,ai,hx⟩:=hcut;have hlb:=hBb.lt;obtain⟨hcb,Fl,hlb⟩:=hBb.see;obtain⟨hc1,aA,ay⟩:=ai.see;by_cases h0:er=0
  ·subst h0
   have kD:Hid (wc.there g (k*15+9) 6):=TQ (cs:=t.cells ka kc la lc oa oc) (Gv Hc.out hx) (by rw [Th.tG];omega);go_upto_region 7 with(refine wpList_store_mid rfl 39 _ _ rfl g (k*15+9) #[.string x.sb, .string x.cm, .int .i64 x.ph, .int .i64 x.sp, .int .i64 x.wt, .int .i64 x.si] (by rfl) (by rfl) (by exact kD.out) Tryz.ad5 (all_oneCell_toArray (St.ad6 x)) ?_)
   refine aI (R:=fun wy=>dX wy (fun b=>P b/\b<w.heap.size) r {s with az:=s.az.set k {t with st:=x}} (.slice (some ⟨g,0,none⟩) s.az.length c) (xs.take (k*15+9)++ [.string x.sb, .string x.cm, .int .i64 x.ph, .int .i64 x.sp, .int .i64 x.wt, .int .i64 x.si]++xs.drop (k*15+9+6))/\af wy b #[.string x.sb, .string x.cm, .int .i64 x.ph, .int .i64 x.sp, .int .i64 x.wt, .int .i64 x.si] 39/\iU wy w.heap.size/\aQ (fun b=>¬P b) w wy)
    ⟨by have:=eV.out.old.status (w':=wc) Xt hk x;rw [Ht.out] at this;exact this,hBb.mG (by omega) _ _,ai.mG (by omega) _ _,(Ext.upd hx _).sets (fun h=>absurd y5.out h) _ _⟩ ?_
   clear hBb ai hcb Fl hlb hc1 aA ay kD;rintro wd ⟨gi,hBb,ai,hup⟩;have qx:=ae gi;clear gi;obtain⟨hcb,Fl,hlb⟩:=hBb.see;obtain⟨hc1,aA,ay⟩:=ai.see;go_wp2_with fail;refine aF (h:= ?_);rw [gU.out,if_neg (by simp)];exact⟨rfl,⟨_,_,(qx.out.keep ((Held.kept (T:=fun b=>b<w.heap.size) aB).mono fun b hb=>hb.2)).mono fun b hb=> .inl hb.1⟩,gD⟩
  ·have sW:(er !=0)=true:=by simpa using h0
   have hup:aQ (fun b=>¬P b) w wc:=hx.upd _;have ad7:=ae (gU.out.trans (if_pos h0));clear h0;go_wp2_with fail;refine aF (h:= ?_);rw [ad7.out];exact⟨rfl,⟨_,_,((eV.out.old.ext hx).keep ((Held.kept (T:=fun b=>b<w.heap.size) aB).mono fun b hb=>hb.2)).mono fun b hb=> .inl hb.1⟩,gD⟩
def lF (w:World) (base:Nat) (T:aw) (v:Value) (n:Nat) (l:List bE):Prop:=
 l.length=n/\∃xs,w.ownsRow base 198 8 v n xs/\pd w (fun b=>T b/\v.ownBlock≠some b) l xs
theorem lF.nil (w:World) (base:Nat) (T:aw):lF w base T (.slice none 0 0) 0 []:=⟨rfl, [],World.ownsRow_nil _ _ _ _,rfl⟩
theorem lF.ext {w w':World} {base:Nat} {T:aw} {v:Value} {n:Nat} {l:List bE} (h:lF w base T v n l) (e:Ext w w'):lF w' base T v n l:=by
 obtain⟨h0,xs,h1,h2⟩:=h;exact⟨h0,xs,eu h1 e,h2.keep (e.kept _) (fun _ h _=>h)⟩
theorem lF.held {w w':World} {base:Nat} {T:aw} {v:Value} {n:Nat} {l:List bE} (h:lF w base T v n l) (e:Held (fun b=>b<w.heap.size) w w'):lF w' base T v n l:=by
 obtain⟨h0,xs,h1,h2⟩:=h;exact⟨h0,xs,dL h1 (fun b hb _=>e.block b hb hb),h2.keep (fun b _ hl=>e.block b hl hl) (fun _ h _=>h)⟩
theorem pd.snoc {w:World} {T:aw} {l:List bE} {xs:List Value} (h:pd w T l xs) {x:bE} {ka:aq} {kc:Nat} {la:aq} {lc:Nat} (hx:x.v.In w T ka kc la lc):pd w T (l++ [x]) (xs++x.eight ka kc la lc):=by
 induction l generalizing xs with
 |nil=>subst h;exact⟨ka,kc,la,lc, [],by simp,hx,rfl⟩
 |cons y r ih=>
  obtain⟨a,b,c,d,t,rfl,h1,h2⟩:=h;exact⟨a,b,c,d,_,by rw [List.append_assoc],h1,ih h2⟩
theorem lF.form {w:World} {base:Nat} {T:aw} {v:Value} {n:Nat} {l:List bE} (h:lF w base T v n l):∃a c,v= .slice a n c/\aM a n c:=by
 obtain⟨-,xs,h1,-⟩:=h;exact fG h1
theorem lF.ops {w:World} {base n c:Nat} {T U:aw} {a:aq} {l:List bE} (h:lF w base T (.slice a n c) n l) (h1:∀b,T b->U b) (h2:∀b,base<=b->U b):oo w U a l:=by
 obtain⟨h0,xs,h3,h4⟩:=h;exact(Wa h0 h3 h4).mono fun b h=>h.elim (fun h=>h1 b h.1) (h2 b)
theorem bE.acf (o:bE) (ka:aq) (kc:Nat) (la:aq) (lc:Nat):∀u∈o.eight ka kc la lc,u.oneCell'=true:=by
 intro u hu;simp only [bE.eight,List.mem_cons,List.not_mem_nil,or_false] at hu;rcases hu with rfl|rfl|rfl|rfl|rfl|rfl|rfl|rfl<;>rfl
theorem acg {wr W:World} {ops:Array Oper} {rest:List Oper} {o:Oper} {a:Act} {Q:Exit->Act->World->Prop} {base n:Nat} {T:aw} {vl:Value} {l:List bE} {x:bE} {ka:aq} {kc:Nat} {la:aq} {lc:Nat} (hgd:o.guard=none) (B:Nat) {s t:Operand}
 (ho:o.op= .call {callee:= .builtin .append,args:= #[s,t],argTypes:= #[141,141]}) (hs:a.eval s=vl) (hx:a.eval t= .slice (some ⟨B,0,none⟩) 1 1)
 (hI:lF wr base T vl n l) (e:Ext wr W) (hv:x.v.In W (fun b=>T b/\vl.ownBlock≠some b) ka kc la lc) (hB:af W B (x.eight ka kc la lc).toArray 198) (hn:n<=1073741824) (hbase:base<=wr.heap.size)
 (h:∀g cap w',lF w' base T (.slice (some ⟨g,0,none⟩) (n+1) cap) (n+1) (l++ [x])->W.grownBy w' vl.ownBlock->Held (fun b=>b<base) W w'->wpList prog ops Q rest (a.put o.dst (.slice (some ⟨g,0,none⟩) (n+1) cap)) w'):wpList prog ops Q (o::rest) a W:=by
 obtain⟨j0,hj,hy0,hy1,hy2⟩:=info_parts Tryz.V9;obtain⟨hl0,xs,pV,vM⟩:=hI;refine wpList_plain hgd fun _ hK=>wp_append_lies _ s t _ ho base 198 j0 _ 8 120 underlying141 hj hy0 hy1 hy2 rfl (by decide) vl n xs hs (eu pV e) ⟨B,0,none⟩ 1 1 (x.eight ka kc la lc) hx (by rfl) (World.news_of_block (cs:=(x.eight ka kc la lc).toArray) (t:=198) (fr:=(0,0)) hB) (bE.acf x ka kc la lc) (by omega) (by unfold maxLen;omega) (by omega) (Nat.le_trans hbase e.size) _ rfl ?_;intro g cap w' hown hgrow hat hlt;have hk:∀b,(T b/\vl.ownBlock≠some b)->b<W.heap.size->w'.heap[b]? =W.heap[b]? :=fun b hb hl=>hgrow.block b hl (fun he=>hb.2 he.symm)
 have hT:∀b,(T b/\vl.ownBlock≠some b)->b<W.heap.size-> (T b/\ (Value.slice (some ⟨g,0,none⟩) (n+1) cap).ownBlock≠some b):=fun b hb hl=>⟨hb.1,fun he=>by
  have hg:g=b:=by simpa [Value.ownBlock] using he
  subst hg;rcases hat with hat|hat
  ·exact hb.2 hat
  ·omega⟩
 refine hK _ _ (h g cap w' ⟨by simp [hl0],_,hown,?_⟩ hgrow (Held.grown (Held.refl _ _) hgrow (fun q hq hT=>by have:=(pV.lt q hq).1;omega)));exact((vM.keep (e.kept _) (fun _ h _=>h)).keep hk hT).snoc (hv.keep hk hT)
theorem ach (x:V) (ka:aq) (kc:Nat) (la:aq) (lc:Nat) (S:aw) (w:World) (hsz:x.size<=1073741824) (dZ:qJ w) (hin:x.In w S ka kc la lc):
 Calls prog 89 #[x.val ka kc la lc] w fun e w'=>∃a n c,e= .returned (.tuple #[.slice a n c, .int .i64 (jE x).2])/\ (jE x).1.length=n/\aM a n c/\oo w' (aU S w) a (jE x).1/\Ext w w':=by
 have aH:=ae (show x.In w (fun q=>S q/\q<w.heap.size) ka kc la lc from hin.mono fun b h h'=>⟨h,h'⟩);have iO:=ae dZ;have hll:=x.jO;clear hin dZ
 cases hf:x.fine with
 |false=>
  have Hf:=ae hf;have Hr:=ae (Sb (v:=x) (.inl hf));clear hf;go_enter func89,ntmps89;go_wp2_with fail;(refine(cU x ka kc la lc _ _ hsz (aH.out.ext Xt)).mono ?_);rw [Hf.out];rintro e w1 ⟨rfl,h1⟩;have hx1:Ext w w1:=Xt;clear h1;go_wp2_with fail;go_ret2;rw [Hr.out];exact⟨none,0,0,rfl,rfl,aM.nil, .inl rfl,Xt⟩
 |true=>
  have Hf:=ae hf;by_cases h4:x.k=4
  ·have CT:(x.k !=4)=false:=by simpa using h4
   have H4:=ae h4;by_cases h20:20<x.l.length
   ·have JW:(20:Int)<(x.l.length:Int):=by omega
    have Hr:=ae (acb hf h4 h20);clear hf h4 h20;go_enter func89,ntmps89;go_upto_region 1 with fail
    refine aI (R:=fun wx=>aC wx w.heap.size x ka kc la lc/\Ext w wx) ⟨aj,Xt⟩ ?_;rintro wa ⟨ag,aD⟩;obtain⟨hc0,ax,hl0⟩:=ag.see;go_wp2_with fail;(refine(cU x ka kc la lc _ _ hsz (aH.out.ext Xt)).mono ?_);rw [Hf.out];rintro e w1 ⟨rfl,h1⟩;have ag:=af.ext (w':=w1) Xt ag;have hx1:Ext w w1:=Xt;clear h1 aD hc0 ax hl0;obtain⟨hc0,ax,hl0⟩:=ag.see;go_wp2_with fail;go_ret2;rw [Hr.out];exact⟨none,0,0,rfl,rfl,aM.nil, .inl rfl,Xt⟩
   ·have JW:¬(20:Int)<(x.l.length:Int):=by omega
    have Sc:=ae h20;have qZ:x.l.length<=20:=by omega
    clear hf h4 h20;go_enter func89,ntmps89;go_upto_region 1 with fail
    refine aI (R:=fun wx=>aC wx w.heap.size x ka kc la lc/\Ext w wx) ⟨aj,Xt⟩ ?_;rintro wa ⟨ag,aD⟩;obtain⟨hc0,ax,hl0⟩:=ag.see;go_wp2_with fail;(refine(cU x ka kc la lc _ _ hsz (aH.out.ext Xt)).mono ?_);rw [Hf.out];rintro e w1 ⟨rfl,h1⟩;have ag:=af.ext (w':=w1) Xt ag;have hx1:Ext w w1:=Xt;have hz1:=ag.lt;clear h1 aD hc0 ax hl0;obtain⟨hc0,ax,hl0⟩:=ag.see;go_wp2_with fail;clear hc0 ax hl0 ag
    go_loopg [4,6,7,8,24] x.l.length (fun g t4 _ _ _ i wr=>∃(k:Nat) (os:List bE) (a3:aq) (c3:Nat),k<=x.l.length/\i= .int .i64 k/\g=x.l.length-k/\t4= .slice a3 k c3/\Hid (lF wr w1.heap.size (aU S w) (.slice a3 k c3) k os)/\Hid (mM (x.l.take k)=some os)/\Ext w wr/\w1.heap.size<=wr.heap.size)
    case atStart=>exact⟨0, [],none,0,by omega,rfl,rfl,rfl,ae (lF.nil _ _ _),ae rfl,hx1,by omega⟩
    case round=>
     clear hx1;obtain⟨k,os,a3,c3,hk,rfl,rfl,rfl,HO,kr,hx,A6⟩:=hrel;by_cases hlt:k<x.l.length
     ·obtain⟨bq,oq,rfl,hSq,fI,fJ,fW,fK,⟨d0,d1,d2,d3,d4⟩,hin'⟩:=aH.out.item hlt
      have d0:=hx.cell d0;have d1:=hx.cell d1;have d2:=hx.cell d2;have d3:=hx.cell d3;have d4:=hx.cell d4;have nj:(0:Int)<= (k:Int):=by omega
      have np:(k:Int)<(x.l.length:Int):=by omega
      have Af:=ae hin';have fS:=V.oZ hlt;have qI:=ae (fun h:x.l[k].iF=none=>acd Hf.out H4.out Sc.out hlt h);have qY:=ae (fun(o:bE) (h:x.l[k].iF=some o)=>aca hlt kr.out h);clear hin';go_upto_region 9 with fail
      refine aI (R:=fun wx=>lF wx w1.heap.size (aU S w) (.slice a3 k c3) k os/\af wx wr.heap.size #[.int .i64 x.l[k].k, .int .i64 x.l[k].n, .string x.l[k].s, .slice fI x.l[k].keys.length fJ, .slice fW x.l[k].l.length fK] 36/\Ext w wx/\w1.heap.size<=wx.heap.size) ⟨HO.out.ext Xt,aj,Xt,by simp;omega⟩ ?_;clear HO hx d0 d1 d2 d3 d4 A6;rintro wb ⟨hO,Sd,hx,hzb⟩;have HO:=ae hO;clear hO;obtain⟨hcq,hfq,hlq⟩:=Sd.see;go_wp2_with fail;(refine(ab5 x.l[k] fI fJ fW fK (fun q=>S q/\q<w.heap.size) _ (by omega) (iO.out.ext Xt) (Af.out.ext Xt)).mono ?_);rintro e w2 ⟨o,kb,kd,lb,ld,ob,rfl,Dc,heq,h2⟩;have wK:=ae heq;have hy2:Ext wb w2:=Xt;have hx2:=hx.trans hy2;have hz2:=hy2.size;have hOb:=HO;have HO:=ae (HO.out.ext hy2)
      have Dd:=ae (show o.v.In w2 (fun b=>aU S w b/\ (Value.slice a3 k c3).ownBlock≠some b) kb kd lb ld from Dc.mono fun b h hl=>⟨by rcases h with h|h;exact .inl h.1;exact .inr (by(try simp at h);omega),fun he=>by
       have h5:=HO.out;obtain⟨-,xs,h6,-⟩:=h5;have h7:=h6.lt b he;rcases h with h|h
       ·omega
       ·have h8:=he
        obtain⟨-,ys,h9,-⟩:=hOb.out;have h10:=(h9.lt b he).2;(try simp at h)
        omega⟩)
      clear h2 Dc heq hx hcq hfq hlq Sd
      cases ob with
      |false=>
       have Hr:=ae (qI.out (by rw [wK.out];rfl));go_wp2_with fail;go_ret2;rw [Hr.out];exact⟨none,0,0,rfl,rfl,aM.nil, .inl rfl,Xt⟩
      |true=>
       have Hn:=ae (qY.out o (by rw [wK.out];rfl));go_upto_region 12 with fail
       refine aI (R:=fun wx=>lF wx w1.heap.size (aU S w) (.slice a3 k c3) k os/\af wx w2.heap.size #[.int .i64 o.k, .string o.p, .string o.f, .int .i64 (o.v).k, .int .i64 (o.v).n, .string (o.v).s, .slice kb (o.v).keys.length kd, .slice lb (o.v).l.length ld] 198/\o.v.In wx (fun b=>aU S w b/\ (Value.slice a3 k c3).ownBlock≠some b) kb kd lb ld/\Ext w wx/\w1.heap.size<=wx.heap.size) ⟨HO.out.ext Xt,aj,Dd.out.ext Xt,Xt,by simp;omega⟩ ?_;clear HO Dd hx2 hy2 hz2 hzb;rintro wc ⟨hO,yM,Dc,hx,pq⟩;have HO:=ae hO;have Dd:=ae Dc;clear hO Dc;obtain⟨hco,hfo,hlo⟩:=yM.see;go_upto_region 13 with(at_builtin;refine acg (by rfl) wc.heap.size (by rfl) (by rfl) (by rfl) HO.out Xt (Dd.out.ext Xt) aj (by omega) pq ?_;intro g3 Aj w3 jd jC pM)
       have hx3:Ext w w3:=Ext.grown (Ext.trans hx (show Ext wc _ from Xt)) jC (fun q hq=>by obtain⟨-,xs,h1,-⟩:=HO.out;have:=(h1.lt q hq).1;omega);have hz3:=pM.size;clear jC pM HO Dd;go_wp2_with fail;go_roundg (x.l.length-(k+1))
       case measure=>omega
       case rel=>exact⟨k+1,_,_,_,by omega,by go_num,rfl,rfl,ae jd,Hn,hx3,by first|omega|(simp at hz3;omega)⟩
     ·obtain rfl:k=x.l.length:=by omega
      have Hr:=ae (ace Hf.out H4.out Sc.out kr.out);have hl0:=HO.out.1;obtain⟨a6,c6,Sg,jP⟩:=HO.out.form;simp only [Value.slice.injEq,true_and] at Sg;obtain⟨rfl,rfl⟩:=Sg;have CF:=ae (HO.out.ops (U:=aU S w) (fun _ h=>h) (fun b h=> .inr (by omega)));have K4:=ae hl0;have Lu:=ae jP;clear hl0 jP HO;go_wp2_with fail;go_ret2;rw [Hr.out];exact⟨a3,_,c3,rfl,K4.out,Lu.out,CF.out.ext Xt,Xt⟩
  ·have CT:(x.k !=4)=true:=by simpa using h4
   have Hr:=ae (Sb (v:=x) (.inr h4));clear hf h4;go_enter func89,ntmps89;go_upto_region 1 with fail
   refine aI (R:=fun wx=>aC wx w.heap.size x ka kc la lc/\Ext w wx) ⟨aj,Xt⟩ ?_;rintro wa ⟨ag,aD⟩;obtain⟨hc0,ax,hl0⟩:=ag.see;go_wp2_with fail;(refine(cU x ka kc la lc _ _ hsz (aH.out.ext Xt)).mono ?_);rw [Hf.out];rintro e w1 ⟨rfl,h1⟩;have ag:=af.ext (w':=w1) Xt ag;have hx1:Ext w w1:=Xt;clear h1 aD hc0 ax hl0;obtain⟨hc0,ax,hl0⟩:=ag.see;go_wp2_with fail;go_ret2;rw [Hr.out];exact⟨none,0,0,rfl,rfl,aM.nil, .inl rfl,Xt⟩
theorem aQ.plus {P:aw} {a b c:World} (h:aQ (fun b=>¬P b) a b) (k:aQ (fun x=>¬aU P a x) b c):aQ (fun b=>¬P b) a c:=
 ⟨k.os.trans h.os,k.tape.trans h.tape,k.output.trans h.output,Nat.le_trans h.size k.size,fun i hi hl=>(k.block i (by rintro(h|h);exact hi h;omega) (Nat.lt_of_lt_of_le hl h.size)).trans (h.block i hi hl)⟩
theorem Sat.plus {P:aw} {a b c:World} {r:Nat} {s:Sv} (h:Sat c (aU (aU P a) b) r s) (hs:a.heap.size<=b.heap.size):Sat c (aU P a) r s:=
 h.mono fun x hx=>by rcases hx with hx|hx;exact hx;exact .inr (Nat.le_trans hs hx)
theorem ad9 {s:Sv} {k:Nat} {t:Th} (hk:k<s.az.length) (ht:s.az[k]=t) (o:Int):(wP s k t o).1= {s with az:=s.az.set k (t.ord s.time o)}:=by
 unfold wP;by_cases h:(t.next s.time o).2=0
 ·rw [if_neg (by simpa using h)]
 ·rw [if_pos h]
  have:t.ord s.time o=t:=by unfold Th.ord;rw [if_neg h]
  rw [this,<-ht,List.set_getElem_self]
theorem map_set {α:Type} (f:α->α) (l:List α) (k:Nat) (h:k<l.length):((l.take k).map f++l.drop k).set k (f l[k])=(l.take (k+1)).map f++l.drop (k+1):=by
 have hl:((l.take k).map f).length=k:=by simp;omega
 rw [List.set_append_right _ _ (by omega),hl,Nat.sub_self,List.drop_eq_getElem_cons h,List.set_cons_zero,List.take_succ_eq_append_getElem h,List.map_append,List.append_assoc];rfl
theorem aea {α:Type} (f:α->α) (l:List α) (k:Nat) (h:k<l.length):∃h',((l.take k).map f++l.drop k)[k]'h'=l[k]:=by
 have hl:((l.take k).map f).length=k:=by simp;omega
 exact List.getElem?_eq_some_iff.1 (by rw [List.getElem?_append_right (by omega),hl,Nat.sub_self,List.getElem?_drop,Nat.add_zero,List.getElem?_eq_getElem h])
theorem adO (P:aw) (r:Nat) (s:Sv) (n:Int) (w:World) (gi:Sat w P r s) (hb:s.az.length<=1073741824) (hz:∀t∈s.az,t.v.size<=1073741824) (ht0:0<=s.time) (ht1:s.time<=1099511627776):
 Calls prog 52 #[.pointer (some ⟨r,0,none⟩), .int .i64 n] w fun e w'=>e= .returned (.int .i64 (nZ s n).2.c)/\Sat w' (aU P w) r (nZ s n).1/\aQ (fun b=>¬P b) w w':=by
 obtain⟨v,xs,h⟩:=gi;have ag:=h.box;have hlr:=ag.lt;have eV:=ae h;have Hz:=ae hz;have AO:=ae h.pr;clear h hz;by_cases h1:n<1
 ·have Hr:=ae (show nZ s n=(s, .no 8) by unfold nZ;rw [if_pos (.inl h1)])
  obtain⟨hc0,ax,hl0⟩:=ag.see;go_enter func52,ntmps52;go_wp2_with fail;go_ret;rw [Hr.out];exact⟨rfl,Kept.of (w:=w) (T:=P) eV.out Xt,(show Ext w _ from Xt).upd _⟩
 ·by_cases h2:1099511627776-s.time<n
  ·have Hr:=ae (show nZ s n=(s, .no 8) by unfold nZ;rw [if_pos (.inr h2)])
   obtain⟨hc0,ax,hl0⟩:=ag.see;go_enter func52,ntmps52;go_wp2_with fail;go_ret;rw [Hr.out];exact⟨rfl,Kept.of (w:=w) (T:=P) eV.out Xt,(show Ext w _ from Xt).upd _⟩
  ·obtain⟨T,hT⟩:∃T,s.time+n=T:=⟨_,rfl⟩
   have Hr:=ae (show nZ s n=({s with az:=s.az.map fun t=>t.ord T 0,time:=T}, .no 0) by unfold nZ;rw [if_neg (by omega),hT]);have hT0:0<=T:=by omega
   have hT1:T<=1099511627776:=by omega
   obtain⟨a,c,hv,hok⟩:=fG eV.out.own;subst hv;obtain⟨hc0,ax,hl0⟩:=ag.see;go_enter func52,ntmps52;go_upto_region 4 with fail
   refine aI (R:=fun wx=>dX wx P r {s with time:=T} (.slice a s.az.length c) xs/\aQ (fun b=>¬P b) w wx) ⟨?_,(aQ.refl _ _).set (fun h=>absurd AO.out h) _⟩ ?_
   ·have hB:af (w.setCell ⟨r,1,none⟩ (.int .i64 T)) r #[.slice a s.az.length c, .int .i64 T, .int .i64 s.last, .int .i64 s.acts] 74:=aj
    have hk:Kept (fun b=>b≠r) w (w.setCell ⟨r,1,none⟩ (.int .i64 T)):=Held.kept aB;exact⟨hB,eV.out.pr,dL eV.out.own (fun b hl he=>hk b (eV.out.row b he).2 hl),eV.out.row,eV.out.cells.keep (fun b hb hl=>hk b hb.2.1 hl) (fun _ h _=>h)⟩
   clear ag hc0 ax hl0;rintro wa ⟨gi,hup⟩;have ag:=gi.box;have qx:=ae (gi.mono (aU.old (w:=w)));clear gi hT h1 h2;obtain⟨hc0,ax,hl0⟩:=ag.see;go_wp2_with fail
   go_loopg [5,30] s.az.length (fun g _ i wr=>∃k:Nat,k<=s.az.length/\i= .int .i64 k/\g=s.az.length-k/\Sat wr (aU P w) r {s with az:=(s.az.take k).map (fun t=>t.ord T 0)++s.az.drop k,time:=T}/\aQ (fun b=>¬P b) w wr)
   case atStart=>exact⟨0,by omega,rfl,rfl,⟨_,_,by simpa using qx.out⟩,hup⟩
   case round=>
    clear ag hc0 ax hl0 hup;obtain⟨k,hk,rfl,rfl,TU,hup⟩:=hrel;have TV:=ae TU;clear TU;by_cases hlt:k<s.az.length
    ·obtain⟨hk',hget⟩:=aea (fun t:Th=>t.ord T 0) s.az k hlt
     have hzt:=Hz.out _ (List.getElem_mem hlt);have Mj:=ae (ad9 (s:= {s with az:=(s.az.take k).map (fun t=>t.ord T 0)++s.az.drop k,time:=T}) hk' hget 0);have hlen:((s.az.take k).map (fun t=>t.ord T 0)++s.az.drop k).length<=1073741824:=by simp;omega
     have Ho:=ae (fun(w':World) (hs:Sat w' (aU P w) r {s with az:=(s.az.take k).map (fun t=>t.ord T 0)++s.az.drop k,time:=T})=>Td (aU P w) r _ k s.az[k] 0 w' hs hk' hget hzt hlen);have hw:w.heap.size<=wr.heap.size:=hup.size;clear hk' hget hlen;go_wp2_with fail;(refine(Ho.out _ TV.out).mono ?_);rintro e w2 ⟨rfl,hs2,hu2⟩;have je:=ae (hs2.plus hw);have qu:=hup.plus hu2;clear hs2 hu2;rw [Mj.out,map_set (fun t:Th=>t.ord T 0) s.az k hlt] at je;go_wp2_with fail;go_roundg (s.az.length-(k+1))
     case measure=>omega
     case rel=>exact⟨k+1,by omega,by go_num,rfl,je.out,qu⟩
    ·obtain rfl:k=s.az.length:=by omega
     have cx:=ae (show Sat wr (aU P w) r {s with az:=s.az.map fun t=>t.ord T 0,time:=T} by simpa using TV.out);go_wp2_with fail;go_ret;rw [Hr.out];exact⟨rfl,cx.out,hup⟩
end Go.Proofs.YtlcebdaghmdkeabGreatDoor
namespace Go.Proofs.YtlcebdaghmdkeabGreatDoor
theorem go_get:∀(r:List ah) {x y:V},x.sound->bh r x=some y->fe r x=some y
 | [],_,_,_,h=>h
 |a::r,x,y,hx,h=>by
  obtain⟨z,hm,hz⟩:=Bp h;have h5:=(sF hx hm).2;have dI:=il hx h5;have hmem:a∈x.keys:=(dI.vB a).2 (by rw [hm];simp);have hb:=Ej dI.eG hmem;have hlt:=sG hb;have dA:posOf x.keys a<x.l.length:=by rw [<-dI.len];exact hlt
  have hm2:=hm;rw [dI.member] at hm2;have hat:=zJ x.keys x.l dI.len dI.nodup _ hlt;rw [zK hb,hm2] at hat;have hl:x.l[posOf x.keys a]? =some z:=by rw [List.getElem?_eq_getElem dA];exact hat.symm
  rw [fe,show x.child a=some (posOf x.keys a) from by simp [V.child,h5,hb],Option.bind_some,hl,Option.bind_some];exact go_get r (pS hx hm) hz
theorem Wv (x:V):iP x x=true:=by
 unfold iP;rw [(Ek x x).2 rfl];rfl
theorem ND:∀(l:List ah) {v x:V},l≠ []->v.sound->∃y,bh l (gJ l v x)=some y/\iP y x=true
 | [],_,_,h,_=>absurd rfl h
 |a::r,v,x,_,hv=>by
  have hb:=zB hv;rw [gJ];by_cases hr:r= []
  ·subst hr
   rw [if_neg (by simp)];have hput:∃y,bh [a] (v.base.put a x)=some y/\iP y x=true:=⟨x,by rw [bh,xD hb];rfl,Wv x⟩
   cases hm:v.base.member a with
   |none=>exact hput
   |some old=>
    simp only
    split
    ·rename_i hk
     exact⟨old,by rw [bh,hm];rfl,hk⟩
    ·exact hput
  ·rw [if_pos hr]
   have hbs:=zA hv;have hs:((v.base.member a).getD V.zero).sound:=by
    cases hm:v.base.member a with
    |none=>exact NF
    |some z=>exact pS hbs hm
   obtain⟨y,h1,h2⟩:=ND r (x:=x) hr hs;exact⟨y,by rw [bh,xD hb];exact h1,h2⟩
theorem Ww {want:V} {r:List ah} {p:ah} (hp:p∈want.leaves) (hr:cI p=some r) {y:V} (hy:iP y ((bH want p).getD V.zero)=true):
 ∀(ps:List ah) {v:V},v.sound-> (∀q∈ps,q∈want.leaves)->bh r v=some y->bh r (ps.foldl (iQ want) v)=some y:=by
 intro ps v hv hl h;refine Ir ps hv hl (fun q hq=> ?_) h;obtain⟨-,-,s,-,hs,Bq,-⟩:=qU (hl q hq);have hnd':bL q=s:=by unfold bL;rw [hs];rfl
 by_cases he:q=p
 ·subst he
  rw [hr] at hs
  cases hs
  refine .inr fun z hz xE=> ?_;unfold iQ;rw [hnd',El _ Bq hz xE hy];exact xE
 ·exact .inl (by rw [hnd'];exact NG (hl q hq) hp hs hr he)
theorem Iu {want:V} {p:ah}:∀(ps:List ah) {v:V},p∈ps-> (∀q∈ps,q∈want.leaves)->v.sound->∃y,bH (ps.foldl (iQ want) v) p=some y/\iP y ((bH want p).getD V.zero)=true
 | [],_,h,_,_=>(List.not_mem_nil h).elim
 |q::ps,v,h,hl,hv=>by
  rw [List.foldl_cons];have hs:=(Em hv (hl q (by simp))).1;by_cases he:q=p
  ·subst he
   obtain⟨-,-,s,-,hn,Bq,-⟩:=qU (hl q (by simp));have hnd':bL q=s:=by unfold bL;rw [hn];rfl
   obtain⟨y,h1,h2⟩:=ND (bL q) (v:=v) (x:=(bH want q).getD V.zero) (by rw [hnd'];exact Bq) hv;refine⟨y,?_,h2⟩;unfold bH;rw [hnd'] at h1⊢;exact Ww (hl q (by simp)) hn h2 ps hs (fun q' hq'=>hl q' (by simp [hq'])) (by unfold iQ;rw [hnd'];exact h1)
  ·exact Iu ps (by rcases List.mem_cons.1 h with e|e;exact absurd e.symm he;exact e) (fun q' hq'=>hl q' (by simp [hq'])) hs
theorem NH {want:V}:∀(ps:List ah) {v:V},v.sound-> (∀q∈ps,q∈want.leaves/\∃y,bH v q=some y/\iP y ((bH want q).getD V.zero)=true)->ps.foldl (iQ want) v=v
 | [],_,_,_=>rfl
 |q::ps,v,hv,h=>by
  rw [List.foldl_cons];obtain⟨h1,y,h2,h3⟩:=h q (by simp);obtain⟨-,-,s,-,hn,Bq,-⟩:=qU h1;have hnd':bL q=s:=by unfold bL;rw [hn];rfl
  have:iQ want v q=v:=by unfold iQ;unfold bH at h2;rw [hnd'] at h2⊢;exact El s Bq hv h2 h3
  rw [this];exact NH ps hv (fun q' hq'=>h q' (by simp [hq']))
theorem Br (ps:List ah):pT ps=true↔(∀p∈ps,xG p=true)/\cG ps:=by
 unfold pT;rw [decide_eq_true_eq];constructor
 ·intro h
  refine⟨fun p hp=> ?_,List.pairwise_iff_getElem.2 fun i j hi hj hij=> ?_⟩
  ·obtain⟨k,hk,rfl⟩:=List.getElem_of_mem hp
   exact(h k hk).1
  ·obtain⟨d,rfl⟩:∃d,j=i+1+d:=⟨j-i-1,by omega⟩
   clear hij
   induction d with
   |zero=>have:=(h (i+1) hj).2 (by omega);simpa using this
   |succ d ih=>
    have h1:=ih (by omega);have h2:=(h (i+1+(d+1)) hj).2 (by omega);exact uf h1 h2
 ·rintro⟨h1,h2⟩ k hk
  exact⟨h1 _ (List.getElem_mem hk),fun h0=>zL h2 (by omega) hk (by omega)⟩
theorem Bt (l:List Ow):iZ l=true↔(∀o∈l,gH o.name=true/\o.paths≠ []/\pT o.paths=true)/\cG (l.map Ow.name)/\l.length<=6:=by
 constructor
 ·intro h
  refine⟨fun o ho=> ?_,Iw h,?_⟩
  ·unfold iZ at h
   rw [Bool.and_eq_true,decide_eq_true_eq] at h;obtain⟨i,hi,rfl⟩:=List.getElem_of_mem ho;exact⟨(h.1 i hi).1,(h.1 i hi).2.2⟩
  ·unfold iZ at h
   rw [Bool.and_eq_true,decide_eq_true_eq,decide_eq_true_eq] at h;exact h.2
 ·rintro⟨h1,h2,h3⟩
  unfold iZ;rw [Bool.and_eq_true,decide_eq_true_eq,decide_eq_true_eq];refine⟨fun i hi=> ?_,h3⟩;obtain⟨g1,g2,g3⟩:=h1 _ (List.getElem_mem hi);refine⟨g1,fun h0=> ?_,g2,g3⟩;have:=zL h2 (i:=i-1) (j:=i) (by simp;omega) (by simpa using hi) (by omega);simpa using this
theorem Wx (x:V):∀(d:Int) (ns:List ah),x.good d=true-> (x.ez ns).Nodup:=by
 induction x using V.ind with
 |h x ih=>
  intro d ns hg;rw [zM]
  split
  ·simp
  ·rename_i hc
   have h5:x.k=5:=Classical.byContradiction fun h=>hc (.inl h);have dI:=il (En hg) h5;have Bu:∀y∈x.l,y.good (d+1)=true:=fun y hy=>by obtain⟨i,hi,rfl⟩:=List.getElem_of_mem hy;exact Eo hg hi
   have key:∀(l:List V) (ks:List ah),ks.Nodup-> (∀y∈l,y∈x.l)-> (V.ez.go l ks ns).Nodup/\∀q∈V.ez.go l ks ns,∃k∈ks,∃r,q=ns++k::r:=by
    intro l
    induction l with
    |nil=>intro ks _ _;rw [xH];exact⟨.nil,fun q h=>(List.not_mem_nil h).elim⟩
    |cons y l ihl=>
     intro ks hn hm
     cases ks with
     |nil=>rw [Ep];exact⟨.nil,fun q h=>(List.not_mem_nil h).elim⟩
     |cons k ks=>
      obtain⟨hk,hn⟩:=List.nodup_cons.1 hn;obtain⟨h1,h2⟩:=ihl ks hn (fun z hz=>hm z (by simp [hz]));have hy:=hm y (by simp);have h3:∀q∈y.ez (ns++ [k]),∃r,q=ns++k::r:=fun q hq=>by obtain⟨r,hr,-⟩:=Ix y (d+1) _ (Bu y hy) q hq;exact⟨r,by rw [hr];simp⟩
      rw [xI];refine⟨List.nodup_append.2 ⟨ih y hy (d+1) _ (Bu y hy),h1,?_⟩,fun q hq=> ?_⟩
      ·intro a ha b hb e
       subst e;obtain⟨r,hr⟩:=h3 _ ha;obtain⟨k2,hk2,r2,hr2⟩:=h2 _ hb;rw [hr] at hr2;have:=List.append_cancel_left hr2;simp only [List.cons.injEq] at this;exact hk (this.1▸hk2)
      ·rcases List.mem_append.1 hq with h|h
       ·obtain⟨r,hr⟩:=h3 _ h
        exact⟨k,by simp,r,hr⟩
       ·obtain⟨k2,hk2,r2,hr2⟩:=h2 _ h
        exact⟨k2,by simp [hk2],r2,hr2⟩
   exact(key _ _ dI.nodup (fun _ h=>h)).1
theorem Wy (x:V):pT x.leaves=true:=by
 rw [Br];refine⟨fun p hp=> ?_,?_⟩
 ·obtain⟨-,-,r,-,hn,hne,-⟩:=qU hp
  unfold xG;rw [hn];simpa using hne
 ·have hnd:x.leaves.Nodup:=by
   unfold V.leaves
   split
   ·rename_i hc
    refine(vC _).nodup_iff.2 ?_;unfold List.Nodup;rw [List.pairwise_map];have h0:=Wx x 1 [] (Er hc.1);refine List.Pairwise.imp_of_mem (fun {a b} ha hb hne e=>hne ?_) h0;have zN:∀q∈x.ez [],cI (lq q)=some q:=fun q hq=>by obtain⟨r,Bv,-,hlen,hp⟩:=Ix x 1 [] (Er hc.1) q hq;rw [List.nil_append] at Bv;subst Bv;exact NI (by have:=Iy q (fun a ha=>xJ (hp a ha));omega)
    have h1:=zN a ha;rw [e,zN b hb] at h1;exact(Option.some.inj h1).symm
   ·exact .nil
  have hs:Sorted x.leaves:=by
   unfold V.leaves
   split
   ·exact Iz _
   ·exact .nil
  refine(hs.and hnd).imp fun {a b} h=> ?_;rcases Es a b with e|e|e
  ·exact e
  ·exact absurd e h.2
  ·rw [h.1] at e;cases e
theorem Wz {os:List Ow} {who:ah} {ps:List ah} (h:∀o∈os,o.name≠who):Bw (fM os who ps) who=ps:=by
 have hno:∀l:List Ow,(∀o∈l,o.name≠who)->l.find? (fun o=>decide (o.name=who))=none:=fun l hl=>List.find?_eq_none.2 fun o ho=>by simpa using hl o ho
 unfold fM
 split
 ·rename_i he
  unfold Bw;rw [hno os h,he]
 ·unfold Bw
  rw [List.find?_append,hno _ (fun o ho=>h o (List.mem_of_mem_take ho)),List.find?_cons,decide_eq_true (show (⟨who,ps⟩:Ow).name=who from rfl)];rfl
theorem Et {os:List Ow} {who:ah} {ps:List ah} {o:Ow} (h:o∈fM os who ps):o∈os\/ (o=⟨who,ps⟩/\ps≠ []):=by
 unfold fM at h
 split at h
 ·exact .inl h
 ·rename_i hne
  rcases List.mem_append.1 h with h|h
  ·exact .inl (List.mem_of_mem_take h)
  ·rcases List.mem_cons.1 h with h|h
   ·exact .inr ⟨h,hne⟩
   ·exact .inl (List.mem_of_mem_drop h)
theorem WA {v want:V} {who:ah} {l:List Ow}:∀o∈eW v want who l,o.name≠who:=fun o h=>by
 obtain⟨-,-,-,h,-⟩:=vD h;exact h
theorem WB {ks:List ah} {key:ah} (h:key∉ks):hasB ks key=false:=by
 cases hb:hasB ks key with
 |false=>rfl
 |true=>exact absurd (by have:=zK hb;rw [<-this];exact List.getElem_mem _) h
theorem WC {os:List Ow} {who:ah} {ps:List ah} (h:∀o∈os,o.name≠who) (hr:cG (os.map Ow.name)):cG ((fM os who ps).map Ow.name):=by
 unfold fM
 split
 ·exact hr
 ·have:=Bx hr (key:=who) (WB (fun hm=>by
   obtain⟨o,ho,e⟩:=List.mem_map.1 hm
   exact h o ho e))
  unfold mr;rw [List.map_append,List.map_take,List.map_cons,List.map_drop];exact this
theorem WD {os:List Ow} {who:ah} {ps:List ah} (h:∀o∈os,o.name≠who):(fM os who ps).filter (fun o=>decide (o.name≠who))=os:=by
 have hall:∀l:List Ow,(∀o∈l,o.name≠who)->l.filter (fun o=>decide (o.name≠who))=l:=fun l hl=>List.filter_eq_self.2 fun o ho=>by simpa using hl o ho
 unfold fM
 split
 ·exact hall os h
 ·rw [List.filter_append,List.filter_cons,if_neg (by simp),hall _ (fun o ho=>h o (List.mem_of_mem_take ho)),hall _ (fun o ho=>h o (List.mem_of_mem_drop ho)),List.take_append_drop]
theorem Eu {who:ah}:∀(l:List Ow) (a:List ah),(∀o∈l,o.name≠who)->l.foldl (fun old o=>if o.name=who then o.paths else old) a=a
 | [],_,_=>rfl
 |o::r,a,h=>by rw [List.foldl_cons,if_neg (h o (by simp)),Eu r a (fun o ho=>h o (by simp [ho]))]
theorem WE {os:List Ow} {who:ah} {ps:List ah} (h:∀o∈os,o.name≠who):lK who (fM os who ps)=ps:=by
 unfold lK fM
 split
 ·rename_i he
  rw [Eu _ _ h,he]
 ·rw [List.foldl_append,Eu _ _ (fun o ho=>h o (List.mem_of_mem_take ho)),List.foldl_cons,if_pos (show (⟨who,ps⟩:Ow).name=who from rfl),Eu _ _ (fun o ho=>h o (List.mem_of_mem_drop ho))]
theorem NJ {paths:List ah} {out:List Ow}:∀(ps:List ah) (v:V),(∀p∈ps,p∈paths)->ps.foldl (iy paths out) v=v
 | [],_,_=>rfl
 |p::ps,v,h=>by
  rw [List.foldl_cons];have:iy paths out v p=v:=by
   unfold iy;rw [if_neg];intro hc;have:xK paths p=true:=by unfold xK;exact List.any_eq_true.2 ⟨p,h p (by simp),by simp⟩
   rw [this] at hc
   cases hc.1
  rw [this];exact NJ ps v (fun q hq=>h q (by simp [hq]))
theorem WG:∀(l:List ah) {v:V},v.sound->v.k=5-> (ey l v).k=5
 | [],_,_,h=>h
 |a::r,v,hv,h=>by
  have dI:=il hv h;rw [ey]
  split
  ·exact h
  ·split
   ·exact(dI.del a).k5
   ·split
    ·exact(dI.del a).k5
    ·exact(dI.put a _).k5
theorem NK {paths:List ah} {out:List Ow}:∀(ps:List ah) {v:V},v.sound->v.k=5-> (ps.foldl (iy paths out) v).k=5
 | [],_,_,h=>h
 |p::ps,v,hv,h=>by
  rw [List.foldl_cons];refine NK ps (IA paths out hv p).1 ?_;unfold iy
  split
  ·exact WG _ hv h
  ·exact h
theorem NL {want:V}:∀(ps:List ah) {v:V},(∀q∈ps,q∈want.leaves)->v.sound->v.k=5-> (ps.foldl (iQ want) v).k=5
 | [],_,_,_,h=>h
 |p::ps,v,hl,hv,_=>by rw [List.foldl_cons];obtain⟨h1,h2,-⟩:=Em hv (hl p (by simp));exact NL ps (fun q hq=>hl q (by simp [hq])) h1 h2
theorem NM {v w want:V} {q:ah}:∀(ls:List ah),kN v want q ls=false-> (∀p∈ls,∃y,bH w p=some y/\iP y ((bH want p).getD V.zero)=true)->kN w want q ls=false
 | [],_,_=>rfl
 |p::r,h,hw=>by
  rw [show kN v want q (p::r)=if(fE p q||fE q p)=true then true else if p=q then(match bH v p with|none=>true|some now=> !iP now ((bH want p).getD V.zero)) else kN v want q r from rfl] at h;rw [show kN w want q (p::r)=if(fE p q||fE q p)=true then true else if p=q then(match bH w p with|none=>true|some now=> !iP now ((bH want p).getD V.zero)) else kN w want q r from rfl]
  split at h
  ·cases h
  ·rename_i ha
   rw [if_neg ha];by_cases kz:p=q
   ·rw [if_pos kz]
    obtain⟨y,h1,h2⟩:=hw p (by simp);rw [h1];simp [h2]
   ·rw [if_neg kz] at h⊢
    exact NM r h (fun p hp=>hw p (by simp [hp]))
theorem NN {x y:V} {p:ah} (hf:x.fine=true) {r:List ah} (hr:cI p=some r) (h:bh r x=some y):cE x p=(y,0):=by
 unfold cE;rw [hr];simp only;rw [if_neg (by rw [hf];simp),go_get r (gG hf) h]
theorem NP {y:V} (h:y.sound) (h5:y.k=5):∃ks l,y= .mk 5 0 ⟨#[]⟩ ks l/\ks.length=l.length:=by
 have dI:=il h h5;obtain⟨k,n,s,ks,l⟩:=y;exact⟨ks,l,by have a:=dI.k5;have b:=dI.n0;have c:=dI.s0;simp only [V.tN,V.tO,V.ki] at a b c;rw [a,b,c],dI.len⟩
def NQ (x y:V):Prop:=y=x\/ (x= .mk 5 0 ⟨#[]⟩ [] []/\∃ks l,y= .mk 5 0 ⟨#[]⟩ ks l/\0<ks.length)
theorem WH {x y:V} (hx:x.sound) (hy:y.sound) (hxl:x.k=5->x.l= []) (h:iP y x=true):NQ x y:=by
 rcases WI h with⟨h1,h2⟩|h1
 ·obtain⟨ks,l,rfl,hl⟩:=NP hx h2
  obtain⟨js,m,rfl,hm⟩:=NP hy h1;have e:l= []:=hxl h2;subst e;obtain rfl:ks= []:=List.length_eq_zero_iff.1 hl;by_cases hj:0<js.length
  ·exact .inr ⟨rfl,js,m,rfl,hj⟩
  ·obtain rfl:js= []:=List.length_eq_zero_iff.1 (by omega)
   obtain rfl:m= []:=List.length_eq_zero_iff.1 (by rw [<-hm];rfl);exact .inl rfl
 ·exact .inl h1
theorem WJ {v:V} {l:List Ow} {who:ah} {want w:V} {force:Bool} {m:List Ow} {c:List (ah×ah)} (h:ju v l who want force=(w,m,c,0)):
 Bw m who=want.leaves/\iZ m=true/\w.fine=true/\ (∀p∈want.leaves,∃x y,cE want p=(x,0)/\cE w p=(y,0)/\NQ x y/\x.size<=14640/\y.size<=14640)/\ju w m who want false=(w,m, [],0):=by
 obtain⟨hb,hc,rfl,rfl,hwf,WK,-⟩:=IB h;obtain⟨xL,zO,pO,sH,hgl,hwho⟩:=Ev hb;have Bz:=WA (v:=v) (want:=want) (who:=who) (l:=l);have Ew:=NR (v:=v) (want:=want) (who:=who) (Iw hgl);obtain⟨hds,hdc⟩:=BA want.leaves (eW v want who l) (lK who l) (gG xL);have WL:=NK (paths:=want.leaves) (out:=eW v want who l) (lK who l) (gG xL) pO;have Ex:∀p∈want.leaves,∃y,bH (eT v l who want) p=some y/\iP y ((bH want p).getD V.zero)=true:=fun p hp=>Iu want.leaves hp (fun _ h=>h) hds;have hwk:(eT v l who want).k=5:=NL want.leaves (fun _ h=>h) hds WL;have WM:Bw (fN v l who want) who=want.leaves:=Wz Bz;have Bu:iZ (fN v l who want)=true:=by
  rw [Bt];refine⟨fun o ho=> ?_,WC Bz Ew,WK⟩;rcases Et ho with ho|⟨rfl,hne⟩
  ·obtain⟨o',h1,h2,h3,-,h5,h6⟩:=vD ho
   obtain⟨g1,g2,g3⟩:=((Bt l).1 hgl).1 o' h1;obtain⟨g4,g5⟩:=(Br _).1 g3;refine⟨by rw [<-h2];exact g1,h5,(Br _).2 ⟨fun p hp=> ?_,?_⟩⟩
   ·rw [h6] at hp
    exact g4 p (List.mem_filter.1 hp).1
   ·rw [h6]
    exact g5.sublist List.filter_sublist
  ·exact⟨hwho,hne,Wy want⟩
 refine⟨WM,Bu,hwf,fun p hp=> ?_,?_⟩
 ·obtain⟨-,-,r,-,hn,-,-,-,x,hx,oY,hxl⟩:=qU hp
  obtain⟨y,hy,hk⟩:=Ex p hp;rw [oY,Option.getD_some] at hk;have hy2:bh r (eT v l who want)=some y:=by unfold bH bL at hy;rw [hn] at hy;exact hy
  have z1:=pL zO;have z2:=pL hwf;have z3:=go_size r hx;have z4:=go_size r hy2;exact⟨x,y,NN zO hn hx,NN hwf hn hy2,WH (go_sound r (gG zO) hx) (go_sound r (gG hwf) hy2) hxl hk,by omega,by omega⟩
 ·have hform:pk (eT v l who want) (fN v l who want) who want=true:=by
   unfold pk;rw [hwf,zO,Bu,hwho,decide_eq_true hwk,decide_eq_true sH];rfl
  have BD:∀o∈eW v want who l,∀q∈o.paths,eX (eT v l who want) want q=false:=fun o ho q hq=>by obtain⟨_,-,-,-,h3,-⟩:=vD ho;exact NM want.leaves (h3 q hq).2 Ex
  have WN:jv (eT v l who want) (fN v l who want) who want= []:=by
   unfold jv;refine List.flatMap_eq_nil_iff.2 fun o ho=> ?_;unfold vE
   split
   ·rfl
   ·rename_i hne
    rw [List.map_eq_nil_iff,List.filter_eq_nil_iff];intro q hq;rcases Et ho with ho|⟨rfl,-⟩
    ·rw [BD o ho q hq];simp
    ·exact absurd rfl hne
  have hoth:eW (eT v l who want) want who (fN v l who want)=eW v want who l:=by
   have:∀(l2:List Ow),(∀o∈l2,o∈eW v want who l)->l2.filterMap (jV fun q=> !eX (eT v l who want) want q)=l2:=by
    intro l2
    induction l2 with
    |nil=>intro _;rfl
    |cons o r ih=>
     intro hl2;have ho:=hl2 o (by simp);obtain⟨-,-,-,-,-,hne,-⟩:=vD ho;have xM:(o.paths.filter fun q=> !eX (eT v l who want) want q)=o.paths:=List.filter_eq_self.2 fun q hq=>by rw [BD o ho q hq];rfl
     have hk:jV (fun q=> !eX (eT v l who want) want q) o=some o:=by unfold jV;rw [xM,if_neg hne]
     rw [List.filterMap_cons,hk,ih (fun o' ho'=>hl2 o' (by simp [ho']))]
   rw [show eW (eT v l who want) want who (fN v l who want)=((fN v l who want).filter fun o=>decide (o.name≠who)).filterMap (jV fun q=> !eX (eT v l who want) want q) from rfl,show fN v l who want=fM (eW v want who l) who want.leaves from rfl,WD Bz];exact this _ (fun _ h=>h)
  have hout:fN (eT v l who want) (fN v l who want) who want=fN v l who want:=by rw [show fN (eT v l who want) (fN v l who want) who want=fM (eW (eT v l who want) want who (fN v l who want)) who want.leaves from rfl,hoth];rfl
  have WO:eT (eT v l who want) (fN v l who want) who want=eT v l who want:=by
   rw [show eT (eT v l who want) (fN v l who want) who want=want.leaves.foldl (iQ want) ((lK who (fN v l who want)).foldl (iy want.leaves (eW (eT v l who want) want who (fN v l who want))) (eT v l who want)) from rfl,
    show lK who (fN v l who want)=want.leaves from WE Bz,NJ _ _ (fun _ h=>h)]
   exact NH want.leaves (gG hwf) (fun q hq=>⟨hq,Ex q hq⟩)
  unfold ju;rw [if_neg (by rw [hform];simp),if_neg (by rw [WN];simp),WO,hout,if_neg (by rw [hwf];simp;omega)]
theorem WQ (f:Ow->Bool) (l:List Ow):cF (l.filter f)<=cF l:=by
 induction l with
 |nil=>simp
 |cons o r ih=>
  unfold cF at ih⊢;rw [List.filter_cons]
  split
  ·simp only [List.map_cons,List.sum_cons];omega
  ·simp only [List.map_cons,List.sum_cons];omega
theorem NS (f:ah->Bool) (l:List Ow):cF (l.filterMap (jV f))<=cF l:=by
 induction l with
 |nil=>simp
 |cons o r ih=>
  unfold cF at ih⊢;rw [List.filterMap_cons];have hs:=Ey f o.paths;unfold jV at ih⊢;by_cases hk:o.paths.filter f= []
  ·simp only [hk,if_true,List.map_cons,List.sum_cons];omega
  ·simp only [hk,if_false,List.map_cons,List.sum_cons]
   unfold Ow.size at ih⊢;simp only;omega
theorem IC {B:Nat}:∀(l:List ah),(∀p∈l,p.size<=B)->eY l<=l.length*(B+1)
 | [],_=>by simp [eY]
 |p::r,h=>by have h1:=IC r (fun q hq=>h q (by simp [hq]));have h2:=h p (by simp);unfold eY at h1⊢;rw [List.map_cons,List.sum_cons,List.length_cons,Nat.add_mul];omega
theorem WR (os:List Ow) (who:ah) (ps:List ah):cF (fM os who ps)<=cF os+(1+who.size+eY ps):=by
 unfold fM
 split
 ·omega
 ·have h:cF os=cF (os.take (mr os who))+cF (os.drop (mr os who)):=by
   conv=>lhs;rw [<-List.take_append_drop (mr os who) os]
   unfold cF;rw [List.map_append,List.sum_append]
  rw [h];unfold cF;rw [List.map_append,List.sum_append,List.map_cons,List.sum_cons];unfold Ow.size;simp only;omega
theorem WS {v:V} {l:List Ow} {who:ah} {want:V} (hw:gH who=true):cF (fN v l who want)<=cF l+250000:=by
 have h1:=WR (eW v want who l) who want.leaves;have h2:cF (eW v want who l)<=cF l:=Nat.le_trans (NS _ _) (WQ _ _);have h3:=IC (B:=2000) want.leaves (fun p hp=>Ez hp);have h4:=BF want;have h5:want.leaves.length*2001<=120*2001:=Nat.mul_le_mul_right _ h4;have h6:who.size<=12:=by unfold gH at hw;rw [Bool.and_eq_true,decide_eq_true_eq] at hw;exact hw.2
 unfold fN;omega
open Go.RowKit
attribute [local go_sem↓] Go.wp_at_zero Go.wp_at_succ
end Go.Proofs.YtlcebdaghmdkeabGreatDoor
