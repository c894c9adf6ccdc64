import Derived.Test.YtlcebdaghmdkeabGreatDoorM28
import Derived.Test.YtlcebdaghmdkeabGreatDoorM29
import Derived.Test.YtlcebdaghmdkeabGreatDoorM30
set_option linter.all false
set_option maxRecDepth 100000
set_option maxHeartbeats 64000000
namespace Go.Proofs.YtlcebdaghmdkeabGreatDoor
open Go.Proofs.Tryz
open Go.RowKit
attribute [local go_sem↓] Go.wp_at_zero Go.wp_at_succ
theorem dX.ins {w wq wi:World} {P Q:aw} {r g' k:Nat} {s:Sv} {v v':Value} {xs:List Value} (h:dX w P r s v xs) (hx:Ext w wq) (Mr:∀b,P b->b<w.heap.size->Q b) (hg:wq.heap.size<=g'->Q g') (hv':v'.ownBlock=some g') {t:Th} (ht:t.v=V.bV) (T3:t.ows= [])
 (hown:wi.ownsRow 0 41 15 v' (s.az.length+1) (xs.take (k*15)++t.cells none 0 none 0 none 0++xs.drop (k*15))) (hk:k<=s.az.length) (hgr:wq.grownBy wi v.ownBlock) (hat:v.ownBlock=some g'\/wq.heap.size<=g'):
 dX (wi.setCell ⟨r,0,none⟩ v') Q r {s with az:=s.az.take k++t::s.az.drop k} v' (xs.take (k*15)++t.cells none 0 none 0 none 0++xs.drop (k*15)):=by
 have hrow:∀g,v.ownBlock=some g->P g/\g≠r:=h.row;have hlr:=h.box.lt;have hxs:=hx.size;have hg':Q g'/\g'≠r:=by
  rcases hat with hat|hat
  ·exact⟨Mr _ (hrow _ hat).1 (h.own.lt _ hat).2,(hrow _ hat).2⟩
  ·exact⟨hg hat,by omega⟩
 have hB:af (wi.setCell ⟨r,0,none⟩ v') r #[v', .int .i64 s.time, .int .i64 s.last, .int .i64 s.acts] 74:=
  ((af.ext hx h.box).grown hgr (fun e=>(hrow r e.symm).2 rfl)).set 0 v'
 have hk1:Kept (fun b=>P b/\b≠r/\v.ownBlock≠some b) w (wi.setCell ⟨r,0,none⟩ v'):=fun b hb hl=>by rw [Below.heap_setCell _ _ _ _ (by exact hb.2.1),hgr.block b (by omega) (fun e=>hb.2.2 e.symm),Below.block hx b hl]
 refine⟨hB,Mr _ h.pr hlr,?_,fun g hg=>by rw [hv'] at hg;cases hg;exact hg',?_⟩
 ·have:(s.az.take k++t::s.az.drop k).length=s.az.length+1:=by simp;omega
  show World.ownsRow _ 0 _ 15 v' (s.az.take k++t::s.az.drop k).length _;rw [this];exact dL hown (fun b hb he=>by rw [hv'] at he;cases he;rw [Below.heap_setCell _ _ _ _ (by exact hg'.2)])
 ·refine(h.cells.keep hk1 (fun b hb hl=>⟨Mr _ hb.1 hl,hb.2.1,fun e=>(by
   rw [hv'] at e;cases e;rcases hat with hat|hat
   ·exact hb.2.2 hat
   ·omega)⟩)).ins k k ⟨?_,?_,?_⟩
  ·rw [ht];exact(V.df ..).2 ⟨aM.nil,aM.nil, .inl rfl, .inl rfl⟩
  ·rw [T3];exact aM.nil
  ·rw [T3];exact .inl rfl
theorem aQ.over {T U:aw} {a b c:World} (h:aQ T a b) (k:aQ U b c) (hU:∀x,T x->x<a.heap.size->U x):aQ T a c:=
 ⟨k.os.trans h.os,k.tape.trans h.tape,k.output.trans h.output,Nat.le_trans h.size k.size,fun i hi hl=>(k.block i (hU i hi hl) (Nat.lt_of_lt_of_le hl h.size)).trans (h.block i hi hl)⟩
theorem aeg {α:Type} (l:List α) (k:Nat) (x:α) (hk:k<=l.length):∃h,(l.take k++x::l.drop k)[k]'h=x:=by
 have hl:(l.take k).length=k:=by simp;omega
 exact List.getElem?_eq_some_iff.1 (by rw [List.getElem?_append_right (by omega),hl,Nat.sub_self];rfl)
theorem aeh {v:V} {l:List Ow} {who:ah} {want:V} {f:Bool} (hv:v.size<=14640):(ju v l who want f).1.size<=14640:=by
 unfold ju
 split
 ·exact hv
 ·split
  ·exact hv
  ·split
   ·exact hv
   ·rename_i h
    exact pL (by cases hf:(eT v l who want).fine with|true=>rfl|false=>exact absurd (.inl hf) h)
theorem Tg {v:V} {ows:List Ow} {a:Ac} (hv:v.size<=14640):(cR v ows a).1.size<=14640:=by
 unfold cR
 split
 ·exact hv
 ·split
  ·exact aeh hv
  ·exact Tq hv (S' _)
theorem Ti {v:V} {ows:List Ow} {a:Ac} {B:Nat} (hv:cF ows<=B):cF (cR v ows a).2.1<=B+250000:=by
 unfold cR
 split
 ·exact Nat.le_trans hv (Nat.le_add_right ..)
 ·split
  ·unfold ju
   split
   ·simp only;omega
   ·rename_i hf
    have hw:=(Ev (by simpa using hf)).2.2.2.2.2
    split
    ·simp only;omega
    ·split
     ·simp only;omega
     ·have:=WS (v:=v) (l:=ows) (who:=a.who) (want:=(ek a.body.data.toList).1) hw
      simp only;omega
  ·have:=NS (fun p=>(bH (og v (ek a.body.data.toList).1 a.k).1 p).isSome) ows
   show cF (mH _ ows)<=_;unfold mH;omega
theorem Ta (P:aw) (r:Nat) (s:Sv) (a:Ac) (k:Nat) (there:Bool) (w:World) (gi:Sat w P r s) (hk:k<=s.az.length) (hb:s.az.length<=1000000) (hl0:0<=s.last) (ay:s.last<=1099511627776)
 (hbz:a.body.size<=1048576) (hwz:a.who.size<=1048576) (hl:cS w) (hn:qJ w):
 Calls prog 54 #[.pointer (some ⟨r,0,none⟩), .agg #[.int .i64 a.k, .string a.name, .string a.who, .string a.body, .int .i64 a.ver, .int .i64 a.n, .int .i64 a.ord, .bool a.force], .int .i64 k, .bool there] w (Gp P r (qw s a k there) w):=by
 obtain⟨v,xs,h⟩:=gi;have ag:=h.box;have hlr:=ag.lt;have eV:=ae h;obtain⟨va,vc,hv,hok⟩:=fG h.own;have eK:=ae hok;subst hv;clear h hok
 cases there with
 |true=>
  go_enter func54,ntmps54;go_wp2_with fail;refine aF (h:= ?_);exact⟨rfl,Kept.of (w:=w) (T:=P) eV.out Xt,(show Ext w _ from Xt).upd _⟩
 |false=>
  by_cases h8:8<=s.az.length
  ·have Hr:=ae (show qw s a k false=(s, .no 10) by unfold qw;rw [if_neg (by simp),if_pos h8])
   obtain⟨hc0,ax,hl0⟩:=ag.see;go_enter func54,ntmps54;go_wp2_with fail;refine aF (h:= ?_);rw [Hr.out];exact⟨rfl,Kept.of (w:=w) (T:=P) eV.out Xt,(show Ext w _ from Xt).upd _⟩
  ·obtain⟨⟨u,m,ce⟩,hch⟩:∃z,cR V.bV [] a=z:=⟨_,rfl⟩
   have Hr:=ae (show qw s a k false=if ce≠0 then(s, .no ce) else if dD u=none then(s, .no 1) else oU {s with az:=s.az.take k++oW a.name u::s.az.drop k} k (oW a.name u) u m by unfold qw;rw [if_neg (by simp),if_neg h8,hch]);have lN:=ae hch;clear hch;have iD:=ag;obtain⟨hc0,ax,hl0⟩:=ag.see;go_enter func54,ntmps54;go_upto_region 6 with fail
   refine aI (R:=fun wx=>uS wx w.heap.size a/\iU wx (w.heap.size+1)/\af wx (w.heap.size+1+1) #[.string a.name, .int .i64 5, .int .i64 0, .string ⟨#[]⟩, .slice none 0 0, .slice none 0 0, .slice none 0 0, .int .i64 0, .int .i64 0, .string ⟨#[]⟩, .string ⟨#[]⟩, .int .i64 0, .int .i64 0, .int .i64 0, .int .i64 0] 41/\Ext w wx) ⟨bk,bk,bk,Xt⟩ ?_;clear ag hc0 ax hl0;rintro wa ⟨hA,hR,hT,aD⟩;have Ma:=hT.lt
   have Hcg:=ae (fun(w':World) (h1:cS w') (h2:qJ w')=>show Calls prog 58 #[.agg #[.string a.name, .int .i64 5, .int .i64 0, .string ⟨#[]⟩, .slice none 0 0, .slice none 0 0, .slice none 0 0, .int .i64 0, .int .i64 0, .string ⟨#[]⟩, .string ⟨#[]⟩, .int .i64 0, .int .i64 0, .int .i64 0, .int .i64 0], .agg #[.int .i64 a.k, .string a.name, .string a.who, .string a.body, .int .i64 a.ver, .int .i64 a.n, .int .i64 a.ord, .bool a.force]] w' (S8 (fun _=>False) (u,m,ce) w') from by
    rw [<-lN.out]
    exact Tj (⟨a.name,V.bV, [],0,0,⟨⟨#[]⟩,⟨#[]⟩,0,0,0,0⟩⟩:Th) none 0 none 0 none 0 a (fun _=>False) w' ((V.df ..).2 ⟨aM.nil,aM.nil, .inl rfl, .inl rfl⟩) aM.nil (.inl rfl) (show V.bV.size<=14640 by decide+kernel) (show cF []<=2097152 by decide) hbz hwz h1 h2)
   have mo:u.size<=14640:=by have:=Tg (v:=V.bV) (ows:= []) (a:=a) (by decide+kernel);rw [lN.out] at this;exact this
   have ur:cF m<=2097152:=by have:=Ti (v:=V.bV) (ows:= []) (a:=a) (B:=0) (by decide);rw [lN.out] at this;simp only at this;omega
   obtain⟨jH,jI,hlA⟩:=hA.see;obtain⟨ie,ig,eZ⟩:=hT.see;go_wp2_with fail;(refine(Hcg.out _ (hl.ext Xt) (hn.ext Xt)).mono ?_);rintro e w1 ⟨k2,c2,l2,d2,a5,c5,rfl,bR,gV,wQ,h1⟩;have cn:=ae (show u.In w1 (fun q=>w.heap.size+3<=q) k2 c2 l2 d2 from bR.mono fun q h _=>by rcases h with h|h;exact h.elim;(try simp at h);omega);have Gt:=ae (show cj w1 (fun q=>w.heap.size+3<=q) m a5 from wQ.mono fun q h _=>by rcases h with h|h;exact h.elim;(try simp at h);omega);have Dz:=ae gV;have hx1:Ext w w1:=Xt;have hA:=af.ext h1 hA;have hR:=af.ext h1 hR;have hT:=af.ext h1 hT;have hz1:=hT.lt;clear bR gV wQ h1 aD jH jI hlA ie ig eZ;go_upto_region 7 with fail
   refine aI (R:=fun wx=>uS wx w.heap.size a/\iU wx (w.heap.size+1)/\af wx (w.heap.size+1+1) #[.string a.name, .int .i64 5, .int .i64 0, .string ⟨#[]⟩, .slice none 0 0, .slice none 0 0, .slice none 0 0, .int .i64 0, .int .i64 0, .string ⟨#[]⟩, .string ⟨#[]⟩, .int .i64 0, .int .i64 0, .int .i64 0, .int .i64 0] 41/\aC wx w1.heap.size u k2 c2 l2 d2/\u.In wx (fun q=>w.heap.size+3<=q) k2 c2 l2 d2/\cj wx (fun q=>w.heap.size+3<=q) m a5/\Ext w wx) ⟨bk,bk,bk,bk,cn.out.ext Xt,Gt.out.ext Xt,Xt⟩ ?_;clear hA hR hT cn Gt hx1;rintro wb ⟨hA,hR,hT,hU,se,wV,aO⟩;have mQ:=ae se;have qz:=ae wV;have hzb:=hU.lt;clear se wV;by_cases h0:ce=0
   ·subst h0
    have hc0:((0:Int) !=0)=false:=rfl;have Hr:=ae (Hr.out.trans (if_neg (by simp)));obtain⟨wR,wS,oV⟩:=hU.see;go_wp2_with fail;obtain⟨sp,hsp⟩:∃sp,dD u=sp:=⟨_,rfl⟩;have qy:=ae hsp;have hxl:(ia sp).length<=9223372036854775807:=by have:=Mk u;rw [hsp] at this;omega
    clear hsp;(refine(LV u k2 c2 l2 d2 _ _ (by omega) (mQ.out.ext Xt)).mono ?_);rintro e w2 y8;rw [qy.out] at y8;obtain⟨a1,n1,c1,rfl,y9,oK,-,h2⟩:=uK.val y8;have hx2:Ext w w2:=Xt;have hA:=af.ext (w:=wb) (w':=w2) Xt hA;have hR:=af.ext (w:=wb) (w':=w2) Xt hR;have hT:=af.ext (w:=wb) (w':=w2) Xt hT;have hU:=af.ext (w:=wb) (w':=w2) Xt hU;have hzu:=hU.lt;have mQ:=ae (V.In.ext (w:=wb) (w':=w2) mQ.out Xt);have qz:=ae (cj.ext (w:=wb) (w':=w2) qz.out Xt);clear y8 h2 aO wR wS oV;go_upto_region 10 with fail
    refine aI (R:=fun wx=>uS wx w.heap.size a/\iU wx (w.heap.size+1)/\af wx (w.heap.size+1+1) #[.string a.name, .int .i64 5, .int .i64 0, .string ⟨#[]⟩, .slice none 0 0, .slice none 0 0, .slice none 0 0, .int .i64 0, .int .i64 0, .string ⟨#[]⟩, .string ⟨#[]⟩, .int .i64 0, .int .i64 0, .int .i64 0, .int .i64 0] 41/\af wx w2.heap.size #[.string (mN sp), .slice a1 n1 c1] 50/\StepsIn wx a1 (ia sp)/\aC wx w1.heap.size u k2 c2 l2 d2/\u.In wx (fun q=>w.heap.size+3<=q) k2 c2 l2 d2/\cj wx (fun q=>w.heap.size+3<=q) m a5/\Ext w wx) ⟨bk,bk,bk,bk,oK.ext Xt,bk,mQ.out.ext Xt,qz.out.ext Xt,Xt⟩ ?_;clear hA hR hT hU mQ qz oK hx2;rintro wc ⟨hA,hR,hT,hS,hst,hU,se,wV,fg⟩;have mQ:=ae se;have qz:=ae wV;have aP:=ae hst;have pq:=hS.lt;clear se wV hst
    cases sp with
    |none=>
     have he:(yS none !=0)=true:=rfl;have j4:=ae (Hr.out.trans (if_pos qy.out));have hup:aQ (fun b=>¬P b) w wc:=fg.upd _;obtain⟨hcR,jG,eD⟩:=hR.see;go_wp2_with fail;refine aF (h:= ?_);rw [j4.out];exact⟨rfl,Kept.of (w:=w) (T:=P) eV.out Xt,gD⟩
    |some p=>
     obtain⟨im,sx⟩:=p;have he:(yS (some (im,sx)) !=0)=false:=rfl;obtain⟨er,DB⟩:∃er,yS (some (im,sx))=er:=⟨_,rfl⟩;rw [DB] at he⊢;clear DB;have aP:=ae (show StepsIn wc a1 sx from aP.out);have hxl:sx.length<=9223372036854775807:=hxl;have y9:sx.length=n1:=y9;have hS:af wc w2.heap.size #[.string im, .slice a1 n1 c1] 50:=hS;obtain⟨x0,hx0⟩:∃x0,wL im sx=x0:=⟨_,rfl⟩
     have Hr:=ae (show qw s a k false=oU {s with az:=s.az.take k++(⟨a.name,V.bV, [],0,0,x0⟩:Th)::s.az.drop k} k ⟨a.name,V.bV, [],0,0,x0⟩ u m by
      rw [Hr.out,if_neg (by rw [qy.out];simp)];unfold oW;rw [qy.out]
      simp only [mN,ia,hx0])
     have yG:=ae hx0;clear hx0 qy;obtain⟨hcS,hfS,hlS⟩:=hS.see;go_wp2_with fail;(refine(ac0 im a1 n1 c1 sx _ hxl (aP.out.ext Xt) y9.symm).mono ?_);unfold Sp;rw [yG.out];rintro e w3 ⟨rfl,h3⟩;have hx3:Ext w w3:=Xt;have hR:=af.ext (w:=wc) (w':=w3) Xt hR;have hT:=af.ext (w:=wc) (w':=w3) Xt hT;have hU:=af.ext (w:=wc) (w':=w3) Xt hU;have mQ:=ae (V.In.ext (w:=wc) (w':=w3) mQ.out Xt);have qz:=ae (cj.ext (w:=wc) (w':=w3) qz.out Xt);have eZ:=hT.lt;clear h3 fg hcS hfS hlS hA hS aP;obtain⟨ie,ig,eZ⟩:=hT.see;go_upto_region 13 with fail
     refine aI (R:=fun wx=>iU wx (w.heap.size+1)/\af wx (w.heap.size+1+1) #[.string a.name, .int .i64 5, .int .i64 0, .string ⟨#[]⟩, .slice none 0 0, .slice none 0 0, .slice none 0 0, .int .i64 0, .int .i64 0, .string x0.sb, .string x0.cm, .int .i64 x0.ph, .int .i64 x0.sp, .int .i64 x0.wt, .int .i64 x0.si] 41/\aC wx w1.heap.size u k2 c2 l2 d2/\u.In wx (fun q=>w.heap.size+3<=q) k2 c2 l2 d2/\cj wx (fun q=>w.heap.size+3<=q) m a5/\Ext w wx) ⟨bk,bk,bk,mQ.out.keep (Held.kept (T:=fun q=>w.heap.size+3<=q) aB) (fun _ h _=>h),qz.out.keep (Held.kept (T:=fun q=>w.heap.size+3<=q) aB) (fun _ h _=>h),Xt⟩ ?_;clear hR hT hU mQ qz hx3 ie ig eZ;rintro wd ⟨hR,hT,hU,se,wV,iB⟩;have mQ:=ae se;have qz:=ae wV;clear se wV;have qb:=af.ext iB iD;have eZ:=hT.lt;have oV:=hU.lt;have AK:∀q,(Value.slice va s.az.length vc).ownBlock=some q->q<w.heap.size/\q≠r:=fun q hq=>⟨(eV.out.own.lt q hq).2,(eV.out.row q hq).2⟩;have ze:=ae AK
     have au:∀w',Held (fun b=>(Value.slice va s.az.length vc).ownBlock≠some b) wd w'-> (w'.cell? ⟨r,0,none⟩=some (.slice va s.az.length vc)/\w'.cell? ⟨w.heap.size+1+1,0,none⟩=some (.string a.name)/\w'.cell? ⟨w.heap.size+1+1,1,none⟩=some (.int .i64 5)/\w'.cell? ⟨w.heap.size+1+1,2,none⟩=some (.int .i64 0)/\w'.cell? ⟨w.heap.size+1+1,3,none⟩=some (.string ⟨#[]⟩)/\w'.cell? ⟨w.heap.size+1+1,4,none⟩=some (.slice none 0 0)/\w'.cell? ⟨w.heap.size+1+1,5,none⟩=some (.slice none 0 0)/\w'.cell? ⟨w.heap.size+1+1,6,none⟩=some (.slice none 0 0)/\w'.cell? ⟨w.heap.size+1+1,7,none⟩=some (.int .i64 0)/\w'.cell? ⟨w.heap.size+1+1,8,none⟩=some (.int .i64 0)/\w'.cell? ⟨w.heap.size+1+1,9,none⟩=some (.string x0.sb)/\w'.cell? ⟨w.heap.size+1+1,10,none⟩=some (.string x0.cm)/\w'.cell? ⟨w.heap.size+1+1,11,none⟩=some (.int .i64 x0.ph)/\w'.cell? ⟨w.heap.size+1+1,12,none⟩=some (.int .i64 x0.sp)/\w'.cell? ⟨w.heap.size+1+1,13,none⟩=some (.int .i64 x0.wt)/\w'.cell? ⟨w.heap.size+1+1,14,none⟩=some (.int .i64 x0.si)):=
      fun w' e=>by have h:=af.held e hT (fun he=>by have:=(ze.out _ he).1;omega);have hr:=af.held e qb (fun he=>(ze.out _ he).2 rfl);exact⟨hr.cells 0,h.cells 0,h.cells 1,h.cells 2,h.cells 3,h.cells 4,h.cells 5,h.cells 6,h.cells 7,h.cells 8,h.cells 9,h.cells 10,h.cells 11,h.cells 12,h.cells 13,h.cells 14⟩
     clear AK;refine fC au (c:=11) (by kernel_rfl) ?_;refine aG 0 [11] (hS:=au _ aB) (h:= ?_);refine aG 1 [11] (hS:=au _ aB) (h:= ?_);refine aG 2 [11] (hS:=au _ aB) (h:= ?_);refine aG 3 [11] (hS:=au _ aB) (h:= ?_);refine aG 4 [11] (hS:=au _ aB) (h:= ?_);refine aG 5 [11] (hS:=au _ aB) (h:= ?_);refine aG 6 [11] (hS:=au _ aB) (h:= ?_);(try simp only [rl]);refine aL 7 (h:=fun K hK=> ?_);(try simp only [rl]);go_simp;refine hK.out _ _ (fun _=>au _ aB) ?_;clear hK K;(try simp only [rl]);refine aL 8 (h:=fun K hK=> ?_);(try simp only [rl]);(try go_simp);(refine(acW 0 s.az.length k wd.heap.size 1 (.slice va s.az.length vc) xs (Th.cells (⟨a.name,V.bV, [],0,0,x0⟩:Th) none 0 none 0 none 0) _ 41 (Nat.zero_le _) (eu eV.out.own Xt) (by omega) hk bk (fun he=>by have:=(ze.out _ he).1;omega) rfl eV.out.cells.one (Th.Gj _ _ _ _ _ _ _)).mono ?_);rintro e wi ⟨g',cap',rfl,hown,hgr,hat⟩;have hhi:Held (fun b=>(Value.slice va s.az.length vc).ownBlock≠some b) wd wi:=Held.grown (by with_reducible repeat (first|exact Held.refl _ _|assumption|apply Held.drew|apply Held.drewN|apply Held.alloc|(refine Held.set ?_ ?_ _;rotate_left;(focus(first|(simp;done)|(simp;omega)|omega)))|(refine Held.ext ?_ (by assumption))|(refine Held.grown ?_ (by assumption) (by assumption))|(refine Held.trans ?_ (by assumption)))) hgr (fun q hq h=>h hq);have Ms:=af.held hhi qb (fun he=>(ze.out _ he).2 rfl);have aei:=Ms.lt;have hsz:wd.heap.size<=wi.heap.size:=hhi.size;obtain⟨Q,hQ⟩:∃Q:aw,Q=fun b=>aU P w b/\b≠w.heap.size+1:=⟨_,rfl⟩
     obtain⟨v',hv'⟩:∃v',Value.slice (some ⟨g',0,none⟩) (s.az.length+1) cap'=v':=⟨_,rfl⟩;have hvb:v'.ownBlock=some g':=by rw [<-hv'];rfl
     obtain⟨wj,ib⟩:∃wj,wi.setCell ⟨r,0,none⟩ v'=wj:=⟨_,rfl⟩;have hs1:dX wj Q r {s with az:=s.az.take k++(⟨a.name,V.bV, [],0,0,x0⟩:Th)::s.az.drop k} v' (xs.take (k*15)++Th.cells (⟨a.name,V.bV, [],0,0,x0⟩:Th) none 0 none 0 none 0++xs.drop (k*15)):=by rw [<-ib];exact eV.out.ins (by with_reducible repeat (first|exact Ext.refl _|assumption|apply Ext.drew|apply Ext.drewN|apply Ext.alloc|(refine Ext.setCell ?_ ?_ _;rotate_left;(focus(first|(simp;done)|(simp;omega)|omega)))|refine Ext.trans ?_ (by assumption))) (fun b h hl=>by rw [hQ];exact⟨.inl h,by omega⟩) (fun h=>by(try simp at h);rw [hQ];exact⟨.inr (by omega),by omega⟩) hvb rfl rfl (by rw [<-hv'];exact hown) hk hgr (hat.imp id (fun h=>Nat.le_of_eq h.symm))
     have tq:Held (fun q=>w.heap.size<=q) wd wj:=by rw [<-ib];exact Held.set (Held.grown (by with_reducible repeat (first|exact Held.refl _ _|assumption|apply Held.drew|apply Held.drewN|apply Held.alloc|(refine Held.set ?_ ?_ _;rotate_left;(focus(first|(simp;done)|(simp;omega)|omega)))|(refine Held.ext ?_ (by assumption))|(refine Held.grown ?_ (by assumption) (by assumption))|(refine Held.trans ?_ (by assumption)))) hgr (fun q hq h=>by have:=(ze.out q hq).1;omega)) (by simp;omega) _
     have bQ:=af.held tq hR (by omega);have tK:=af.held tq hU (by omega);have qu:aQ (fun b=>¬P b) w wj:=by rw [<-ib];exact((show aQ (fun b=>¬P b) w _ from(Ext.upd (b:=wd.drew.alloc _) (by with_reducible repeat (first|exact Ext.refl _|assumption|apply Ext.drew|apply Ext.drewN|apply Ext.alloc|(refine Ext.setCell ?_ ?_ _;rotate_left;(focus(first|(simp;done)|(simp;omega)|omega)))|refine Ext.trans ?_ (by assumption))) _)).grown hgr (fun q hq h=>absurd (eV.out.row q hq).1 h)).set (fun h=>absurd eV.out.pr h) _
     have T4:=ae (show u.In wj (fun b=>Q b/\b≠r/\v'.ownBlock≠some b) k2 c2 l2 d2 from(mQ.out.mono (T:=fun q=>w.heap.size+3<=q/\q<wd.heap.size) fun q h hl=>⟨h,hl⟩).keep (fun q h hl=>tq.block q (by omega) hl) (fun q h hl=>⟨by rw [hQ];exact⟨.inr (by omega),by omega⟩,by omega,fun he=>by
      rw [hvb] at he;cases he;rcases hat with hat|hat
      ·have:=(ze.out _ hat).1;omega
      · (try simp at hat);omega⟩))
     have T5:=ae (show cj wj (fun b=>Q b/\b≠r/\v'.ownBlock≠some b) m a5 from(qz.out.mono (T:=fun q=>w.heap.size+3<=q/\q<wd.heap.size) fun q h hl=>⟨h,hl⟩).keep (fun q h hl=>tq.block q (by omega) hl) (fun q h hl=>⟨by rw [hQ];exact⟨.inr (by omega),by omega⟩,by omega,fun he=>by
      rw [hvb] at he;cases he;rcases hat with hat|hat
      ·have:=(ze.out _ hat).1;omega
      · (try simp at hat);omega⟩))
     have HQ:=ae hQ;have Hv:=ae hv';have r9:=ae ib;clear hv' ib hown hgr hat hQ;refine hK.out _ _ (fun _=>au _ hhi) ?_;clear hK K;(try simp only [rl]);obtain⟨hcr,uA,hlr⟩:=Ms.see;refine aL 9 (h:=fun K hK=> ?_);(try simp only [rl]);go_simp;refine hK.out _ _ (fun _=>au _ aB) ?_;clear hK K;(try simp only [rl]);refine aL 10 (h:=fun K hK=> ?_);(try simp only [rl]);go_simp;refine hK.out _ _ (fun _=>au _ aB) ?_;clear hK K;(try simp only [rl]);refine aL 11 (h:=fun K hK=> ?_);(try simp only [rl]);go_simp;refine br hK (h:= ?_);clear hK K;(try simp only [rl]);refine dw (by kernel_rfl) ?_ _;go_upto_region 14 with fail
     refine aI (R:=fun wy=>wy=wj) (by rw [Hv.out];exact r9.out) ?_;clear r9 Hv Ms aei hhi hsz tq hR hT hU mQ qz hcr uA hlr au eZ oV qb iB;rintro wy rfl;have hlr:=bQ.lt;obtain⟨hlk,Dp⟩:=aeg s.az k (⟨a.name,V.bV, [],0,0,x0⟩:Th) hk;have Mc:=ae (fun(w':World) (e:Ext wy w')=>Tk Q r {s with az:=s.az.take k++(⟨a.name,V.bV, [],0,0,x0⟩:Th)::s.az.drop k} v' _ k (⟨a.name,V.bV, [],0,0,x0⟩:Th) u k2 c2 l2 d2 m a5 c5 w' (hs1.ext e) hlk Dp (T4.out.ext e) Dz.out (T5.out.ext e) (show V.bV.size<=1073741824 by decide+kernel) (by omega) ur (by simp;omega) hl0 ay (by simp) (by simp));clear hlk Dp hs1 T4 T5;obtain⟨wR,wS,oV⟩:=tK.see;go_wp2_with fail;(refine(Mc.out _ Xt).mono ?_);rintro e w6 ⟨rfl,C4,wW⟩;have uT:∀b,Q b->aU P w b/\b≠w.heap.size+1:=fun b h=>by rw [HQ.out] at h;exact h
     have hR6:=af.held (T:=fun b=>¬Q b) ⟨wW.size,wW.block⟩ (show iU _ (w.heap.size+1) from bQ) (fun h=>(uT _ h).2 rfl);have agp:aQ (fun b=>¬P b) w w6:=qu.over wW (fun b h hl hq=>by rcases(uT b hq).1 with h'|h';exact h h';omega);have xy:=qu.size;have AA:=ae (Sat.mono (Q:=fun b=>aU P w b/\b≠w.heap.size+1) C4 fun b h=>by rcases h with h|h;exact uT b h;exact⟨.inr (by(try simp at h);omega),by(try simp at h);omega⟩);clear C4 wW qu bQ tK wR wS oV uT HQ;obtain⟨hcR,jG,eD⟩:=hR6.see;go_wp2_with fail;refine aF (h:= ?_);rw [Hr.out];exact⟨rfl,(AA.out.keep ((Held.kept (T:=fun b=>b≠w.heap.size+1) aB).mono fun b hb=>hb.2)).mono fun b hb=>hb.1,gD⟩
   ·have sW:(ce !=0)=true:=by simpa using h0
    have j4:=ae (Hr.out.trans (if_pos h0));have hup:aQ (fun b=>¬P b) w wb:=aO.upd _;clear h0;obtain⟨hcR,jG,eD⟩:=hR.see;go_wp2_with fail;refine aF (h:= ?_);rw [j4.out];exact⟨rfl,Kept.of (w:=w) (T:=P) eV.out Xt,gD⟩
theorem uR (er:Int) (w:World):Calls prog 51 #[.int .i64 er] w fun e w'=>e= .returned (Rp.no er).val/\Ext w w':=by
 go_enter func51,ntmps51;go_wp2_with fail;refine aF (h:= ?_);exact⟨rfl,Xt⟩
structure Inv (s:Sv):Prop where
 len:s.az.length<=8
 eG:cG (s.az.map Th.name)
 size:∀t∈s.az,t.v.size<=14640/\cF t.ows<=1800000/\0<=t.gen/\t.gen<=1000000
 last:0<=s.last/\s.last<=1000000
 time:0<=s.time/\s.time<=1099511627776
 acts:0<=s.acts/\s.acts<=1000000
def nY (P:aw) (w:World):Prop:=∀w',aQ (fun b=>¬P b) w w'->cS w'/\qJ w'
theorem nY.next {P:aw} {w w':World} (h:nY P w) (u:aQ (fun b=>¬P b) w w'):nY P w':=fun _ k=>h _ (u.trans k)
theorem dX.act {w w':World} {P:aw} {r:Nat} {s:Sv} {v:Value} {xs:List Value} (h:dX w P r s v xs) (hx:Ext w w') (n:Int):dX (w'.setCell ⟨r,3,none⟩ (.int .i64 n)) P r {s with acts:=n} v xs:=by
 have h:=h.ext hx;have hB:af (w'.setCell ⟨r,3,none⟩ (.int .i64 n)) r #[v, .int .i64 s.time, .int .i64 s.last, .int .i64 n] 74:=h.box.set 3 _;have hk:Kept (fun b=>b≠r) w' (w'.setCell ⟨r,3,none⟩ (.int .i64 n)):=Held.kept aB;exact⟨hB,h.pr,dL h.own (fun b hl he=>hk b (h.row b he).2 hl),h.row,h.cells.keep (fun b hb hl=>hk b hb.2.1 hl) (fun _ h _=>h)⟩
theorem Sat.fin {P:aw} {w wx w6 w':World} {r:Nat} {s:Sv} (h:Sat w6 (aU (fun b=>P b/\b<w.heap.size) wx) r s) (hz:w.heap.size+2<=wx.heap.size) (k:Held (fun b=>b≠w.heap.size+1) w6 w'):Sat w' (aU P w) r s:=
 (h.keep (k.kept.mono fun b hb=>by rcases hb with hb|hb<;>omega)).mono fun b hb=>by
  rcases hb with hb|hb
  ·exact .inl hb.1
  ·exact .inr (by omega)
theorem Sat.tI {P:aw} {w w6 w':World} {r:Nat} {s:Sv} (h:Sat w6 (fun b=>P b/\b<w.heap.size) r s) (k:Held (fun b=>b≠w.heap.size+1) w6 w'):Sat w' (aU P w) r s:=
 (h.keep (k.kept.mono fun b hb=>by omega)).mono fun b hb=> .inl hb.1
theorem L6 (l:List Th) (name:ah):eU l name<=l.length:=by
 unfold eU posOf;have:=(List.takeWhile_sublist (fun k=>bA k name) (l:=l.map Th.name)).length_le;simpa using this
theorem adL {w:World} {g o:Nat} {t t':Th} {ka:aq} {kc:Nat} {la:aq} {lc:Nat} {oa:aq} {oc:Nat} (h:∀q u,(t.cells ka kc la lc oa oc)[q]? =some u->w.cell? ⟨g,o+q,none⟩=some u/\w.frozen? ⟨g,o+q,none⟩=false) (e:t=t'):
 ∀q u,(t'.cells ka kc la lc oa oc)[q]? =some u->w.cell? ⟨g,o+q,none⟩=some u/\w.frozen? ⟨g,o+q,none⟩=false:=e▸h
theorem adM (g c k n:Nat) (xs:List Value) (w:World) (hk:k<n) (hn:n<=1073741824) (hown:w.ownsRow 0 41 15 (.slice (some ⟨g,0,none⟩) n c) n xs) (h1:∀u∈xs,u.oneCell'=true):
 Calls prog 55 #[.slice (some ⟨g,0,none⟩) n c, .int .i64 k, .int .i64 ((k:Int)+1)] w fun e w'=>e= .returned (.slice (some ⟨g,0,none⟩) (n-1) c)/\
  w'.ownsRow 0 41 15 (.slice (some ⟨g,0,none⟩) (n-1) c) (n-1) (xs.take (k*15)++xs.drop ((k+1)*15))/\w.grownBy w' (some g):=by
 obtain⟨m,rfl⟩:∃m,n=m+1:=⟨n-1,by omega⟩;obtain⟨g',cap,cur,hv,hb,hg,hnc,hm,hcs,ht⟩:=pz hown (by omega)
 cases hv
 have ht':cur.toList.take ((m+1)*15)=xs:=by simpa using ht
 subst ht';exact Vs 0 g m c k cur w hb hg (by omega) hm hcs (by omega) h1
theorem dX.del {w wq wi:World} {P:aw} {r g c k:Nat} {s:Sv} {xs:List Value} (h:dX w P r s (.slice (some ⟨g,0,none⟩) s.az.length c) xs) (hx:Ext w wq) (hk:k<s.az.length)
 (hown:wi.ownsRow 0 41 15 (.slice (some ⟨g,0,none⟩) (s.az.length-1) c) (s.az.length-1) (xs.take (k*15)++xs.drop ((k+1)*15))) (hgr:wq.grownBy wi (some g)):
 dX (wi.setCell ⟨r,0,none⟩ (.slice (some ⟨g,0,none⟩) (s.az.length-1) c)) P r {s with az:=s.az.take k++s.az.drop (k+1)} (.slice (some ⟨g,0,none⟩) (s.az.length-1) c) (xs.take (k*15)++xs.drop ((k+1)*15)):=by
 have hrow:=h.row g rfl;have hxs:=hx.size
 have hB:af (wi.setCell ⟨r,0,none⟩ (.slice (some ⟨g,0,none⟩) (s.az.length-1) c)) r #[.slice (some ⟨g,0,none⟩) (s.az.length-1) c, .int .i64 s.time, .int .i64 s.last, .int .i64 s.acts] 74:=
  ((af.ext hx h.box).grown hgr (fun e=>hrow.2 (Option.some.inj e).symm)).set 0 _
 have hk1:Kept (fun b=>P b/\b≠r/\ (Value.slice (some ⟨g,0,none⟩) s.az.length c).ownBlock≠some b) w (wi.setCell ⟨r,0,none⟩ (.slice (some ⟨g,0,none⟩) (s.az.length-1) c)):=fun b hb hl=>by rw [Below.heap_setCell _ _ _ _ (by exact hb.2.1),hgr.block b (by omega) (fun e=>hb.2.2 (by cases e;rfl)),Below.block hx b hl]
 refine⟨hB,h.pr,?_,fun q hq=>by cases hq;exact hrow,?_⟩
 ·have:(s.az.take k++s.az.drop (k+1)).length=s.az.length-1:=by simp;omega
  show World.ownsRow _ 0 _ 15 _ (s.az.take k++s.az.drop (k+1)).length _;rw [this];exact dL hown (fun b hb he=>by cases he;rw [Below.heap_setCell _ _ _ _ (by exact hrow.2)])
 ·have:=h.cells.keep hk1 (fun b hb _=>hb)
  exact(this.cut k).1.app (this.cut (k+1)).2
theorem adN (s:Sv) (n:Int):(nZ s n).2= .no (nZ s n).2.c:=by
 unfold nZ
 split<;>rfl
theorem Dw (P:aw) (r:Nat) (s:Sv) (a:Ac) (w:World) (gi:Sat w P r s) (hi:Inv s) (hl:nY P w) (hnz:a.name.size<=1048576) (hbz:a.body.size<=1048576) (hwz:a.who.size<=1048576):
 Calls prog 31 #[.pointer (some ⟨r,0,none⟩), .agg #[.int .i64 a.k, .string a.name, .string a.who, .string a.body, .int .i64 a.ver, .int .i64 a.n, .int .i64 a.ord, .bool a.force]] w (Gp P r (ck s a) w):=by
 obtain⟨v,xs,h⟩:=gi;have ag:=h.box;have hlr:=ag.lt;have eV:=ae h.old;have AO:=ae h.pr;have hlen:=hi.len;obtain⟨ha0,ha1⟩:=hi.acts;obtain⟨ht0,ht1⟩:=hi.time;obtain⟨hs0,hs1⟩:=hi.last;have Hi:=ae hi;have Hl:=ae hl;clear h hi hl;by_cases hfull:300<=s.acts
 ·have Hr:=ae (show ck s a=(s, .no 10) by unfold ck;rw [if_pos hfull])
  obtain⟨hc0,ax,hl0⟩:=ag.see;go_enter func31,ntmps31;go_wp2_with fail;(refine(uR 10 _).mono ?_);rintro e w1 ⟨rfl,h1⟩;have hR:iU w1 (w.heap.size+1):=af.ext h1 bk;have hx1:Ext w w1:=Xt;have hup:aQ (fun b=>¬P b) w w1:=hx1.upd _;have eD:=hR.lt;have dU:=ae (show Sat w1 _ r s from⟨_,_,eV.out.ext hx1⟩);clear h1;obtain⟨hcR,jG,eD⟩:=hR.see;go_wp2_with fail;refine aF (h:= ?_);rw [Hr.out];exact⟨rfl,dU.out.tI aB,gD⟩
 ·obtain⟨n1,ou⟩:∃n1,s.acts+1=n1:=⟨_,rfl⟩
  have Hr:=ae (show ck s a=Dx {s with acts:=n1} a by unfold ck;rw [if_neg hfull,ou]);have Oi:=ae ou;obtain⟨hc0,ax,hl0⟩:=ag.see;go_enter func31,ntmps31;go_upto_region 7 with fail
  refine aI (R:=fun wx=>uS wx w.heap.size a/\iU wx (w.heap.size+1)/\Sat wx (fun b=>P b/\b<w.heap.size) r {s with acts:=n1}/\aQ (fun b=>¬P b) w wx) ⟨bk,bk,⟨_,_,(eV.out.act (Ext.refl w) n1).ext Xt⟩,((aQ.refl _ w).set (p:=⟨r,3,none⟩) (fun h=>absurd AO.out h) _).ext Xt⟩ ?_;clear ag hc0 ax hl0 ou;rintro wb ⟨hA,hR,hs1,hup⟩;have dU:=ae hs1;have L8:=hR.lt;clear hs1;obtain⟨jH,jI,hlA⟩:=hA.see;by_cases hk:a.k<1\/9<a.k
  ·replace Hr:=ae (show ck s a=({s with acts:=n1}, .no 9) by rw [Hr.out];unfold Dx;rw [if_pos hk])
   rcases hk with hk|hk
   ·go_wp2_with fail
    (refine(uR 9 _).mono ?_);rintro e w2 ⟨rfl,h2⟩;have hx2:Ext wb w2:=Xt;have bQ:=af.ext hx2 hR;have hs2:=dU.out.ext hx2;have qu:=hup.ext hx2;have je:=ae hs2;clear h2 hs2;obtain⟨hcR,jG,eD⟩:=bQ.see;go_wp2_with fail;refine aF (h:= ?_);rw [Hr.out];exact⟨rfl,je.out.tI aB,gD⟩
   ·have gM:¬a.k<1:=by omega
    go_wp2_with fail;(refine(uR 9 _).mono ?_);rintro e w2 ⟨rfl,h2⟩;have hx2:Ext wb w2:=Xt;have bQ:=af.ext hx2 hR;have hs2:=dU.out.ext hx2;have qu:=hup.ext hx2;have je:=ae hs2;clear h2 hs2;obtain⟨hcR,jG,eD⟩:=bQ.see;go_wp2_with fail;refine aF (h:= ?_);rw [Hr.out];exact⟨rfl,je.out.tI aB,gD⟩
  ·have gM:¬a.k<1:=by omega
   have hk9:¬9<a.k:=by omega
   replace Hr:=ae (show ck s a=if a.k=8 then nZ {s with acts:=n1} a.n else if gH a.name=false then({s with acts:=n1}, .no 1) else if a.k=1\/ (a.k=5/\gj s.az a.name=false) then qw {s with acts:=n1} a (eU s.az a.name) (gj s.az a.name) else if gj s.az a.name=false then({s with acts:=n1}, .no 3) else match s.az[eU s.az a.name]? with|some t=>tJ {s with acts:=n1} (eU s.az a.name) t a|none=>({s with acts:=n1}, .no 3) by rw [Hr.out];unfold Dx;rw [if_neg hk];rfl);clear hk;by_cases h8:a.k=8
   ·have h8b:(a.k==8)=true:=by simpa using h8
    replace Hr:=ae (show ck s a=nZ {s with acts:=n1} a.n by rw [Hr.out,if_pos h8]);clear h8;go_wp2_with fail;(refine(adO (fun b=>P b/\b<w.heap.size) r {s with acts:=n1} a.n _ (dU.out.ext Xt) (by simp only;omega) (fun t ht=>by have:=(Hi.out.size t ht).1;omega) ht0 ht1).mono ?_);rintro e w2 ⟨rfl,hs2,hu2⟩;have qu:=hup.over hu2 (fun b h hl hq=>h hq.1);have bQ:=af.held (T:=fun b=>¬(P b/\b<w.heap.size)) ⟨hu2.size,hu2.block⟩ (show iU _ (w.heap.size+1) from hR) (fun h=>by omega);have je:=ae hs2;have hz2:=qu.size;clear hs2 hu2 jH jI hlA hA hR;go_wp2_with fail;(refine(uR _ _).mono ?_);rintro e w3 ⟨rfl,h3⟩;have bN:=af.ext h3 bQ;have eD:=bN.lt;have yZ:=ae (je.out.ext h3);have L9:=qu.ext h3;have htk:=adN {s with acts:=n1} a.n;have mB:=ae htk;clear h3 htk bQ;obtain⟨hcR,jG,eD⟩:=bN.see;go_wp2_with fail;refine aF (h:= ?_);rw [Hr.out];exact⟨by rw [<-mB.out],yZ.out.fin (by omega) aB,gD⟩
   ·have h8b:(a.k==8)=false:=by simpa using h8
    replace Hr:=ae (show ck s a=if gH a.name=false then({s with acts:=n1}, .no 1) else if a.k=1\/ (a.k=5/\gj s.az a.name=false) then qw {s with acts:=n1} a (eU s.az a.name) (gj s.az a.name) else if gj s.az a.name=false then({s with acts:=n1}, .no 3) else match s.az[eU s.az a.name]? with|some t=>tJ {s with acts:=n1} (eU s.az a.name) t a|none=>({s with acts:=n1}, .no 3) by rw [Hr.out,if_neg h8]);clear h8;have Hs:=dU
    cases dZ:gH a.name with
    |false=>
     have iO:=ae dZ;replace Hr:=ae (show ck s a=({s with acts:=n1}, .no 1) by rw [Hr.out,if_pos dZ]);clear dZ;go_wp2_with fail;(refine(qQ a.name _ (by omega)).mono ?_);rw [iO.out];rintro e w1 ⟨rfl,rfl⟩;go_wp2_with fail;(refine(uR 1 _).mono ?_);rintro e w7 ⟨rfl,h7⟩;have cy:Ext wb w7:=Xt;have ic:=af.ext cy hR;have fu:=Hs.out.ext cy;have wO:=hup.ext cy;have eD:=ic.lt;have kF:=ae fu;clear h7 fu hR;obtain⟨hcR,jG,eD⟩:=ic.see;go_wp2_with fail;refine aF (h:= ?_);rw [Hr.out];exact⟨rfl,kF.out.tI aB,gD⟩
    |true=>
     have iO:=ae dZ;obtain⟨k,hk⟩:∃k,eU s.az a.name=k:=⟨_,rfl⟩;obtain⟨ok,hok⟩:∃b,gj s.az a.name=b:=⟨_,rfl⟩;replace Hr:=ae (show ck s a=if a.k=1\/ (a.k=5/\ok=false) then qw {s with acts:=n1} a k ok else if ok=false then({s with acts:=n1}, .no 3) else match s.az[k]? with|some t=>tJ {s with acts:=n1} k t a|none=>({s with acts:=n1}, .no 3) by rw [Hr.out,if_neg (by rw [dZ];simp),hk,hok]);have hkl:k<=s.az.length:=by rw [<-hk];exact L6 _ _
     have Hk:=ae hk;have eK:=ae hok;clear dZ hk hok;go_wp2_with fail;(refine(qQ a.name _ (by omega)).mono ?_);rw [iO.out];rintro e w1 ⟨rfl,rfl⟩;go_wp2_with fail;(refine(adP (fun b=>P b/\b<w.heap.size) r {s with acts:=n1} a.name _ (dU.out.ext Xt) (by simp only;omega) Hi.out.eG).mono ?_);rintro e w2 ⟨rfl,h2⟩;simp only;rw [Hk.out,eK.out];have hx2:Ext wb w2:=Xt;have hA:=af.ext hx2 hA;have hR:=af.ext hx2 hR;have Hs:=ae (dU.out.ext hx2);have hup:=hup.ext hx2;have L8:=hR.lt;clear h2 hx2 jH jI hlA;obtain⟨jH,jI,hlA⟩:=hA.see;by_cases hcr:a.k=1\/ (a.k=5/\ok=false)
     ·replace Hr:=ae (show ck s a=qw {s with acts:=n1} a k ok by rw [Hr.out,if_pos hcr])
      rcases hcr with h1|⟨h5,rfl⟩
      ·have h1b:(a.k==1)=true:=by simpa using h1
       clear h1;go_wp2_with fail;(refine(Ta (fun b=>P b/\b<w.heap.size) r {s with acts:=n1} a k ok _ (Hs.out.ext Xt) hkl (by simp only;omega) hs0 (by simp only;omega) hbz hwz (Hl.out _ (hup.ext Xt)).1 (Hl.out _ (hup.ext Xt)).2).mono ?_);rintro e w7 ⟨rfl,fu,jk⟩;have wO:=hup.over jk (fun b h hl hq=>h hq.1);have ic:=af.held (T:=fun b=>¬(P b/\b<w.heap.size)) ⟨jk.size,jk.block⟩ (af.ext (w:=w2) Xt hR) (fun h=>by omega);have eD:=ic.lt;have hzs:=jk.size;have kF:=ae fu;clear fu jk hR;obtain⟨hcR,jG,eD⟩:=ic.see;go_wp2_with fail;refine aF (h:= ?_);rw [Hr.out];refine⟨rfl,kF.out.fin (by(try simp);omega) ?_,gD⟩
       with_reducible repeat (first|exact Held.refl _ _|assumption|apply Held.drew|apply Held.drewN|apply Held.alloc|(refine Held.set ?_ ?_ _;rotate_left;(focus(first|(simp;done)|(simp;omega)|omega)))|(refine Held.ext ?_ (by assumption))|(refine Held.grown ?_ (by assumption) (by assumption))|(refine Held.trans ?_ (by assumption)))
      ·have h1b:(a.k==1)=false:=by simp;omega
       have o6:(a.k==5)=true:=by simpa using h5
       clear h5;go_wp2_with fail;(refine(Ta (fun b=>P b/\b<w.heap.size) r {s with acts:=n1} a k false _ (Hs.out.ext Xt) hkl (by simp only;omega) hs0 (by simp only;omega) hbz hwz (Hl.out _ (hup.ext Xt)).1 (Hl.out _ (hup.ext Xt)).2).mono ?_);rintro e w7 ⟨rfl,fu,jk⟩;have wO:=hup.over jk (fun b h hl hq=>h hq.1);have ic:=af.held (T:=fun b=>¬(P b/\b<w.heap.size)) ⟨jk.size,jk.block⟩ (af.ext (w:=w2) Xt hR) (fun h=>by omega);have eD:=ic.lt;have hzs:=jk.size;have kF:=ae fu;clear fu jk hR;obtain⟨hcR,jG,eD⟩:=ic.see;go_wp2_with fail;refine aF (h:= ?_);rw [Hr.out];refine⟨rfl,kF.out.fin (by(try simp);omega) ?_,gD⟩
       with_reducible repeat (first|exact Held.refl _ _|assumption|apply Held.drew|apply Held.drewN|apply Held.alloc|(refine Held.set ?_ ?_ _;rotate_left;(focus(first|(simp;done)|(simp;omega)|omega)))|(refine Held.ext ?_ (by assumption))|(refine Held.grown ?_ (by assumption) (by assumption))|(refine Held.trans ?_ (by assumption)))
     ·have h1b:(a.k==1)=false:=by simpa using fun h=>hcr (.inl h)
      cases ok with
      |false=>
       have o6:(a.k==5)=false:=by simpa using fun h=>hcr (.inr ⟨h,rfl⟩)
       replace Hr:=ae (show ck s a=({s with acts:=n1}, .no 3) by rw [Hr.out,if_neg hcr,if_pos rfl]);clear hcr;go_wp2_with fail;(refine(uR 3 _).mono ?_);rintro e w7 ⟨rfl,h7⟩;have cy:Ext w2 w7:=Xt;have ic:=af.ext cy hR;have fu:=Hs.out.ext cy;have wO:=hup.ext cy;have eD:=ic.lt;have kF:=ae fu;clear h7 fu hR;obtain⟨hcR,jG,eD⟩:=ic.see;go_wp2_with fail;refine aF (h:= ?_);rw [Hr.out];exact⟨rfl,kF.out.tI aB,gD⟩
      |true=>
       have hkn:k<s.az.length:=by
        rcases Nat.lt_or_ge k s.az.length with h|h
        ·exact h
        ·have:=Tb (l:=s.az) (name:=a.name) (by rw [Hk.out];omega)
         rw [eK.out] at this;cases this
       obtain⟨t,ht⟩:∃t,s.az[k]=t:=⟨_,rfl⟩;replace Hr:=ae (show ck s a=tJ {s with acts:=n1} k t a by rw [Hr.out,if_neg hcr,if_neg (by simp),List.getElem?_eq_getElem hkn,ht]);obtain⟨Tc,adQ,agd,age⟩:=Hi.out.size t (by rw [<-ht];exact List.getElem_mem hkn);have Ht:=ae ht;clear hcr ht;go_upto_region 14 with fail
       go_cut [80] (fun s80 wx=>s80= .bool false/\w2=wx)
       case first=>
        by_cases h5:a.k=5
        ·have o6:(a.k==5)=true:=by simpa using h5
         clear h5;go_wp2_with fail
         go_meet
         exact⟨rfl,rfl⟩
        ·have o6:(a.k==5)=false:=by simpa using h5
         clear h5;go_wp2_with fail
         go_meet
         exact⟨rfl,rfl⟩
       case rest=>
        obtain⟨rfl,rfl⟩:=hcut;obtain⟨v2,Gq,Gr⟩:=Hs.out;obtain⟨g,c,ka,kc,la,lc,oa,oc,rfl,hg,hgr,uQ,hnc,hcs,hti⟩:=Gr.thing hkn;replace hcs:=adL hcs Ht.out;have oM:=ae (show kZ w2 (fun b=>(P b/\b<w.heap.size)/\b≠r/\b≠g) t ka kc la lc oa oc from by have h:=Ht.out;subst h;exact hti);have qx:=ae Gr;have ag:=Gr.box;have y5:=ae uQ;obtain⟨hc0,ax,hl0⟩:=ag.see;obtain⟨d0,d1,d2,d3,d4,d5,d6,d7,d8,d9,d10,d11,d12,d13,d14⟩:=AP hcs;clear Gr hti hcs uQ;go_upto_region 19 with fail
        refine aI (R:=fun wx=>uS wx w.heap.size a/\iU wx (w.heap.size+1)/\lG wx w2.heap.size t ka kc la lc oa oc/\Ext w2 wx) ⟨bk,bk,bk,Xt⟩ ?_;clear hA hR ag hc0 ax hl0 jH jI hlA d0 d1 d2 d3 d4 d5 d6 d7 d8 d9 d10 d11 d12 d13 d14 Hs;rintro wc ⟨hA,hR,hT,hx⟩;have Hs:=ae (show Sat wc (fun b=>P b/\b<w.heap.size) r {s with acts:=n1} from⟨_,_,qx.out.ext hx⟩);replace hup:=hup.ext hx;have Ma:=hT.lt;have Ef:w.heap.size+2<=w2.heap.size:=by omega
        obtain⟨jH,jI,hlA⟩:=hA.see;obtain⟨ie,ig,eZ⟩:=hT.see;by_cases h9:a.k=9
        ·have h9b:(a.k==9)=true:=by simpa using h9
         have CI:(a.k==6)=false:=by simp;omega
         replace Hr:=ae (show ck s a=({s with acts:=n1},Dy t) by rw [Hr.out];unfold tJ;rw [if_neg (by omega),if_pos h9]);clear h9;obtain⟨⟨pb,pe⟩,hp⟩:∃z,kS t.v=z:=⟨_,rfl⟩;have Hp:=ae hp;clear hp;go_wp2_with fail;(refine(aaM t.v ka kc la lc _ _ (by omega) (oM.out.v.ext Xt) (Hl.out _ (hup.ext Xt)).1).mono ?_);rw [Hp.out];rintro e w3 ⟨rfl,h3⟩;have hx3:Ext wc w3:=Xt;have hR:=af.ext hx3 hR;have hT:=af.ext hx3 hT;replace Hs:=ae (Hs.out.ext hx3);replace hup:=hup.ext hx3;have eD:=hR.lt;clear h3 jH jI hlA ie ig eZ hA hx;by_cases hpe:pe=0
         ·subst hpe
          replace Hr:=ae (show ck s a=({s with acts:=n1},⟨0,t.ver,⟨pb.toArray⟩⟩) by rw [Hr.out];unfold Dy;rw [Hp.out,if_neg (by simp)]);obtain⟨hcR,jG,eD⟩:=hR.see;obtain⟨ie,ig,eZ⟩:=hT.see;go_wp2_with fail;refine aF (h:= ?_);rw [Hr.out];refine⟨rfl,Hs.out.tI ?_,gD⟩
          with_reducible repeat (first|exact Held.refl _ _|assumption|apply Held.drew|apply Held.drewN|apply Held.alloc|(refine Held.set ?_ ?_ _;rotate_left;(focus(first|(simp;done)|(simp;omega)|omega)))|(refine Held.ext ?_ (by assumption))|(refine Held.grown ?_ (by assumption) (by assumption))|(refine Held.trans ?_ (by assumption)))
         ·have agf:(pe !=0)=true:=by simpa using hpe
          replace Hr:=ae (show ck s a=({s with acts:=n1}, .no pe) by rw [Hr.out];unfold Dy;rw [Hp.out,if_pos hpe]);clear hpe;go_wp2_with fail;(refine(uR pe _).mono ?_);rintro e w7 ⟨rfl,h7⟩;have cy:Ext w3 w7:=Xt;have ic:=af.ext cy hR;have fu:=Hs.out.ext cy;have wO:=hup.ext cy;have eD:=ic.lt;have kF:=ae fu;clear h7 fu hR;obtain⟨hcR,jG,eD⟩:=ic.see;go_wp2_with fail;refine aF (h:= ?_);rw [Hr.out];exact⟨rfl,kF.out.tI aB,gD⟩
        ·have h9b:(a.k==9)=false:=by simpa using h9
         by_cases h7:a.k=7
         ·have J7:(a.k==7)=true:=by simpa using h7
          have CI:(a.k==6)=false:=by simp;omega
          replace Hr:=ae (show ck s a=wP {s with acts:=n1} k t a.ord by rw [Hr.out];unfold tJ;rw [if_neg (by omega),if_neg h9,if_pos h7]);clear h7 h9;go_wp2_with fail;(refine(Td (fun b=>P b/\b<w.heap.size) r {s with acts:=n1} k t a.ord _ (Hs.out.ext Xt) hkn Ht.out (by omega) (by simp only;omega)).mono ?_);rintro e w7 ⟨rfl,fu,jk⟩;have wO:=hup.over jk (fun b h hl hq=>h hq.1);have ic:=af.held (T:=fun b=>¬(P b/\b<w.heap.size)) ⟨jk.size,jk.block⟩ (af.ext (w:=wc) Xt hR) (fun h=>by omega);have eD:=ic.lt;have hzs:=jk.size;have kF:=ae fu;clear fu jk hR;obtain⟨hcR,jG,eD⟩:=ic.see;go_wp2_with fail;refine aF (h:= ?_);rw [Hr.out];refine⟨rfl,kF.out.fin (by(try simp);omega) ?_,gD⟩
          with_reducible repeat (first|exact Held.refl _ _|assumption|apply Held.drew|apply Held.drewN|apply Held.alloc|(refine Held.set ?_ ?_ _;rotate_left;(focus(first|(simp;done)|(simp;omega)|omega)))|(refine Held.ext ?_ (by assumption))|(refine Held.grown ?_ (by assumption) (by assumption))|(refine Held.trans ?_ (by assumption)))
         ·have J7:(a.k==7)=false:=by simpa using h7
          by_cases h6:a.k=6
          ·have CI:(a.k==6)=true:=by simpa using h6
           replace Hr:=ae (show ck s a=({s with acts:=n1,az:=s.az.take k++s.az.drop (k+1)}, .num t.ver) by rw [Hr.out];unfold tJ;rw [if_pos h6]);clear h6 h7 h9;have ag:=(qx.out.ext hx).box;have hrg:r≠g:=fun e=>hgr e.symm;have uJ:g<w.heap.size:=y5.out.2;obtain⟨hc0,ax,hl0⟩:=ag.see;go_wp2_with fail;(refine(adM g c k s.az.length Gq _ hkn (by omega) (eu qx.out.own Xt) qx.out.cells.one).mono ?_);rintro e w3 ⟨rfl,eo,y7⟩;have hz3:=y7.size;have bK:=(af.ext (w:=wc) Xt ag).grown y7 (fun e=>hrg (Option.some.inj e));have bN:=(af.ext (w:=wc) Xt hR).grown y7 (fun e=>by have:=Option.some.inj e;omega);have Gs:=(af.ext (w:=wc) Xt hT).grown y7 (fun e=>by have:=Option.some.inj e;omega);have L9:aQ (fun b=>¬P b) w w3:=(aQ.ext hup Xt).grown y7 (fun q hq h=>absurd y5.out.1 (by cases hq;exact h));have agh:=bK.lt;have eD:=bN.lt;have eZ:=Gs.lt;obtain⟨wj,ib⟩:∃wj,w3.setCell ⟨r,0,none⟩ (.slice (some ⟨g,0,none⟩) (s.az.length-1) c)=wj:=⟨_,rfl⟩;have hsj:dX wj (fun b=>P b/\b<w.heap.size) r {s with acts:=n1,az:=s.az.take k++s.az.drop (k+1)} (.slice (some ⟨g,0,none⟩) (s.az.length-1) c) (Gq.take (k*15)++Gq.drop ((k+1)*15)):=by rw [<-ib];exact qx.out.del (by with_reducible repeat (first|exact Ext.refl _|assumption|apply Ext.drew|apply Ext.drewN|apply Ext.alloc|(refine Ext.setCell ?_ ?_ _;rotate_left;(focus(first|(simp;done)|(simp;omega)|omega)))|refine Ext.trans ?_ (by assumption))) hkn eo y7
           have Te:iU wj (w.heap.size+1):=by rw [<-ib];exact bN.other (by simp;omega) _
           have Tf:lG wj w2.heap.size t ka kc la lc oa oc:=by rw [<-ib];exact Gs.other (by simp;omega) _
           have agi:aQ (fun b=>¬P b) w wj:=by rw [<-ib];exact L9.set (fun h=>absurd AO.out h) _
           have r9:=ae ib;have Hsj:=ae (show Sat wj _ r _ from⟨_,_,hsj⟩);clear ib hsj eo y7 bN Gs L9 jH jI hlA ie ig eZ hc0 ax hl0 hA hR hT ag;obtain⟨hc3,hf3,aS⟩:=bK.see;go_upto_region 22 with fail
           refine aI (R:=fun wy=>wy=wj) r9.out ?_;clear r9 bK hc3 hf3 aS hup Hs;rintro wy rfl;have eD:=Te.lt;have eZ:=Tf.lt;obtain⟨hcR,jG,eD⟩:=Te.see;obtain⟨ie,ig,eZ⟩:=Tf.see;go_wp2_with fail;refine aF (h:= ?_);rw [Hr.out];refine⟨rfl,Hsj.out.tI ?_,gD⟩
           with_reducible repeat (first|exact Held.refl _ _|assumption|apply Held.drew|apply Held.drewN|apply Held.alloc|(refine Held.set ?_ ?_ _;rotate_left;(focus(first|(simp;done)|(simp;omega)|omega)))|(refine Held.ext ?_ (by assumption))|(refine Held.grown ?_ (by assumption) (by assumption))|(refine Held.trans ?_ (by assumption)))
          ·have CI:(a.k==6)=false:=by simpa using h6
           replace Hr:=ae (show ck s a=if a.k≠5/\a.ver≠0/\a.ver≠t.ver then({s with acts:=n1}, .no 7) else if(cR t.v t.ows a).2.2≠0 then({s with acts:=n1}, .no (cR t.v t.ows a).2.2) else oU {s with acts:=n1} k t (cR t.v t.ows a).1 (cR t.v t.ows a).2.1 by rw [Hr.out];unfold tJ;rw [if_neg h6,if_neg h9,if_neg h7]);clear h6 h7 h9;by_cases hold:a.k≠5/\a.ver≠0/\a.ver≠t.ver
           ·replace Hr:=ae (show ck s a=({s with acts:=n1}, .no 7) by rw [Hr.out,if_pos hold])
            have o6:(a.k !=5)=true:=by simpa using hold.1
            have hv0:(a.ver !=0)=true:=by simpa using hold.2.1
            have hvt:(a.ver !=t.ver)=true:=by simpa using hold.2.2
            clear hold;go_wp2_with fail;(refine(uR 7 _).mono ?_);rintro e w7 ⟨rfl,h7⟩;have cy:Ext wc w7:=Xt;have ic:=af.ext cy hR;have fu:=Hs.out.ext cy;have wO:=hup.ext cy;have eD:=ic.lt;have kF:=ae fu;clear h7 fu hR;obtain⟨hcR,jG,eD⟩:=ic.see;go_wp2_with fail;refine aF (h:= ?_);rw [Hr.out];exact⟨rfl,kF.out.tI aB,gD⟩
           ·go_upto_region 30 with fail
            go_cut [153] (fun adR wx=>adR= .bool false/\wc=wx)
            case first=>
             by_cases h5:a.k=5
             ·have o6:(a.k !=5)=false:=by simpa using h5
              clear h5 hold;go_wp2_with fail
              go_meet
              exact⟨rfl,rfl⟩
             ·have o6:(a.k !=5)=true:=by simpa using h5
              by_cases hv:a.ver=0
              ·have hv0:(a.ver !=0)=false:=by simpa using hv
               clear h5 hold hv;go_wp2_with fail
               go_meet
               exact⟨rfl,rfl⟩
              ·have hv0:(a.ver !=0)=true:=by simpa using hv
               have hvt:(a.ver !=t.ver)=false:=by simpa using Classical.byContradiction fun h=>hold ⟨h5,hv,h⟩
               clear h5 hold hv;go_wp2_with fail
               go_meet
               exact⟨rfl,rfl⟩
            case rest=>
             obtain⟨rfl,rfl⟩:=hcut;obtain⟨⟨u,m,ce⟩,hch⟩:∃z,cR t.v t.ows a=z:=⟨_,rfl⟩;replace Hr:=ae (show ck s a=if ce≠0 then({s with acts:=n1}, .no ce) else oU {s with acts:=n1} k t u m by rw [Hr.out,if_neg hold,hch]);have mo:u.size<=14640:=by have:=Tg (v:=t.v) (ows:=t.ows) (a:=a) Tc;rw [hch] at this;exact this
             have ur:cF m<=2050000:=by have:=Ti (v:=t.v) (ows:=t.ows) (a:=a) adQ;rw [hch] at this;simp only at this;omega
             have lN:=ae hch;clear hold hch;go_wp2_with fail;(refine(Tj t ka kc la lc oa oc a (fun b=>(P b/\b<w.heap.size)/\b≠r/\b≠g) _ (oM.out.v.ext Xt) oM.out.ok (oM.out.ows.ext Xt) Tc (by omega) hbz hwz (Hl.out _ (hup.ext Xt)).1 (Hl.out _ (hup.ext Xt)).2).mono ?_);rw [lN.out];rintro e w3 ⟨k2,c2,l2,d2,a5,c5,rfl,bR,gV,wQ,h3⟩;have hx3:Ext w2 w3:=Xt;have hR:=af.ext (w:=wc) (w':=w3) Xt hR;replace hup:=aQ.ext (c:=w3) hup Xt;have uJ:g<w.heap.size:=y5.out.2;have bJ:=ae (show u.In w3 (fun b=>(aU P w b/\b≠w.heap.size+1)/\b≠r/\b≠g) k2 c2 l2 d2 from bR.mono fun q h _=>by rcases h with h|h;exact⟨⟨.inl h.1.1,by omega⟩,h.2⟩;exact⟨⟨.inr (by(try simp at h);omega),by(try simp at h);omega⟩,by(try simp at h);omega,by(try simp at h);omega⟩);have adS:=ae (show cj w3 (fun b=>(aU P w b/\b≠w.heap.size+1)/\b≠r/\b≠g) m a5 from wQ.mono fun q h _=>by rcases h with h|h;exact⟨⟨.inl h.1.1,by omega⟩,h.2⟩;exact⟨⟨.inr (by(try simp at h);omega),by(try simp at h);omega⟩,by(try simp at h);omega,by(try simp at h);omega⟩);have Dz:=ae gV;replace Hs:=ae (Hs.out.ext (w':=w3) Xt);clear bR gV wQ h3 hx jH jI hlA ie ig eZ hA hT;by_cases h0:ce=0
             ·subst h0
              replace Hr:=ae (show ck s a=oU {s with acts:=n1} k t u m by rw [Hr.out,if_neg (by simp)]);go_upto_region 33 with fail
              refine aI (R:=fun wx=>iU wx (w.heap.size+1)/\aC wx w3.heap.size u k2 c2 l2 d2/\Ext w3 wx) ⟨bk,bk,Xt⟩ ?_;clear hR;rintro wd ⟨hR,hU,iB⟩;replace hup:=hup.ext iB;have hzd:=hU.lt;have hz3:=hx3.size;obtain⟨Q,hQ⟩:∃Q:aw,Q=fun b=>aU P w b/\b≠w.heap.size+1:=⟨_,rfl⟩
              have HQ:=ae hQ;have Mb:∀b,((aU P w b/\b≠w.heap.size+1)/\b≠r/\b≠g)-> (Q b/\b≠r/\ (Value.slice (some ⟨g,0,none⟩) s.az.length c).ownBlock≠some b):=fun b h=>⟨by rw [hQ];exact h.1,h.2.1,fun e=>h.2.2 (by cases e;rfl)⟩;have Mc:=ae (fun(w':World) (e:Ext wd w')=>Tk Q r {s with acts:=n1} (.slice (some ⟨g,0,none⟩) s.az.length c) Gq k t u k2 c2 l2 d2 m a5 c5 w' ((qx.out.ext (hx3.trans (iB.trans e))).mono fun b h=>by rw [hQ];exact⟨.inl h.1,by omega⟩) hkn Ht.out ((bJ.out.ext (iB.trans e)).mono fun b h _=>Mb b h) Dz.out ((adS.out.ext (iB.trans e)).mono fun b h _=>Mb b h) (by omega) (by omega) (by omega) (by simp only;omega) hs0 (by simp only;omega) (by omega) (by omega));clear hQ Mb;obtain⟨wR,wS,oV⟩:=hU.see;go_wp2_with fail;(refine(Mc.out _ Xt).mono ?_);rintro e w7 ⟨rfl,fu,jk⟩;have uT:∀b,Q b->aU P w b/\b≠w.heap.size+1:=fun b h=>by rw [HQ.out] at h;exact h
              have ic:=af.held (T:=fun b=>¬Q b) ⟨jk.size,jk.block⟩ (af.ext (w:=wd) Xt hR) (fun h=>(uT _ h).2 rfl);have wO:aQ (fun b=>¬P b) w w7:=(aQ.ext hup Xt).over jk (fun b h hl hq=>by rcases(uT b hq).1 with h'|h';exact h h';omega);have hzs:=jk.size;have eD:=ic.lt;have kF:=ae (Sat.mono (Q:=fun b=>aU P w b/\b≠w.heap.size+1) fu fun b h=>by rcases h with h|h;exact uT b h;exact⟨.inr (by(try simp at h);omega),by(try simp at h);omega⟩);clear fu jk hR uT HQ;obtain⟨hcR,jG,eD⟩:=ic.see;go_wp2_with fail;refine aF (h:= ?_);rw [Hr.out];refine⟨rfl,(kF.out.keep (Kept.mono (Held.kept (T:=fun b=>b≠w.heap.size+1) ?_) fun b hb=>hb.2)).mono fun b hb=>hb.1,gD⟩
              with_reducible repeat (first|exact Held.refl _ _|assumption|apply Held.drew|apply Held.drewN|apply Held.alloc|(refine Held.set ?_ ?_ _;rotate_left;(focus(first|(simp;done)|(simp;omega)|omega)))|(refine Held.ext ?_ (by assumption))|(refine Held.grown ?_ (by assumption) (by assumption))|(refine Held.trans ?_ (by assumption)))
             ·have sW:(ce !=0)=true:=by simpa using h0
              replace Hr:=ae (show ck s a=({s with acts:=n1}, .no ce) by rw [Hr.out,if_pos h0]);clear h0;go_upto_region 33 with fail
              refine aI (R:=fun wx=>iU wx (w.heap.size+1)/\Ext w3 wx) ⟨bk,Xt⟩ ?_;clear hR;rintro wd ⟨hR,iB⟩;replace hup:=hup.ext iB;replace Hs:=ae (Hs.out.ext iB);go_wp2_with fail;(refine(uR ce _).mono ?_);rintro e w7 ⟨rfl,h7⟩;have cy:Ext wd w7:=Xt;have ic:=af.ext cy hR;have fu:=Hs.out.ext cy;have wO:=hup.ext cy;have eD:=ic.lt;have kF:=ae fu;clear h7 fu hR;obtain⟨hcR,jG,eD⟩:=ic.see;go_wp2_with fail;refine aF (h:= ?_);rw [Hr.out];exact⟨rfl,kF.out.tI aB,gD⟩
end Go.Proofs.YtlcebdaghmdkeabGreatDoor
namespace Go.Proofs.YtlcebdaghmdkeabGreatDoor
open Go.RowKit
def Sv.on (s:Sv):Sv:= {s with acts:=s.acts+1}
inductive Step (s:Sv) (a:Ac):Sv->Rp->Prop
 |full (h:300<=s.acts):Step s a s (.no 10)
 |no (e:Int) (h:s.acts<300) (he:e≠0) (h7:e=7↔(2<=a.k/\a.k<=4/\∃k,∃h:k<s.az.length,s.az[k].name=a.name/\a.ver≠0/\a.ver≠s.az[k].ver)):Step s a s.on (.no e)
 |tick (h:s.acts<300) (hk:a.k=8) (h1:1<=a.n) (h2:a.n<=1099511627776-s.time):Step s a ⟨s.az.map fun t=>t.ord (s.time+a.n) 0,s.time+a.n,s.last,s.acts+1⟩ (.no 0)
 |del (h:s.acts<300) (hk:a.k=6) (k:Nat) (hl:k<s.az.length) (hn:s.az[k].name=a.name):Step s a ⟨s.az.take k++s.az.drop (k+1),s.time,s.last,s.acts+1⟩ (.num s.az[k].ver)
 |get (h:s.acts<300) (hk:a.k=9) (k:Nat) (hl:k<s.az.length) (hn:s.az[k].name=a.name) (hp:(kS s.az[k].v).2=0):Step s a s.on ⟨0,s.az[k].ver,⟨(kS s.az[k].v).1.toArray⟩⟩
 |ord (h:s.acts<300) (hk:a.k=7) (k:Nat) (hl:k<s.az.length) (hn:s.az[k].name=a.name) (h0:(s.az[k].next s.time a.ord).2=0):Step s a ⟨s.az.set k (s.az[k].ord s.time a.ord),s.time,s.last,s.acts+1⟩ (.num (s.az[k].next s.time a.ord).1.ph)
 |keep (h:s.acts<300) (hk:2<=a.k/\a.k<=5) (k:Nat) (hl:k<s.az.length) (hn:s.az[k].name=a.name) (hv:a.k=5\/a.ver=0\/a.ver=s.az[k].ver) (v:V) (ows:List Ow) (hc:cR s.az[k].v s.az[k].ows a=(v,ows,0)) (hs:dD v≠none):
   Step s a ⟨s.az.set k (s.az[k].kept v ows s.time s.last),s.time,if s.az[k].turn v ows then s.last+1 else s.last,s.acts+1⟩ (.num (s.az[k].kept v ows s.time s.last).ver)
 |Ux (h:s.acts<300) (hk:a.k=1\/a.k=5) (hh:gj s.az a.name=false) (hn:gH a.name=true) (hl:s.az.length<8) (v:V) (ows:List Ow) (hc:cR V.bV [] a=(v,ows,0)) (hs:dD v≠none):
   Step s a ⟨s.az.take (eU s.az a.name)++(oW a.name v).kept v ows s.time s.last::s.az.drop (eU s.az a.name),s.time,s.last+1,s.acts+1⟩ (.num (s.last+1))
theorem aeL {l:List Th} {name:ah} (h:gj l name=true):∃hl:eU l name<l.length,l[eU l name].name=name:=by
 have h1:eU l name<l.length:=by have:=sG h;rw [List.length_map] at this;exact this
 exact⟨h1,by have:=zK h;rw [List.getElem_map] at this;exact this⟩
theorem UX {l:List Th} (hr:cG (l.map Th.name)) {k:Nat} (hk:k<l.length):gj l l[k].name=true/\eU l l[k].name=k:=
 ⟨Ej hr (List.mem_map_of_mem (List.getElem_mem hk)),Js hr (by simpa using hk) (by simp)⟩
theorem UY {l:List Th} {name:ah} (hr:cG (l.map Th.name)) (h:gj l name=false):∀t∈l,t.name≠name:=fun t ht e=>
 ER hr h (e▸List.mem_map_of_mem ht)
theorem UZ {l:List Th} (hr:cG (l.map Th.name)) {i j:Nat} (hi:i<l.length) (hj:j<l.length) (h:l[i].name=l[j].name):i=j:=by
 have h1:=(UX hr hi).2;rw [h,(UX hr hj).2] at h1;exact h1.symm
theorem aeM (s:Bytes):(ek s).2=0\/ (ek s).2=1\/ (ek s).2=2:=by
 unfold ek
 split
 ·exact .inr (.inr rfl)
 ·split
  ·exact .inl rfl
  ·exact .inr (.inl rfl)
theorem aeN (x:V):(kS x).2=0\/ (kS x).2=1\/ (kS x).2=2:=by
 unfold kS
 split
 ·exact .inr (.inl rfl)
 ·split
  ·exact .inr (.inr rfl)
  ·exact .inl rfl
theorem aeO (v:V):(jE v).2=0\/ (jE v).2=1\/ (jE v).2=2:=by
 unfold jE
 split
 ·exact .inr (.inl rfl)
 ·split
  ·exact .inr (.inr rfl)
  ·split
   ·exact .inr (.inl rfl)
   ·exact .inl rfl
theorem aeP (v p:V):(ma v p).2≠7:=by
 unfold ma
 split
 ·simp
 ·split<;>simp
theorem aeQ {im:ah} {xs:List (Int×Int)} {s:St} {now o:Int}:(fy im xs s now o).2≠7:=by
 unfold fy
 repeat' split
 all_goals simp
theorem aeR (v:V) (l:List Ow) (who:ah) (want:V) (f:Bool):(ju v l who want f).2.2.2≠7:=by
 unfold ju
 repeat' split
 all_goals simp
theorem U0 {F:lH} (hF:∀x a,(F x a).2≠7):∀(l:List ah) (x:V),(bO F l x).2≠7
 | [],x=>by simp [bO]
 |a::r,x=>by
  rw [bO]
  split
  ·exact hF _ _
  ·split
   ·simp
   ·split
    ·simp
    ·rename_i y hy
     split
     ·simp
     ·exact U0 hF r y
theorem aeS (y x:V) (a:ah):(iV y x a).2≠7:=by
 unfold iV
 repeat' split
 all_goals simp
theorem aeT (x:V) (a:ah):(oX x a).2≠7:=by
 unfold oX
 repeat' split
 all_goals simp
theorem aeU (y x:V) (a:ah):(gN y x a).2≠7:=by
 unfold gN
 repeat' split
 all_goals simp
theorem MF {F:lH} (hF:∀x a,(F x a).2≠7) (x:V) (p:ah):(gp x p F).2≠7:=by
 unfold gp
 repeat' split
 all_goals first|exact U0 hF _ _|simp
theorem aeV (x:V) (p:ah):(cE x p).2≠7:=by
 unfold cE
 repeat' split
 all_goals simp
theorem U1 (x:V) (p:ah) (y:V):(eF x p y).2≠7:=by
 unfold eF
 repeat' split
 all_goals first|exact MF (aeS y) _ _|simp
theorem aeW (x:V) (p:ah) (y:V):(jM x p y).2≠7:=by
 unfold jM
 repeat' split
 all_goals first|exact MF (aeU y) _ _|simp
theorem U2 (x:V) (p:ah):(jN x p).2≠7:=MF aeT _ _
theorem aeX (x:V) (f p:ah) (y:V):(nz x f p y).2≠7:=by
 unfold nz
 repeat' split
 all_goals first|exact U2 _ _|exact U1 _ _ _|simp
theorem aeY (x:V) (o:bE):(bI x o).2≠7:=by
 unfold bI
 repeat' split
 all_goals first|exact U2 _ _|exact U1 _ _ _|exact aeW _ _ _|exact aeV _ _|exact aeX _ _ _ _|simp
theorem U3:∀(l:List bE) (x:V),(eN l x).2≠7
 | [],x=>by simp [eN]
 |o::r,x=>by
  rw [eN]
  split
  ·exact aeY _ _
  ·exact U3 r _
theorem aeZ (x:V) (l:List bE):(kB x l).2≠7:=by
 unfold kB
 repeat' split
 all_goals first|exact U3 _ _|simp
theorem ae0 (v b:V) (k:Int):(og v b k).2≠7:=by
 unfold og
 repeat' split
 ·exact aeP _ _
 ·exact aeZ _ _
 ·have:=aeO b
  simp only;omega
 ·simp
theorem U4 (v:V) (ows:List Ow) (a:Ac):(cR v ows a).2.2≠7:=by
 unfold cR;have h:=aeM a.body.data.toList
 repeat' split
 ·simp only
  omega
 ·exact aeR _ _ _ _ _
 ·exact ae0 _ _ _
theorem AX {s:Sv} {a:Ac} (h:¬(2<=a.k/\a.k<=4)) {e:Int} (he:e≠7):e=7↔(2<=a.k/\a.k<=4/\∃k,∃h:k<s.az.length,s.az[k].name=a.name/\a.ver≠0/\a.ver≠s.az[k].ver):=
 ⟨fun q=>absurd q he,fun q=>absurd ⟨q.1,q.2.1⟩ h⟩
theorem GD {s:Sv} {a:Ac} (hr:cG (s.az.map Th.name)) (h:gj s.az a.name=false) {e:Int} (he:e≠7):e=7↔(2<=a.k/\a.k<=4/\∃k,∃h:k<s.az.length,s.az[k].name=a.name/\a.ver≠0/\a.ver≠s.az[k].ver):=
 ⟨fun q=>absurd q he,fun⟨_,_,k,hk,hn,_⟩=>absurd hn (UY hr h _ (List.getElem_mem hk))⟩
theorem ae1 {s:Sv} {a:Ac} (hr:cG (s.az.map Th.name)) {k:Nat} (hk:k<s.az.length) (hn:s.az[k].name=a.name) (hv:a.ver=0\/a.ver=s.az[k].ver) {e:Int} (he:e≠7):e=7↔(2<=a.k/\a.k<=4/\∃k,∃h:k<s.az.length,s.az[k].name=a.name/\a.ver≠0/\a.ver≠s.az[k].ver):=
 ⟨fun q=>absurd q he,fun⟨_,_,j,hj,hm,h0,h1⟩=>by
  obtain rfl:j=k:=UZ hr hj hk (by rw [hm,hn]);rcases hv with h|h
  ·exact absurd h h0
  ·exact absurd h h1⟩
theorem aeI (s:Sv) (a:Ac) (hr:cG (s.az.map Th.name)) (dZ:∀t∈s.az,gH t.name=true):Step s a (ck s a).1 (ck s a).2:=by
 unfold ck;by_cases hf:300<=s.acts
 ·rw [if_pos hf];exact .full hf
 rw [if_neg hf];have h:s.acts<300:=by omega
 unfold Dx;by_cases h1:a.k<1\/9<a.k
 ·rw [if_pos h1];exact .no 9 h (by decide) (AX (by omega) (by decide))
 rw [if_neg h1];by_cases h8:a.k=8
 ·rw [if_pos h8]
  unfold nZ;dsimp only;by_cases ht:a.n<1\/1099511627776-s.time<a.n
  ·rw [if_pos ht];exact .no 8 h (by decide) (AX (by omega) (by decide))
  ·rw [if_neg ht];exact .tick h h8 (by omega) (by omega)
 rw [if_neg h8];by_cases hn:gH a.name=false
 ·rw [if_pos hn]
  refine .no 1 h (by decide) ⟨fun q=>absurd q (by decide),fun⟨_,_,k,hk,hm,_⟩=> ?_⟩;have:=dZ _ (List.getElem_mem hk);rw [hm,hn] at this
  cases this
 rw [if_neg hn];have hn:gH a.name=true:=by simpa using hn
 dsimp only;by_cases hc:a.k=1\/ (a.k=5/\gj s.az a.name=false)
 ·rw [if_pos hc]
  unfold qw;dsimp only;by_cases hh:gj s.az a.name=true
  ·rw [if_pos hh]
   have:a.k=1:=by rcases hc with hc|hc;exact hc;rw [hh] at hc;exact absurd hc.2 (by decide)
   exact .no 6 h (by decide) (AX (by omega) (by decide))
  rw [if_neg hh];have hh:gj s.az a.name=false:=by simpa using hh
  by_cases hl:8<=s.az.length
  ·rw [if_pos hl];exact .no 10 h (by decide) (GD hr hh (by decide))
  rw [if_neg hl];by_cases he:(cR V.bV [] a).2.2≠0
  ·rw [if_pos he];exact .no _ h he (GD hr hh (U4 _ _ _))
  rw [if_neg he];by_cases hs:dD (cR V.bV [] a).1=none
  ·rw [if_pos hs];exact .no 1 h (by decide) (GD hr hh (by decide))
  rw [if_neg hs];unfold oU;rw [if_neg hs];have hlen:eU s.az a.name<=s.az.length:=L6 _ _
  have key:=Step.Ux (s:=s) h (by rcases hc with hc|hc;exact .inl hc;exact .inr hc.1) hh hn (by omega) (cR V.bV [] a).1 (cR V.bV [] a).2.1 (by
   have:(cR V.bV [] a).2.2=0:=Classical.byContradiction he
   rw [<-this]) hs
  have ht:(oW a.name (cR V.bV [] a).1).turn (cR V.bV [] a).1 (cR V.bV [] a).2.1=true:=rfl;have U5:((oW a.name (cR V.bV [] a).1).kept (cR V.bV [] a).1 (cR V.bV [] a).2.1 s.time s.last).ver=s.last+1:=by unfold Th.kept;simp only [ht,if_true]
  have ae2:(s.az.take (eU s.az a.name)++oW a.name (cR V.bV [] a).1::s.az.drop (eU s.az a.name)).set (eU s.az a.name) ((oW a.name (cR V.bV [] a).1).kept (cR V.bV [] a).1 (cR V.bV [] a).2.1 s.time s.last)=
   s.az.take (eU s.az a.name)++(oW a.name (cR V.bV [] a).1).kept (cR V.bV [] a).1 (cR V.bV [] a).2.1 s.time s.last::s.az.drop (eU s.az a.name):=by
   rw [List.set_append_right _ _ (by rw [List.length_take];omega),List.length_take,Nat.min_eq_left hlen,Nat.sub_self,List.set_cons_zero]
  dsimp only at U5⊢;rw [ae2,U5,ht,if_pos rfl];exact key
 rw [if_neg hc];by_cases hh:gj s.az a.name=false
 ·rw [if_pos hh];exact .no 3 h (by decide) (GD hr hh (by decide))
 rw [if_neg hh];have hh:gj s.az a.name=true:=by simpa using hh
 obtain⟨hl,hnn⟩:=aeL hh;rw [List.getElem?_eq_getElem hl];generalize eU s.az a.name=k at hl hnn⊢;dsimp only;have h15:a.k≠1:=fun q=>hc (.inl q);unfold tJ;by_cases h6:a.k=6
 ·rw [if_pos h6];exact .del h h6 k hl hnn
 rw [if_neg h6];by_cases h9:a.k=9
 ·rw [if_pos h9]
  unfold Dy;by_cases hp:(kS s.az[k].v).2≠0
  ·rw [if_pos hp];exact .no _ h hp (AX (by omega) (by have:=aeN s.az[k].v;omega))
  ·rw [if_neg hp];exact .get h h9 k hl hnn (Classical.byContradiction hp)
 rw [if_neg h9];by_cases h7:a.k=7
 ·rw [if_pos h7]
  unfold wP;dsimp only;by_cases hp:(s.az[k].next s.time a.ord).2≠0
  ·rw [if_pos hp];exact .no _ h hp (AX (by omega) aeQ)
  ·rw [if_neg hp];exact .ord h h7 k hl hnn (Classical.byContradiction hp)
 rw [if_neg h7];by_cases hv:a.k≠5/\a.ver≠0/\a.ver≠s.az[k].ver
 ·rw [if_pos hv];exact .no 7 h (by decide) ⟨fun _=>⟨by omega,by omega,k,hl,hnn,hv.2.1,hv.2.2⟩,fun _=>rfl⟩
 rw [if_neg hv];have hv:a.k=5\/a.ver=0\/a.ver=s.az[k].ver:=by omega
 have hno:∀ {e:Int},e≠7-> (e=7↔(2<=a.k/\a.k<=4/\∃k,∃h:k<s.az.length,s.az[k].name=a.name/\a.ver≠0/\a.ver≠s.az[k].ver)):=fun {e} he=>by
  by_cases h5:a.k=5
  ·exact AX (by omega) he
  ·exact ae1 hr hl hnn (by omega) he
 by_cases he:(cR s.az[k].v s.az[k].ows a).2.2≠0
 ·rw [if_pos he];exact .no _ h he (hno (U4 _ _ _))
 rw [if_neg he];unfold oU;by_cases hs:dD (cR s.az[k].v s.az[k].ows a).1=none
 ·rw [if_pos hs];exact .no 1 h (by decide) (hno (by decide))
 rw [if_neg hs]
 exact .keep h (by omega) k hl hnn hv _ _ (by
  have:(cR s.az[k].v s.az[k].ows a).2.2=0:=Classical.byContradiction he
  rw [<-this]) hs
structure mR (v:V) (l:List Ow):Prop where
 good:iZ l=true
 there:∀o∈l,∀p∈o.paths,bH v p≠none
 small:∀o∈l,eY o.paths<=240120
theorem mR.nil (v:V):mR v []:=⟨by decide,(fun o h=>(by cases h)),(fun o h=>(by cases h))⟩
theorem aeC {s:ah} (h:gH s=true):1<=s.size/\s.size<=12:=by
 unfold gH at h;simp only [Bool.and_eq_true,decide_eq_true_eq] at h;exact⟨h.1.2,h.2⟩
theorem Uq {B:Nat}:∀(l:List Ow),(∀o∈l,o.size<=B)->cF l<=l.length*B
 | [],_=>by simp [cF]
 |o::r,h=>by have h1:=Uq r (fun q hq=>h q (by simp [hq]));have h2:=h o (by simp);unfold cF at h1⊢;rw [List.map_cons,List.sum_cons,List.length_cons,Nat.add_mul];omega
theorem mR.size {v:V} {l:List Ow} (h:mR v l):cF l<=1800000:=by
 obtain⟨h1,-,h3⟩:=(Bt l).1 h.good
 have:=Uq (B:=250000) l (fun o ho=>by
  have h4:=h.small o ho;have h5:=aeC (h1 o ho).1;unfold Ow.size
  omega)
 have:l.length*250000<=6*250000:=Nat.mul_le_mul_right _ h3;omega
theorem mR.keep {v w:V} {l:List Ow} (h:mR v l):mR w (mH w l):=by
 have hm:∀o∈mH w l,∃o'∈l,o'.name=o.name/\o.paths≠ []/\o.paths=o'.paths.filter (fun p=>(bH w p).isSome):=by
  intro o ho;obtain⟨o',h1,h2⟩:=List.mem_filterMap.1 ho;unfold jV at h2
  split at h2
  ·cases h2
  ·rename_i hne
   simp only [Option.some.injEq] at h2;subst h2;exact⟨o',h1,rfl,hne,rfl⟩
 obtain⟨g1,g2,g3⟩:=(Bt l).1 h.good;refine⟨(Bt _).2 ⟨fun o ho=> ?_,?_,Nat.le_trans (List.length_filterMap_le _ _) g3⟩,fun o ho p hp=> ?_,fun o ho=> ?_⟩
 ·obtain⟨o',h1,h2,h3,h4⟩:=hm o ho
  obtain⟨k1,k2,k3⟩:=g1 o' h1;obtain⟨k4,k5⟩:=(Br _).1 k3;refine⟨h2▸k1,h3,(Br _).2 ⟨fun p hp=> ?_,?_⟩⟩
  ·rw [h4] at hp;exact k4 p (List.mem_filter.1 hp).1
  ·rw [h4];exact k5.sublist List.filter_sublist
 ·refine NV ?_ g2
  unfold mH;clear hm g1 g2 g3 h
  induction l with
  |nil=>simp
  |cons o r ih=>
   rw [List.filterMap_cons];unfold jV at ih⊢;by_cases hk:o.paths.filter (fun p=>(bH w p).isSome)= []
   ·simp only [hk,if_true];exact .cons _ ih
   ·simp only [hk,if_false,List.map_cons];exact ih.cons₂ _
 ·obtain⟨o',h1,h2,h3,h4⟩:=hm o ho
  rw [h4] at hp;have:=(List.mem_filter.1 hp).2;intro e;rw [e] at this
  cases this
 ·obtain⟨o',h1,h2,h3,h4⟩:=hm o ho
  rw [h4];exact Nat.le_trans (Ey _ _) (h.small o' h1)
theorem aeD {v:V} {l:List Ow} {who:ah} {want w:V} {f:Bool} {m:List Ow} {c:List (ah×ah)} (h:ju v l who want f=(w,m,c,0)) {o:Ow} (ho:o∈eW v want who l) {p:ah} (hp:p∈o.paths) {x:V} (hx:bH v p=some x):bH w p=some x:=by
 obtain⟨hb,hc,rfl,rfl,hwf,-,-⟩:=IB h;obtain⟨xL,zO,-,-,hgl,-⟩:=Ev hb;obtain⟨o',ho',Bz,mC,hpw,-⟩:=vD ho;obtain⟨hpo,hw⟩:=hpw p hp;obtain⟨r,hr,aeE⟩:=I5 hgl ho' hpo;have Ur:∀z:V,bH z p=bh r z:=fun z=>by unfold bH bL;rw [hr];rfl
 rw [Ur] at hx⊢;unfold eT;obtain⟨hds,-⟩:=BA want.leaves (eW v want who l) (lK who l) (gG xL);refine Ir want.leaves hds (fun _ h=>h) (fun p' hp'=> ?_) (Qk _ _ _ (gG xL) (fun p' hp' gX=> ?_) hx)
 ·obtain⟨-,-,s,-,hs,-⟩:=qU hp'
  have hnd':bL p'=s:=by unfold bL;rw [hs];rfl
  by_cases he:p'=p
  ·refine .inr fun z hz xE=> ?_
   subst he;rw [hr] at hs
   cases hs
   obtain⟨now,Mx,aeF⟩:=(J6 want.leaves hw).2 hp';rw [Ur] at Mx;rw [hx] at Mx
   cases Mx
   unfold iQ;rw [hnd',El r aeE hz xE aeF];exact xE
  ·exact .inl (by rw [hnd'];exact ZN hw hp' hs hr he)
 ·obtain⟨o2,ho2,aeG⟩:=N9 hp'
  obtain⟨s,hs,-⟩:=I5 hgl ho2 aeG;have hnd':bL p'=s:=by unfold bL;rw [hs];rfl
  rw [hnd'];have DL:sI p' p=false:=by unfold pU at gX;have:=List.any_eq_false.1 gX o ho;simp only [Bool.not_eq_true] at this;have:=List.any_eq_false.1 this p hp;simpa using this
  unfold sI at DL;simp only [Bool.or_eq_false_iff,decide_eq_false_iff_not] at DL;exact Qj hs hr DL.1.1 DL.1.2 DL.2
theorem mR.apply {v:V} {l:List Ow} {who:ah} {want w:V} {f:Bool} {m:List Ow} {c:List (ah×ah)} (h:mR v l) (ha:ju v l who want f=(w,m,c,0)):mR w m:=by
 obtain⟨-,hg,hwf,Ex,-⟩:=WJ ha;have ha':=ha;obtain⟨hb,hc,rfl,rfl,-,-,-⟩:=IB ha;obtain⟨xL,zO,pO,sH,hgl,hwho⟩:=Ev hb;obtain⟨hds,-⟩:=BA want.leaves (eW v want who l) (lK who l) (gG xL);refine⟨hg,fun o ho p hp=> ?_,fun o ho=> ?_⟩
 ·rcases Et ho with ho|⟨rfl,-⟩
  ·obtain⟨o',ho',-,-,hpw,-⟩:=vD ho
   have h1:=h.there o' ho' p (hpw p hp).1
   cases hx:bH v p with
   |none=>exact absurd hx h1
   |some x=>rw [aeD ha' ho hp hx];simp
  ·obtain⟨y,hy,-⟩:=Iu (want:=want) want.leaves hp (fun _ h=>h) hds
   intro e;unfold eT at e;rw [hy] at e
   cases e
 ·rcases Et ho with ho|⟨rfl,-⟩
  ·obtain⟨o',ho',-,-,-,-,h6⟩:=vD ho
   rw [h6];exact Nat.le_trans (Ey _ _) (h.small o' ho')
  ·have h3:=IC (B:=2000) want.leaves (fun p hp=>Ez hp)
   have h4:=BF want;have h5:want.leaves.length*2001<=120*2001:=Nat.mul_le_mul_right _ h4;simp only;omega
theorem mR.Us {v w:V} {l m:List Ow} {a:Ac} (h:mR v l) (hc:cR v l a=(w,m,0)):mR w m:=by
 unfold cR at hc
 split at hc
 ·rename_i hne
  simp only [Prod.mk.injEq] at hc;exact absurd hc.2.2 hne
 ·split at hc
  ·simp only [Prod.mk.injEq] at hc
   exact h.apply (f:=a.force) (who:=a.who) (want:=(ek a.body.data.toList).1) (c:=(ju v l a.who (ek a.body.data.toList).1 a.force).2.2.1) (by rw [<-hc.1,<-hc.2.1,<-hc.2.2])
  ·simp only [Prod.mk.injEq] at hc
   obtain⟨rfl,rfl,-⟩:=hc;exact h.keep
structure wY (last:Int) (t:Th):Prop where
 name:gH t.name=true
 spec:dD t.v≠none
 st:iG t.st=true
 cm:t.st.cm=mN (dD t.v)
 ows:mR t.v t.ows
 gen:1<=t.gen/\t.gen<=t.ver/\t.ver<=last
theorem wY.mono {a b:Int} {t:Th} (h:wY a t) (hab:a<=b):wY b t:=⟨h.name,h.spec,h.st,h.cm,h.ows,h.gen.1,h.gen.2.1,Int.le_trans h.gen.2.2 hab⟩
theorem Ut (im:ah) (xs:List (Int×Int)) (s:St) (now o:Int) (h:(fy im xs s now o).2=0):fy im xs s now o=((fy im xs s now o).1,0):=by rw [<-h]
theorem wY.ord {last:Int} {t:Th} (h:wY last t) (time o:Int):wY last (t.ord time o):=by
 unfold Th.ord
 split
 ·rename_i h0
  have h1:=Ut _ _ _ _ _ h0;exact⟨h.name,h.spec,LI h1,(Uu h1).2.1,h.ows,h.gen⟩
 ·exact h
theorem Uv {last time:Int} {t:Th} {v:V} {ows:List Ow} (hn:gH t.name=true) (hst:iG t.st=true) (hg:0<=t.gen/\t.gen<=t.ver/\t.ver<=last) (h0:t.ver=0\/1<=t.gen) (hs:dD v≠none) (ho:mR v ows) (t0:0<=time) (t1:time<=1099511627776):
 wY (if t.turn v ows then last+1 else last) (t.kept v ows time last):=by
 obtain⟨hG,hf,h5⟩:=My hs;have h1:=Ut (mN (dD v)) (ia (dD v)) t.st time 0 (ac4 hG hst t0 t1 (by decide) (by decide));refine⟨hn,hs,LI h1,(Uu h1).2.1,ho,?_⟩;unfold Th.kept;dsimp only;have ht:t.other v=true->t.turn v ows=true:=fun e=>by unfold Th.turn;rw [e];rfl
 have hv:t.other v=false->t.ver≠0:=fun e=>by unfold Th.other at e;simp only [Bool.or_eq_false_iff,decide_eq_false_iff_not] at e;exact e.1
 cases h2:t.other v<;>cases h3:t.turn v ows
 ·have:=hv h2;simp;omega
 ·have:=hv h2;simp;omega
 ·rw [ht h2] at h3;cases h3
 ·simp;omega
structure Ok (s:Sv):Prop where
 len:s.az.length<=8
 eG:cG (s.az.map Th.name)
 az:∀t∈s.az,wY s.last t
 last:0<=s.last/\s.last<=s.acts
 acts:s.acts<=300
 time:0<=s.time/\s.time<=1099511627776
theorem Ok.new:Ok dO:=⟨by simp [dO],by simp [dO],fun t h=>by simp [dO] at h,by simp [dO],by simp [dO],by simp [dO]⟩
theorem Ok.inv {s:Sv} (h:Ok s):Inv s:=by
 obtain⟨h1,h2,h3,h4,h5,h6⟩:=h;exact⟨h1,h2,fun t ht=>⟨pL (My (h3 t ht).spec).2.1,(h3 t ht).ows.size,by have:=(h3 t ht).gen;omega,by have:=(h3 t ht).gen;omega⟩,by omega,h6,by omega⟩
theorem Uw {l:List Th} {k:Nat} {t:Th} (hk:k<l.length) (h:t.name=l[k].name):(l.set k t).map Th.name=l.map Th.name:=by
 rw [List.map_set,h];refine List.ext_getElem (by simp) fun i h1 h2=> ?_;rw [List.getElem_set]
 split
 ·rename_i e;subst e;simp
 ·rfl
theorem Mz (t:Th) (time o:Int):(t.ord time o).name=t.name:=by unfold Th.ord;split<;>rfl
theorem mem_set {l:List Th} {k:Nat} {t u:Th} (h:u∈l.set k t):u=t\/u∈l:=(List.mem_or_eq_of_mem_set h).symm
theorem Ok.step {s s':Sv} {a:Ac} {r:Rp} (h:Ok s) (hs:Step s a s' r):Ok s':=by
 obtain⟨h1,h2,h3,h4,h5,h6⟩:=h
 cases hs with
 |full h=>exact⟨h1,h2,h3,h4,h5,h6⟩
 |no e h he=>exact⟨h1,h2,h3,by simp only [Sv.on];omega,by simp only [Sv.on];omega,h6⟩
 |get h hk k hl hn hp=>exact⟨h1,h2,h3,by simp only [Sv.on];omega,by simp only [Sv.on];omega,h6⟩
 |tick h hk g1 g2=>
  refine⟨by simpa using h1,?_,fun t ht=> ?_,by simp only;omega,by simp only;omega,by simp only;omega⟩
  ·rw [List.map_map,show (Th.name∘fun t=>t.ord (s.time+a.n) 0)=Th.name from funext fun t=>Mz t _ _]
   exact h2
  ·obtain⟨u,hu,rfl⟩:=List.mem_map.1 ht
   exact(h3 u hu).ord _ _
 |del h hk k hl hn=>
  refine⟨by simp only [List.length_append,List.length_take,List.length_drop];omega,?_,fun t ht=> ?_,by simp only;omega,by simp only;omega,h6⟩
  ·have:=OO h2 k
   rwa [<-List.map_take,<-List.map_drop,<-List.map_append] at this
  ·rcases List.mem_append.1 ht with ht|ht
   ·exact h3 t (List.mem_of_mem_take ht)
   ·exact h3 t (List.mem_of_mem_drop ht)
 |ord h hk k hl hn h0=>
  refine⟨by simpa using h1,?_,fun t ht=> ?_,by simp only;omega,by simp only;omega,h6⟩
  ·show cG ((s.az.set k _).map Th.name)
   rw [Uw hl (Mz _ _ _)];exact h2
  ·rcases mem_set ht with rfl|ht
   ·exact(h3 _ (List.getElem_mem hl)).ord _ _
   ·exact h3 t ht
 |keep h hk k hl hn hv v ows hc hs=>
  have hT:=h3 _ (List.getElem_mem hl);have hb:s.last<= (if s.az[k].turn v ows then s.last+1 else s.last):=by split<;>omega
  refine⟨by simpa using h1,?_,fun t ht=> ?_,?_,by simp only;omega,h6⟩
  ·show cG ((s.az.set k _).map Th.name)
   rw [Uw (t:=s.az[k].kept v ows s.time s.last) hl rfl];exact h2
  ·rcases mem_set ht with rfl|ht
   ·exact Uv hT.name hT.st (by have:=hT.gen;omega) (.inr hT.gen.1) hs (hT.ows.Us hc) h6.1 h6.2
   ·exact(h3 t ht).mono hb
  ·simp only
   split<;>omega
 |Ux h hk hh hn hl v ows hc hs=>
  obtain⟨hG,hf,FX⟩:=My hs;obtain⟨hst,-⟩:=aeH hG;have hlen:=L6 s.az a.name;refine⟨by simp only [List.length_append,List.length_take,List.length_cons,List.length_drop];omega,?_,fun t ht=> ?_,by simp only;omega,by simp only;omega,h6⟩
  ·have:=Bx h2 hh
   show cG (List.map Th.name _);rw [List.map_append,List.map_cons,List.map_take,List.map_drop];exact this
  ·have hkk:=Uv (t:=oW a.name v) (last:=s.last) (ows:=ows) hn hst ⟨Int.le_refl 0,Int.le_refl 0,h4.1⟩ (.inl rfl) hs ((mR.nil V.bV).Us hc) h6.1 h6.2
   rw [show (oW a.name v).turn v ows=true from rfl,if_pos rfl] at hkk;rcases List.mem_append.1 ht with ht|ht
   ·exact(h3 t (List.mem_of_mem_take ht)).mono (by simp only;omega)
   ·rcases List.mem_cons.1 ht with rfl|ht
    ·exact hkk
    ·exact(h3 t (List.mem_of_mem_drop ht)).mono (by simp only;omega)
theorem Ok.so {s:Sv} (h:Ok s) (a:Ac):Step s a (ck s a).1 (ck s a).2:=aeI s a h.eG fun t ht=>(h.az t ht).name
theorem Ok.next {s:Sv} (h:Ok s) (a:Ac):Ok (ck s a).1:=h.step (h.so a)
theorem Ok.Uc {s:Sv} (h:Ok s):∀(l:List Ac),Ok (kG s l):=fun l=>by
 unfold kG
 induction l generalizing s with
 |nil=>exact h
 |cons a r ih=>exact ih (h.next a)
def zf (l:List Th) (name:ah):Option Th:=l.find? fun t=>decide (t.name=name)
theorem ae3 {l:List Th} {name:ah} {t:Th} (h:zf l name=some t):t∈l/\t.name=name:=
 ⟨List.mem_of_find?_eq_some h,by have:=List.find?_some h;simpa using this⟩
theorem ae4 {l:List Th} {name:ah} (h:zf l name=none):∀t∈l,t.name≠name:=fun t ht=>by
 have:=List.find?_eq_none.1 h t ht;simpa using this
theorem ae5 {l:List Th} (hr:cG (l.map Th.name)) {t u:Th} (ht:t∈l) (hu:u∈l) (h:t.name=u.name):t=u:=by
 obtain⟨i,hi,rfl⟩:=List.getElem_of_mem ht;obtain⟨j,hj,rfl⟩:=List.getElem_of_mem hu;obtain rfl:i=j:=UZ hr hi hj h;rfl
theorem MG {l:List Th} (hr:cG (l.map Th.name)) {t:Th} (ht:t∈l):zf l t.name=some t:=by
 cases h:zf l t.name with
 |none=>exact absurd rfl (ae4 h t ht)
 |some u=>obtain⟨h1,h2⟩:=ae3 h;rw [ae5 hr h1 ht h2]
theorem ae6 {l:List Th} {name:ah} (h:∀t∈l,t.name≠name):zf l name=none:=
 List.find?_eq_none.2 fun t ht=>by simpa using h t ht
inductive From (s:Sv) (a:Ac) (t:Th):Prop
 |same (h:t∈s.az)
 |ord (u:Th) (h:u∈s.az) (time o:Int) (e:t=u.ord time o)
 |kept (u:Th) (h:u∈s.az) (v:V) (ows:List Ow) (hs:dD v≠none) (e:t=u.kept v ows s.time s.last)
 |new (hh:gj s.az a.name=false) (v:V) (ows:List Ow) (hs:dD v≠none) (e:t=(oW a.name v).kept v ows s.time s.last)
theorem From.there {s:Sv} {a:Ac} {t:Th} (hr:cG (s.az.map Th.name)) (h:From s a t):
 (zf s.az t.name=none/\t.gen=1/\t.ver=s.last+1)\/
 ∃u,zf s.az t.name=some u/\ ((t.v=u.v/\t.ows=u.ows/\t.ver=u.ver/\t.gen=u.gen)\/ (∃v ows,dD v≠none/\t=u.kept v ows s.time s.last)):=by
 cases h with
 |same h=>exact .inr ⟨t,MG hr h, .inl ⟨rfl,rfl,rfl,rfl⟩⟩
 |ord u h time o e=>
  subst e;refine .inr ⟨u,by rw [Mz];exact MG hr h, .inl ?_⟩;unfold Th.ord
  split<;>exact⟨rfl,rfl,rfl,rfl⟩
 |kept u h v ows hs e=>subst e;exact .inr ⟨u,MG hr h, .inr ⟨v,ows,hs,rfl⟩⟩
 |new hh v ows hs e=>
  subst e;refine .inl ⟨ae6 (UY hr hh),rfl,rfl⟩
end Go.Proofs.YtlcebdaghmdkeabGreatDoor
