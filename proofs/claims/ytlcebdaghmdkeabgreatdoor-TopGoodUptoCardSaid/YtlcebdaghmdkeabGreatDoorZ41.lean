import Derived.Test.YtlcebdaghmdkeabGreatDoorZ37
import Derived.Test.YtlcebdaghmdkeabGreatDoorZ38
import Derived.Test.YtlcebdaghmdkeabGreatDoorZ40
set_option linter.all false
set_option maxRecDepth 100000
set_option maxHeartbeats 64000000
namespace Go.Proofs.YtlcebdaghmdkeabGreatDoor
open Go.Proofs.Tryz
open Go.RowKit
attribute [local go_sem↓] Go.wp_at_zero Go.wp_at_succ
theorem ey.ins {w wq wi:World} {P Q:az} {r g' k:Nat} {s:Sv} {v v':Value} {xs:List Value} (h:ey w P r s v xs) (hx:Ext w wq) (NN:∀b,P b->b<w.heap.size->Q b) (hg:wq.heap.size<=g'->Q g') (hv':v'.ownBlock=some g') {t:Th} (ht:t.v=V.cd) (Vq:t.ows= [])
 (hown:wi.ownsRow 0 41 15 v' (s.ax.length+1) (xs.take (k*15)++t.cells none 0 none 0 none 0++xs.drop (k*15))) (hk:k<=s.ax.length) (hgr:wq.grownBy wi v.ownBlock) (hat:v.ownBlock=some g'\/wq.heap.size<=g'):
 ey (wi.setCell ⟨r,0,none⟩ v') Q r {s with ax:=s.ax.take k++t::s.ax.drop k} v' (xs.take (k*15)++t.cells none 0 none 0 none 0++xs.drop (k*15)):=by
 have hrow:∀g,v.ownBlock=some g->P g/\g≠r:=h.row;have hlr:=h.box.lt;have hxs:=hx.size;have hg':Q g'/\g'≠r:=by
  rcases hat with hat|hat
  ·exact⟨NN _ (hrow _ hat).1 (h.own.lt _ hat).2,(hrow _ hat).2⟩
  ·exact⟨hg hat,by omega⟩
 have hB:af (wi.setCell ⟨r,0,none⟩ v') r #[v', .int .i64 s.time, .int .i64 s.last, .int .i64 s.acts] 74:=
  ((af.ext hx h.box).grown hgr (fun e=>(hrow r e.symm).2 rfl)).set 0 v'
 have hk1:Kept (fun b=>P b/\b≠r/\v.ownBlock≠some b) w (wi.setCell ⟨r,0,none⟩ v'):=fun b hb hl=>by rw [Below.heap_setCell _ _ _ _ (by exact hb.2.1),hgr.block b (by omega) (fun e=>hb.2.2 e.symm),Below.block hx b hl]
 refine⟨hB,NN _ h.pr hlr,?_,fun g hg=>by rw [hv'] at hg;cases hg;exact hg',?_⟩
 ·have:(s.ax.take k++t::s.ax.drop k).length=s.ax.length+1:=by simp;omega
  show World.ownsRow _ 0 _ 15 v' (s.ax.take k++t::s.ax.drop k).length _;rw [this];exact dX hown (fun b hb he=>by rw [hv'] at he;cases he;rw [Below.heap_setCell _ _ _ _ (by exact hg'.2)])
 ·refine(h.cells.keep hk1 (fun b hb hl=>⟨NN _ hb.1 hl,hb.2.1,fun e=>(by
   rw [hv'] at e;cases e;rcases hat with hat|hat
   ·exact hb.2.2 hat
   ·omega)⟩)).ins k k ⟨?_,?_,?_⟩
  ·rw [ht];exact(V.dz ..).2 ⟨aM.nil,aM.nil, .inl rfl, .inl rfl⟩
  ·rw [Vq];exact aM.nil
  ·rw [Vq];exact .inl rfl
theorem aT.over {T U:az} {a b c:World} (h:aT T a b) (k:aT U b c) (hU:∀x,T x->x<a.heap.size->U x):aT T a c:=
 ⟨k.os.trans h.os,k.tape.trans h.tape,k.output.trans h.output,Nat.le_trans h.size k.size,fun i hi hl=>(k.block i (hU i hi hl) (Nat.lt_of_lt_of_le hl h.size)).trans (h.block i hi hl)⟩
theorem afj {α:Type} (l:List α) (k:Nat) (x:α) (hk:k<=l.length):∃h,(l.take k++x::l.drop k)[k]'h=x:=by
 have hl:(l.take k).length=k:=by simp;omega
 exact List.getElem?_eq_some_iff.1 (by rw [List.getElem?_append_right (by omega),hl,Nat.sub_self];rfl)
theorem afk {v:V} {l:List Ow} {who:ah} {want:V} {f:Bool} (hv:v.size<=14640):(ik v l who want f).1.size<=14640:=by
 unfold ik
 split
 ·exact hv
 ·split
  ·exact hv
  ·split
   ·exact hv
   ·rename_i h
    exact oV (by cases hf:(eZ v l who want).fine with|true=>rfl|false=>exact absurd (.inl hf) h)
theorem UU {v:V} {ows:List Ow} {a:Ac} (hv:v.size<=14640):(cL v ows a).1.size<=14640:=by
 unfold cL
 split
 ·exact hv
 ·split
  ·exact afk hv
  ·exact U1 hv (UL _)
theorem UW {v:V} {ows:List Ow} {a:Ac} {B:Nat} (hv:cw ows<=B):cw (cL v ows a).2.1<=B+250000:=by
 unfold cL
 split
 ·exact Nat.le_trans hv (Nat.le_add_right ..)
 ·split
  ·unfold ik
   split
   ·simp only;omega
   ·rename_i hf
    have hw:=(AP (by simpa using hf)).2.2.2.2.2
    split
    ·simp only;omega
    ·split
     ·simp only;omega
     ·have:=Yn (v:=v) (l:=ows) (who:=a.who) (want:=(dQ a.body.data.toList).1) hw
      simp only;omega
  ·have:=PJ (fun p=>(bG (oN v (dQ a.body.data.toList).1 a.k).1 p).isSome) ows
   show cw (np _ ows)<=_;unfold np;omega
theorem UM (P:az) (r:Nat) (s:Sv) (a:Ac) (k:Nat) (there:Bool) (w:World) (fR:Sat w P r s) (hk:k<=s.ax.length) (hb:s.ax.length<=1000000) (hl0:0<=s.last) (ay:s.last<=1099511627776)
 (hbz:a.body.size<=1048576) (hwz:a.who.size<=1048576) (hl:cM w) (hn:rN w):
 Calls prog 54 #[.pointer (some ⟨r,0,none⟩), .agg #[.int .i64 a.k, .string a.name, .string a.who, .string a.body, .int .i64 a.ver, .int .i64 a.n, .int .i64 a.ord, .bool a.force], .int .i64 k, .bool there] w (Ik P r (rz s a k there) w):=by
 obtain⟨v,xs,h⟩:=fR;have ag:=h.box;have hlr:=ag.lt;have fx:=ae h;obtain⟨va,vc,hv,hok⟩:=fT h.own;have dN:=ae hok;subst hv;clear h hok
 cases there with
 |true=>
  go_enter func54,ntmps54;go_wp2_with fail;refine aF (h:= ?_);exact⟨rfl,Kept.of (w:=w) (T:=P) fx.out Xt,(show Ext w _ from Xt).upd _⟩
 |false=>
  by_cases h8:8<=s.ax.length
  ·have Hr:=ae (show rz s a k false=(s, .no 10) by unfold rz;rw [if_neg (by simp),if_pos h8])
   obtain⟨hc0,aw,hl0⟩:=ag.see;go_enter func54,ntmps54;go_wp2_with fail;refine aF (h:= ?_);rw [Hr.out];exact⟨rfl,Kept.of (w:=w) (T:=P) fx.out Xt,(show Ext w _ from Xt).upd _⟩
  ·obtain⟨⟨u,m,ce⟩,hch⟩:∃z,cL V.cd [] a=z:=⟨_,rfl⟩
   have Hr:=ae (show rz s a k false=if ce≠0 then(s, .no ce) else if dx u=none then(s, .no 1) else pK {s with ax:=s.ax.take k++pM a.name u::s.ax.drop k} k (pM a.name u) u m by unfold rz;rw [if_neg (by simp),if_neg h8,hch]);have mo:=ae hch;clear hch;have iN:=ag;obtain⟨hc0,aw,hl0⟩:=ag.see;go_enter func54,ntmps54;go_upto_region 6 with fail
   refine aI (R:=fun wx=>qq wx w.heap.size a/\jm wx (w.heap.size+1)/\af wx (w.heap.size+1+1) #[.string a.name, .int .i64 5, .int .i64 0, .string ⟨#[]⟩, .slice none 0 0, .slice none 0 0, .slice none 0 0, .int .i64 0, .int .i64 0, .string ⟨#[]⟩, .string ⟨#[]⟩, .int .i64 0, .int .i64 0, .int .i64 0, .int .i64 0] 41/\Ext w wx) ⟨aQ,aQ,aQ,Xt⟩ ?_;clear ag hc0 aw hl0;rintro wa ⟨hA,hR,hT,aH⟩;have Nt:=hT.lt
   have Hcg:=ae (fun(w':World) (h1:cM w') (h2:rN w')=>show Calls prog 58 #[.agg #[.string a.name, .int .i64 5, .int .i64 0, .string ⟨#[]⟩, .slice none 0 0, .slice none 0 0, .slice none 0 0, .int .i64 0, .int .i64 0, .string ⟨#[]⟩, .string ⟨#[]⟩, .int .i64 0, .int .i64 0, .int .i64 0, .int .i64 0], .agg #[.int .i64 a.k, .string a.name, .string a.who, .string a.body, .int .i64 a.ver, .int .i64 a.n, .int .i64 a.ord, .bool a.force]] w' (UJ (fun _=>False) (u,m,ce) w') from by
    rw [<-mo.out]
    exact UX (⟨a.name,V.cd, [],0,0,⟨⟨#[]⟩,⟨#[]⟩,0,0,0,0⟩⟩:Th) none 0 none 0 none 0 a (fun _=>False) w' ((V.dz ..).2 ⟨aM.nil,aM.nil, .inl rfl, .inl rfl⟩) aM.nil (.inl rfl) (show V.cd.size<=14640 by decide+kernel) (show cw []<=2097152 by decide) hbz hwz h1 h2)
   have mQ:u.size<=14640:=by have:=UU (v:=V.cd) (ows:= []) (a:=a) (by decide+kernel);rw [mo.out] at this;exact this
   have vA:cw m<=2097152:=by have:=UW (v:=V.cd) (ows:= []) (a:=a) (B:=0) (by decide);rw [mo.out] at this;simp only at this;omega
   obtain⟨jP,jQ,hlA⟩:=hA.see;obtain⟨iB,iC,fE⟩:=hT.see;go_wp2_with fail;(refine(Hcg.out _ (hl.ext Xt) (hn.ext Xt)).mono ?_);rintro e w1 ⟨k2,c2,l2,d2,a5,c5,rfl,bN,il,xW,h1⟩;have bE:=ae (show u.In w1 (fun q=>w.heap.size+3<=q) k2 c2 l2 d2 from bN.mono fun q h _=>by rcases h with h|h;exact h.elim;(try simp at h);omega);have Ip:=ae (show cx w1 (fun q=>w.heap.size+3<=q) m a5 from xW.mono fun q h _=>by rcases h with h|h;exact h.elim;(try simp at h);omega);have EM:=ae il;have hx1:Ext w w1:=Xt;have hA:=af.ext h1 hA;have hR:=af.ext h1 hR;have hT:=af.ext h1 hT;have hz1:=hT.lt;clear bN il xW h1 aH jP jQ hlA iB iC fE;go_upto_region 7 with fail
   refine aI (R:=fun wx=>qq wx w.heap.size a/\jm wx (w.heap.size+1)/\af wx (w.heap.size+1+1) #[.string a.name, .int .i64 5, .int .i64 0, .string ⟨#[]⟩, .slice none 0 0, .slice none 0 0, .slice none 0 0, .int .i64 0, .int .i64 0, .string ⟨#[]⟩, .string ⟨#[]⟩, .int .i64 0, .int .i64 0, .int .i64 0, .int .i64 0] 41/\aD wx w1.heap.size u k2 c2 l2 d2/\u.In wx (fun q=>w.heap.size+3<=q) k2 c2 l2 d2/\cx wx (fun q=>w.heap.size+3<=q) m a5/\Ext w wx) ⟨aQ,aQ,aQ,aQ,bE.out.ext Xt,Ip.out.ext Xt,Xt⟩ ?_;clear hA hR hT bE Ip hx1;rintro wb ⟨hA,hR,hT,hU,tC,yb,aO⟩;have nD:=ae tC;have rD:=ae yb;have hzb:=hU.lt;clear tC yb;by_cases h0:ce=0
   ·subst h0
    have hc0:((0:Int) !=0)=false:=rfl;have Hr:=ae (Hr.out.trans (if_neg (by simp)));obtain⟨xX,xY,pL⟩:=hU.see;go_wp2_with fail;obtain⟨sp,hsp⟩:∃sp,dx u=sp:=⟨_,rfl⟩;have rC:=ae hsp;have hxl:(gZ sp).length<=9223372036854775807:=by have:=NF u;rw [hsp] at this;omega
    clear hsp;(refine(Ig u k2 c2 l2 d2 _ _ (by omega) (nD.out.ext Xt)).mono ?_);rintro e w2 zX;rw [rC.out] at zX;obtain⟨a1,n1,c1,rfl,zY,pC,-,h2⟩:=ux.val zX;have hx2:Ext w w2:=Xt;have hA:=af.ext (w:=wb) (w':=w2) Xt hA;have hR:=af.ext (w:=wb) (w':=w2) Xt hR;have hT:=af.ext (w:=wb) (w':=w2) Xt hT;have hU:=af.ext (w:=wb) (w':=w2) Xt hU;have hzu:=hU.lt;have nD:=ae (V.In.ext (w:=wb) (w':=w2) nD.out Xt);have rD:=ae (cx.ext (w:=wb) (w':=w2) rD.out Xt);clear zX h2 aO xX xY pL;go_upto_region 10 with fail
    refine aI (R:=fun wx=>qq wx w.heap.size a/\jm wx (w.heap.size+1)/\af wx (w.heap.size+1+1) #[.string a.name, .int .i64 5, .int .i64 0, .string ⟨#[]⟩, .slice none 0 0, .slice none 0 0, .slice none 0 0, .int .i64 0, .int .i64 0, .string ⟨#[]⟩, .string ⟨#[]⟩, .int .i64 0, .int .i64 0, .int .i64 0, .int .i64 0] 41/\af wx w2.heap.size #[.string (mD sp), .slice a1 n1 c1] 50/\StepsIn wx a1 (gZ sp)/\aD wx w1.heap.size u k2 c2 l2 d2/\u.In wx (fun q=>w.heap.size+3<=q) k2 c2 l2 d2/\cx wx (fun q=>w.heap.size+3<=q) m a5/\Ext w wx) ⟨aQ,aQ,aQ,aQ,pC.ext Xt,aQ,nD.out.ext Xt,rD.out.ext Xt,Xt⟩ ?_;clear hA hR hT hU nD rD pC hx2;rintro wc ⟨hA,hR,hT,hS,hst,hU,tC,yb,fh⟩;have nD:=ae tC;have rD:=ae yb;have aP:=ae hst;have o9:=hS.lt;clear tC yb hst
    cases sp with
    |none=>
     have he:(xP none !=0)=true:=rfl;have iO:=ae (Hr.out.trans (if_pos rC.out));have hup:aT (fun b=>¬P b) w wc:=fh.upd _;obtain⟨hcR,jO,eU⟩:=hR.see;go_wp2_with fail;refine aF (h:= ?_);rw [iO.out];exact⟨rfl,Kept.of (w:=w) (T:=P) fx.out Xt,fy⟩
    |some p=>
     obtain⟨im,sx⟩:=p;have he:(xP (some (im,sx)) !=0)=false:=rfl;obtain⟨er,EP⟩:∃er,xP (some (im,sx))=er:=⟨_,rfl⟩;rw [EP] at he⊢;clear EP;have aP:=ae (show StepsIn wc a1 sx from aP.out);have hxl:sx.length<=9223372036854775807:=hxl;have zY:sx.length=n1:=zY;have hS:af wc w2.heap.size #[.string im, .slice a1 n1 c1] 50:=hS;obtain⟨x0,hx0⟩:∃x0,xQ im sx=x0:=⟨_,rfl⟩
     have Hr:=ae (show rz s a k false=pK {s with ax:=s.ax.take k++(⟨a.name,V.cd, [],0,0,x0⟩:Th)::s.ax.drop k} k ⟨a.name,V.cd, [],0,0,x0⟩ u m by
      rw [Hr.out,if_neg (by rw [rC.out];simp)];unfold pM;rw [rC.out]
      simp only [mD,gZ,hx0])
     have zC:=ae hx0;clear hx0 rC;obtain⟨hcS,hfS,hlS⟩:=hS.see;go_wp2_with fail;(refine(ad9 im a1 n1 c1 sx _ hxl (aP.out.ext Xt) zY.symm).mono ?_);unfold Ug;rw [zC.out];rintro e w3 ⟨rfl,h3⟩;have hx3:Ext w w3:=Xt;have hR:=af.ext (w:=wc) (w':=w3) Xt hR;have hT:=af.ext (w:=wc) (w':=w3) Xt hT;have hU:=af.ext (w:=wc) (w':=w3) Xt hU;have nD:=ae (V.In.ext (w:=wc) (w':=w3) nD.out Xt);have rD:=ae (cx.ext (w:=wc) (w':=w3) rD.out Xt);have fE:=hT.lt;clear h3 fh hcS hfS hlS hA hS aP;obtain⟨iB,iC,fE⟩:=hT.see;go_upto_region 13 with fail
     refine aI (R:=fun wx=>jm wx (w.heap.size+1)/\af wx (w.heap.size+1+1) #[.string a.name, .int .i64 5, .int .i64 0, .string ⟨#[]⟩, .slice none 0 0, .slice none 0 0, .slice none 0 0, .int .i64 0, .int .i64 0, .string x0.sb, .string x0.cm, .int .i64 x0.ph, .int .i64 x0.sp, .int .i64 x0.wt, .int .i64 x0.si] 41/\aD wx w1.heap.size u k2 c2 l2 d2/\u.In wx (fun q=>w.heap.size+3<=q) k2 c2 l2 d2/\cx wx (fun q=>w.heap.size+3<=q) m a5/\Ext w wx) ⟨aQ,aQ,aQ,nD.out.keep (Held.kept (T:=fun q=>w.heap.size+3<=q) aC) (fun _ h _=>h),rD.out.keep (Held.kept (T:=fun q=>w.heap.size+3<=q) aC) (fun _ h _=>h),Xt⟩ ?_;clear hR hT hU nD rD hx3 iB iC fE;rintro wd ⟨hR,hT,hU,tC,yb,dG⟩;have nD:=ae tC;have rD:=ae yb;clear tC yb;have q7:=af.ext dG iN;have fE:=hT.lt;have pL:=hU.lt;have BN:∀q,(Value.slice va s.ax.length vc).ownBlock=some q->q<w.heap.size/\q≠r:=fun q hq=>⟨(fx.out.own.lt q hq).2,(fx.out.row q hq).2⟩;have z6:=ae BN
     have aq:∀w',Held (fun b=>(Value.slice va s.ax.length vc).ownBlock≠some b) wd w'-> (w'.cell? ⟨r,0,none⟩=some (.slice va s.ax.length vc)/\w'.cell? ⟨w.heap.size+1+1,0,none⟩=some (.string a.name)/\w'.cell? ⟨w.heap.size+1+1,1,none⟩=some (.int .i64 5)/\w'.cell? ⟨w.heap.size+1+1,2,none⟩=some (.int .i64 0)/\w'.cell? ⟨w.heap.size+1+1,3,none⟩=some (.string ⟨#[]⟩)/\w'.cell? ⟨w.heap.size+1+1,4,none⟩=some (.slice none 0 0)/\w'.cell? ⟨w.heap.size+1+1,5,none⟩=some (.slice none 0 0)/\w'.cell? ⟨w.heap.size+1+1,6,none⟩=some (.slice none 0 0)/\w'.cell? ⟨w.heap.size+1+1,7,none⟩=some (.int .i64 0)/\w'.cell? ⟨w.heap.size+1+1,8,none⟩=some (.int .i64 0)/\w'.cell? ⟨w.heap.size+1+1,9,none⟩=some (.string x0.sb)/\w'.cell? ⟨w.heap.size+1+1,10,none⟩=some (.string x0.cm)/\w'.cell? ⟨w.heap.size+1+1,11,none⟩=some (.int .i64 x0.ph)/\w'.cell? ⟨w.heap.size+1+1,12,none⟩=some (.int .i64 x0.sp)/\w'.cell? ⟨w.heap.size+1+1,13,none⟩=some (.int .i64 x0.wt)/\w'.cell? ⟨w.heap.size+1+1,14,none⟩=some (.int .i64 x0.si)):=
      fun w' e=>by have h:=af.held e hT (fun he=>by have:=(z6.out _ he).1;omega);have hr:=af.held e q7 (fun he=>(z6.out _ he).2 rfl);exact⟨hr.cells 0,h.cells 0,h.cells 1,h.cells 2,h.cells 3,h.cells 4,h.cells 5,h.cells 6,h.cells 7,h.cells 8,h.cells 9,h.cells 10,h.cells 11,h.cells 12,h.cells 13,h.cells 14⟩
     clear BN;refine fF aq (c:=11) (by kernel_rfl) ?_;refine aG 0 [11] (hS:=aq _ aC) (h:= ?_);refine aG 1 [11] (hS:=aq _ aC) (h:= ?_);refine aG 2 [11] (hS:=aq _ aC) (h:= ?_);refine aG 3 [11] (hS:=aq _ aC) (h:= ?_);refine aG 4 [11] (hS:=aq _ aC) (h:= ?_);refine aG 5 [11] (hS:=aq _ aC) (h:= ?_);refine aG 6 [11] (hS:=aq _ aC) (h:= ?_);(try simp only [rl]);refine aK 7 (h:=fun K hK=> ?_);(try simp only [rl]);go_simp;refine hK.out _ _ (fun _=>aq _ aC) ?_;clear hK K;(try simp only [rl]);refine aK 8 (h:=fun K hK=> ?_);(try simp only [rl]);(try go_simp);(refine(ad5 0 s.ax.length k wd.heap.size 1 (.slice va s.ax.length vc) xs (Th.cells (⟨a.name,V.cd, [],0,0,x0⟩:Th) none 0 none 0 none 0) _ 41 (Nat.zero_le _) (eD fx.out.own Xt) (by omega) hk aQ (fun he=>by have:=(z6.out _ he).1;omega) rfl fx.out.cells.one (Th.tD _ _ _ _ _ _ _)).mono ?_);rintro e wi ⟨g',cap',rfl,hown,hgr,hat⟩;have hhi:Held (fun b=>(Value.slice va s.ax.length vc).ownBlock≠some b) wd wi:=Held.grown (by with_reducible repeat (first|exact Held.refl _ _|assumption|apply Held.drew|apply Held.drewN|apply Held.alloc|(refine Held.set ?_ ?_ _;rotate_left;(focus(first|(simp;done)|(simp;omega)|omega)))|(refine Held.ext ?_ (by assumption))|(refine Held.grown ?_ (by assumption) (by assumption))|(refine Held.trans ?_ (by assumption)))) hgr (fun q hq h=>h hq);have NP:=af.held hhi q7 (fun he=>(z6.out _ he).2 rfl);have afl:=NP.lt;have hsz:wd.heap.size<=wi.heap.size:=hhi.size;obtain⟨Q,hQ⟩:∃Q:az,Q=fun b=>aW P w b/\b≠w.heap.size+1:=⟨_,rfl⟩
     obtain⟨v',hv'⟩:∃v',Value.slice (some ⟨g',0,none⟩) (s.ax.length+1) cap'=v':=⟨_,rfl⟩;have hvb:v'.ownBlock=some g':=by rw [<-hv'];rfl
     obtain⟨wj,iz⟩:∃wj,wi.setCell ⟨r,0,none⟩ v'=wj:=⟨_,rfl⟩;have hs1:ey wj Q r {s with ax:=s.ax.take k++(⟨a.name,V.cd, [],0,0,x0⟩:Th)::s.ax.drop k} v' (xs.take (k*15)++Th.cells (⟨a.name,V.cd, [],0,0,x0⟩:Th) none 0 none 0 none 0++xs.drop (k*15)):=by rw [<-iz];exact fx.out.ins (by with_reducible repeat (first|exact Ext.refl _|assumption|apply Ext.drew|apply Ext.drewN|apply Ext.alloc|(refine Ext.setCell ?_ ?_ _;rotate_left;(focus(first|(simp;done)|(simp;omega)|omega)))|refine Ext.trans ?_ (by assumption))) (fun b h hl=>by rw [hQ];exact⟨.inl h,by omega⟩) (fun h=>by(try simp at h);rw [hQ];exact⟨.inr (by omega),by omega⟩) hvb rfl rfl (by rw [<-hv'];exact hown) hk hgr (hat.imp id (fun h=>Nat.le_of_eq h.symm))
     have uo:Held (fun q=>w.heap.size<=q) wd wj:=by rw [<-iz];exact Held.set (Held.grown (by with_reducible repeat (first|exact Held.refl _ _|assumption|apply Held.drew|apply Held.drewN|apply Held.alloc|(refine Held.set ?_ ?_ _;rotate_left;(focus(first|(simp;done)|(simp;omega)|omega)))|(refine Held.ext ?_ (by assumption))|(refine Held.grown ?_ (by assumption) (by assumption))|(refine Held.trans ?_ (by assumption)))) hgr (fun q hq h=>by have:=(z6.out q hq).1;omega)) (by simp;omega) _
     have bW:=af.held uo hR (by omega);have uE:=af.held uo hU (by omega);have ry:aT (fun b=>¬P b) w wj:=by rw [<-iz];exact((show aT (fun b=>¬P b) w _ from(Ext.upd (b:=wd.drew.alloc _) (by with_reducible repeat (first|exact Ext.refl _|assumption|apply Ext.drew|apply Ext.drewN|apply Ext.alloc|(refine Ext.setCell ?_ ?_ _;rotate_left;(focus(first|(simp;done)|(simp;omega)|omega)))|refine Ext.trans ?_ (by assumption))) _)).grown hgr (fun q hq h=>absurd (fx.out.row q hq).1 h)).set (fun h=>absurd fx.out.pr h) _
     have Vr:=ae (show u.In wj (fun b=>Q b/\b≠r/\v'.ownBlock≠some b) k2 c2 l2 d2 from(nD.out.mono (T:=fun q=>w.heap.size+3<=q/\q<wd.heap.size) fun q h hl=>⟨h,hl⟩).keep (fun q h hl=>uo.block q (by omega) hl) (fun q h hl=>⟨by rw [hQ];exact⟨.inr (by omega),by omega⟩,by omega,fun he=>by
      rw [hvb] at he;cases he;rcases hat with hat|hat
      ·have:=(z6.out _ hat).1;omega
      · (try simp at hat);omega⟩))
     have Vs:=ae (show cx wj (fun b=>Q b/\b≠r/\v'.ownBlock≠some b) m a5 from(rD.out.mono (T:=fun q=>w.heap.size+3<=q/\q<wd.heap.size) fun q h hl=>⟨h,hl⟩).keep (fun q h hl=>uo.block q (by omega) hl) (fun q h hl=>⟨by rw [hQ];exact⟨.inr (by omega),by omega⟩,by omega,fun he=>by
      rw [hvb] at he;cases he;rcases hat with hat|hat
      ·have:=(z6.out _ hat).1;omega
      · (try simp at hat);omega⟩))
     have HQ:=ae hQ;have Hv:=ae hv';have tB:=ae iz;clear hv' iz hown hgr hat hQ;refine hK.out _ _ (fun _=>aq _ hhi) ?_;clear hK K;(try simp only [rl]);obtain⟨hcr,vI,hlr⟩:=NP.see;refine aK 9 (h:=fun K hK=> ?_);(try simp only [rl]);go_simp;refine hK.out _ _ (fun _=>aq _ aC) ?_;clear hK K;(try simp only [rl]);refine aK 10 (h:=fun K hK=> ?_);(try simp only [rl]);go_simp;refine hK.out _ _ (fun _=>aq _ aC) ?_;clear hK K;(try simp only [rl]);refine aK 11 (h:=fun K hK=> ?_);(try simp only [rl]);go_simp;refine bz hK (h:= ?_);clear hK K;(try simp only [rl]);refine cZ (by kernel_rfl) ?_ _;go_upto_region 14 with fail
     refine aI (R:=fun wy=>wy=wj) (by rw [Hv.out];exact tB.out) ?_;clear tB Hv NP afl hhi hsz uo hR hT hU nD rD hcr vI hlr aq fE pL q7 dG;rintro wy rfl;have hlr:=bW.lt;obtain⟨hlk,EC⟩:=afj s.ax k (⟨a.name,V.cd, [],0,0,x0⟩:Th) hk;have Nv:=ae (fun(w':World) (e:Ext wy w')=>UY Q r {s with ax:=s.ax.take k++(⟨a.name,V.cd, [],0,0,x0⟩:Th)::s.ax.drop k} v' _ k (⟨a.name,V.cd, [],0,0,x0⟩:Th) u k2 c2 l2 d2 m a5 c5 w' (hs1.ext e) hlk EC (Vr.out.ext e) EM.out (Vs.out.ext e) (show V.cd.size<=1073741824 by decide+kernel) (by omega) vA (by simp;omega) hl0 ay (by simp) (by simp));clear hlk EC hs1 Vr Vs;obtain⟨xX,xY,pL⟩:=uE.see;go_wp2_with fail;(refine(Nv.out _ Xt).mono ?_);rintro e w6 ⟨rfl,Ei,yc⟩;have vZ:∀b,Q b->aW P w b/\b≠w.heap.size+1:=fun b h=>by rw [HQ.out] at h;exact h
     have hR6:=af.held (T:=fun b=>¬Q b) ⟨yc.size,yc.block⟩ (show jm _ (w.heap.size+1) from bW) (fun h=>(vZ _ h).2 rfl);have ahH:aT (fun b=>¬P b) w w6:=ry.over yc (fun b h hl hq=>by rcases(vZ b hq).1 with h'|h';exact h h';omega);have yD:=ry.size;have BA:=ae (Sat.mono (Q:=fun b=>aW P w b/\b≠w.heap.size+1) Ei fun b h=>by rcases h with h|h;exact vZ b h;exact⟨.inr (by(try simp at h);omega),by(try simp at h);omega⟩);clear Ei yc ry bW uE xX xY pL vZ HQ;obtain⟨hcR,jO,eU⟩:=hR6.see;go_wp2_with fail;refine aF (h:= ?_);rw [Hr.out];exact⟨rfl,(BA.out.keep ((Held.kept (T:=fun b=>b≠w.heap.size+1) aC).mono fun b hb=>hb.2)).mono fun b hb=>hb.1,fy⟩
   ·have r9:(ce !=0)=true:=by simpa using h0
    have iO:=ae (Hr.out.trans (if_pos h0));have hup:aT (fun b=>¬P b) w wb:=aO.upd _;clear h0;obtain⟨hcR,jO,eU⟩:=hR.see;go_wp2_with fail;refine aF (h:= ?_);rw [iO.out];exact⟨rfl,Kept.of (w:=w) (T:=P) fx.out Xt,fy⟩
end Go.Proofs.YtlcebdaghmdkeabGreatDoor
