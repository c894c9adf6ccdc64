import Derived.Test.YtlcebdaghmdkeaaGreatDoorZ32
import Derived.Test.YtlcebdaghmdkeaaGreatDoorZ33
import Derived.Test.YtlcebdaghmdkeaaGreatDoorZ34
import Derived.Test.YtlcebdaghmdkeaaGreatDoorZ35
set_option linter.all false
set_option maxRecDepth 100000
set_option maxHeartbeats 64000000
namespace Go.Proofs.YtlcebdaghmdkeaaGreatDoor
open Go.Proofs.Tryz
open Go.RowKit
attribute [local go_sem↓] Go.wp_at_zero Go.wp_at_succ
theorem ez.ins {w wq wi:World} {P Q:aA} {r g' k:Nat} {s:Sv} {v v':Value} {xs:List Value} (h:ez w P r s v xs) (hx:Ext w wq) (NN:∀b,P b->b<w.heap.size->Q b) (hg:wq.heap.size<=g'->Q g') (hv':v'.ownBlock=some g') {t:Th} (ht:t.v=V.cj) (Vq:t.ows= [])
 (hown:wi.ownsRow 0 46 15 v' (s.ay.length+1) (xs.take (k*15)++t.cells none 0 none 0 none 0++xs.drop (k*15))) (hk:k<=s.ay.length) (hgr:wq.grownBy wi v.ownBlock) (hat:v.ownBlock=some g'\/wq.heap.size<=g'):
 ez (wi.setCell ⟨r,0,none⟩ v') Q r {s with ay:=s.ay.take k++t::s.ay.drop k} v' (xs.take (k*15)++t.cells none 0 none 0 none 0++xs.drop (k*15)):=by
 have hrow:∀g,v.ownBlock=some g->P g/\g≠r:=h.row;have hlr:=h.box.lt;have hxs:=hx.size;have hg':Q g'/\g'≠r:=by
  rcases hat with hat|hat
  ·exact⟨NN _ (hrow _ hat).1 (h.own.lt _ hat).2,(hrow _ hat).2⟩
  ·exact⟨hg hat,by omega⟩
 have hB:af (wi.setCell ⟨r,0,none⟩ v') r #[v', .int .i64 s.time, .int .i64 s.last, .int .i64 s.acts] 65:=
  ((af.ext hx h.box).grown hgr (fun e=>(hrow r e.symm).2 rfl)).set 0 v'
 have hk1:Kept (fun b=>P b/\b≠r/\v.ownBlock≠some b) w (wi.setCell ⟨r,0,none⟩ v'):=fun b hb hl=>by rw [Below.heap_setCell _ _ _ _ (by exact hb.2.1),hgr.block b (by omega) (fun e=>hb.2.2 e.symm),Below.block hx b hl]
 refine⟨hB,NN _ h.pr hlr,?_,fun g hg=>by rw [hv'] at hg;cases hg;exact hg',?_⟩
 ·have:(s.ay.take k++t::s.ay.drop k).length=s.ay.length+1:=by simp;omega
  show World.ownsRow _ 0 _ 15 v' (s.ay.take k++t::s.ay.drop k).length _;rw [this];exact eo hown (fun b hb he=>by rw [hv'] at he;cases he;rw [Below.heap_setCell _ _ _ _ (by exact hg'.2)])
 ·refine(h.cells.keep hk1 (fun b hb hl=>⟨NN _ hb.1 hl,hb.2.1,fun e=>(by
   rw [hv'] at e;cases e;rcases hat with hat|hat
   ·exact hb.2.2 hat
   ·omega)⟩)).ins k k ⟨?_,?_,?_⟩
  ·rw [ht];exact(V.dD ..).2 ⟨aO.nil,aO.nil, .inl rfl, .inl rfl⟩
  ·rw [Vq];exact aO.nil
  ·rw [Vq];exact .inl rfl
theorem aU.over {T U:aA} {a b c:World} (h:aU T a b) (k:aU U b c) (hU:∀x,T x->x<a.heap.size->U x):aU T a c:=
 ⟨k.os.trans h.os,k.tape.trans h.tape,k.output.trans h.output,Nat.le_trans h.size k.size,fun i hi hl=>(k.block i (hU i hi hl) (Nat.lt_of_lt_of_le hl h.size)).trans (h.block i hi hl)⟩
theorem afo {α:Type} (l:List α) (k:Nat) (x:α) (hk:k<=l.length):∃h,(l.take k++x::l.drop k)[k]'h=x:=by
 have hl:(l.take k).length=k:=by simp;omega
 exact List.getElem?_eq_some_iff.1 (by rw [List.getElem?_append_right (by omega),hl,Nat.sub_self];rfl)
theorem afp {v:V} {l:List Ow} {who:ah} {want:V} {f:Bool} (hv:v.size<=14640):(jM v l who want f).1.size<=14640:=by
 unfold jM
 split
 ·exact hv
 ·split
  ·exact hv
  ·split
   ·exact hv
   ·rename_i h
    exact qh (by cases hf:(fg v l who want).fine with|true=>rfl|false=>exact absurd (.inl hf) h)
theorem UN {v:V} {ows:List Ow} {a:Ac} (hv:v.size<=14640):(cR v ows a).1.size<=14640:=by
 unfold cR
 split
 ·exact hv
 ·split
  ·exact afp hv
  ·exact UW hv (UH _)
theorem UO {v:V} {ows:List Ow} {a:Ac} {B:Nat} (hv:cN ows<=B):cN (cR v ows a).2.1<=B+250000:=by
 unfold cR
 split
 ·exact Nat.le_trans hv (Nat.le_add_right ..)
 ·split
  ·unfold jM
   split
   ·simp only;omega
   ·rename_i hf
    have hw:=(FH (by simpa using hf)).2.2.2.2.2
    split
    ·simp only;omega
    ·split
     ·simp only;omega
     ·have:=Yb (v:=v) (l:=ows) (who:=a.who) (want:=(dX a.body.data.toList).1) hw
      simp only;omega
  ·have:=Pw (fun p=>(bI (mJ v (dX a.body.data.toList).1 a.k).1 p).isSome) ows
   show cN (kU _ ows)<=_;unfold kU;omega
theorem UI (P:aA) (r:Nat) (s:Sv) (a:Ac) (k:Nat) (there:Bool) (w:World) (gF:Sat w P r s) (hk:k<=s.ay.length) (hb:s.ay.length<=1000000) (hl0:0<=s.last) (az:s.last<=1099511627776)
 (hbz:a.body.size<=1048576) (hwz:a.who.size<=1048576) (hl:cZ w) (hn:rC w):
 Calls prog 30 #[.pointer (some ⟨r,0,none⟩), .agg #[.int .i64 a.k, .string a.name, .string a.who, .string a.body, .int .i64 a.ver, .int .i64 a.n, .int .i64 a.ord, .bool a.force], .int .i64 k, .bool there] w (IB P r (qW s a k there) w):=by
 obtain⟨v,xs,h⟩:=gF;have ag:=h.box;have hlr:=ag.lt;have fk:=ae h;obtain⟨va,vc,hv,hok⟩:=gU h.own;have dv:=ae hok;subst hv;clear h hok
 cases there with
 |true=>
  go_enter func30,ntmps30;go_wp2_with fail;refine aG (h:= ?_);exact⟨rfl,Kept.of (w:=w) (T:=P) fk.out Xt,(show Ext w _ from Xt).upd _⟩
 |false=>
  by_cases h8:8<=s.ay.length
  ·have Hr:=ae (show qW s a k false=(s, .no 10) by unfold qW;rw [if_neg (by simp),if_pos h8])
   obtain⟨hc0,aw,hl0⟩:=ag.see;go_enter func30,ntmps30;go_wp2_with fail;refine aG (h:= ?_);rw [Hr.out];exact⟨rfl,Kept.of (w:=w) (T:=P) fk.out Xt,(show Ext w _ from Xt).upd _⟩
  ·obtain⟨⟨u,m,ce⟩,hch⟩:∃z,cR V.cj [] a=z:=⟨_,rfl⟩
   have Hr:=ae (show qW s a k false=if ce≠0 then(s, .no ce) else if cy u=none then(s, .no 1) else o7 {s with ay:=s.ay.take k++nR a.name u::s.ay.drop k} k (nR a.name u) u m by unfold qW;rw [if_neg (by simp),if_neg h8,hch]);have mA:=ae hch;clear hch;have iQ:=ag;obtain⟨hc0,aw,hl0⟩:=ag.see;go_enter func30,ntmps30;go_upto_region 6 with fail
   refine aI (R:=fun wx=>kY wx w.heap.size a/\jm wx (w.heap.size+1)/\af wx (w.heap.size+1+1) #[.string a.name, .int .i64 5, .int .i64 0, .string ⟨#[]⟩, .slice none 0 0, .slice none 0 0, .slice none 0 0, .int .i64 0, .int .i64 0, .string ⟨#[]⟩, .string ⟨#[]⟩, .int .i64 0, .int .i64 0, .int .i64 0, .int .i64 0] 46/\Ext w wx) ⟨aR,aR,aR,Xt⟩ ?_;clear ag hc0 aw hl0;rintro wa ⟨hA,hR,hT,aF⟩;have Nw:=hT.lt
   have Hcg:=ae (fun(w':World) (h1:cZ w') (h2:rC w')=>show Calls prog 33 #[.agg #[.string a.name, .int .i64 5, .int .i64 0, .string ⟨#[]⟩, .slice none 0 0, .slice none 0 0, .slice none 0 0, .int .i64 0, .int .i64 0, .string ⟨#[]⟩, .string ⟨#[]⟩, .int .i64 0, .int .i64 0, .int .i64 0, .int .i64 0], .agg #[.int .i64 a.k, .string a.name, .string a.who, .string a.body, .int .i64 a.ver, .int .i64 a.n, .int .i64 a.ord, .bool a.force]] w' (UF (fun _=>False) (u,m,ce) w') from by
    rw [<-mA.out]
    exact UQ (⟨a.name,V.cj, [],0,0,⟨⟨#[]⟩,⟨#[]⟩,0,0,0,0⟩⟩:Th) none 0 none 0 none 0 a (fun _=>False) w' ((V.dD ..).2 ⟨aO.nil,aO.nil, .inl rfl, .inl rfl⟩) aO.nil (.inl rfl) (show V.cj.size<=14640 by decide+kernel) (show cN []<=2097152 by decide) hbz hwz h1 h2)
   have ng:u.size<=14640:=by have:=UN (v:=V.cj) (ows:= []) (a:=a) (by decide+kernel);rw [mA.out] at this;exact this
   have vq:cN m<=2097152:=by have:=UO (v:=V.cj) (ows:= []) (a:=a) (B:=0) (by decide);rw [mA.out] at this;simp only at this;omega
   obtain⟨jZ,j3,hlA⟩:=hA.see;obtain⟨iA,iB,fy⟩:=hT.see;go_wp2_with fail;(refine(Hcg.out _ (hl.ext Xt) (hn.ext Xt)).mono ?_);rintro e w1 ⟨k2,c2,l2,d2,a5,c5,rfl,bZ,ik,xD,h1⟩;have cE:=ae (show u.In w1 (fun q=>w.heap.size+3<=q) k2 c2 l2 d2 from bZ.mono fun q h _=>by rcases h with h|h;exact h.elim;(try simp at h);omega);have II:=ae (show cz w1 (fun q=>w.heap.size+3<=q) m a5 from xD.mono fun q h _=>by rcases h with h|h;exact h.elim;(try simp at h);omega);have Ey:=ae ik;have hx1:Ext w w1:=Xt;have hA:=af.ext h1 hA;have hR:=af.ext h1 hR;have hT:=af.ext h1 hT;have hz1:=hT.lt;clear bZ ik xD h1 aF jZ j3 hlA iA iB fy;go_upto_region 7 with fail
   refine aI (R:=fun wx=>kY wx w.heap.size a/\jm wx (w.heap.size+1)/\af wx (w.heap.size+1+1) #[.string a.name, .int .i64 5, .int .i64 0, .string ⟨#[]⟩, .slice none 0 0, .slice none 0 0, .slice none 0 0, .int .i64 0, .int .i64 0, .string ⟨#[]⟩, .string ⟨#[]⟩, .int .i64 0, .int .i64 0, .int .i64 0, .int .i64 0] 46/\aD wx w1.heap.size u k2 c2 l2 d2/\u.In wx (fun q=>w.heap.size+3<=q) k2 c2 l2 d2/\cz wx (fun q=>w.heap.size+3<=q) m a5/\Ext w wx) ⟨aR,aR,aR,aR,cE.out.ext Xt,II.out.ext Xt,Xt⟩ ?_;clear hA hR hT cE II hx1;rintro wb ⟨hA,hR,hT,hU,sY,xK,aP⟩;have nP:=ae sY;have q8:=ae xK;have hzb:=hU.lt;clear sY xK;by_cases h0:ce=0
   ·subst h0
    have hc0:((0:Int) !=0)=false:=rfl;have Hr:=ae (Hr.out.trans (if_neg (by simp)));obtain⟨xE,xG,pM⟩:=hU.see;go_wp2_with fail;obtain⟨sp,hsp⟩:∃sp,cy u=sp:=⟨_,rfl⟩;have q7:=ae hsp;have hxl:(fK sp).length<=9223372036854775807:=by have:=IK u;rw [hsp] at this;omega
    clear hsp;(refine(Iz u k2 c2 l2 d2 _ _ (by omega) (nP.out.ext Xt)).mono ?_);rintro e w2 zG;rw [q7.out] at zG;obtain⟨a1,n1,c1,rfl,zH,lY,-,h2⟩:=uo.val zG;have hx2:Ext w w2:=Xt;have hA:=af.ext (w:=wb) (w':=w2) Xt hA;have hR:=af.ext (w:=wb) (w':=w2) Xt hR;have hT:=af.ext (w:=wb) (w':=w2) Xt hT;have hU:=af.ext (w:=wb) (w':=w2) Xt hU;have hzu:=hU.lt;have nP:=ae (V.In.ext (w:=wb) (w':=w2) nP.out Xt);have q8:=ae (cz.ext (w:=wb) (w':=w2) q8.out Xt);clear zG h2 aP xE xG pM;go_upto_region 10 with fail
    refine aI (R:=fun wx=>kY wx w.heap.size a/\jm wx (w.heap.size+1)/\af wx (w.heap.size+1+1) #[.string a.name, .int .i64 5, .int .i64 0, .string ⟨#[]⟩, .slice none 0 0, .slice none 0 0, .slice none 0 0, .int .i64 0, .int .i64 0, .string ⟨#[]⟩, .string ⟨#[]⟩, .int .i64 0, .int .i64 0, .int .i64 0, .int .i64 0] 46/\af wx w2.heap.size #[.string (kC sp), .slice a1 n1 c1] 53/\StepsIn wx a1 (fK sp)/\aD wx w1.heap.size u k2 c2 l2 d2/\u.In wx (fun q=>w.heap.size+3<=q) k2 c2 l2 d2/\cz wx (fun q=>w.heap.size+3<=q) m a5/\Ext w wx) ⟨aR,aR,aR,aR,lY.ext Xt,aR,nP.out.ext Xt,q8.out.ext Xt,Xt⟩ ?_;clear hA hR hT hU nP q8 lY hx2;rintro wc ⟨hA,hR,hT,hS,hst,hU,sY,xK,fC⟩;have nP:=ae sY;have q8:=ae xK;have aQ:=ae hst;have rN:=hS.lt;clear sY xK hst
    cases sp with
    |none=>
     have he:(xw none !=0)=true:=rfl;have kB:=ae (Hr.out.trans (if_pos q7.out));have hup:aU (fun b=>¬P b) w wc:=fC.upd _;obtain⟨hcR,jY,eP⟩:=hR.see;go_wp2_with fail;refine aG (h:= ?_);rw [kB.out];exact⟨rfl,Kept.of (w:=w) (T:=P) fk.out Xt,gP⟩
    |some p=>
     obtain⟨im,sx⟩:=p;have he:(xw (some (im,sx)) !=0)=false:=rfl;obtain⟨er,EA⟩:∃er,xw (some (im,sx))=er:=⟨_,rfl⟩;rw [EA] at he⊢;clear EA;have aQ:=ae (show StepsIn wc a1 sx from aQ.out);have hxl:sx.length<=9223372036854775807:=hxl;have zH:sx.length=n1:=zH;have hS:af wc w2.heap.size #[.string im, .slice a1 n1 c1] 53:=hS;obtain⟨x0,hx0⟩:∃x0,vJ im sx=x0:=⟨_,rfl⟩
     have Hr:=ae (show qW s a k false=o7 {s with ay:=s.ay.take k++(⟨a.name,V.cj, [],0,0,x0⟩:Th)::s.ay.drop k} k ⟨a.name,V.cj, [],0,0,x0⟩ u m by
      rw [Hr.out,if_neg (by rw [q7.out];simp)];unfold nR;rw [q7.out]
      simp only [kC,fK,hx0])
     have zk:=ae hx0;clear hx0 q7;obtain⟨hcS,hfS,hlS⟩:=hS.see;go_wp2_with fail;(refine(aeb im a1 n1 c1 sx _ hxl (aQ.out.ext Xt) zH.symm).mono ?_);unfold Uf;rw [zk.out];rintro e w3 ⟨rfl,h3⟩;have hx3:Ext w w3:=Xt;have hR:=af.ext (w:=wc) (w':=w3) Xt hR;have hT:=af.ext (w:=wc) (w':=w3) Xt hT;have hU:=af.ext (w:=wc) (w':=w3) Xt hU;have nP:=ae (V.In.ext (w:=wc) (w':=w3) nP.out Xt);have q8:=ae (cz.ext (w:=wc) (w':=w3) q8.out Xt);have fy:=hT.lt;clear h3 fC hcS hfS hlS hA hS aQ;obtain⟨iA,iB,fy⟩:=hT.see;go_upto_region 13 with fail
     refine aI (R:=fun wx=>jm wx (w.heap.size+1)/\af wx (w.heap.size+1+1) #[.string a.name, .int .i64 5, .int .i64 0, .string ⟨#[]⟩, .slice none 0 0, .slice none 0 0, .slice none 0 0, .int .i64 0, .int .i64 0, .string x0.sb, .string x0.cm, .int .i64 x0.ph, .int .i64 x0.sp, .int .i64 x0.wt, .int .i64 x0.si] 46/\aD wx w1.heap.size u k2 c2 l2 d2/\u.In wx (fun q=>w.heap.size+3<=q) k2 c2 l2 d2/\cz wx (fun q=>w.heap.size+3<=q) m a5/\Ext w wx) ⟨aR,aR,aR,nP.out.keep (Held.kept (T:=fun q=>w.heap.size+3<=q) aC) (fun _ h _=>h),q8.out.keep (Held.kept (T:=fun q=>w.heap.size+3<=q) aC) (fun _ h _=>h),Xt⟩ ?_;clear hR hT hU nP q8 hx3 iA iB fy;rintro wd ⟨hR,hT,hU,sY,xK,iM⟩;have nP:=ae sY;have q8:=ae xK;clear sY xK;have qO:=af.ext iM iQ;have fy:=hT.lt;have pM:=hU.lt;have BH:∀q,(Value.slice va s.ay.length vc).ownBlock=some q->q<w.heap.size/\q≠r:=fun q hq=>⟨(fk.out.own.lt q hq).2,(fk.out.row q hq).2⟩;have zJ:=ae BH
     have au:∀w',Held (fun b=>(Value.slice va s.ay.length vc).ownBlock≠some b) wd w'-> (w'.cell? ⟨r,0,none⟩=some (.slice va s.ay.length vc)/\w'.cell? ⟨w.heap.size+1+1,0,none⟩=some (.string a.name)/\w'.cell? ⟨w.heap.size+1+1,1,none⟩=some (.int .i64 5)/\w'.cell? ⟨w.heap.size+1+1,2,none⟩=some (.int .i64 0)/\w'.cell? ⟨w.heap.size+1+1,3,none⟩=some (.string ⟨#[]⟩)/\w'.cell? ⟨w.heap.size+1+1,4,none⟩=some (.slice none 0 0)/\w'.cell? ⟨w.heap.size+1+1,5,none⟩=some (.slice none 0 0)/\w'.cell? ⟨w.heap.size+1+1,6,none⟩=some (.slice none 0 0)/\w'.cell? ⟨w.heap.size+1+1,7,none⟩=some (.int .i64 0)/\w'.cell? ⟨w.heap.size+1+1,8,none⟩=some (.int .i64 0)/\w'.cell? ⟨w.heap.size+1+1,9,none⟩=some (.string x0.sb)/\w'.cell? ⟨w.heap.size+1+1,10,none⟩=some (.string x0.cm)/\w'.cell? ⟨w.heap.size+1+1,11,none⟩=some (.int .i64 x0.ph)/\w'.cell? ⟨w.heap.size+1+1,12,none⟩=some (.int .i64 x0.sp)/\w'.cell? ⟨w.heap.size+1+1,13,none⟩=some (.int .i64 x0.wt)/\w'.cell? ⟨w.heap.size+1+1,14,none⟩=some (.int .i64 x0.si)):=
      fun w' e=>by have h:=af.held e hT (fun he=>by have:=(zJ.out _ he).1;omega);have hr:=af.held e qO (fun he=>(zJ.out _ he).2 rfl);exact⟨hr.cells 0,h.cells 0,h.cells 1,h.cells 2,h.cells 3,h.cells 4,h.cells 5,h.cells 6,h.cells 7,h.cells 8,h.cells 9,h.cells 10,h.cells 11,h.cells 12,h.cells 13,h.cells 14⟩
     clear BH;refine fN au (c:=11) (by kernel_rfl) ?_;refine aH 0 [11] (hS:=au _ aC) (h:= ?_);refine aH 1 [11] (hS:=au _ aC) (h:= ?_);refine aH 2 [11] (hS:=au _ aC) (h:= ?_);refine aH 3 [11] (hS:=au _ aC) (h:= ?_);refine aH 4 [11] (hS:=au _ aC) (h:= ?_);refine aH 5 [11] (hS:=au _ aC) (h:= ?_);refine aH 6 [11] (hS:=au _ aC) (h:= ?_);(try simp only [rl]);refine aM 7 (h:=fun K hK=> ?_);(try simp only [rl]);go_simp;refine hK.out _ _ (fun _=>au _ aC) ?_;clear hK K;(try simp only [rl]);refine aM 8 (h:=fun K hK=> ?_);(try simp only [rl]);(try go_simp);(refine(ad4 0 s.ay.length k wd.heap.size 1 (.slice va s.ay.length vc) xs (Th.cells (⟨a.name,V.cj, [],0,0,x0⟩:Th) none 0 none 0 none 0) _ 46 (Nat.zero_le _) (eT fk.out.own Xt) (by omega) hk aR (fun he=>by have:=(zJ.out _ he).1;omega) rfl fk.out.cells.one (Th.IQ _ _ _ _ _ _ _)).mono ?_);rintro e wi ⟨g',cap',rfl,hown,hgr,hat⟩;have hhi:Held (fun b=>(Value.slice va s.ay.length vc).ownBlock≠some b) wd wi:=Held.grown (by with_reducible repeat (first|exact Held.refl _ _|assumption|apply Held.drew|apply Held.drewN|apply Held.alloc|(refine Held.set ?_ ?_ _;rotate_left;(focus(first|(simp;done)|(simp;omega)|omega)))|(refine Held.ext ?_ (by assumption))|(refine Held.grown ?_ (by assumption) (by assumption))|(refine Held.trans ?_ (by assumption)))) hgr (fun q hq h=>h hq);have NP:=af.held hhi qO (fun he=>(zJ.out _ he).2 rfl);have afq:=NP.lt;have hsz:wd.heap.size<=wi.heap.size:=hhi.size;obtain⟨Q,hQ⟩:∃Q:aA,Q=fun b=>aW P w b/\b≠w.heap.size+1:=⟨_,rfl⟩
     obtain⟨v',hv'⟩:∃v',Value.slice (some ⟨g',0,none⟩) (s.ay.length+1) cap'=v':=⟨_,rfl⟩;have hvb:v'.ownBlock=some g':=by rw [<-hv'];rfl
     obtain⟨wj,iy⟩:∃wj,wi.setCell ⟨r,0,none⟩ v'=wj:=⟨_,rfl⟩;have hs1:ez wj Q r {s with ay:=s.ay.take k++(⟨a.name,V.cj, [],0,0,x0⟩:Th)::s.ay.drop k} v' (xs.take (k*15)++Th.cells (⟨a.name,V.cj, [],0,0,x0⟩:Th) none 0 none 0 none 0++xs.drop (k*15)):=by rw [<-iy];exact fk.out.ins (by with_reducible repeat (first|exact Ext.refl _|assumption|apply Ext.drew|apply Ext.drewN|apply Ext.alloc|(refine Ext.setCell ?_ ?_ _;rotate_left;(focus(first|(simp;done)|(simp;omega)|omega)))|refine Ext.trans ?_ (by assumption))) (fun b h hl=>by rw [hQ];exact⟨.inl h,by omega⟩) (fun h=>by(try simp at h);rw [hQ];exact⟨.inr (by omega),by omega⟩) hvb rfl rfl (by rw [<-hv'];exact hown) hk hgr (hat.imp id (fun h=>Nat.le_of_eq h.symm))
     have ug:Held (fun q=>w.heap.size<=q) wd wj:=by rw [<-iy];exact Held.set (Held.grown (by with_reducible repeat (first|exact Held.refl _ _|assumption|apply Held.drew|apply Held.drewN|apply Held.alloc|(refine Held.set ?_ ?_ _;rotate_left;(focus(first|(simp;done)|(simp;omega)|omega)))|(refine Held.ext ?_ (by assumption))|(refine Held.grown ?_ (by assumption) (by assumption))|(refine Held.trans ?_ (by assumption)))) hgr (fun q hq h=>by have:=(zJ.out q hq).1;omega)) (by simp;omega) _
     have bY:=af.held ug hR (by omega);have uA:=af.held ug hU (by omega);have qV:aU (fun b=>¬P b) w wj:=by rw [<-iy];exact((show aU (fun b=>¬P b) w _ from(Ext.upd (b:=wd.drew.alloc _) (by with_reducible repeat (first|exact Ext.refl _|assumption|apply Ext.drew|apply Ext.drewN|apply Ext.alloc|(refine Ext.setCell ?_ ?_ _;rotate_left;(focus(first|(simp;done)|(simp;omega)|omega)))|refine Ext.trans ?_ (by assumption))) _)).grown hgr (fun q hq h=>absurd (fk.out.row q hq).1 h)).set (fun h=>absurd fk.out.pr h) _
     have Vr:=ae (show u.In wj (fun b=>Q b/\b≠r/\v'.ownBlock≠some b) k2 c2 l2 d2 from(nP.out.mono (T:=fun q=>w.heap.size+3<=q/\q<wd.heap.size) fun q h hl=>⟨h,hl⟩).keep (fun q h hl=>ug.block q (by omega) hl) (fun q h hl=>⟨by rw [hQ];exact⟨.inr (by omega),by omega⟩,by omega,fun he=>by
      rw [hvb] at he;cases he;rcases hat with hat|hat
      ·have:=(zJ.out _ hat).1;omega
      · (try simp at hat);omega⟩))
     have Vs:=ae (show cz wj (fun b=>Q b/\b≠r/\v'.ownBlock≠some b) m a5 from(q8.out.mono (T:=fun q=>w.heap.size+3<=q/\q<wd.heap.size) fun q h hl=>⟨h,hl⟩).keep (fun q h hl=>ug.block q (by omega) hl) (fun q h hl=>⟨by rw [hQ];exact⟨.inr (by omega),by omega⟩,by omega,fun he=>by
      rw [hvb] at he;cases he;rcases hat with hat|hat
      ·have:=(zJ.out _ hat).1;omega
      · (try simp at hat);omega⟩))
     have HQ:=ae hQ;have Hv:=ae hv';have sW:=ae iy;clear hv' iy hown hgr hat hQ;refine hK.out _ _ (fun _=>au _ hhi) ?_;clear hK K;(try simp only [rl]);obtain⟨hcr,ov,hlr⟩:=NP.see;refine aM 9 (h:=fun K hK=> ?_);(try simp only [rl]);go_simp;refine hK.out _ _ (fun _=>au _ aC) ?_;clear hK K;(try simp only [rl]);refine aM 10 (h:=fun K hK=> ?_);(try simp only [rl]);go_simp;refine hK.out _ _ (fun _=>au _ aC) ?_;clear hK K;(try simp only [rl]);refine aM 11 (h:=fun K hK=> ?_);(try simp only [rl]);go_simp;refine bD hK (h:= ?_);clear hK K;(try simp only [rl]);refine dE (by kernel_rfl) ?_ _;go_upto_region 14 with fail
     refine aI (R:=fun wy=>wy=wj) (by rw [Hv.out];exact sW.out) ?_;clear sW Hv NP afq hhi hsz ug hR hT hU nP q8 hcr ov hlr au fy pM qO iM;rintro wy rfl;have hlr:=bY.lt;obtain⟨hlk,zz⟩:=afo s.ay k (⟨a.name,V.cj, [],0,0,x0⟩:Th) hk;have Nz:=ae (fun(w':World) (e:Ext wy w')=>UR Q r {s with ay:=s.ay.take k++(⟨a.name,V.cj, [],0,0,x0⟩:Th)::s.ay.drop k} v' _ k (⟨a.name,V.cj, [],0,0,x0⟩:Th) u k2 c2 l2 d2 m a5 c5 w' (hs1.ext e) hlk zz (Vr.out.ext e) Ey.out (Vs.out.ext e) (show V.cj.size<=1073741824 by decide+kernel) (by omega) vq (by simp;omega) hl0 az (by simp) (by simp));clear hlk zz hs1 Vr Vs;obtain⟨xE,xG,pM⟩:=uA.see;go_wp2_with fail;(refine(Nz.out _ Xt).mono ?_);rintro e w6 ⟨rfl,D5,xL⟩;have vP:∀b,Q b->aW P w b/\b≠w.heap.size+1:=fun b h=>by rw [HQ.out] at h;exact h
     have hR6:=af.held (T:=fun b=>¬Q b) ⟨xL.size,xL.block⟩ (show jm _ (w.heap.size+1) from bY) (fun h=>(vP _ h).2 rfl);have ahI:aU (fun b=>¬P b) w w6:=qV.over xL (fun b h hl hq=>by rcases(vP b hq).1 with h'|h';exact h h';omega);have yi:=qV.size;have Bp:=ae (Sat.mono (Q:=fun b=>aW P w b/\b≠w.heap.size+1) D5 fun b h=>by rcases h with h|h;exact vP b h;exact⟨.inr (by(try simp at h);omega),by(try simp at h);omega⟩);clear D5 xL qV bY uA xE xG pM vP HQ;obtain⟨hcR,jY,eP⟩:=hR6.see;go_wp2_with fail;refine aG (h:= ?_);rw [Hr.out];exact⟨rfl,(Bp.out.keep ((Held.kept (T:=fun b=>b≠w.heap.size+1) aC).mono fun b hb=>hb.2)).mono fun b hb=>hb.1,gP⟩
   ·have rX:(ce !=0)=true:=by simpa using h0
    have kB:=ae (Hr.out.trans (if_pos h0));have hup:aU (fun b=>¬P b) w wb:=aP.upd _;clear h0;obtain⟨hcR,jY,eP⟩:=hR.see;go_wp2_with fail;refine aG (h:= ?_);rw [kB.out];exact⟨rfl,Kept.of (w:=w) (T:=P) fk.out Xt,gP⟩
theorem vO (er:Int) (w:World):Calls prog 27 #[.int .i64 er] w fun e w'=>e= .returned (Rp.no er).val/\Ext w w':=by
 go_enter func27,ntmps27;go_wp2_with fail;refine aG (h:= ?_);exact⟨rfl,Xt⟩
structure Inv (s:Sv):Prop where
 len:s.ay.length<=8
 dO:cn (s.ay.map Th.name)
 size:∀t∈s.ay,t.v.size<=14640/\cN t.ows<=1800000/\0<=t.gen/\t.gen<=1000000
 last:0<=s.last/\s.last<=1000000
 time:0<=s.time/\s.time<=1099511627776
 acts:0<=s.acts/\s.acts<=1000000
def iU (P:aA) (w:World):Prop:=∀w',aU (fun b=>¬P b) w w'->cZ w'/\rC w'
theorem iU.next {P:aA} {w w':World} (h:iU P w) (u:aU (fun b=>¬P b) w w'):iU P w':=fun _ k=>h _ (u.trans k)
theorem ez.act {w w':World} {P:aA} {r:Nat} {s:Sv} {v:Value} {xs:List Value} (h:ez w P r s v xs) (hx:Ext w w') (n:Int):ez (w'.setCell ⟨r,3,none⟩ (.int .i64 n)) P r {s with acts:=n} v xs:=by
 have h:=h.ext hx;have hB:af (w'.setCell ⟨r,3,none⟩ (.int .i64 n)) r #[v, .int .i64 s.time, .int .i64 s.last, .int .i64 n] 65:=h.box.set 3 _;have hk:Kept (fun b=>b≠r) w' (w'.setCell ⟨r,3,none⟩ (.int .i64 n)):=Held.kept aC;exact⟨hB,h.pr,eo h.own (fun b hl he=>hk b (h.row b he).2 hl),h.row,h.cells.keep (fun b hb hl=>hk b hb.2.1 hl) (fun _ h _=>h)⟩
theorem Sat.fin {P:aA} {w wx w6 w':World} {r:Nat} {s:Sv} (h:Sat w6 (aW (fun b=>P b/\b<w.heap.size) wx) r s) (hz:w.heap.size+2<=wx.heap.size) (k:Held (fun b=>b≠w.heap.size+1) w6 w'):Sat w' (aW P w) r s:=
 (h.keep (k.kept.mono fun b hb=>by rcases hb with hb|hb<;>omega)).mono fun b hb=>by
  rcases hb with hb|hb
  ·exact .inl hb.1
  ·exact .inr (by omega)
theorem Sat.ux {P:aA} {w w6 w':World} {r:Nat} {s:Sv} (h:Sat w6 (fun b=>P b/\b<w.heap.size) r s) (k:Held (fun b=>b≠w.heap.size+1) w6 w'):Sat w' (aW P w) r s:=
 (h.keep (k.kept.mono fun b hb=>by omega)).mono fun b hb=> .inl hb.1
theorem Ns (l:List Th) (name:ah):eO l name<=l.length:=by
 unfold eO posOf;have:=(List.takeWhile_sublist (fun k=>bB k name) (l:=l.map Th.name)).length_le;simpa using this
theorem aeV {w:World} {g o:Nat} {t t':Th} {ka:aq} {kc:Nat} {la:aq} {lc:Nat} {oa:aq} {oc:Nat} (h:∀q u,(t.cells ka kc la lc oa oc)[q]? =some u->w.cell? ⟨g,o+q,none⟩=some u/\w.frozen? ⟨g,o+q,none⟩=false) (e:t=t'):
 ∀q u,(t'.cells ka kc la lc oa oc)[q]? =some u->w.cell? ⟨g,o+q,none⟩=some u/\w.frozen? ⟨g,o+q,none⟩=false:=e▸h
theorem aeW (g c k n:Nat) (xs:List Value) (w:World) (hk:k<n) (hn:n<=1073741824) (hown:w.ownsRow 0 46 15 (.slice (some ⟨g,0,none⟩) n c) n xs) (h1:∀u∈xs,u.oneCell'=true):
 Calls prog 31 #[.slice (some ⟨g,0,none⟩) n c, .int .i64 k, .int .i64 ((k:Int)+1)] w fun e w'=>e= .returned (.slice (some ⟨g,0,none⟩) (n-1) c)/\
  w'.ownsRow 0 46 15 (.slice (some ⟨g,0,none⟩) (n-1) c) (n-1) (xs.take (k*15)++xs.drop ((k+1)*15))/\w.grownBy w' (some g):=by
 obtain⟨m,rfl⟩:∃m,n=m+1:=⟨n-1,by omega⟩;obtain⟨g',cap,cur,hv,hb,hg,hnc,hm,hcs,ht⟩:=tZ hown (by omega)
 cases hv
 have ht':cur.toList.take ((m+1)*15)=xs:=by simpa using ht
 subst ht';exact WN 0 g m c k cur w hb hg (by omega) hm hcs (by omega) h1
theorem ez.del {w wq wi:World} {P:aA} {r g c k:Nat} {s:Sv} {xs:List Value} (h:ez w P r s (.slice (some ⟨g,0,none⟩) s.ay.length c) xs) (hx:Ext w wq) (hk:k<s.ay.length)
 (hown:wi.ownsRow 0 46 15 (.slice (some ⟨g,0,none⟩) (s.ay.length-1) c) (s.ay.length-1) (xs.take (k*15)++xs.drop ((k+1)*15))) (hgr:wq.grownBy wi (some g)):
 ez (wi.setCell ⟨r,0,none⟩ (.slice (some ⟨g,0,none⟩) (s.ay.length-1) c)) P r {s with ay:=s.ay.take k++s.ay.drop (k+1)} (.slice (some ⟨g,0,none⟩) (s.ay.length-1) c) (xs.take (k*15)++xs.drop ((k+1)*15)):=by
 have hrow:=h.row g rfl;have hxs:=hx.size
 have hB:af (wi.setCell ⟨r,0,none⟩ (.slice (some ⟨g,0,none⟩) (s.ay.length-1) c)) r #[.slice (some ⟨g,0,none⟩) (s.ay.length-1) c, .int .i64 s.time, .int .i64 s.last, .int .i64 s.acts] 65:=
  ((af.ext hx h.box).grown hgr (fun e=>hrow.2 (Option.some.inj e).symm)).set 0 _
 have hk1:Kept (fun b=>P b/\b≠r/\ (Value.slice (some ⟨g,0,none⟩) s.ay.length c).ownBlock≠some b) w (wi.setCell ⟨r,0,none⟩ (.slice (some ⟨g,0,none⟩) (s.ay.length-1) c)):=fun b hb hl=>by rw [Below.heap_setCell _ _ _ _ (by exact hb.2.1),hgr.block b (by omega) (fun e=>hb.2.2 (by cases e;rfl)),Below.block hx b hl]
 refine⟨hB,h.pr,?_,fun q hq=>by cases hq;exact hrow,?_⟩
 ·have:(s.ay.take k++s.ay.drop (k+1)).length=s.ay.length-1:=by simp;omega
  show World.ownsRow _ 0 _ 15 _ (s.ay.take k++s.ay.drop (k+1)).length _;rw [this];exact eo hown (fun b hb he=>by cases he;rw [Below.heap_setCell _ _ _ _ (by exact hrow.2)])
 ·have:=h.cells.keep hk1 (fun b hb _=>hb)
  exact(this.cut k).1.app (this.cut (k+1)).2
theorem aeX (s:Sv) (n:Int):(nO s n).2= .no (nO s n).2.c:=by
 unfold nO
 split<;>rfl
theorem sX (P:aA) (r:Nat) (s:Sv) (a:Ac) (w:World) (gF:Sat w P r s) (hi:Inv s) (hl:iU P w) (hnz:a.name.size<=1048576) (hbz:a.body.size<=1048576) (hwz:a.who.size<=1048576):
 Calls prog 13 #[.pointer (some ⟨r,0,none⟩), .agg #[.int .i64 a.k, .string a.name, .string a.who, .string a.body, .int .i64 a.ver, .int .i64 a.n, .int .i64 a.ord, .bool a.force]] w (IB P r (bz s a) w):=by
 obtain⟨v,xs,h⟩:=gF;have ag:=h.box;have hlr:=ag.lt;have fk:=ae h.old;have Bz:=ae h.pr;have hlen:=hi.len;obtain⟨ha0,ha1⟩:=hi.acts;obtain⟨ht0,ht1⟩:=hi.time;obtain⟨hs0,hs1⟩:=hi.last;have Hi:=ae hi;have Hl:=ae hl;clear h hi hl;by_cases hfull:300<=s.acts
 ·have Hr:=ae (show bz s a=(s, .no 10) by unfold bz;rw [if_pos hfull])
  obtain⟨hc0,aw,hl0⟩:=ag.see;go_enter func13,ntmps13;go_wp2_with fail;(refine(vO 10 _).mono ?_);rintro e w1 ⟨rfl,h1⟩;have hR:jm w1 (w.heap.size+1):=af.ext h1 aR;have hx1:Ext w w1:=Xt;have hup:aU (fun b=>¬P b) w w1:=hx1.upd _;have eP:=hR.lt;have dZ:=ae (show Sat w1 _ r s from⟨_,_,fk.out.ext hx1⟩);clear h1;obtain⟨hcR,jY,eP⟩:=hR.see;go_wp2_with fail;refine aG (h:= ?_);rw [Hr.out];exact⟨rfl,dZ.out.ux aC,gP⟩
 ·obtain⟨n1,pj⟩:∃n1,s.acts+1=n1:=⟨_,rfl⟩
  have Hr:=ae (show bz s a=uy {s with acts:=n1} a by unfold bz;rw [if_neg hfull,pj]);have PV:=ae pj;obtain⟨hc0,aw,hl0⟩:=ag.see;go_enter func13,ntmps13;go_upto_region 7 with fail
  refine aI (R:=fun wx=>kY wx w.heap.size a/\jm wx (w.heap.size+1)/\Sat wx (fun b=>P b/\b<w.heap.size) r {s with acts:=n1}/\aU (fun b=>¬P b) w wx) ⟨aR,aR,⟨_,_,(fk.out.act (Ext.refl w) n1).ext Xt⟩,((aU.refl _ w).set (p:=⟨r,3,none⟩) (fun h=>absurd Bz.out h) _).ext Xt⟩ ?_;clear ag hc0 aw hl0 pj;rintro wb ⟨hA,hR,hs1,hup⟩;have dZ:=ae hs1;have Nt:=hR.lt;clear hs1;obtain⟨jZ,j3,hlA⟩:=hA.see;by_cases hk:a.k<1\/9<a.k
  ·replace Hr:=ae (show bz s a=({s with acts:=n1}, .no 9) by rw [Hr.out];unfold uy;rw [if_pos hk])
   rcases hk with hk|hk
   ·go_wp2_with fail
    (refine(vO 9 _).mono ?_);rintro e w2 ⟨rfl,h2⟩;have hx2:Ext wb w2:=Xt;have bY:=af.ext hx2 hR;have hs2:=dZ.out.ext hx2;have qV:=hup.ext hx2;have jz:=ae hs2;clear h2 hs2;obtain⟨hcR,jY,eP⟩:=bY.see;go_wp2_with fail;refine aG (h:= ?_);rw [Hr.out];exact⟨rfl,jz.out.ux aC,gP⟩
   ·have gh:¬a.k<1:=by omega
    go_wp2_with fail;(refine(vO 9 _).mono ?_);rintro e w2 ⟨rfl,h2⟩;have hx2:Ext wb w2:=Xt;have bY:=af.ext hx2 hR;have hs2:=dZ.out.ext hx2;have qV:=hup.ext hx2;have jz:=ae hs2;clear h2 hs2;obtain⟨hcR,jY,eP⟩:=bY.see;go_wp2_with fail;refine aG (h:= ?_);rw [Hr.out];exact⟨rfl,jz.out.ux aC,gP⟩
  ·have gh:¬a.k<1:=by omega
   have hk9:¬9<a.k:=by omega
   replace Hr:=ae (show bz s a=if a.k=8 then nO {s with acts:=n1} a.n else if fe a.name=false then({s with acts:=n1}, .no 1) else if a.k=1\/ (a.k=5/\fL s.ay a.name=false) then qW {s with acts:=n1} a (eO s.ay a.name) (fL s.ay a.name) else if fL s.ay a.name=false then({s with acts:=n1}, .no 3) else match s.ay[eO s.ay a.name]? with|some t=>qX {s with acts:=n1} (eO s.ay a.name) t a|none=>({s with acts:=n1}, .no 3) by rw [Hr.out];unfold uy;rw [if_neg hk];rfl);clear hk;by_cases h8:a.k=8
   ·have h8b:(a.k==8)=true:=by simpa using h8
    replace Hr:=ae (show bz s a=nO {s with acts:=n1} a.n by rw [Hr.out,if_pos h8]);clear h8;go_wp2_with fail;(refine(aeY (fun b=>P b/\b<w.heap.size) r {s with acts:=n1} a.n _ (dZ.out.ext Xt) (by simp only;omega) (fun t ht=>by have:=(Hi.out.size t ht).1;omega) ht0 ht1).mono ?_);rintro e w2 ⟨rfl,hs2,hu2⟩;have qV:=hup.over hu2 (fun b h hl hq=>h hq.1);have bY:=af.held (T:=fun b=>¬(P b/\b<w.heap.size)) ⟨hu2.size,hu2.block⟩ (show jm _ (w.heap.size+1) from hR) (fun h=>by omega);have jz:=ae hs2;have hz2:=qV.size;clear hs2 hu2 jZ j3 hlA hA hR;go_wp2_with fail;(refine(vO _ _).mono ?_);rintro e w3 ⟨rfl,h3⟩;have bV:=af.ext h3 bY;have eP:=bV.lt;have zD:=ae (jz.out.ext h3);have Nu:=qV.ext h3;have htk:=aeX {s with acts:=n1} a.n;have nt:=ae htk;clear h3 htk bY;obtain⟨hcR,jY,eP⟩:=bV.see;go_wp2_with fail;refine aG (h:= ?_);rw [Hr.out];exact⟨by rw [<-nt.out],zD.out.fin (by omega) aC,gP⟩
   ·have h8b:(a.k==8)=false:=by simpa using h8
    replace Hr:=ae (show bz s a=if fe a.name=false then({s with acts:=n1}, .no 1) else if a.k=1\/ (a.k=5/\fL s.ay a.name=false) then qW {s with acts:=n1} a (eO s.ay a.name) (fL s.ay a.name) else if fL s.ay a.name=false then({s with acts:=n1}, .no 3) else match s.ay[eO s.ay a.name]? with|some t=>qX {s with acts:=n1} (eO s.ay a.name) t a|none=>({s with acts:=n1}, .no 3) by rw [Hr.out,if_neg h8]);clear h8;have Hs:=dZ
    cases eG:fe a.name with
    |false=>
     have jf:=ae eG;replace Hr:=ae (show bz s a=({s with acts:=n1}, .no 1) by rw [Hr.out,if_pos eG]);clear eG;go_wp2_with fail;(refine(qy a.name _ (by omega)).mono ?_);rw [jf.out];rintro e w1 ⟨rfl,rfl⟩;go_wp2_with fail;(refine(vO 1 _).mono ?_);rintro e w7 ⟨rfl,h7⟩;have bR:Ext wb w7:=Xt;have iz:=af.ext bR hR;have fH:=Hs.out.ext bR;have xB:=hup.ext bR;have eP:=iz.lt;have kX:=ae fH;clear h7 fH hR;obtain⟨hcR,jY,eP⟩:=iz.see;go_wp2_with fail;refine aG (h:= ?_);rw [Hr.out];exact⟨rfl,kX.out.ux aC,gP⟩
    |true=>
     have jf:=ae eG;obtain⟨k,hk⟩:∃k,eO s.ay a.name=k:=⟨_,rfl⟩;obtain⟨ok,hok⟩:∃b,fL s.ay a.name=b:=⟨_,rfl⟩;replace Hr:=ae (show bz s a=if a.k=1\/ (a.k=5/\ok=false) then qW {s with acts:=n1} a k ok else if ok=false then({s with acts:=n1}, .no 3) else match s.ay[k]? with|some t=>qX {s with acts:=n1} k t a|none=>({s with acts:=n1}, .no 3) by rw [Hr.out,if_neg (by rw [eG];simp),hk,hok]);have hkl:k<=s.ay.length:=by rw [<-hk];exact Ns _ _
     have Hk:=ae hk;have dv:=ae hok;clear eG hk hok;go_wp2_with fail;(refine(qy a.name _ (by omega)).mono ?_);rw [jf.out];rintro e w1 ⟨rfl,rfl⟩;go_wp2_with fail;(refine(aeZ (fun b=>P b/\b<w.heap.size) r {s with acts:=n1} a.name _ (dZ.out.ext Xt) (by simp only;omega) Hi.out.dO).mono ?_);rintro e w2 ⟨rfl,h2⟩;simp only;rw [Hk.out,dv.out];have hx2:Ext wb w2:=Xt;have hA:=af.ext hx2 hA;have hR:=af.ext hx2 hR;have Hs:=ae (dZ.out.ext hx2);have hup:=hup.ext hx2;have Nt:=hR.lt;clear h2 hx2 jZ j3 hlA;obtain⟨jZ,j3,hlA⟩:=hA.see;by_cases hcr:a.k=1\/ (a.k=5/\ok=false)
     ·replace Hr:=ae (show bz s a=qW {s with acts:=n1} a k ok by rw [Hr.out,if_pos hcr])
      rcases hcr with h1|⟨h5,rfl⟩
      ·have h1b:(a.k==1)=true:=by simpa using h1
       clear h1;go_wp2_with fail;(refine(UI (fun b=>P b/\b<w.heap.size) r {s with acts:=n1} a k ok _ (Hs.out.ext Xt) hkl (by simp only;omega) hs0 (by simp only;omega) hbz hwz (Hl.out _ (hup.ext Xt)).1 (Hl.out _ (hup.ext Xt)).2).mono ?_);rintro e w7 ⟨rfl,fH,jD⟩;have xB:=hup.over jD (fun b h hl hq=>h hq.1);have iz:=af.held (T:=fun b=>¬(P b/\b<w.heap.size)) ⟨jD.size,jD.block⟩ (af.ext (w:=w2) Xt hR) (fun h=>by omega);have eP:=iz.lt;have hzs:=jD.size;have kX:=ae fH;clear fH jD hR;obtain⟨hcR,jY,eP⟩:=iz.see;go_wp2_with fail;refine aG (h:= ?_);rw [Hr.out];refine⟨rfl,kX.out.fin (by(try simp);omega) ?_,gP⟩
       with_reducible repeat (first|exact Held.refl _ _|assumption|apply Held.drew|apply Held.drewN|apply Held.alloc|(refine Held.set ?_ ?_ _;rotate_left;(focus(first|(simp;done)|(simp;omega)|omega)))|(refine Held.ext ?_ (by assumption))|(refine Held.grown ?_ (by assumption) (by assumption))|(refine Held.trans ?_ (by assumption)))
      ·have h1b:(a.k==1)=false:=by simp;omega
       have pP:(a.k==5)=true:=by simpa using h5
       clear h5;go_wp2_with fail;(refine(UI (fun b=>P b/\b<w.heap.size) r {s with acts:=n1} a k false _ (Hs.out.ext Xt) hkl (by simp only;omega) hs0 (by simp only;omega) hbz hwz (Hl.out _ (hup.ext Xt)).1 (Hl.out _ (hup.ext Xt)).2).mono ?_);rintro e w7 ⟨rfl,fH,jD⟩;have xB:=hup.over jD (fun b h hl hq=>h hq.1);have iz:=af.held (T:=fun b=>¬(P b/\b<w.heap.size)) ⟨jD.size,jD.block⟩ (af.ext (w:=w2) Xt hR) (fun h=>by omega);have eP:=iz.lt;have hzs:=jD.size;have kX:=ae fH;clear fH jD hR;obtain⟨hcR,jY,eP⟩:=iz.see;go_wp2_with fail;refine aG (h:= ?_);rw [Hr.out];refine⟨rfl,kX.out.fin (by(try simp);omega) ?_,gP⟩
       with_reducible repeat (first|exact Held.refl _ _|assumption|apply Held.drew|apply Held.drewN|apply Held.alloc|(refine Held.set ?_ ?_ _;rotate_left;(focus(first|(simp;done)|(simp;omega)|omega)))|(refine Held.ext ?_ (by assumption))|(refine Held.grown ?_ (by assumption) (by assumption))|(refine Held.trans ?_ (by assumption)))
     ·have h1b:(a.k==1)=false:=by simpa using fun h=>hcr (.inl h)
      cases ok with
      |false=>
       have pP:(a.k==5)=false:=by simpa using fun h=>hcr (.inr ⟨h,rfl⟩)
       replace Hr:=ae (show bz s a=({s with acts:=n1}, .no 3) by rw [Hr.out,if_neg hcr,if_pos rfl]);clear hcr;go_wp2_with fail;(refine(vO 3 _).mono ?_);rintro e w7 ⟨rfl,h7⟩;have bR:Ext w2 w7:=Xt;have iz:=af.ext bR hR;have fH:=Hs.out.ext bR;have xB:=hup.ext bR;have eP:=iz.lt;have kX:=ae fH;clear h7 fH hR;obtain⟨hcR,jY,eP⟩:=iz.see;go_wp2_with fail;refine aG (h:= ?_);rw [Hr.out];exact⟨rfl,kX.out.ux aC,gP⟩
      |true=>
       have hkn:k<s.ay.length:=by
        rcases Nat.lt_or_ge k s.ay.length with h|h
        ·exact h
        ·have:=UJ (l:=s.ay) (name:=a.name) (by rw [Hk.out];omega)
         rw [dv.out] at this;cases this
       obtain⟨t,ht⟩:∃t,s.ay[k]=t:=⟨_,rfl⟩;replace Hr:=ae (show bz s a=qX {s with acts:=n1} k t a by rw [Hr.out,if_neg hcr,if_neg (by simp),List.getElem?_eq_getElem hkn,ht]);obtain⟨Nv,ae0,ahz,ahA⟩:=Hi.out.size t (by rw [<-ht];exact List.getElem_mem hkn);have Ht:=ae ht;clear hcr ht;go_upto_region 14 with fail
       go_cut [80] (fun s80 wx=>s80= .bool false/\w2=wx)
       case first=>
        by_cases h5:a.k=5
        ·have pP:(a.k==5)=true:=by simpa using h5
         clear h5;go_wp2_with fail
         go_meet
         exact⟨rfl,rfl⟩
        ·have pP:(a.k==5)=false:=by simpa using h5
         clear h5;go_wp2_with fail
         go_meet
         exact⟨rfl,rfl⟩
       case rest=>
        obtain⟨rfl,rfl⟩:=hcut;obtain⟨v2,IC,IE⟩:=Hs.out;obtain⟨g,c,ka,kc,la,lc,oa,oc,rfl,hg,hgr,vN,hnc,hcs,hti⟩:=IE.thing hkn;replace hcs:=aeV hcs Ht.out;have qM:=ae (show kG w2 (fun b=>(P b/\b<w.heap.size)/\b≠r/\b≠g) t ka kc la lc oa oc from by have h:=Ht.out;subst h;exact hti);have qY:=ae IE;have ag:=IE.box;have zE:=ae vN;obtain⟨hc0,aw,hl0⟩:=ag.see;obtain⟨d0,d1,d2,d3,d4,d5,d6,d7,d8,d9,d10,d11,d12,d13,d14⟩:=BA hcs;clear IE hti hcs vN;go_upto_region 19 with fail
        refine aI (R:=fun wx=>kY wx w.heap.size a/\jm wx (w.heap.size+1)/\fx wx w2.heap.size t ka kc la lc oa oc/\Ext w2 wx) ⟨aR,aR,aR,Xt⟩ ?_;clear hA hR ag hc0 aw hl0 jZ j3 hlA d0 d1 d2 d3 d4 d5 d6 d7 d8 d9 d10 d11 d12 d13 d14 Hs;rintro wc ⟨hA,hR,hT,hx⟩;have Hs:=ae (show Sat wc (fun b=>P b/\b<w.heap.size) r {s with acts:=n1} from⟨_,_,qY.out.ext hx⟩);replace hup:=hup.ext hx;have Nw:=hT.lt;have Co:w.heap.size+2<=w2.heap.size:=by omega
        obtain⟨jZ,j3,hlA⟩:=hA.see;obtain⟨iA,iB,fy⟩:=hT.see;by_cases h9:a.k=9
        ·have h9b:(a.k==9)=true:=by simpa using h9
         have A2:(a.k==6)=false:=by simp;omega
         replace Hr:=ae (show bz s a=({s with acts:=n1},uz t) by rw [Hr.out];unfold qX;rw [if_neg (by omega),if_pos h9]);clear h9;obtain⟨⟨pb,pe⟩,hp⟩:∃z,gf t.v=z:=⟨_,rfl⟩;have Hp:=ae hp;clear hp;go_wp2_with fail;(refine(Ma t.v ka kc la lc _ _ (by omega) (qM.out.v.ext Xt) (Hl.out _ (hup.ext Xt)).1).mono ?_);rw [Hp.out];rintro e w3 ⟨rfl,h3⟩;have hx3:Ext wc w3:=Xt;have hR:=af.ext hx3 hR;have hT:=af.ext hx3 hT;replace Hs:=ae (Hs.out.ext hx3);replace hup:=hup.ext hx3;have eP:=hR.lt;clear h3 jZ j3 hlA iA iB fy hA hx;by_cases hpe:pe=0
         ·subst hpe
          replace Hr:=ae (show bz s a=({s with acts:=n1},⟨0,t.ver,⟨pb.toArray⟩⟩) by rw [Hr.out];unfold uz;rw [Hp.out,if_neg (by simp)]);obtain⟨hcR,jY,eP⟩:=hR.see;obtain⟨iA,iB,fy⟩:=hT.see;go_wp2_with fail;refine aG (h:= ?_);rw [Hr.out];refine⟨rfl,Hs.out.ux ?_,gP⟩
          with_reducible repeat (first|exact Held.refl _ _|assumption|apply Held.drew|apply Held.drewN|apply Held.alloc|(refine Held.set ?_ ?_ _;rotate_left;(focus(first|(simp;done)|(simp;omega)|omega)))|(refine Held.ext ?_ (by assumption))|(refine Held.grown ?_ (by assumption) (by assumption))|(refine Held.trans ?_ (by assumption)))
         ·have ahB:(pe !=0)=true:=by simpa using hpe
          replace Hr:=ae (show bz s a=({s with acts:=n1}, .no pe) by rw [Hr.out];unfold uz;rw [Hp.out,if_pos hpe]);clear hpe;go_wp2_with fail;(refine(vO pe _).mono ?_);rintro e w7 ⟨rfl,h7⟩;have bR:Ext w3 w7:=Xt;have iz:=af.ext bR hR;have fH:=Hs.out.ext bR;have xB:=hup.ext bR;have eP:=iz.lt;have kX:=ae fH;clear h7 fH hR;obtain⟨hcR,jY,eP⟩:=iz.see;go_wp2_with fail;refine aG (h:= ?_);rw [Hr.out];exact⟨rfl,kX.out.ux aC,gP⟩
        ·have h9b:(a.k==9)=false:=by simpa using h9
         by_cases h7:a.k=7
         ·have Lm:(a.k==7)=true:=by simpa using h7
          have A2:(a.k==6)=false:=by simp;omega
          replace Hr:=ae (show bz s a=xC {s with acts:=n1} k t a.ord by rw [Hr.out];unfold qX;rw [if_neg (by omega),if_neg h9,if_pos h7]);clear h7 h9;go_wp2_with fail;(refine(UK (fun b=>P b/\b<w.heap.size) r {s with acts:=n1} k t a.ord _ (Hs.out.ext Xt) hkn Ht.out (by omega) (by simp only;omega)).mono ?_);rintro e w7 ⟨rfl,fH,jD⟩;have xB:=hup.over jD (fun b h hl hq=>h hq.1);have iz:=af.held (T:=fun b=>¬(P b/\b<w.heap.size)) ⟨jD.size,jD.block⟩ (af.ext (w:=wc) Xt hR) (fun h=>by omega);have eP:=iz.lt;have hzs:=jD.size;have kX:=ae fH;clear fH jD hR;obtain⟨hcR,jY,eP⟩:=iz.see;go_wp2_with fail;refine aG (h:= ?_);rw [Hr.out];refine⟨rfl,kX.out.fin (by(try simp);omega) ?_,gP⟩
          with_reducible repeat (first|exact Held.refl _ _|assumption|apply Held.drew|apply Held.drewN|apply Held.alloc|(refine Held.set ?_ ?_ _;rotate_left;(focus(first|(simp;done)|(simp;omega)|omega)))|(refine Held.ext ?_ (by assumption))|(refine Held.grown ?_ (by assumption) (by assumption))|(refine Held.trans ?_ (by assumption)))
         ·have Lm:(a.k==7)=false:=by simpa using h7
          by_cases h6:a.k=6
          ·have A2:(a.k==6)=true:=by simpa using h6
           replace Hr:=ae (show bz s a=({s with acts:=n1,ay:=s.ay.take k++s.ay.drop (k+1)}, .num t.ver) by rw [Hr.out];unfold qX;rw [if_pos h6]);clear h6 h7 h9;have ag:=(qY.out.ext hx).box;have hrg:r≠g:=fun e=>hgr e.symm;have vI:g<w.heap.size:=zE.out.2;obtain⟨hc0,aw,hl0⟩:=ag.see;go_wp2_with fail;(refine(aeW g c k s.ay.length IC _ hkn (by omega) (eT qY.out.own Xt) qY.out.cells.one).mono ?_);rintro e w3 ⟨rfl,eH,zF⟩;have hz3:=zF.size;have bK:=(af.ext (w:=wc) Xt ag).grown zF (fun e=>hrg (Option.some.inj e));have bV:=(af.ext (w:=wc) Xt hR).grown zF (fun e=>by have:=Option.some.inj e;omega);have IG:=(af.ext (w:=wc) Xt hT).grown zF (fun e=>by have:=Option.some.inj e;omega);have Nu:aU (fun b=>¬P b) w w3:=(aU.ext hup Xt).grown zF (fun q hq h=>absurd zE.out.1 (by cases hq;exact h));have ahC:=bK.lt;have eP:=bV.lt;have fy:=IG.lt;obtain⟨wj,iy⟩:∃wj,w3.setCell ⟨r,0,none⟩ (.slice (some ⟨g,0,none⟩) (s.ay.length-1) c)=wj:=⟨_,rfl⟩;have hsj:ez wj (fun b=>P b/\b<w.heap.size) r {s with acts:=n1,ay:=s.ay.take k++s.ay.drop (k+1)} (.slice (some ⟨g,0,none⟩) (s.ay.length-1) c) (IC.take (k*15)++IC.drop ((k+1)*15)):=by rw [<-iy];exact qY.out.del (by with_reducible repeat (first|exact Ext.refl _|assumption|apply Ext.drew|apply Ext.drewN|apply Ext.alloc|(refine Ext.setCell ?_ ?_ _;rotate_left;(focus(first|(simp;done)|(simp;omega)|omega)))|refine Ext.trans ?_ (by assumption))) hkn eH zF
           have UL:jm wj (w.heap.size+1):=by rw [<-iy];exact bV.other (by simp;omega) _
           have UM:fx wj w2.heap.size t ka kc la lc oa oc:=by rw [<-iy];exact IG.other (by simp;omega) _
           have ahD:aU (fun b=>¬P b) w wj:=by rw [<-iy];exact Nu.set (fun h=>absurd Bz.out h) _
           have sW:=ae iy;have Hsj:=ae (show Sat wj _ r _ from⟨_,_,hsj⟩);clear iy hsj eH zF bV IG Nu jZ j3 hlA iA iB fy hc0 aw hl0 hA hR hT ag;obtain⟨hc3,hf3,aS⟩:=bK.see;go_upto_region 22 with fail
           refine aI (R:=fun wy=>wy=wj) sW.out ?_;clear sW bK hc3 hf3 aS hup Hs;rintro wy rfl;have eP:=UL.lt;have fy:=UM.lt;obtain⟨hcR,jY,eP⟩:=UL.see;obtain⟨iA,iB,fy⟩:=UM.see;go_wp2_with fail;refine aG (h:= ?_);rw [Hr.out];refine⟨rfl,Hsj.out.ux ?_,gP⟩
           with_reducible repeat (first|exact Held.refl _ _|assumption|apply Held.drew|apply Held.drewN|apply Held.alloc|(refine Held.set ?_ ?_ _;rotate_left;(focus(first|(simp;done)|(simp;omega)|omega)))|(refine Held.ext ?_ (by assumption))|(refine Held.grown ?_ (by assumption) (by assumption))|(refine Held.trans ?_ (by assumption)))
          ·have A2:(a.k==6)=false:=by simpa using h6
           replace Hr:=ae (show bz s a=if a.k≠5/\a.ver≠0/\a.ver≠t.ver then({s with acts:=n1}, .no 7) else if(cR t.v t.ows a).2.2≠0 then({s with acts:=n1}, .no (cR t.v t.ows a).2.2) else o7 {s with acts:=n1} k t (cR t.v t.ows a).1 (cR t.v t.ows a).2.1 by rw [Hr.out];unfold qX;rw [if_neg h6,if_neg h9,if_neg h7]);clear h6 h7 h9;by_cases hold:a.k≠5/\a.ver≠0/\a.ver≠t.ver
           ·replace Hr:=ae (show bz s a=({s with acts:=n1}, .no 7) by rw [Hr.out,if_pos hold])
            have pP:(a.k !=5)=true:=by simpa using hold.1
            have hv0:(a.ver !=0)=true:=by simpa using hold.2.1
            have hvt:(a.ver !=t.ver)=true:=by simpa using hold.2.2
            clear hold;go_wp2_with fail;(refine(vO 7 _).mono ?_);rintro e w7 ⟨rfl,h7⟩;have bR:Ext wc w7:=Xt;have iz:=af.ext bR hR;have fH:=Hs.out.ext bR;have xB:=hup.ext bR;have eP:=iz.lt;have kX:=ae fH;clear h7 fH hR;obtain⟨hcR,jY,eP⟩:=iz.see;go_wp2_with fail;refine aG (h:= ?_);rw [Hr.out];exact⟨rfl,kX.out.ux aC,gP⟩
           ·go_upto_region 30 with fail
            go_cut [153] (fun ae1 wx=>ae1= .bool false/\wc=wx)
            case first=>
             by_cases h5:a.k=5
             ·have pP:(a.k !=5)=false:=by simpa using h5
              clear h5 hold;go_wp2_with fail
              go_meet
              exact⟨rfl,rfl⟩
             ·have pP:(a.k !=5)=true:=by simpa using h5
              by_cases hv:a.ver=0
              ·have hv0:(a.ver !=0)=false:=by simpa using hv
               clear h5 hold hv;go_wp2_with fail
               go_meet
               exact⟨rfl,rfl⟩
              ·have hv0:(a.ver !=0)=true:=by simpa using hv
               have hvt:(a.ver !=t.ver)=false:=by simpa using Classical.byContradiction fun h=>hold ⟨h5,hv,h⟩
               clear h5 hold hv;go_wp2_with fail
               go_meet
               exact⟨rfl,rfl⟩
            case rest=>
             obtain⟨rfl,rfl⟩:=hcut;obtain⟨⟨u,m,ce⟩,hch⟩:∃z,cR t.v t.ows a=z:=⟨_,rfl⟩;replace Hr:=ae (show bz s a=if ce≠0 then({s with acts:=n1}, .no ce) else o7 {s with acts:=n1} k t u m by rw [Hr.out,if_neg hold,hch]);have ng:u.size<=14640:=by have:=UN (v:=t.v) (ows:=t.ows) (a:=a) Nv;rw [hch] at this;exact this
             have vq:cN m<=2050000:=by have:=UO (v:=t.v) (ows:=t.ows) (a:=a) ae0;rw [hch] at this;simp only at this;omega
             have mA:=ae hch;clear hold hch;go_wp2_with fail;(refine(UQ t ka kc la lc oa oc a (fun b=>(P b/\b<w.heap.size)/\b≠r/\b≠g) _ (qM.out.v.ext Xt) qM.out.ok (qM.out.ows.ext Xt) Nv (by omega) hbz hwz (Hl.out _ (hup.ext Xt)).1 (Hl.out _ (hup.ext Xt)).2).mono ?_);rw [mA.out];rintro e w3 ⟨k2,c2,l2,d2,a5,c5,rfl,bZ,ik,xD,h3⟩;have hx3:Ext w2 w3:=Xt;have hR:=af.ext (w:=wc) (w':=w3) Xt hR;replace hup:=aU.ext (c:=w3) hup Xt;have vI:g<w.heap.size:=zE.out.2;have bN:=ae (show u.In w3 (fun b=>(aW P w b/\b≠w.heap.size+1)/\b≠r/\b≠g) k2 c2 l2 d2 from bZ.mono fun q h _=>by rcases h with h|h;exact⟨⟨.inl h.1.1,by omega⟩,h.2⟩;exact⟨⟨.inr (by(try simp at h);omega),by(try simp at h);omega⟩,by(try simp at h);omega,by(try simp at h);omega⟩);have ae2:=ae (show cz w3 (fun b=>(aW P w b/\b≠w.heap.size+1)/\b≠r/\b≠g) m a5 from xD.mono fun q h _=>by rcases h with h|h;exact⟨⟨.inl h.1.1,by omega⟩,h.2⟩;exact⟨⟨.inr (by(try simp at h);omega),by(try simp at h);omega⟩,by(try simp at h);omega,by(try simp at h);omega⟩);have Ey:=ae ik;replace Hs:=ae (Hs.out.ext (w':=w3) Xt);clear bZ ik xD h3 hx jZ j3 hlA iA iB fy hA hT;by_cases h0:ce=0
             ·subst h0
              replace Hr:=ae (show bz s a=o7 {s with acts:=n1} k t u m by rw [Hr.out,if_neg (by simp)]);go_upto_region 33 with fail
              refine aI (R:=fun wx=>jm wx (w.heap.size+1)/\aD wx w3.heap.size u k2 c2 l2 d2/\Ext w3 wx) ⟨aR,aR,Xt⟩ ?_;clear hR;rintro wd ⟨hR,hU,iM⟩;replace hup:=hup.ext iM;have hzd:=hU.lt;have hz3:=hx3.size;obtain⟨Q,hQ⟩:∃Q:aA,Q=fun b=>aW P w b/\b≠w.heap.size+1:=⟨_,rfl⟩
              have HQ:=ae hQ;have Ny:∀b,((aW P w b/\b≠w.heap.size+1)/\b≠r/\b≠g)-> (Q b/\b≠r/\ (Value.slice (some ⟨g,0,none⟩) s.ay.length c).ownBlock≠some b):=fun b h=>⟨by rw [hQ];exact h.1,h.2.1,fun e=>h.2.2 (by cases e;rfl)⟩;have Nz:=ae (fun(w':World) (e:Ext wd w')=>UR Q r {s with acts:=n1} (.slice (some ⟨g,0,none⟩) s.ay.length c) IC k t u k2 c2 l2 d2 m a5 c5 w' ((qY.out.ext (hx3.trans (iM.trans e))).mono fun b h=>by rw [hQ];exact⟨.inl h.1,by omega⟩) hkn Ht.out ((bN.out.ext (iM.trans e)).mono fun b h _=>Ny b h) Ey.out ((ae2.out.ext (iM.trans e)).mono fun b h _=>Ny b h) (by omega) (by omega) (by omega) (by simp only;omega) hs0 (by simp only;omega) (by omega) (by omega));clear hQ Ny;obtain⟨xE,xG,pM⟩:=hU.see;go_wp2_with fail;(refine(Nz.out _ Xt).mono ?_);rintro e w7 ⟨rfl,fH,jD⟩;have vP:∀b,Q b->aW P w b/\b≠w.heap.size+1:=fun b h=>by rw [HQ.out] at h;exact h
              have iz:=af.held (T:=fun b=>¬Q b) ⟨jD.size,jD.block⟩ (af.ext (w:=wd) Xt hR) (fun h=>(vP _ h).2 rfl);have xB:aU (fun b=>¬P b) w w7:=(aU.ext hup Xt).over jD (fun b h hl hq=>by rcases(vP b hq).1 with h'|h';exact h h';omega);have hzs:=jD.size;have eP:=iz.lt;have kX:=ae (Sat.mono (Q:=fun b=>aW P w b/\b≠w.heap.size+1) fH fun b h=>by rcases h with h|h;exact vP b h;exact⟨.inr (by(try simp at h);omega),by(try simp at h);omega⟩);clear fH jD hR vP HQ;obtain⟨hcR,jY,eP⟩:=iz.see;go_wp2_with fail;refine aG (h:= ?_);rw [Hr.out];refine⟨rfl,(kX.out.keep (Kept.mono (Held.kept (T:=fun b=>b≠w.heap.size+1) ?_) fun b hb=>hb.2)).mono fun b hb=>hb.1,gP⟩
              with_reducible repeat (first|exact Held.refl _ _|assumption|apply Held.drew|apply Held.drewN|apply Held.alloc|(refine Held.set ?_ ?_ _;rotate_left;(focus(first|(simp;done)|(simp;omega)|omega)))|(refine Held.ext ?_ (by assumption))|(refine Held.grown ?_ (by assumption) (by assumption))|(refine Held.trans ?_ (by assumption)))
             ·have rX:(ce !=0)=true:=by simpa using h0
              replace Hr:=ae (show bz s a=({s with acts:=n1}, .no ce) by rw [Hr.out,if_pos h0]);clear h0;go_upto_region 33 with fail
              refine aI (R:=fun wx=>jm wx (w.heap.size+1)/\Ext w3 wx) ⟨aR,Xt⟩ ?_;clear hR;rintro wd ⟨hR,iM⟩;replace hup:=hup.ext iM;replace Hs:=ae (Hs.out.ext iM);go_wp2_with fail;(refine(vO ce _).mono ?_);rintro e w7 ⟨rfl,h7⟩;have bR:Ext wd w7:=Xt;have iz:=af.ext bR hR;have fH:=Hs.out.ext bR;have xB:=hup.ext bR;have eP:=iz.lt;have kX:=ae fH;clear h7 fH hR;obtain⟨hcR,jY,eP⟩:=iz.see;go_wp2_with fail;refine aG (h:= ?_);rw [Hr.out];exact⟨rfl,kX.out.ux aC,gP⟩
end Go.Proofs.YtlcebdaghmdkeaaGreatDoor
