import Derived.Test.YtlcebdaghmdkeabGreatDoorZ17
set_option linter.all false
set_option maxRecDepth 100000
set_option maxHeartbeats 64000000
namespace Go.Proofs.YtlcebdaghmdkeabGreatDoor
open Go.Proofs.Tryz
open Go.RowKit
attribute [local go_sem↓] Go.wp_at_zero Go.wp_at_succ
theorem Uo {s:ah} (h:s.toList≠ []):s.toList.isEmpty=false:=by cases hs:s.toList with|nil=>exact absurd hs h|cons=>rfl
theorem aeg {x p:V} {key:ah} (hp:(x.member key).getD V.zero=p) (ka:au) (kc:Nat) (la:au) (lc:Nat) (S:az) (w:World) (hsz:x.size<=1073741824) (hin:x.In w S ka kc la lc):
 Calls prog 39 #[x.val ka kc la lc, .string key] w (fe S p (.bool (x.member key).isSome) w):=by
 cases hm:x.member key with
 |some y=>
  rw [hm] at hp;simp only [Option.getD_some] at hp;subst hp;exact xf hm ka kc la lc S w hsz hin
 |none=>
  rw [hm] at hp;simp only [Option.getD_none] at hp;subst hp;refine(Gd hm ka kc la lc S w hsz hin).mono ?_;rintro e w' ⟨rfl,h⟩;exact⟨none,0,none,0,rfl,V.mJ _ _,h⟩
theorem aeh (x:V) (ka:au) (kc:Nat) (la:au) (lc:Nat) (S:az) (w:World) (hsz:x.size<=1073741824) (hin:x.In w S ka kc la lc)
 (hn:x.fine=false\/ (x.fine=true/\ (x.member uz=none\/∃i,x.member uz=some i/\¬(i.k=3/\i.s.toList≠ [])))):
 Calls prog 17 #[x.val ka kc la lc] w (ux none w):=by
 rcases hn with hf|⟨hf,hi|⟨i,hi,hni⟩⟩
 ·go_enter func17,ntmps17
  go_wp2_with fail;(with_reducible refine(cT x ka kc la lc S _ hsz (hin.ext Xt)).mono ?_);rintro e w1 ⟨rfl,h1⟩;obtain⟨nK,nL,iG⟩:=cp h1;(try simp at iG);(try have Et:w.heap.size<w1.heap.size:=by omega);(try have Eu:w.heap.size+1<w1.heap.size:=by omega);(try have Ev:w.heap.size+2<w1.heap.size:=by omega);rw [hf];go_wp2_with fail;refine aF (h:= ?_);exact .inr ⟨rfl,rfl,Xt⟩
 ·go_enter func17,ntmps17
  go_wp2_with fail;(with_reducible refine(cT x ka kc la lc S _ hsz (hin.ext Xt)).mono ?_);rintro e w1 ⟨rfl,h1⟩;obtain⟨nK,nL,iG⟩:=cp h1;(try simp at iG);(try have Et:w.heap.size<w1.heap.size:=by omega);(try have Eu:w.heap.size+1<w1.heap.size:=by omega);(try have Ev:w.heap.size+2<w1.heap.size:=by omega);rw [hf];go_wp2_with fail;(refine(Gd hi ka kc la lc S _ hsz (hin.ext Xt)).mono ?_);rintro e w2 ⟨rfl,h2⟩;obtain⟨rK,rL,ma⟩:=cp h2;(try simp at ma);(try have Ib:w.heap.size<w2.heap.size:=by omega);(try have Ic:w.heap.size+1<w2.heap.size:=by omega);(try have Ie:w.heap.size+2<w2.heap.size:=by omega);go_wp2_with fail;refine aF (h:= ?_);exact .inr ⟨rfl,rfl,Xt⟩
 ·go_enter func17,ntmps17
  go_wp2_with fail;(with_reducible refine(cT x ka kc la lc S _ hsz (hin.ext Xt)).mono ?_);rintro e w1 ⟨rfl,h1⟩;obtain⟨nK,nL,iG⟩:=cp h1;(try simp at iG);(try have Et:w.heap.size<w1.heap.size:=by omega);(try have Eu:w.heap.size+1<w1.heap.size:=by omega);(try have Ev:w.heap.size+2<w1.heap.size:=by omega);rw [hf];go_wp2_with fail;(refine(xf hi _ _ _ _ _ _ (by omega) (hin.ext Xt)).mono ?_);rintro e w2 ⟨cF,cG,cH,cI,rfl,bN,h2⟩;obtain⟨rK,rL,ma⟩:=cp h2;(try simp at ma);(try have Ib:w.heap.size<w2.heap.size:=by omega);(try have Ic:w.heap.size+1<w2.heap.size:=by omega);(try have Ie:w.heap.size+2<w2.heap.size:=by omega);by_cases q:i.k=3
  ·have q0:(i.k==3)=true:=by simpa using q
   have q1:(i.k !=3)=false:=by simpa using q
   have q2:i.s.toList= []:=Classical.byContradiction fun h=>hni ⟨q,h⟩;have q3:i.s.toList.isEmpty=true:=by rw [q2];rfl
   go_wp2_with fail;refine aF (h:= ?_);exact .inr ⟨rfl,rfl,Xt⟩
  ·have q0:(i.k==3)=false:=by simpa using q
   have q1:(i.k !=3)=true:=by simpa using q
   go_wp2_with fail;refine aF (h:= ?_);exact .inr ⟨rfl,rfl,Xt⟩
theorem aei (x i:V) (ka:au) (kc:Nat) (la:au) (lc:Nat) (S:az) (w:World) (hsz:x.size<=1073741824) (hin:x.In w S ka kc la lc)
 (hf:x.fine=true) (hi:x.member uz=some i) (q:i.k=3) (hs:i.s.toList≠ []) (r:Option (ah×List (Int×Int)))
 (hn:(x.member vV=none/\r=some (i.s, []))\/ (∃t,x.member vV=some t/\¬(t.k=4/\t.l.length<=8)/\r=none)):
 Calls prog 17 #[x.val ka kc la lc] w (ux r w):=by
 have q0:(i.k==3)=true:=by simpa using q
 have q1:(i.k !=3)=false:=by simpa using q
 have q3:=Uo hs;rcases hn with⟨ht,rfl⟩|⟨t,ht,hnt,rfl⟩
 ·go_enter func17,ntmps17
  go_upto_region 1 with fail
  refine aI (R:=fun wx=>aD wx w.heap.size x ka kc la lc/\af wx (w.heap.size+1) #[.string ⟨#[]⟩, .slice none 0 0] 50/\Ext w wx) ⟨aj,aj,Xt⟩ ?_;rintro wa ⟨ai,ak,aH⟩;obtain⟨hc1,aA,ay⟩:=ai.see;go_wp2_with fail;(with_reducible refine(cT x ka kc la lc _ _ hsz (hin.ext Xt)).mono ?_);rintro e w1 ⟨rfl,h1⟩;obtain⟨nK,nL,iG⟩:=cp h1;(try simp at iG);(try have Et:w.heap.size<w1.heap.size:=by omega);(try have Eu:w.heap.size+1<w1.heap.size:=by omega);(try have Ev:w.heap.size+2<w1.heap.size:=by omega);rw [hf];have ai:=af.ext h1 ai;have ak:=af.ext h1 ak;have hx1:Ext w w1:=Xt;clear hc1 aA ay;clear aH h1;obtain⟨hc1,aA,ay⟩:=ai.see;go_wp2_with fail;(refine(xf hi _ _ _ _ _ _ (by omega) (hin.ext Xt)).mono ?_);rintro e w2 ⟨cF,cG,cH,cI,rfl,bN,h2⟩;obtain⟨rK,rL,ma⟩:=cp h2;(try simp at ma);(try have Ib:w.heap.size<w2.heap.size:=by omega);(try have Ic:w.heap.size+1<w2.heap.size:=by omega);(try have Ie:w.heap.size+2<w2.heap.size:=by omega);have ai:=af.ext h2 ai;have ak:=af.ext h2 ak;have hw2:=ak.lt;have hx2:Ext w w2:=Xt;clear hc1 aA ay rK rL nK nL;clear hx1 h2;go_upto_region 7 with fail
  refine aI (R:=fun wx=>aD wx w.heap.size x ka kc la lc/\af wx (w.heap.size+1) #[.string ⟨#[]⟩, .slice none 0 0] 50/\af wx (w2.heap.size+1) #[.string i.s, .slice none 0 0] 50/\Ext w wx) ⟨aj,aj,aj,Xt⟩ ?_;rintro wb ⟨ai,ak,bB,aO⟩;obtain⟨hc1,aA,ay⟩:=ai.see;obtain⟨hc2,hf2,hl2⟩:=ak.see;obtain⟨je,jf,jg⟩:=bB.see;go_wp2_with fail;(refine(Gd ht ka kc la lc S _ hsz (hin.ext Xt)).mono ?_);rintro e w3 ⟨rfl,h3⟩;obtain⟨BF,M6,Ew⟩:=cp h3;(try simp at Ew);(try have Uq:w.heap.size<w3.heap.size:=by omega);(try have Ur:w.heap.size+1<w3.heap.size:=by omega);(try have Us:w.heap.size+2<w3.heap.size:=by omega);have ak:=af.ext h3 ak;have bB:=af.ext h3 bB;have hx3:Ext w w3:=Xt;clear hc1 aA ay hc2 hf2 hl2 je jf jg ai;clear h3 aO;obtain⟨hc2,hf2,hl2⟩:=ak.see;obtain⟨je,jf,jg⟩:=bB.see;go_wp2_with fail;refine aF (h:= ?_);exact .inl ⟨_,_,_,_,_,rfl,rfl,rfl, .inl rfl,(fun _ h=>by cases h),Xt⟩
 ·have Hnt:=ae hnt
  have hts:=Un ht;have htl:=t.kB;go_enter func17,ntmps17;go_upto_region 1 with fail
  refine aI (R:=fun wx=>aD wx w.heap.size x ka kc la lc/\af wx (w.heap.size+1) #[.string ⟨#[]⟩, .slice none 0 0] 50/\Ext w wx) ⟨aj,aj,Xt⟩ ?_;rintro wa ⟨ai,ak,aH⟩;obtain⟨hc1,aA,ay⟩:=ai.see;go_wp2_with fail;(with_reducible refine(cT x ka kc la lc _ _ hsz (hin.ext Xt)).mono ?_);rintro e w1 ⟨rfl,h1⟩;obtain⟨nK,nL,iG⟩:=cp h1;(try simp at iG);(try have Et:w.heap.size<w1.heap.size:=by omega);(try have Eu:w.heap.size+1<w1.heap.size:=by omega);(try have Ev:w.heap.size+2<w1.heap.size:=by omega);rw [hf];have ai:=af.ext h1 ai;have ak:=af.ext h1 ak;have hx1:Ext w w1:=Xt;clear hc1 aA ay;clear aH h1;obtain⟨hc1,aA,ay⟩:=ai.see;go_wp2_with fail;(refine(xf hi _ _ _ _ _ _ (by omega) (hin.ext Xt)).mono ?_);rintro e w2 ⟨cF,cG,cH,cI,rfl,bN,h2⟩;obtain⟨rK,rL,ma⟩:=cp h2;(try simp at ma);(try have Ib:w.heap.size<w2.heap.size:=by omega);(try have Ic:w.heap.size+1<w2.heap.size:=by omega);(try have Ie:w.heap.size+2<w2.heap.size:=by omega);have ai:=af.ext h2 ai;have ak:=af.ext h2 ak;have hw2:=ak.lt;have hx2:Ext w w2:=Xt;clear hc1 aA ay rK rL nK nL;clear hx1 h2;go_upto_region 7 with fail
  refine aI (R:=fun wx=>aD wx w.heap.size x ka kc la lc/\af wx (w.heap.size+1) #[.string ⟨#[]⟩, .slice none 0 0] 50/\af wx (w2.heap.size+1) #[.string i.s, .slice none 0 0] 50/\Ext w wx) ⟨aj,aj,aj,Xt⟩ ?_;rintro wb ⟨ai,ak,bB,aO⟩;obtain⟨hc1,aA,ay⟩:=ai.see;obtain⟨hc2,hf2,hl2⟩:=ak.see;obtain⟨je,jf,jg⟩:=bB.see;go_wp2_with fail;(refine(xf ht _ _ _ _ _ _ (by omega) (hin.ext Xt)).mono ?_);rintro e w3 ⟨bh,bj,bk,bn,rfl,bf,h3⟩;obtain⟨BF,M6,Ew⟩:=cp h3;(try simp at Ew);(try have Uq:w.heap.size<w3.heap.size:=by omega);(try have Ur:w.heap.size+1<w3.heap.size:=by omega);(try have Us:w.heap.size+2<w3.heap.size:=by omega);have ak:=af.ext h3 ak;have hx3:Ext w w3:=Xt;clear hc1 aA ay hc2 hf2 hl2 je jf jg ai bB;clear h3 aO;obtain⟨hc2,hf2,hl2⟩:=ak.see;by_cases p:t.k=4
  ·have p0:(t.k==4)=true:=by simpa using p
   have p1:(t.k !=4)=false:=by simpa using p
   have p2:(8:Int)<(t.l.length:Int):=by have:=Hnt.out;omega
   go_wp2_with fail;refine aF (h:= ?_);exact .inr ⟨rfl,rfl,Xt⟩
  ·have p0:(t.k==4)=false:=by simpa using p
   have p1:(t.k !=4)=true:=by simpa using p
   go_wp2_with fail;refine aF (h:= ?_);exact .inr ⟨rfl,rfl,Xt⟩
theorem aej (x i t:V) (ka:au) (kc:Nat) (la:au) (lc:Nat) (S0:az) (w:World) (hsz:x.size<=1073741824) (kU:x.In w S0 ka kc la lc)
 (hf:x.fine=true) (hi:x.member uz=some i) (q:i.k=3) (hs:i.s.toList≠ []) (ht:x.member vV=some t) (p:t.k=4) (hlen:t.l.length<=8)
 (hsp:dx x=match nC t.l with|some xs=>some (i.s,xs)|none=>none):
 Calls prog 17 #[x.val ka kc la lc] w (ux (dx x) w):=by
 have hin:x.In w (fun b=>b<w.heap.size) ka kc la lc:=kU.mono fun b _ h=>h;clear kU;obtain⟨j0,hj,hy0,hy1,hy2⟩:=info_parts aed;have q0:(i.k==3)=true:=by simpa using q
 have q1:(i.k !=3)=false:=by simpa using q
 have q3:=Uo hs;have hts:=Un ht;have htl:=t.kB;have p0:(t.k==4)=true:=by simpa using p
 have p1:(t.k !=4)=false:=by simpa using p
 have p2:¬(8:Int)<(t.l.length:Int):=by omega
 have p3:(t.l.length:Int)<=8:=by omega
 have zP:=ae hsp;clear hsp q hs p;go_enter func17,ntmps17;go_upto_region 1 with fail
 refine aI (R:=fun wx=>aD wx w.heap.size x ka kc la lc/\af wx (w.heap.size+1) #[.string ⟨#[]⟩, .slice none 0 0] 50/\Ext w wx) ⟨aj,aj,Xt⟩ ?_;rintro wa ⟨ai,ak,aH⟩;obtain⟨hc1,aA,ay⟩:=ai.see;go_wp2_with fail;(with_reducible refine(cT x ka kc la lc _ _ hsz (hin.ext Xt)).mono ?_);rintro e w1 ⟨rfl,h1⟩;obtain⟨nK,nL,iG⟩:=cp h1;(try simp at iG);(try have Et:w.heap.size<w1.heap.size:=by omega);(try have Eu:w.heap.size+1<w1.heap.size:=by omega);(try have Ev:w.heap.size+2<w1.heap.size:=by omega);rw [hf];have ai:=af.ext h1 ai;have ak:=af.ext h1 ak;have hx1:Ext w w1:=Xt;clear hc1 aA ay;clear aH h1;obtain⟨hc1,aA,ay⟩:=ai.see;go_wp2_with fail;(refine(xf hi _ _ _ _ _ _ (by omega) (hin.ext Xt)).mono ?_);rintro e w2 ⟨cF,cG,cH,cI,rfl,bN,h2⟩;obtain⟨rK,rL,ma⟩:=cp h2;(try simp at ma);(try have Ib:w.heap.size<w2.heap.size:=by omega);(try have Ic:w.heap.size+1<w2.heap.size:=by omega);(try have Ie:w.heap.size+2<w2.heap.size:=by omega);have ai:=af.ext h2 ai;have ak:=af.ext h2 ak;have hw2:=ak.lt;have hx2:Ext w w2:=Xt;clear hc1 aA ay rK rL nK nL;clear hx1 h2;go_upto_region 7 with fail
 refine aI (R:=fun wx=>aD wx w.heap.size x ka kc la lc/\af wx (w.heap.size+1) #[.string ⟨#[]⟩, .slice none 0 0] 50/\af wx (w2.heap.size+1) #[.string i.s, .slice none 0 0] 50/\Ext w wx) ⟨aj,aj,aj,Xt⟩ ?_;rintro wb ⟨ai,ak,bB,aO⟩;obtain⟨hc1,aA,ay⟩:=ai.see;obtain⟨hc2,hf2,hl2⟩:=ak.see;obtain⟨je,jf,jg⟩:=bB.see;go_wp2_with fail;(refine(xf ht _ _ _ _ _ _ (by omega) (hin.ext Xt)).mono ?_);rintro e w3 ⟨bh,bj,bk,bn,rfl,bf,h3⟩;obtain⟨BF,M6,Ew⟩:=cp h3;(try simp at Ew);(try have Uq:w.heap.size<w3.heap.size:=by omega);(try have Ur:w.heap.size+1<w3.heap.size:=by omega);(try have Us:w.heap.size+2<w3.heap.size:=by omega);have hw3:w2.heap.size+1<wb.heap.size:=bB.lt;have ak:=af.ext h3 ak;have bB:=af.ext h3 bB;have hx3:Ext w w3:=Xt;clear hc1 aA ay hc2 hf2 hl2 je jf jg ai;clear h3 aO;go_upto_region 13 with fail
 refine aI (R:=fun wx=>∃P:az,(∀b,P b->b≠w2.heap.size+1)/\t.In wx P bh bj bk bn/\af wx (w.heap.size+1) #[.string ⟨#[]⟩, .slice none 0 0] 50/\af wx (w2.heap.size+1) #[.string i.s, .slice none 0 0] 50/\Ext w wx) ⟨_,fun b hb=>by simp only [aW] at hb;omega,bf.ext Xt,aj,aj,Xt⟩ ?_;rintro wx ⟨P,hP,hint,ak,bB,hx⟩;have Jf:=ak.lt;have hlv:=bB.lt;have HP:=ae hP;clear hP bf BF M6
 go_loopg [9,10,11,12,59] t.l.length (fun g _ _ _ _ i' wr=>∃(k:Nat) (a2:au) (c2:Nat) (xs:List (Int×Int)),k<=t.l.length/\i'= .int .i64 k/\g=t.l.length-k/\vW t.l k xs/\wr.ownsRow wx.heap.size 82 2 (.slice a2 k c2) k (ru xs)/\
  af wr (w.heap.size+1) #[.string ⟨#[]⟩, .slice none 0 0] 50/\af wr (w2.heap.size+1) #[.string i.s, .slice a2 k c2] 50/\Ext w wr/\Held (fun b=>b<wx.heap.size/\b≠w2.heap.size+1) wx wr)
 case atStart=>exact⟨0,none,0, [],by omega,rfl,rfl,vW.nil _,World.ownsRow_nil _ _ _ _,ak,bB,hx,Held.refl _ _⟩
 case round=>
  clear ak bB hx;obtain⟨k,a2,c2,xs,hk,rfl,rfl,hst,hown,ak,bB,hx,hh⟩:=hrel;have aP:=ae hst;have cg:=ae hown;have ahq:=hh.size;clear hst hown;obtain⟨hc2,hf2,hl2⟩:=ak.see;obtain⟨je,jf,jg⟩:=bB.see;by_cases hlt:k<t.l.length
  ·have hK:Kept P wx wr:=fun b hb hl=>hh.block b ⟨hl,HP.out b hb⟩ hl
   obtain⟨bb,o,rfl,hS,iD,iE,iY,iF,⟨d0,d1,d2,d3,d4⟩,hin'⟩:=hint.item hlt;have d0:=hK.cell hS d0;have d1:=hK.cell hS d1;have d2:=hK.cell hS d2;have d3:=hK.cell hS d3;have d4:=hK.cell hS d4;have hin':=hin'.keep hK (fun _ h _=>h);have hnb:∀b,b<wx.heap.size->some b≠(Value.slice a2 k c2).ownBlock:=fun b hb he=>by have:=(cg.out.lt b he.symm).1;omega
   have kW:=ae hnb;clear hnb;have gf:=V.qy hlt;by_cases k5:(t.l[k]).k=5
   ·have k5b:((t.l[k]).k==5)=true:=by simpa using k5
    obtain⟨p,hp⟩:∃p,((t.l[k]).member M5).getD V.zero=p:=⟨_,rfl⟩;have pX:=ae (show stepOf t.l[k]=if p.k=2/\0<=p.n/\mE (-1) p.n=true then some (-1,p.n) else none by rw [stepOf,if_pos k5,<-hp];cases (t.l[k]).member M5<;>simp [V.zero]);clear k5;go_wp2_with fail;(refine(aeg hp _ _ _ _ _ _ (by omega) (hin'.ext Xt)).mono ?_);rintro e w4 ⟨wI,wJ,wK,wL,rfl,cU,h4⟩;obtain⟨aek,ael,aem⟩:=cp h4;(try simp at aem);(try have ahr:w.heap.size<w4.heap.size:=by omega);(try have ahs:w.heap.size+1<w4.heap.size:=by omega);(try have aht:w.heap.size+2<w4.heap.size:=by omega);clear aek ael;go_upto_region 18 with fail
    refine aI (R:=fun wy=>af wy wr.heap.size #[.int .i64 t.l[k].k, .int .i64 t.l[k].n, .string t.l[k].s, .slice iD t.l[k].keys.length iE, .slice iY t.l[k].l.length iF] 36/\af wy (wr.heap.size+1) #[.int .i64 (t.l[k]).n, .int .i64 0] 82/\aD wy w4.heap.size p wI wJ wK wL/\Ext wr wy) ⟨aj,aj,aj,Xt⟩ ?_;rintro wy ⟨qj,qi,GI,hy⟩;have ahu:=af.ext hy ak;have ahv:=af.ext hy bB;clear hc2 hf2 hl2 je jf jg;obtain⟨GJ,GK,zt⟩:=qj.see;obtain⟨xj,xk,xm⟩:=qi.see;obtain⟨Sp,Sq,Ss⟩:=GI.see;have n1:¬w4.heap.size=wr.heap.size:=by omega
    have n2:¬w4.heap.size=wr.heap.size+1:=by omega
    have n3:¬wr.heap.size=w4.heap.size:=by omega
    have n4:¬wr.heap.size+1=w4.heap.size:=by omega
    go_region_held3 (fun w'=>w'.cell? ⟨w4.heap.size,0,none⟩=some (.int .i64 p.k)/\w'.cell? ⟨w4.heap.size,1,none⟩=some (.int .i64 p.n)/\w'.cell? ⟨w4.heap.size,2,none⟩=some (.string p.s)/\w'.cell? ⟨w4.heap.size,3,none⟩=some (.slice wI p.keys.length wJ)/\w'.cell? ⟨w4.heap.size,4,none⟩=some (.slice wK p.l.length wL))
     (go_keep)
     (fail)
    all_goals
     go_upto_region 19 with fail
     refine aI (R:=fun wz=>aD wz wr.heap.size p wI wJ wK wL/\af wz (wr.heap.size+1) #[.int .i64 (-1), .int .i64 p.n] 82/\Ext wr wz) ⟨?_,?_,Xt⟩ ?_
     ·refine af.to (af.drew ?_) (vs:= #[.int .i64 p.k, .int .i64 p.n, .string p.s, .slice wI p.keys.length wJ, .slice wK p.l.length wL]) rfl
      exact(((((((qj.other (p:=⟨wr.heap.size+1,0,none⟩) (by simp) _).other (p:=⟨wr.heap.size+1,1,none⟩) (by simp) _).set 0 _).set 1 _).set 2 _).set 3 _).set 4 _).to rfl
     ·refine af.drew ?_
      exact(((((((qi.set 0 _).set 1 _).other (p:=⟨wr.heap.size,0,none⟩) (by simp) _).other (p:=⟨wr.heap.size,1,none⟩) (by simp) _).other (p:=⟨wr.heap.size,2,none⟩) (by simp) _).other (p:=⟨wr.heap.size,3,none⟩) (by simp) _).other (p:=⟨wr.heap.size,4,none⟩) (by simp) _).to rfl
     clear qj qi GI GJ GK zt xj xk xm Sp Sq Ss hy;rintro wz ⟨qj,Ex,hz⟩;have Ey:=af.ext hz ak;have M7:=af.ext hz bB;obtain⟨hc2,hf2,hl2⟩:=Ey.see;obtain⟨GJ,GK,zt⟩:=qj.see;obtain⟨xj,xk,xm⟩:=Ex.see;by_cases q1:p.k=2
     ·have Bz:(p.k==2)=true:=by simpa using q1
      have M8:(p.k !=2)=false:=by simpa using q1
      by_cases q2:0<=p.n
      ·have M9:¬p.n<0:=by omega
       cases q3:mE (-1) (p.n)
       ·go_wp2_with fail
        (with_reducible refine(Ez (-1) (p.n) _).mono ?_);rintro e w5 ⟨rfl,h5⟩;obtain⟨Na,Nb,zQ⟩:=cp h5;(try simp at zQ);(try have Nc:w.heap.size<w5.heap.size:=by omega);(try have Nf:w.heap.size+1<w5.heap.size:=by omega);(try have Ng:w.heap.size+2<w5.heap.size:=by omega);rw [q3];go_wp2_with fail;refine aF (h:= ?_);refine .inr ⟨?_,rfl,Xt⟩;rw [zP.out,BD hlt];rw [pX.out,if_neg];rw [q3];simp
       ·have nX:=ae (show stepOf t.l[k]=some (-1,p.n) by rw [pX.out,if_pos ⟨q1,q2,q3⟩])
        go_wp2_with fail;(with_reducible refine(Ez (-1) (p.n) _).mono ?_);rintro e w5 ⟨rfl,h5⟩;obtain⟨Na,Nb,zQ⟩:=cp h5;(try simp at zQ);(try have Nc:w.heap.size<w5.heap.size:=by omega);(try have Nf:w.heap.size+1<w5.heap.size:=by omega);(try have Ng:w.heap.size+2<w5.heap.size:=by omega);rw [q3];have aZ:Ext wr w5:=Xt;have iP:=ae (eD cg.out aZ);have EA:=af.ext h5 M7;have qi:=af.ext h5 Ex;obtain⟨aen,aeo,aep⟩:=EA.see;obtain⟨xj,xk,xm⟩:=qi.see;go_wp2_with ((at_builtin;refine wpList_append_lies _ (by rfl) _ _ 48 (by rfl) wx.heap.size 82 j0 _ 2 16 underlying48 hj hy0 hy1 hy2 rfl (by decide) (.slice a2 k c2) k (ru xs) (by rfl) (iP.out.alloc _) ⟨w5.heap.size,0,none⟩ 1 1 [.int .i64 (-1), .int .i64 (p.n)] (by rfl) (by rfl) (World.news_of_block (cs:= #[.int .i64 (-1), .int .i64 (p.n)]) (t:=82) (fr:=(0,0)) (heap_alloc_new w5 _)) (by simp [Value.oneCell']) (by omega) (by unfold maxLen;omega) (by omega) (by simp;omega) _ rfl ?_;intro g6 bA w6 bF aY ck ug;have Nh:=af.grown (af.alloc EA _) aY (kW.out _ (by omega));obtain⟨aeq,aer,aes⟩:=Nh.see;have iM:=ae aY;have gY:=ae bF;have fC:=ae ck;clear aY bF ck));have aeu:=af.grown (af.alloc (af.ext h5 Ey) (.cells #[.int .i64 (-1), .int .i64 (p.n)] 82)) iM.out (kW.out _ (by omega));have bK:Ext w w6:=Ext.grown (b:=w5.alloc _) Xt iM.out (fun g hg=>by have:=(cg.out.lt g hg).1;omega);have bD:Held (fun b=>b<wx.heap.size/\b≠w2.heap.size+1) wx w6:=Held.grown (b:=w5.alloc _) aC iM.out (fun g hg hT=>by have:=(cg.out.lt g hg).1;omega);go_roundg (t.l.length-(k+1))
        case measure=>omega
        case rel=>exact⟨k+1,_,_,xs++ [(-1,p.n)],by omega,by go_num,rfl,aP.out.snoc hlt nX.out,by rw [Um];exact dX gY.out (fun b hb he=>by have:=(gY.out.lt b he).1;rw [Below.heap_setCell _ _ _ _ (by simp;omega)]),aj,aj,Xt,aC⟩
      ·have M9:p.n<0:=by omega
       go_wp2_with fail;refine aF (h:= ?_);refine .inr ⟨?_,rfl,Xt⟩;rw [zP.out,BD hlt];rw [pX.out,if_neg];rintro⟨-,h,-⟩;omega
     ·have Bz:(p.k==2)=false:=by simpa using q1
      have M8:(p.k !=2)=true:=by simpa using q1
      go_wp2_with fail;refine aF (h:= ?_);refine .inr ⟨?_,rfl,Xt⟩;rw [zP.out,BD hlt];rw [pX.out,if_neg];rintro⟨h,-⟩;exact q1 h
   ·have k5b:((t.l[k]).k==5)=false:=by simpa using k5
    have pX:=ae (show stepOf t.l[k]=if(t.l[k]).k=2/\0<= (t.l[k]).n/\mE (t.l[k]).n 0=true then some ((t.l[k]).n,0) else none by rw [stepOf,if_neg k5]);clear k5;go_upto_region 19 with fail
    refine aI (R:=fun wz=>af wz wr.heap.size #[.int .i64 t.l[k].k, .int .i64 t.l[k].n, .string t.l[k].s, .slice iD t.l[k].keys.length iE, .slice iY t.l[k].l.length iF] 36/\af wz (wr.heap.size+1) #[.int .i64 (t.l[k]).n, .int .i64 0] 82/\Ext wr wz) ⟨aj,aj,Xt⟩ ?_;rintro wz ⟨qj,Ex,hz⟩;have Ey:=af.ext hz ak;have M7:=af.ext hz bB;clear hc2 hf2 hl2 je jf jg;obtain⟨hc2,hf2,hl2⟩:=Ey.see;obtain⟨GJ,GK,zt⟩:=qj.see;obtain⟨xj,xk,xm⟩:=Ex.see;by_cases q1:(t.l[k]).k=2
    ·have Bz:((t.l[k]).k==2)=true:=by simpa using q1
     have M8:((t.l[k]).k !=2)=false:=by simpa using q1
     by_cases q2:0<= (t.l[k]).n
     ·have M9:¬(t.l[k]).n<0:=by omega
      cases q3:mE ((t.l[k]).n) (0)
      ·go_wp2_with fail
       (with_reducible refine(Ez ((t.l[k]).n) (0) _).mono ?_);rintro e w5 ⟨rfl,h5⟩;obtain⟨Na,Nb,zQ⟩:=cp h5;(try simp at zQ);(try have Nc:w.heap.size<w5.heap.size:=by omega);(try have Nf:w.heap.size+1<w5.heap.size:=by omega);(try have Ng:w.heap.size+2<w5.heap.size:=by omega);rw [q3];go_wp2_with fail;refine aF (h:= ?_);refine .inr ⟨?_,rfl,Xt⟩;rw [zP.out,BD hlt];rw [pX.out,if_neg];rw [q3];simp
      ·have nX:=ae (show stepOf t.l[k]=some ((t.l[k]).n,0) by rw [pX.out,if_pos ⟨q1,q2,q3⟩])
       go_wp2_with fail;(with_reducible refine(Ez ((t.l[k]).n) (0) _).mono ?_);rintro e w5 ⟨rfl,h5⟩;obtain⟨Na,Nb,zQ⟩:=cp h5;(try simp at zQ);(try have Nc:w.heap.size<w5.heap.size:=by omega);(try have Nf:w.heap.size+1<w5.heap.size:=by omega);(try have Ng:w.heap.size+2<w5.heap.size:=by omega);rw [q3];have aZ:Ext wr w5:=Xt;have iP:=ae (eD cg.out aZ);have EA:=af.ext h5 M7;have qi:=af.ext h5 Ex;obtain⟨aen,aeo,aep⟩:=EA.see;obtain⟨xj,xk,xm⟩:=qi.see;go_wp2_with ((at_builtin;refine wpList_append_lies _ (by rfl) _ _ 48 (by rfl) wx.heap.size 82 j0 _ 2 16 underlying48 hj hy0 hy1 hy2 rfl (by decide) (.slice a2 k c2) k (ru xs) (by rfl) (iP.out.alloc _) ⟨w5.heap.size,0,none⟩ 1 1 [.int .i64 ((t.l[k]).n), .int .i64 (0)] (by rfl) (by rfl) (World.news_of_block (cs:= #[.int .i64 ((t.l[k]).n), .int .i64 (0)]) (t:=82) (fr:=(0,0)) (heap_alloc_new w5 _)) (by simp [Value.oneCell']) (by omega) (by unfold maxLen;omega) (by omega) (by simp;omega) _ rfl ?_;intro g6 bA w6 bF aY ck ug;have Nh:=af.grown (af.alloc EA _) aY (kW.out _ (by omega));obtain⟨aeq,aer,aes⟩:=Nh.see;have iM:=ae aY;have gY:=ae bF;have fC:=ae ck;clear aY bF ck));have aeu:=af.grown (af.alloc (af.ext h5 Ey) (.cells #[.int .i64 ((t.l[k]).n), .int .i64 (0)] 82)) iM.out (kW.out _ (by omega));have bK:Ext w w6:=Ext.grown (b:=w5.alloc _) Xt iM.out (fun g hg=>by have:=(cg.out.lt g hg).1;omega);have bD:Held (fun b=>b<wx.heap.size/\b≠w2.heap.size+1) wx w6:=Held.grown (b:=w5.alloc _) aC iM.out (fun g hg hT=>by have:=(cg.out.lt g hg).1;omega);go_roundg (t.l.length-(k+1))
       case measure=>omega
       case rel=>exact⟨k+1,_,_,xs++ [((t.l[k]).n,0)],by omega,by go_num,rfl,aP.out.snoc hlt nX.out,by rw [Um];exact dX gY.out (fun b hb he=>by have:=(gY.out.lt b he).1;rw [Below.heap_setCell _ _ _ _ (by simp;omega)]),aj,aj,Xt,aC⟩
     ·have M9:(t.l[k]).n<0:=by omega
      go_wp2_with fail;refine aF (h:= ?_);refine .inr ⟨?_,rfl,Xt⟩;rw [zP.out,BD hlt];rw [pX.out,if_neg];rintro⟨-,h,-⟩;omega
    ·have Bz:((t.l[k]).k==2)=false:=by simpa using q1
     have M8:((t.l[k]).k !=2)=true:=by simpa using q1
     go_wp2_with fail;refine aF (h:= ?_);refine .inr ⟨?_,rfl,Xt⟩;rw [zP.out,BD hlt];rw [pX.out,if_neg];rintro⟨h,-⟩;exact q1 h
  ·obtain rfl:k=t.l.length:=by omega
   go_wp2_with fail;refine aF (h:= ?_)
   exact .inl ⟨i.s,xs,a2,t.l.length,c2,by rw [zP.out,aP.out.all],aP.out.1,rfl,aef (dX cg.out (fun b hb he=>by
    have:=(cg.out.lt b he).1
    rw [Below.heap_setCell _ _ _ _ (by simp;omega),Below.heap_setCell _ _ _ _ (by simp;omega)])) aP.out.1,(fun p hp=>by have:=(cg.out.lt p.block (by rw [hp];rfl)).1;omega),Xt⟩
theorem aev {x i t:V} (hf:x.fine=true) (hi:x.member uz=some i) (q:i.k=3) (hs:i.s.toList≠ []) (ht:x.member vV=some t) (p:t.k=4) (hlen:t.l.length<=8):
 dx x=match nC t.l with|some xs=>some (i.s,xs)|none=>none:=by
 unfold dx;rw [if_pos hf,hi];simp only;rw [if_pos ⟨q,hs⟩,ht];simp only;rw [if_pos ⟨p,hlen⟩];cases nC t.l<;>rfl
theorem aew (x:V):(dx x=none/\ (x.fine=false\/ (x.fine=true/\ (x.member uz=none\/∃i,x.member uz=some i/\¬(i.k=3/\i.s.toList≠ [])))))\/
 ∃i,x.fine=true/\x.member uz=some i/\i.k=3/\i.s.toList≠ []/\
  (((x.member vV=none/\dx x=some (i.s, []))\/ (∃t,x.member vV=some t/\¬(t.k=4/\t.l.length<=8)/\dx x=none))\/
    ∃t,x.member vV=some t/\t.k=4/\t.l.length<=8):=by
 by_cases hf:x.fine=true
 ·cases hi:x.member uz with
  |none=>exact .inl ⟨by unfold dx;rw [if_pos hf,hi], .inr ⟨hf, .inl rfl⟩⟩
  |some i=>
   by_cases hq:i.k=3/\i.s.toList≠ []
   ·refine .inr ⟨i,hf,rfl,hq.1,hq.2,?_⟩
    cases ht:x.member vV with
    |none=>exact .inl (.inl ⟨rfl,by unfold dx;rw [if_pos hf,hi];simp only;rw [if_pos hq,ht]⟩)
    |some t=>
     by_cases hp:t.k=4/\t.l.length<=8
     ·exact .inr ⟨t,rfl,hp.1,hp.2⟩
     ·exact .inl (.inr ⟨t,rfl,hp,by unfold dx;rw [if_pos hf,hi];simp only;rw [if_pos hq,ht];simp only;rw [if_neg hp]⟩)
   ·exact .inl ⟨by unfold dx;rw [if_pos hf,hi];simp only;rw [if_neg hq], .inr ⟨hf, .inr ⟨i,rfl,hq⟩⟩⟩
 ·have hf:x.fine=false:=by simpa using hf
  exact .inl ⟨by unfold dx;rw [hf];simp, .inl hf⟩
theorem Ig (x:V) (ka:au) (kc:Nat) (la:au) (lc:Nat) (S:az) (w:World) (hsz:x.size<=1073741824) (hin:x.In w S ka kc la lc):
 Calls prog 17 #[x.val ka kc la lc] w (ux (dx x) w):=by
 rcases aew x with⟨h,hn⟩|⟨i,hf,hi,q,hs,hn|⟨t,ht,p,hlen⟩⟩
 ·rw [h];exact aeh x ka kc la lc S w hsz hin hn
 ·exact aei x i ka kc la lc S w hsz hin hf hi q hs _ (hn.imp (fun h=>⟨h.1,h.2⟩) (fun⟨t,h1,h2,h3⟩=>⟨t,h1,h2,h3⟩))
 ·exact aej x i t ka kc la lc S w hsz hin hf hi q hs ht p hlen (aev hf hi q hs ht p hlen)
end Go.Proofs.YtlcebdaghmdkeabGreatDoor
