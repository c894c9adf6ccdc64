import Derived.Test.YtlcebdaghmdkeabGreatDoorM13
set_option linter.all false
set_option maxRecDepth 100000
set_option maxHeartbeats 64000000
namespace Go.Proofs.YtlcebdaghmdkeabGreatDoor
open Go.Proofs.Tryz
open Go.RowKit
attribute [local go_sem↓] Go.wp_at_zero Go.wp_at_succ
theorem SB {s:ah} (h:s.toList≠ []):s.toList.isEmpty=false:=by cases hs:s.toList with|nil=>exact absurd hs h|cons=>rfl
theorem ac8 {x p:V} {key:ah} (hp:(x.member key).getD V.zero=p) (ka:aq) (kc:Nat) (la:aq) (lc:Nat) (S:aw) (w:World) (hsz:x.size<=1073741824) (hin:x.In w S ka kc la lc):
 Calls prog 39 #[x.val ka kc la lc, .string key] w (eO S p (.bool (x.member key).isSome) w):=by
 cases hm:x.member key with
 |some y=>
  rw [hm] at hp;simp only [Option.getD_some] at hp;subst hp;exact vQ hm ka kc la lc S w hsz hin
 |none=>
  rw [hm] at hp;simp only [Option.getD_none] at hp;subst hp;refine(E2 hm ka kc la lc S w hsz hin).mono ?_;rintro e w' ⟨rfl,h⟩;exact⟨none,0,none,0,rfl,V.mY _ _,h⟩
theorem ac9 (x:V) (ka:aq) (kc:Nat) (la:aq) (lc:Nat) (S:aw) (w:World) (hsz:x.size<=1073741824) (hin:x.In w S ka kc la lc)
 (hn:x.fine=false\/ (x.fine=true/\ (x.member tE=none\/∃i,x.member tE=some i/\¬(i.k=3/\i.s.toList≠ [])))):
 Calls prog 17 #[x.val ka kc la lc] w (uK none w):=by
 rcases hn with hf|⟨hf,hi|⟨i,hi,hni⟩⟩
 ·go_enter func17,ntmps17
  go_wp2_with fail;(with_reducible refine(cU x ka kc la lc S _ hsz (hin.ext Xt)).mono ?_);rintro e w1 ⟨rfl,h1⟩;obtain⟨mZ,ng,ij⟩:=bZ h1;(try simp at ij);(try have Df:w.heap.size<w1.heap.size:=by omega);(try have Dg:w.heap.size+1<w1.heap.size:=by omega);(try have Dh:w.heap.size+2<w1.heap.size:=by omega);rw [hf];go_wp2_with fail;refine aF (h:= ?_);exact .inr ⟨rfl,rfl,Xt⟩
 ·go_enter func17,ntmps17
  go_wp2_with fail;(with_reducible refine(cU x ka kc la lc S _ hsz (hin.ext Xt)).mono ?_);rintro e w1 ⟨rfl,h1⟩;obtain⟨mZ,ng,ij⟩:=bZ h1;(try simp at ij);(try have Df:w.heap.size<w1.heap.size:=by omega);(try have Dg:w.heap.size+1<w1.heap.size:=by omega);(try have Dh:w.heap.size+2<w1.heap.size:=by omega);rw [hf];go_wp2_with fail;(refine(E2 hi ka kc la lc S _ hsz (hin.ext Xt)).mono ?_);rintro e w2 ⟨rfl,h2⟩;obtain⟨qG,qH,lJ⟩:=bZ h2;(try simp at lJ);(try have Gf:w.heap.size<w2.heap.size:=by omega);(try have Gg:w.heap.size+1<w2.heap.size:=by omega);(try have Gh:w.heap.size+2<w2.heap.size:=by omega);go_wp2_with fail;refine aF (h:= ?_);exact .inr ⟨rfl,rfl,Xt⟩
 ·go_enter func17,ntmps17
  go_wp2_with fail;(with_reducible refine(cU x ka kc la lc S _ hsz (hin.ext Xt)).mono ?_);rintro e w1 ⟨rfl,h1⟩;obtain⟨mZ,ng,ij⟩:=bZ h1;(try simp at ij);(try have Df:w.heap.size<w1.heap.size:=by omega);(try have Dg:w.heap.size+1<w1.heap.size:=by omega);(try have Dh:w.heap.size+2<w1.heap.size:=by omega);rw [hf];go_wp2_with fail;(refine(vQ hi _ _ _ _ _ _ (by omega) (hin.ext Xt)).mono ?_);rintro e w2 ⟨cp,ct,cu,cw,rfl,bR,h2⟩;obtain⟨qG,qH,lJ⟩:=bZ h2;(try simp at lJ);(try have Gf:w.heap.size<w2.heap.size:=by omega);(try have Gg:w.heap.size+1<w2.heap.size:=by omega);(try have Gh:w.heap.size+2<w2.heap.size:=by omega);by_cases q:i.k=3
  ·have q0:(i.k==3)=true:=by simpa using q
   have q1:(i.k !=3)=false:=by simpa using q
   have q2:i.s.toList= []:=Classical.byContradiction fun h=>hni ⟨q,h⟩;have q3:i.s.toList.isEmpty=true:=by rw [q2];rfl
   go_wp2_with fail;refine aF (h:= ?_);exact .inr ⟨rfl,rfl,Xt⟩
  ·have q0:(i.k==3)=false:=by simpa using q
   have q1:(i.k !=3)=true:=by simpa using q
   go_wp2_with fail;refine aF (h:= ?_);exact .inr ⟨rfl,rfl,Xt⟩
theorem ada (x i:V) (ka:aq) (kc:Nat) (la:aq) (lc:Nat) (S:aw) (w:World) (hsz:x.size<=1073741824) (hin:x.In w S ka kc la lc)
 (hf:x.fine=true) (hi:x.member tE=some i) (q:i.k=3) (hs:i.s.toList≠ []) (r:Option (ah×List (Int×Int)))
 (hn:(x.member uN=none/\r=some (i.s, []))\/ (∃t,x.member uN=some t/\¬(t.k=4/\t.l.length<=8)/\r=none)):
 Calls prog 17 #[x.val ka kc la lc] w (uK r w):=by
 have q0:(i.k==3)=true:=by simpa using q
 have q1:(i.k !=3)=false:=by simpa using q
 have q3:=SB hs;rcases hn with⟨ht,rfl⟩|⟨t,ht,hnt,rfl⟩
 ·go_enter func17,ntmps17
  go_upto_region 1 with fail
  refine aI (R:=fun wx=>aC wx w.heap.size x ka kc la lc/\af wx (w.heap.size+1) #[.string ⟨#[]⟩, .slice none 0 0] 50/\Ext w wx) ⟨aj,aj,Xt⟩ ?_;rintro wa ⟨ai,ak,aD⟩;obtain⟨hc1,aA,ay⟩:=ai.see;go_wp2_with fail;(with_reducible refine(cU x ka kc la lc _ _ hsz (hin.ext Xt)).mono ?_);rintro e w1 ⟨rfl,h1⟩;obtain⟨mZ,ng,ij⟩:=bZ h1;(try simp at ij);(try have Df:w.heap.size<w1.heap.size:=by omega);(try have Dg:w.heap.size+1<w1.heap.size:=by omega);(try have Dh:w.heap.size+2<w1.heap.size:=by omega);rw [hf];have ai:=af.ext h1 ai;have ak:=af.ext h1 ak;have hx1:Ext w w1:=Xt;clear hc1 aA ay;clear aD h1;obtain⟨hc1,aA,ay⟩:=ai.see;go_wp2_with fail;(refine(vQ hi _ _ _ _ _ _ (by omega) (hin.ext Xt)).mono ?_);rintro e w2 ⟨cp,ct,cu,cw,rfl,bR,h2⟩;obtain⟨qG,qH,lJ⟩:=bZ h2;(try simp at lJ);(try have Gf:w.heap.size<w2.heap.size:=by omega);(try have Gg:w.heap.size+1<w2.heap.size:=by omega);(try have Gh:w.heap.size+2<w2.heap.size:=by omega);have ai:=af.ext h2 ai;have ak:=af.ext h2 ak;have hw2:=ak.lt;have hx2:Ext w w2:=Xt;clear hc1 aA ay qG qH mZ ng;clear hx1 h2;go_upto_region 7 with fail
  refine aI (R:=fun wx=>aC wx w.heap.size x ka kc la lc/\af wx (w.heap.size+1) #[.string ⟨#[]⟩, .slice none 0 0] 50/\af wx (w2.heap.size+1) #[.string i.s, .slice none 0 0] 50/\Ext w wx) ⟨aj,aj,aj,Xt⟩ ?_;rintro wb ⟨ai,ak,bB,aO⟩;obtain⟨hc1,aA,ay⟩:=ai.see;obtain⟨hc2,hf2,hl2⟩:=ak.see;obtain⟨jz,jA,jB⟩:=bB.see;go_wp2_with fail;(refine(E2 ht ka kc la lc S _ hsz (hin.ext Xt)).mono ?_);rintro e w3 ⟨rfl,h3⟩;obtain⟨AH,LK,Di⟩:=bZ h3;(try simp at Di);(try have SC:w.heap.size<w3.heap.size:=by omega);(try have SD:w.heap.size+1<w3.heap.size:=by omega);(try have SE:w.heap.size+2<w3.heap.size:=by omega);have ak:=af.ext h3 ak;have bB:=af.ext h3 bB;have hx3:Ext w w3:=Xt;clear hc1 aA ay hc2 hf2 hl2 jz jA jB ai;clear h3 aO;obtain⟨hc2,hf2,hl2⟩:=ak.see;obtain⟨jz,jA,jB⟩:=bB.see;go_wp2_with fail;refine aF (h:= ?_);exact .inl ⟨_,_,_,_,_,rfl,rfl,rfl, .inl rfl,(fun _ h=>by cases h),Xt⟩
 ·have Hnt:=ae hnt
  have hts:=SA ht;have htl:=t.jO;go_enter func17,ntmps17;go_upto_region 1 with fail
  refine aI (R:=fun wx=>aC wx w.heap.size x ka kc la lc/\af wx (w.heap.size+1) #[.string ⟨#[]⟩, .slice none 0 0] 50/\Ext w wx) ⟨aj,aj,Xt⟩ ?_;rintro wa ⟨ai,ak,aD⟩;obtain⟨hc1,aA,ay⟩:=ai.see;go_wp2_with fail;(with_reducible refine(cU x ka kc la lc _ _ hsz (hin.ext Xt)).mono ?_);rintro e w1 ⟨rfl,h1⟩;obtain⟨mZ,ng,ij⟩:=bZ h1;(try simp at ij);(try have Df:w.heap.size<w1.heap.size:=by omega);(try have Dg:w.heap.size+1<w1.heap.size:=by omega);(try have Dh:w.heap.size+2<w1.heap.size:=by omega);rw [hf];have ai:=af.ext h1 ai;have ak:=af.ext h1 ak;have hx1:Ext w w1:=Xt;clear hc1 aA ay;clear aD h1;obtain⟨hc1,aA,ay⟩:=ai.see;go_wp2_with fail;(refine(vQ hi _ _ _ _ _ _ (by omega) (hin.ext Xt)).mono ?_);rintro e w2 ⟨cp,ct,cu,cw,rfl,bR,h2⟩;obtain⟨qG,qH,lJ⟩:=bZ h2;(try simp at lJ);(try have Gf:w.heap.size<w2.heap.size:=by omega);(try have Gg:w.heap.size+1<w2.heap.size:=by omega);(try have Gh:w.heap.size+2<w2.heap.size:=by omega);have ai:=af.ext h2 ai;have ak:=af.ext h2 ak;have hw2:=ak.lt;have hx2:Ext w w2:=Xt;clear hc1 aA ay qG qH mZ ng;clear hx1 h2;go_upto_region 7 with fail
  refine aI (R:=fun wx=>aC wx w.heap.size x ka kc la lc/\af wx (w.heap.size+1) #[.string ⟨#[]⟩, .slice none 0 0] 50/\af wx (w2.heap.size+1) #[.string i.s, .slice none 0 0] 50/\Ext w wx) ⟨aj,aj,aj,Xt⟩ ?_;rintro wb ⟨ai,ak,bB,aO⟩;obtain⟨hc1,aA,ay⟩:=ai.see;obtain⟨hc2,hf2,hl2⟩:=ak.see;obtain⟨jz,jA,jB⟩:=bB.see;go_wp2_with fail;(refine(vQ ht _ _ _ _ _ _ (by omega) (hin.ext Xt)).mono ?_);rintro e w3 ⟨aX,aY,aZ,bf,rfl,bn,h3⟩;obtain⟨AH,LK,Di⟩:=bZ h3;(try simp at Di);(try have SC:w.heap.size<w3.heap.size:=by omega);(try have SD:w.heap.size+1<w3.heap.size:=by omega);(try have SE:w.heap.size+2<w3.heap.size:=by omega);have ak:=af.ext h3 ak;have hx3:Ext w w3:=Xt;clear hc1 aA ay hc2 hf2 hl2 jz jA jB ai bB;clear h3 aO;obtain⟨hc2,hf2,hl2⟩:=ak.see;by_cases p:t.k=4
  ·have p0:(t.k==4)=true:=by simpa using p
   have p1:(t.k !=4)=false:=by simpa using p
   have p2:(8:Int)<(t.l.length:Int):=by have:=Hnt.out;omega
   go_wp2_with fail;refine aF (h:= ?_);exact .inr ⟨rfl,rfl,Xt⟩
  ·have p0:(t.k==4)=false:=by simpa using p
   have p1:(t.k !=4)=true:=by simpa using p
   go_wp2_with fail;refine aF (h:= ?_);exact .inr ⟨rfl,rfl,Xt⟩
theorem adb (x i t:V) (ka:aq) (kc:Nat) (la:aq) (lc:Nat) (S0:aw) (w:World) (hsz:x.size<=1073741824) (pK:x.In w S0 ka kc la lc)
 (hf:x.fine=true) (hi:x.member tE=some i) (q:i.k=3) (hs:i.s.toList≠ []) (ht:x.member uN=some t) (p:t.k=4) (hlen:t.l.length<=8)
 (hsp:dD x=match mP t.l with|some xs=>some (i.s,xs)|none=>none):
 Calls prog 17 #[x.val ka kc la lc] w (uK (dD x) w):=by
 have hin:x.In w (fun b=>b<w.heap.size) ka kc la lc:=pK.mono fun b _ h=>h;clear pK;obtain⟨j0,hj,hy0,hy1,hy2⟩:=info_parts ac5;have q0:(i.k==3)=true:=by simpa using q
 have q1:(i.k !=3)=false:=by simpa using q
 have q3:=SB hs;have hts:=SA ht;have htl:=t.jO;have p0:(t.k==4)=true:=by simpa using p
 have p1:(t.k !=4)=false:=by simpa using p
 have p2:¬(8:Int)<(t.l.length:Int):=by omega
 have p3:(t.l.length:Int)<=8:=by omega
 have yU:=ae hsp;clear hsp q hs p;go_enter func17,ntmps17;go_upto_region 1 with fail
 refine aI (R:=fun wx=>aC wx w.heap.size x ka kc la lc/\af wx (w.heap.size+1) #[.string ⟨#[]⟩, .slice none 0 0] 50/\Ext w wx) ⟨aj,aj,Xt⟩ ?_;rintro wa ⟨ai,ak,aD⟩;obtain⟨hc1,aA,ay⟩:=ai.see;go_wp2_with fail;(with_reducible refine(cU x ka kc la lc _ _ hsz (hin.ext Xt)).mono ?_);rintro e w1 ⟨rfl,h1⟩;obtain⟨mZ,ng,ij⟩:=bZ h1;(try simp at ij);(try have Df:w.heap.size<w1.heap.size:=by omega);(try have Dg:w.heap.size+1<w1.heap.size:=by omega);(try have Dh:w.heap.size+2<w1.heap.size:=by omega);rw [hf];have ai:=af.ext h1 ai;have ak:=af.ext h1 ak;have hx1:Ext w w1:=Xt;clear hc1 aA ay;clear aD h1;obtain⟨hc1,aA,ay⟩:=ai.see;go_wp2_with fail;(refine(vQ hi _ _ _ _ _ _ (by omega) (hin.ext Xt)).mono ?_);rintro e w2 ⟨cp,ct,cu,cw,rfl,bR,h2⟩;obtain⟨qG,qH,lJ⟩:=bZ h2;(try simp at lJ);(try have Gf:w.heap.size<w2.heap.size:=by omega);(try have Gg:w.heap.size+1<w2.heap.size:=by omega);(try have Gh:w.heap.size+2<w2.heap.size:=by omega);have ai:=af.ext h2 ai;have ak:=af.ext h2 ak;have hw2:=ak.lt;have hx2:Ext w w2:=Xt;clear hc1 aA ay qG qH mZ ng;clear hx1 h2;go_upto_region 7 with fail
 refine aI (R:=fun wx=>aC wx w.heap.size x ka kc la lc/\af wx (w.heap.size+1) #[.string ⟨#[]⟩, .slice none 0 0] 50/\af wx (w2.heap.size+1) #[.string i.s, .slice none 0 0] 50/\Ext w wx) ⟨aj,aj,aj,Xt⟩ ?_;rintro wb ⟨ai,ak,bB,aO⟩;obtain⟨hc1,aA,ay⟩:=ai.see;obtain⟨hc2,hf2,hl2⟩:=ak.see;obtain⟨jz,jA,jB⟩:=bB.see;go_wp2_with fail;(refine(vQ ht _ _ _ _ _ _ (by omega) (hin.ext Xt)).mono ?_);rintro e w3 ⟨aX,aY,aZ,bf,rfl,bn,h3⟩;obtain⟨AH,LK,Di⟩:=bZ h3;(try simp at Di);(try have SC:w.heap.size<w3.heap.size:=by omega);(try have SD:w.heap.size+1<w3.heap.size:=by omega);(try have SE:w.heap.size+2<w3.heap.size:=by omega);have hw3:w2.heap.size+1<wb.heap.size:=bB.lt;have ak:=af.ext h3 ak;have bB:=af.ext h3 bB;have hx3:Ext w w3:=Xt;clear hc1 aA ay hc2 hf2 hl2 jz jA jB ai;clear h3 aO;go_upto_region 13 with fail
 refine aI (R:=fun wx=>∃P:aw,(∀b,P b->b≠w2.heap.size+1)/\t.In wx P aX aY aZ bf/\af wx (w.heap.size+1) #[.string ⟨#[]⟩, .slice none 0 0] 50/\af wx (w2.heap.size+1) #[.string i.s, .slice none 0 0] 50/\Ext w wx) ⟨_,fun b hb=>by simp only [aU] at hb;omega,bn.ext Xt,aj,aj,Xt⟩ ?_;rintro wx ⟨P,hP,hint,ak,bB,hx⟩;have G5:=ak.lt;have hlv:=bB.lt;have HP:=ae hP;clear hP bn AH LK
 go_loopg [9,10,11,12,59] t.l.length (fun g _ _ _ _ i' wr=>∃(k:Nat) (a2:aq) (c2:Nat) (xs:List (Int×Int)),k<=t.l.length/\i'= .int .i64 k/\g=t.l.length-k/\uO t.l k xs/\wr.ownsRow wx.heap.size 82 2 (.slice a2 k c2) k (ql xs)/\
  af wr (w.heap.size+1) #[.string ⟨#[]⟩, .slice none 0 0] 50/\af wr (w2.heap.size+1) #[.string i.s, .slice a2 k c2] 50/\Ext w wr/\Held (fun b=>b<wx.heap.size/\b≠w2.heap.size+1) wx wr)
 case atStart=>exact⟨0,none,0, [],by omega,rfl,rfl,uO.nil _,World.ownsRow_nil _ _ _ _,ak,bB,hx,Held.refl _ _⟩
 case round=>
  clear ak bB hx;obtain⟨k,a2,c2,xs,hk,rfl,rfl,hst,hown,ak,bB,hx,hh⟩:=hrel;have aP:=ae hst;have bW:=ae hown;have af6:=hh.size;clear hst hown;obtain⟨hc2,hf2,hl2⟩:=ak.see;obtain⟨jz,jA,jB⟩:=bB.see;by_cases hlt:k<t.l.length
  ·have hK:Kept P wx wr:=fun b hb hl=>hh.block b ⟨hl,HP.out b hb⟩ hl
   obtain⟨bb,o,rfl,hS,fI,fJ,fW,fK,⟨d0,d1,d2,d3,d4⟩,hin'⟩:=hint.item hlt;have d0:=hK.cell hS d0;have d1:=hK.cell hS d1;have d2:=hK.cell hS d2;have d3:=hK.cell hS d3;have d4:=hK.cell hS d4;have hin':=hin'.keep hK (fun _ h _=>h);have hnb:∀b,b<wx.heap.size->some b≠(Value.slice a2 k c2).ownBlock:=fun b hb he=>by have:=(bW.out.lt b he.symm).1;omega
   have kL:=ae hnb;clear hnb;have fS:=V.oZ hlt;by_cases k5:(t.l[k]).k=5
   ·have k5b:((t.l[k]).k==5)=true:=by simpa using k5
    obtain⟨p,hp⟩:∃p,((t.l[k]).member LJ).getD V.zero=p:=⟨_,rfl⟩;have pg:=ae (show stepOf t.l[k]=if p.k=2/\0<=p.n/\lV (-1) p.n=true then some (-1,p.n) else none by rw [stepOf,if_pos k5,<-hp];cases (t.l[k]).member LJ<;>simp [V.zero]);clear k5;go_wp2_with fail;(refine(ac8 hp _ _ _ _ _ _ (by omega) (hin'.ext Xt)).mono ?_);rintro e w4 ⟨ve,vg,vh,vo,rfl,dv,h4⟩;obtain⟨ade,adf,adg⟩:=bZ h4;(try simp at adg);(try have af7:w.heap.size<w4.heap.size:=by omega);(try have af8:w.heap.size+1<w4.heap.size:=by omega);(try have af9:w.heap.size+2<w4.heap.size:=by omega);clear ade adf;go_upto_region 18 with fail
    refine aI (R:=fun wy=>af wy wr.heap.size #[.int .i64 t.l[k].k, .int .i64 t.l[k].n, .string t.l[k].s, .slice fI t.l[k].keys.length fJ, .slice fW t.l[k].l.length fK] 36/\af wy (wr.heap.size+1) #[.int .i64 (t.l[k]).n, .int .i64 0] 82/\aC wy w4.heap.size p ve vg vh vo/\Ext wr wy) ⟨aj,aj,aj,Xt⟩ ?_;rintro wy ⟨pB,pA,FA,hy⟩;have aga:=af.ext hy ak;have agb:=af.ext hy bB;clear hc2 hf2 hl2 jz jA jB;obtain⟨FB,FC,yz⟩:=pB.see;obtain⟨vT,vU,vV⟩:=pA.see;obtain⟨QB,QC,QD⟩:=FA.see;have n1:¬w4.heap.size=wr.heap.size:=by omega
    have n2:¬w4.heap.size=wr.heap.size+1:=by omega
    have n3:¬wr.heap.size=w4.heap.size:=by omega
    have n4:¬wr.heap.size+1=w4.heap.size:=by omega
    go_region_held3 (fun w'=>w'.cell? ⟨w4.heap.size,0,none⟩=some (.int .i64 p.k)/\w'.cell? ⟨w4.heap.size,1,none⟩=some (.int .i64 p.n)/\w'.cell? ⟨w4.heap.size,2,none⟩=some (.string p.s)/\w'.cell? ⟨w4.heap.size,3,none⟩=some (.slice ve p.keys.length vg)/\w'.cell? ⟨w4.heap.size,4,none⟩=some (.slice vh p.l.length vo))
     (go_keep)
     (fail)
    all_goals
     go_upto_region 19 with fail
     refine aI (R:=fun wz=>aC wz wr.heap.size p ve vg vh vo/\af wz (wr.heap.size+1) #[.int .i64 (-1), .int .i64 p.n] 82/\Ext wr wz) ⟨?_,?_,Xt⟩ ?_
     ·refine af.to (af.drew ?_) (vs:= #[.int .i64 p.k, .int .i64 p.n, .string p.s, .slice ve p.keys.length vg, .slice vh p.l.length vo]) rfl
      exact(((((((pB.other (p:=⟨wr.heap.size+1,0,none⟩) (by simp) _).other (p:=⟨wr.heap.size+1,1,none⟩) (by simp) _).set 0 _).set 1 _).set 2 _).set 3 _).set 4 _).to rfl
     ·refine af.drew ?_
      exact(((((((pA.set 0 _).set 1 _).other (p:=⟨wr.heap.size,0,none⟩) (by simp) _).other (p:=⟨wr.heap.size,1,none⟩) (by simp) _).other (p:=⟨wr.heap.size,2,none⟩) (by simp) _).other (p:=⟨wr.heap.size,3,none⟩) (by simp) _).other (p:=⟨wr.heap.size,4,none⟩) (by simp) _).to rfl
     clear pB pA FA FB FC yz vT vU vV QB QC QD hy;rintro wz ⟨pB,Dj,hz⟩;have Dk:=af.ext hz ak;have LL:=af.ext hz bB;obtain⟨hc2,hf2,hl2⟩:=Dk.see;obtain⟨FB,FC,yz⟩:=pB.see;obtain⟨vT,vU,vV⟩:=Dj.see;by_cases q1:p.k=2
     ·have Ay:(p.k==2)=true:=by simpa using q1
      have LM:(p.k !=2)=false:=by simpa using q1
      by_cases q2:0<=p.n
      ·have LN:¬p.n<0:=by omega
       cases q3:lV (-1) (p.n)
       ·go_wp2_with fail
        (with_reducible refine(Dl (-1) (p.n) _).mono ?_);rintro e w5 ⟨rfl,h5⟩;obtain⟨LO,LP,yV⟩:=bZ h5;(try simp at yV);(try have LQ:w.heap.size<w5.heap.size:=by omega);(try have LR:w.heap.size+1<w5.heap.size:=by omega);(try have LS:w.heap.size+2<w5.heap.size:=by omega);rw [q3];go_wp2_with fail;refine aF (h:= ?_);refine .inr ⟨?_,rfl,Xt⟩;rw [yU.out,AG hlt];rw [pg.out,if_neg];rw [q3];simp
       ·have nG:=ae (show stepOf t.l[k]=some (-1,p.n) by rw [pg.out,if_pos ⟨q1,q2,q3⟩])
        go_wp2_with fail;(with_reducible refine(Dl (-1) (p.n) _).mono ?_);rintro e w5 ⟨rfl,h5⟩;obtain⟨LO,LP,yV⟩:=bZ h5;(try simp at yV);(try have LQ:w.heap.size<w5.heap.size:=by omega);(try have LR:w.heap.size+1<w5.heap.size:=by omega);(try have LS:w.heap.size+2<w5.heap.size:=by omega);rw [q3];have bG:Ext wr w5:=Xt;have iE:=ae (eu bW.out bG);have Dm:=af.ext h5 LL;have pA:=af.ext h5 Dj;obtain⟨adh,adi,adj⟩:=Dm.see;obtain⟨vT,vU,vV⟩:=pA.see;go_wp2_with ((at_builtin;refine wpList_append_lies _ (by rfl) _ _ 48 (by rfl) wx.heap.size 82 j0 _ 2 16 underlying48 hj hy0 hy1 hy2 rfl (by decide) (.slice a2 k c2) k (ql xs) (by rfl) (iE.out.alloc _) ⟨w5.heap.size,0,none⟩ 1 1 [.int .i64 (-1), .int .i64 (p.n)] (by rfl) (by rfl) (World.news_of_block (cs:= #[.int .i64 (-1), .int .i64 (p.n)]) (t:=82) (fr:=(0,0)) (heap_alloc_new w5 _)) (by simp [Value.oneCell']) (by omega) (by unfold maxLen;omega) (by omega) (by simp;omega) _ rfl ?_;intro g6 bp w6 bz aW bX sU;have LU:=af.grown (af.alloc Dm _) aW (kL.out _ (by omega));obtain⟨adk,adl,adn⟩:=LU.see;have iC:=ae aW;have gL:=ae bz;have fF:=ae bX;clear aW bz bX));have ado:=af.grown (af.alloc (af.ext h5 Dk) (.cells #[.int .i64 (-1), .int .i64 (p.n)] 82)) iC.out (kL.out _ (by omega));have bS:Ext w w6:=Ext.grown (b:=w5.alloc _) Xt iC.out (fun g hg=>by have:=(bW.out.lt g hg).1;omega);have bw:Held (fun b=>b<wx.heap.size/\b≠w2.heap.size+1) wx w6:=Held.grown (b:=w5.alloc _) aB iC.out (fun g hg hT=>by have:=(bW.out.lt g hg).1;omega);go_roundg (t.l.length-(k+1))
        case measure=>omega
        case rel=>exact⟨k+1,_,_,xs++ [(-1,p.n)],by omega,by go_num,rfl,aP.out.snoc hlt nG.out,by rw [Sz];exact dL gL.out (fun b hb he=>by have:=(gL.out.lt b he).1;rw [Below.heap_setCell _ _ _ _ (by simp;omega)]),aj,aj,Xt,aB⟩
      ·have LN:p.n<0:=by omega
       go_wp2_with fail;refine aF (h:= ?_);refine .inr ⟨?_,rfl,Xt⟩;rw [yU.out,AG hlt];rw [pg.out,if_neg];rintro⟨-,h,-⟩;omega
     ·have Ay:(p.k==2)=false:=by simpa using q1
      have LM:(p.k !=2)=true:=by simpa using q1
      go_wp2_with fail;refine aF (h:= ?_);refine .inr ⟨?_,rfl,Xt⟩;rw [yU.out,AG hlt];rw [pg.out,if_neg];rintro⟨h,-⟩;exact q1 h
   ·have k5b:((t.l[k]).k==5)=false:=by simpa using k5
    have pg:=ae (show stepOf t.l[k]=if(t.l[k]).k=2/\0<= (t.l[k]).n/\lV (t.l[k]).n 0=true then some ((t.l[k]).n,0) else none by rw [stepOf,if_neg k5]);clear k5;go_upto_region 19 with fail
    refine aI (R:=fun wz=>af wz wr.heap.size #[.int .i64 t.l[k].k, .int .i64 t.l[k].n, .string t.l[k].s, .slice fI t.l[k].keys.length fJ, .slice fW t.l[k].l.length fK] 36/\af wz (wr.heap.size+1) #[.int .i64 (t.l[k]).n, .int .i64 0] 82/\Ext wr wz) ⟨aj,aj,Xt⟩ ?_;rintro wz ⟨pB,Dj,hz⟩;have Dk:=af.ext hz ak;have LL:=af.ext hz bB;clear hc2 hf2 hl2 jz jA jB;obtain⟨hc2,hf2,hl2⟩:=Dk.see;obtain⟨FB,FC,yz⟩:=pB.see;obtain⟨vT,vU,vV⟩:=Dj.see;by_cases q1:(t.l[k]).k=2
    ·have Ay:((t.l[k]).k==2)=true:=by simpa using q1
     have LM:((t.l[k]).k !=2)=false:=by simpa using q1
     by_cases q2:0<= (t.l[k]).n
     ·have LN:¬(t.l[k]).n<0:=by omega
      cases q3:lV ((t.l[k]).n) (0)
      ·go_wp2_with fail
       (with_reducible refine(Dl ((t.l[k]).n) (0) _).mono ?_);rintro e w5 ⟨rfl,h5⟩;obtain⟨LO,LP,yV⟩:=bZ h5;(try simp at yV);(try have LQ:w.heap.size<w5.heap.size:=by omega);(try have LR:w.heap.size+1<w5.heap.size:=by omega);(try have LS:w.heap.size+2<w5.heap.size:=by omega);rw [q3];go_wp2_with fail;refine aF (h:= ?_);refine .inr ⟨?_,rfl,Xt⟩;rw [yU.out,AG hlt];rw [pg.out,if_neg];rw [q3];simp
      ·have nG:=ae (show stepOf t.l[k]=some ((t.l[k]).n,0) by rw [pg.out,if_pos ⟨q1,q2,q3⟩])
       go_wp2_with fail;(with_reducible refine(Dl ((t.l[k]).n) (0) _).mono ?_);rintro e w5 ⟨rfl,h5⟩;obtain⟨LO,LP,yV⟩:=bZ h5;(try simp at yV);(try have LQ:w.heap.size<w5.heap.size:=by omega);(try have LR:w.heap.size+1<w5.heap.size:=by omega);(try have LS:w.heap.size+2<w5.heap.size:=by omega);rw [q3];have bG:Ext wr w5:=Xt;have iE:=ae (eu bW.out bG);have Dm:=af.ext h5 LL;have pA:=af.ext h5 Dj;obtain⟨adh,adi,adj⟩:=Dm.see;obtain⟨vT,vU,vV⟩:=pA.see;go_wp2_with ((at_builtin;refine wpList_append_lies _ (by rfl) _ _ 48 (by rfl) wx.heap.size 82 j0 _ 2 16 underlying48 hj hy0 hy1 hy2 rfl (by decide) (.slice a2 k c2) k (ql xs) (by rfl) (iE.out.alloc _) ⟨w5.heap.size,0,none⟩ 1 1 [.int .i64 ((t.l[k]).n), .int .i64 (0)] (by rfl) (by rfl) (World.news_of_block (cs:= #[.int .i64 ((t.l[k]).n), .int .i64 (0)]) (t:=82) (fr:=(0,0)) (heap_alloc_new w5 _)) (by simp [Value.oneCell']) (by omega) (by unfold maxLen;omega) (by omega) (by simp;omega) _ rfl ?_;intro g6 bp w6 bz aW bX sU;have LU:=af.grown (af.alloc Dm _) aW (kL.out _ (by omega));obtain⟨adk,adl,adn⟩:=LU.see;have iC:=ae aW;have gL:=ae bz;have fF:=ae bX;clear aW bz bX));have ado:=af.grown (af.alloc (af.ext h5 Dk) (.cells #[.int .i64 ((t.l[k]).n), .int .i64 (0)] 82)) iC.out (kL.out _ (by omega));have bS:Ext w w6:=Ext.grown (b:=w5.alloc _) Xt iC.out (fun g hg=>by have:=(bW.out.lt g hg).1;omega);have bw:Held (fun b=>b<wx.heap.size/\b≠w2.heap.size+1) wx w6:=Held.grown (b:=w5.alloc _) aB iC.out (fun g hg hT=>by have:=(bW.out.lt g hg).1;omega);go_roundg (t.l.length-(k+1))
       case measure=>omega
       case rel=>exact⟨k+1,_,_,xs++ [((t.l[k]).n,0)],by omega,by go_num,rfl,aP.out.snoc hlt nG.out,by rw [Sz];exact dL gL.out (fun b hb he=>by have:=(gL.out.lt b he).1;rw [Below.heap_setCell _ _ _ _ (by simp;omega)]),aj,aj,Xt,aB⟩
     ·have LN:(t.l[k]).n<0:=by omega
      go_wp2_with fail;refine aF (h:= ?_);refine .inr ⟨?_,rfl,Xt⟩;rw [yU.out,AG hlt];rw [pg.out,if_neg];rintro⟨-,h,-⟩;omega
    ·have Ay:((t.l[k]).k==2)=false:=by simpa using q1
     have LM:((t.l[k]).k !=2)=true:=by simpa using q1
     go_wp2_with fail;refine aF (h:= ?_);refine .inr ⟨?_,rfl,Xt⟩;rw [yU.out,AG hlt];rw [pg.out,if_neg];rintro⟨h,-⟩;exact q1 h
  ·obtain rfl:k=t.l.length:=by omega
   go_wp2_with fail;refine aF (h:= ?_)
   exact .inl ⟨i.s,xs,a2,t.l.length,c2,by rw [yU.out,aP.out.all],aP.out.1,rfl,ac7 (dL bW.out (fun b hb he=>by
    have:=(bW.out.lt b he).1
    rw [Below.heap_setCell _ _ _ _ (by simp;omega),Below.heap_setCell _ _ _ _ (by simp;omega)])) aP.out.1,(fun p hp=>by have:=(bW.out.lt p.block (by rw [hp];rfl)).1;omega),Xt⟩
theorem adp {x i t:V} (hf:x.fine=true) (hi:x.member tE=some i) (q:i.k=3) (hs:i.s.toList≠ []) (ht:x.member uN=some t) (p:t.k=4) (hlen:t.l.length<=8):
 dD x=match mP t.l with|some xs=>some (i.s,xs)|none=>none:=by
 unfold dD;rw [if_pos hf,hi];simp only;rw [if_pos ⟨q,hs⟩,ht];simp only;rw [if_pos ⟨p,hlen⟩];cases mP t.l<;>rfl
theorem adq (x:V):(dD x=none/\ (x.fine=false\/ (x.fine=true/\ (x.member tE=none\/∃i,x.member tE=some i/\¬(i.k=3/\i.s.toList≠ [])))))\/
 ∃i,x.fine=true/\x.member tE=some i/\i.k=3/\i.s.toList≠ []/\
  (((x.member uN=none/\dD x=some (i.s, []))\/ (∃t,x.member uN=some t/\¬(t.k=4/\t.l.length<=8)/\dD x=none))\/
    ∃t,x.member uN=some t/\t.k=4/\t.l.length<=8):=by
 by_cases hf:x.fine=true
 ·cases hi:x.member tE with
  |none=>exact .inl ⟨by unfold dD;rw [if_pos hf,hi], .inr ⟨hf, .inl rfl⟩⟩
  |some i=>
   by_cases hq:i.k=3/\i.s.toList≠ []
   ·refine .inr ⟨i,hf,rfl,hq.1,hq.2,?_⟩
    cases ht:x.member uN with
    |none=>exact .inl (.inl ⟨rfl,by unfold dD;rw [if_pos hf,hi];simp only;rw [if_pos hq,ht]⟩)
    |some t=>
     by_cases hp:t.k=4/\t.l.length<=8
     ·exact .inr ⟨t,rfl,hp.1,hp.2⟩
     ·exact .inl (.inr ⟨t,rfl,hp,by unfold dD;rw [if_pos hf,hi];simp only;rw [if_pos hq,ht];simp only;rw [if_neg hp]⟩)
   ·exact .inl ⟨by unfold dD;rw [if_pos hf,hi];simp only;rw [if_neg hq], .inr ⟨hf, .inr ⟨i,rfl,hq⟩⟩⟩
 ·have hf:x.fine=false:=by simpa using hf
  exact .inl ⟨by unfold dD;rw [hf];simp, .inl hf⟩
theorem LV (x:V) (ka:aq) (kc:Nat) (la:aq) (lc:Nat) (S:aw) (w:World) (hsz:x.size<=1073741824) (hin:x.In w S ka kc la lc):
 Calls prog 17 #[x.val ka kc la lc] w (uK (dD x) w):=by
 rcases adq x with⟨h,hn⟩|⟨i,hf,hi,q,hs,hn|⟨t,ht,p,hlen⟩⟩
 ·rw [h];exact ac9 x ka kc la lc S w hsz hin hn
 ·exact ada x i ka kc la lc S w hsz hin hf hi q hs _ (hn.imp (fun h=>⟨h.1,h.2⟩) (fun⟨t,h1,h2,h3⟩=>⟨t,h1,h2,h3⟩))
 ·exact adb x i t ka kc la lc S w hsz hin hf hi q hs ht p hlen (adp hf hi q hs ht p hlen)
end Go.Proofs.YtlcebdaghmdkeabGreatDoor
