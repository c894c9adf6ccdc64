import Derived.StillTailTactics
import Derived.Test.YtlcebdaghmdkeaaGreatDoorZ31
set_option linter.all false
set_option maxRecDepth 100000
set_option maxHeartbeats 64000000
namespace Go.Proofs.YtlcebdaghmdkeaaGreatDoor
open Go.Proofs.Tryz
open Go.RowKit
attribute [local go_sem↓] Go.wp_at_zero Go.wp_at_succ
theorem aU.plus {P:aA} {a b c:World} (h:aU (fun b=>¬P b) a b) (k:aU (fun x=>¬aW P a x) b c):aU (fun b=>¬P b) a c:=
 ⟨k.os.trans h.os,k.tape.trans h.tape,k.output.trans h.output,Nat.le_trans h.size k.size,fun i hi hl=>(k.block i (by rintro(h|h);exact hi h;omega) (Nat.lt_of_lt_of_le hl h.size)).trans (h.block i hi hl)⟩
theorem Sat.plus {P:aA} {a b c:World} {r:Nat} {s:Sv} (h:Sat c (aW (aW P a) b) r s) (hs:a.heap.size<=b.heap.size):Sat c (aW P a) r s:=
 h.mono fun x hx=>by rcases hx with hx|hx;exact hx;exact .inr (Nat.le_trans hs hx)
theorem afj {s:Sv} {k:Nat} {t:Th} (hk:k<s.ay.length) (ht:s.ay[k]=t) (o:Int):(xC s k t o).1= {s with ay:=s.ay.set k (t.ord s.time o)}:=by
 unfold xC;by_cases h:(t.next s.time o).2=0
 ·rw [if_neg (by simpa using h)]
 ·rw [if_pos h]
  have:t.ord s.time o=t:=by unfold Th.ord;rw [if_neg h]
  rw [this,<-ht,List.set_getElem_self]
theorem map_set {α:Type} (f:α->α) (l:List α) (k:Nat) (h:k<l.length):((l.take k).map f++l.drop k).set k (f l[k])=(l.take (k+1)).map f++l.drop (k+1):=by
 have hl:((l.take k).map f).length=k:=by simp;omega
 rw [List.set_append_right _ _ (by omega),hl,Nat.sub_self,List.drop_eq_getElem_cons h,List.set_cons_zero,List.take_succ_eq_append_getElem h,List.map_append,List.append_assoc];rfl
theorem afk {α:Type} (f:α->α) (l:List α) (k:Nat) (h:k<l.length):∃h',((l.take k).map f++l.drop k)[k]'h'=l[k]:=by
 have hl:((l.take k).map f).length=k:=by simp;omega
 exact List.getElem?_eq_some_iff.1 (by rw [List.getElem?_append_right (by omega),hl,Nat.sub_self,List.getElem?_drop,Nat.add_zero,List.getElem?_eq_getElem h])
theorem aeY (P:aA) (r:Nat) (s:Sv) (n:Int) (w:World) (gF:Sat w P r s) (hb:s.ay.length<=1073741824) (hz:∀t∈s.ay,t.v.size<=1073741824) (ht0:0<=s.time) (ht1:s.time<=1099511627776):
 Calls prog 28 #[.pointer (some ⟨r,0,none⟩), .int .i64 n] w fun e w'=>e= .returned (.int .i64 (nO s n).2.c)/\Sat w' (aW P w) r (nO s n).1/\aU (fun b=>¬P b) w w':=by
 obtain⟨v,xs,h⟩:=gF;have ag:=h.box;have hlr:=ag.lt;have fk:=ae h;have Hz:=ae hz;have Bz:=ae h.pr;clear h hz;by_cases h1:n<1
 ·have Hr:=ae (show nO s n=(s, .no 8) by unfold nO;rw [if_pos (.inl h1)])
  obtain⟨hc0,aw,hl0⟩:=ag.see;go_enter func28,ntmps28;go_wp2_with fail;go_ret;rw [Hr.out];exact⟨rfl,Kept.of (w:=w) (T:=P) fk.out Xt,(show Ext w _ from Xt).upd _⟩
 ·by_cases h2:1099511627776-s.time<n
  ·have Hr:=ae (show nO s n=(s, .no 8) by unfold nO;rw [if_pos (.inr h2)])
   obtain⟨hc0,aw,hl0⟩:=ag.see;go_enter func28,ntmps28;go_wp2_with fail;go_ret;rw [Hr.out];exact⟨rfl,Kept.of (w:=w) (T:=P) fk.out Xt,(show Ext w _ from Xt).upd _⟩
  ·obtain⟨T,hT⟩:∃T,s.time+n=T:=⟨_,rfl⟩
   have Hr:=ae (show nO s n=({s with ay:=s.ay.map fun t=>t.ord T 0,time:=T}, .no 0) by unfold nO;rw [if_neg (by omega),hT]);have hT0:0<=T:=by omega
   have hT1:T<=1099511627776:=by omega
   obtain⟨a,c,hv,hok⟩:=gU fk.out.own;subst hv;obtain⟨hc0,aw,hl0⟩:=ag.see;go_enter func28,ntmps28;go_upto_region 4 with fail
   refine aI (R:=fun wx=>ez wx P r {s with time:=T} (.slice a s.ay.length c) xs/\aU (fun b=>¬P b) w wx) ⟨?_,(aU.refl _ _).set (fun h=>absurd Bz.out h) _⟩ ?_
   ·have hB:af (w.setCell ⟨r,1,none⟩ (.int .i64 T)) r #[.slice a s.ay.length c, .int .i64 T, .int .i64 s.last, .int .i64 s.acts] 65:=aj
    have hk:Kept (fun b=>b≠r) w (w.setCell ⟨r,1,none⟩ (.int .i64 T)):=Held.kept aC;exact⟨hB,fk.out.pr,eo fk.out.own (fun b hl he=>hk b (fk.out.row b he).2 hl),fk.out.row,fk.out.cells.keep (fun b hb hl=>hk b hb.2.1 hl) (fun _ h _=>h)⟩
   clear ag hc0 aw hl0;rintro wa ⟨gF,hup⟩;have ag:=gF.box;have qY:=ae (gF.mono (aW.old (w:=w)));clear gF hT h1 h2;obtain⟨hc0,aw,hl0⟩:=ag.see;go_wp2_with fail
   go_loopg [5,30] s.ay.length (fun g _ i wr=>∃k:Nat,k<=s.ay.length/\i= .int .i64 k/\g=s.ay.length-k/\Sat wr (aW P w) r {s with ay:=(s.ay.take k).map (fun t=>t.ord T 0)++s.ay.drop k,time:=T}/\aU (fun b=>¬P b) w wr)
   case atStart=>exact⟨0,by omega,rfl,rfl,⟨_,_,by simpa using qY.out⟩,hup⟩
   case round=>
    clear ag hc0 aw hl0 hup;obtain⟨k,hk,rfl,rfl,Vl,hup⟩:=hrel;have Vm:=ae Vl;clear Vl;by_cases hlt:k<s.ay.length
    ·obtain⟨hk',hget⟩:=afk (fun t:Th=>t.ord T 0) s.ay k hlt
     have hzt:=Hz.out _ (List.getElem_mem hlt);have NF:=ae (afj (s:= {s with ay:=(s.ay.take k).map (fun t=>t.ord T 0)++s.ay.drop k,time:=T}) hk' hget 0);have hlen:((s.ay.take k).map (fun t=>t.ord T 0)++s.ay.drop k).length<=1073741824:=by simp;omega
     have Ho:=ae (fun(w':World) (hs:Sat w' (aW P w) r {s with ay:=(s.ay.take k).map (fun t=>t.ord T 0)++s.ay.drop k,time:=T})=>UK (aW P w) r _ k s.ay[k] 0 w' hs hk' hget hzt hlen);have hw:w.heap.size<=wr.heap.size:=hup.size;clear hk' hget hlen;go_wp2_with fail;(refine(Ho.out _ Vm.out).mono ?_);rintro e w2 ⟨rfl,hs2,hu2⟩;have jz:=ae (hs2.plus hw);have qV:=hup.plus hu2;clear hs2 hu2;rw [NF.out,map_set (fun t:Th=>t.ord T 0) s.ay k hlt] at jz;go_wp2_with fail;go_roundg (s.ay.length-(k+1))
     case measure=>omega
     case rel=>exact⟨k+1,by omega,by go_num,rfl,jz.out,qV⟩
    ·obtain rfl:k=s.ay.length:=by omega
     have cF:=ae (show Sat wr (aW P w) r {s with ay:=s.ay.map fun t=>t.ord T 0,time:=T} by simpa using Vm.out);go_wp2_with fail;go_ret;rw [Hr.out];exact⟨rfl,cF.out,hup⟩
theorem StepsIn.held {T:aA} {w w':World} {a:aq} {xs:List (Int×Int)} (h:StepsIn w a xs) (hb:∀p:Addr,a=some p->T p.block) (k:Held T w w'):StepsIn w' a xs:=by
 rcases h with h|⟨b,o,rfl,hc⟩
 ·exact .inl h
 ·have hb:=hb ⟨b,o,none⟩ rfl
  exact .inr ⟨b,o,rfl,fun i hi=>⟨k.kept.cell (p:=⟨b,o+i*2,none⟩) hb (hc i hi).1,k.kept.cell (p:=⟨b,o+i*2+1,none⟩) hb (hc i hi).2⟩⟩
theorem ez.lay {w w':World} {P:aA} {r g c:Nat} {s:Sv} {v:Value} {xs:List Value} (hv:v= .slice (some ⟨g,0,none⟩) s.ay.length c) (h:ez w P r s v xs) (hu:aU (fun b=>b≠r) w w') {U':Int} (hB:af w' r #[v, .int .i64 s.time, .int .i64 U', .int .i64 s.acts] 65) {k:Nat} (hk:k<s.ay.length) (t:Th)
 {ka:aq} {kc:Nat} {la:aq} {lc:Nat} {oa:aq} {oc:Nat} (ht:kG w (fun b=>P b/\b≠r/\v.ownBlock≠some b) t ka kc la lc oa oc):
 ez (w'.setCells g (k*15) (t.cells ka kc la lc oa oc)) P r {s with ay:=s.ay.set k t,last:=U'} v (xs.take (k*15)++t.cells ka kc la lc oa oc++xs.drop ((k+1)*15)):=by
 subst hv;have hrow:=h.row g rfl;have hk1:Kept (fun b=>P b/\b≠r/\ (Value.slice (some ⟨g,0,none⟩) s.ay.length c).ownBlock≠some b) w (w'.setCells g (k*15) (t.cells ka kc la lc oa oc)):=fun b hb hl=>by have:=(Held.kA (T:=fun b=>b≠g) (Held.refl _ w') (fun h=>h rfl) (k*15) (t.cells ka kc la lc oa oc)).block b (fun e=>hb.2.2 (by rw [e];rfl)) (Nat.lt_of_lt_of_le hl hu.size);rw [this];exact hu.block b hb.2.1 hl
 refine⟨hB.nG (fun e=>hrow.2 e.symm) _ _,h.pr,?_,h.row,?_⟩
 ·have ho:=eo h.own (w':=w') (fun b hb he=>hu.block b (h.row b he).2 hb)
  have:=IJ (o:=k*15) (cs:=t.cells ka kc la lc oa oc) ho (by rw [Th.xH];omega);rw [Th.xH,show k*15+15=(k+1)*15 by omega] at this;simpa using this
 ·have:=(h.cells.keep hk1 (fun _ h _=>h)).ins k (k+1) (ht.keep hk1 (fun _ h _=>h))
  rwa [show s.ay.take k++t::s.ay.drop (k+1)=s.ay.set k t by rw [List.set_eq_take_append_cons_drop,if_pos hk]] at this
theorem UR (P:aA) (r:Nat) (s:Sv) (v:Value) (xs:List Value) (k:Nat) (t:Th) (x:V) (kb:aq) (kd:Nat) (lb:aq) (ld:Nat) (m:List Ow) (ob:aq) (od:Nat) (w:World) (gF:ez w P r s v xs) (hk:k<s.ay.length) (ht:s.ay[k]=t)
 (hin:x.In w (fun b=>P b/\b≠r/\v.ownBlock≠some b) kb kd lb ld) (hok:aO ob m.length od) (how:cz w (fun b=>P b/\b≠r/\v.ownBlock≠some b) m ob)
 (hz:t.v.size<=1073741824) (br:x.size<=1073741824) (A1:cN m<=2097152) (hb:s.ay.length<=1073741824) (hl0:0<=s.last) (az:s.last<=1099511627776) (hg0:0<=t.gen) (hg1:t.gen<=1099511627776):
 Calls prog 34 #[.pointer (some ⟨r,0,none⟩), .int .i64 k,x.val kb kd lb ld, .slice ob m.length od] w (IB P r (o7 s k t x m) w):=by
 obtain⟨g,c,ka,kc,la,lc,oa,oc,hv,hg,hgr,vN,hnc,hcs,hti⟩:=gF.thing hk;rw [ht] at hcs hti;have ag:=gF.box;have hlr:=ag.lt;have fk:=ae gF.old;have aJ:=ae (hin.mono (T:=fun b=>(P b/\b<w.heap.size)/\b≠r/\v.ownBlock≠some b) fun b h hl=>⟨⟨h.1,hl⟩,h.2⟩);have How:=ae (how.mono (T:=fun b=>(P b/\b<w.heap.size)/\b≠r/\v.ownBlock≠some b) fun b h hl=>⟨⟨h.1,hl⟩,h.2⟩);have Htv:=ae hti.v;have NF:=ae hti.ows;have dv:=ae hok;have Hc:=ae hcs;have Ht:=ae ht;have zE:=ae vN;have Bz:=ae gF.pr;have Hv:=ae hv;have Xy:=ym m;obtain⟨sp,hsp⟩:∃sp,cy x=sp:=⟨_,rfl⟩;have q7:=ae hsp;have hxl:(fK sp).length<=9223372036854775807:=by have:=IK x;rw [hsp] at this;omega
 clear gF hcs hti ht hsp hin how hok vN;subst hv;go_enter func34,ntmps34;obtain⟨d0,d1,d2,d3,d4,d5,d6,d7,d8,d9,d10,d11,d12,d13,d14⟩:=BA Hc.out;obtain⟨hc0,aw,hl0⟩:=ag.see;go_upto_region 2 with fail
 refine aI (R:=fun wx=>aD wx w.heap.size x kb kd lb ld/\jm wx (w.heap.size+1)/\fx wx (w.heap.size+1+1) t ka kc la lc oa oc/\Ext w wx) ⟨aj,aj,aj,Xt⟩ ?_;have iQ:=ag;clear ag hc0 aw hl0 d0 d1 d2 d3 d4 d5 d6 d7 d8 d9 d10 d11 d12 d13 d14;rintro wa ⟨hA,hR,hT,aF⟩;have Nw:=hT.lt;obtain⟨jZ,j3,hlA⟩:=hA.see;go_wp2_with fail;(refine(Iz x kb kd lb ld _ _ br (aJ.out.ext Xt)).mono ?_);rintro e w1 zG;rw [q7.out] at zG;obtain⟨a1,n1,c1,rfl,zH,lY,hab,h1⟩:=uo.val zG;have hz2:=h1.size;have hA:=af.ext h1 hA;have hR:=af.ext h1 hR;have hT:=af.ext h1 hT;have Va:∀p:Addr,a1=some p->w.heap.size+3<=p.block:=fun p hp=>Nat.le_trans Nw (hab p hp);have NG:=ae Va;have hx1:Ext w w1:=Xt;clear zG hab Va jZ j3 hlA;go_upto_region 3 with fail
 refine aI (R:=fun wx=>aD wx w.heap.size x kb kd lb ld/\jm wx (w.heap.size+1)/\fx wx (w.heap.size+1+1) t ka kc la lc oa oc/\af wx w1.heap.size #[.string (kC sp), .slice a1 n1 c1] 53/\StepsIn wx a1 (fK sp)/\Ext w wx) ⟨aj,aj,aj,aj,lY.ext Xt,Xt⟩ ?_;clear hA hR hT lY h1 hx1 aF;rintro wb ⟨hA,hR,hT,hS,hst,aP⟩;have aQ:=ae hst;clear hst
 cases sp with
 |none=>
  have he:(xw none !=0)=true:=rfl;have ig:=ae (show o7 s k t x m=(s, .no 1) by unfold o7;rw [if_pos q7.out]);have hup:aU (fun b=>¬P b) w wb:=aP.upd _;obtain⟨hcR,jY,eP⟩:=hR.see;go_wp2_with fail;refine aG (h:= ?_);rw [ig.out];exact⟨rfl,⟨_,_,((fk.out.ext aP).keep ((Held.kept (T:=fun b=>b<w.heap.size) aC).mono fun b hb=>hb.2)).mono fun b hb=> .inl hb.1⟩,gP⟩
 |some p=>
  obtain⟨im,sx⟩:=p;have he:(xw (some (im,sx)) !=0)=false:=rfl;obtain⟨er,EA⟩:∃er,xw (some (im,sx))=er:=⟨_,rfl⟩;rw [EA] at he⊢;clear EA;have aQ:=ae (show StepsIn wb a1 sx from aQ.out);have hxl:sx.length<=9223372036854775807:=hxl;have zH:sx.length=n1:=zH;have hS:af wb w1.heap.size #[.string im, .slice a1 n1 c1] 53:=hS;obtain⟨ot,IL⟩:∃b,t.other x=b:=⟨_,rfl⟩;obtain⟨tn,htn⟩:∃b,t.turn x m=b:=⟨_,rfl⟩;obtain⟨mK,EB⟩:∃z,(if tn then s.last+1 else t.ver)=z:=⟨_,rfl⟩;obtain⟨xI,hlast⟩:∃z,(if tn then s.last+1 else s.last)=z:=⟨_,rfl⟩;obtain⟨o8,NH⟩:∃z,(if ot then t.gen+1 else t.gen)=z:=⟨_,rfl⟩;obtain⟨⟨x',er'⟩,hnx⟩:∃z,eI im sx t.st s.time 0=z:=⟨_,rfl⟩
  have ig:=ae (show o7 s k t x m=({s with ay:=s.ay.set k ⟨t.name,x,m,mK,o8,x'⟩,last:=xI}, .num mK) by
   unfold o7 Th.kept;rw [if_neg (by rw [q7.out];simp),IL,htn,EB,hlast,NH,q7.out]
   simp only [kC,fK,hnx])
  have Vb:=ae IL;have Htn:=ae htn;have Vc:=ae EB;have Vd:=ae hlast;have Ve:=ae NH;have rO:=ae hnx;have Vf:=ae (show tn=(ot|| !xJ m t.ows) by rw [<-htn,<-IL];rfl);clear IL htn EB hlast NH hnx;go_upto_region 6 with fail
  go_cut [13] (fun s13 wx=>s13= .bool ot/\aD wx w.heap.size x kb kd lb ld/\jm wx (w.heap.size+1)/\fx wx (w.heap.size+1+1) t ka kc la lc oa oc/\af wx w1.heap.size #[.string im, .slice a1 n1 c1] 53/\StepsIn wx a1 sx/\Ext w wx)
  case first=>
   obtain⟨jZ,j3,hlA⟩:=hA.see;obtain⟨iA,iB,fy⟩:=hT.see;by_cases hv:t.ver=0
   ·have hvb:(t.ver==0)=true:=by simpa using hv
    have ho:ot=true:=by rw [<-Vb.out];unfold Th.other;rw [hv];rfl
    subst ho;clear hv;go_wp2_with fail
    go_meet
    exact⟨rfl,aj,aj,aj,aj,aQ.out.ext Xt,Xt⟩
   ·have hvb:(t.ver==0)=false:=by simpa using hv
    have Ho:=ae (show ot= !x.same t.v by rw [<-Vb.out];unfold Th.other;rw [decide_eq_false hv];rfl);clear hv;go_wp2_with fail;(refine(Dz x t.v kb kd lb ld _ ka kc la lc _ _ br hz (aJ.out.ext Xt) (Htv.out.ext Xt)).mono ?_);rintro e w2 ⟨rfl,h2⟩;go_wp2_with fail
    go_meet
    exact⟨by rw [Ho.out],af.ext (w:=wb) Xt hA,af.ext (w:=wb) Xt hR,af.ext (w:=wb) Xt hT,af.ext (w:=wb) Xt hS,aQ.out.ext Xt,Xt⟩
  case rest=>
   clear hA hR hT hS aP;obtain⟨rfl,hA,hR,hT,hS,hst,hx⟩:=hcut;have aQ:=ae hst;clear hst;go_upto_region 7 with fail
   go_cut [48] (fun s48 wx=>s48= .bool tn/\aD wx w.heap.size x kb kd lb ld/\jm wx (w.heap.size+1)/\fx wx (w.heap.size+1+1) t ka kc la lc oa oc/\af wx w1.heap.size #[.string im, .slice a1 n1 c1] 53/\StepsIn wx a1 sx/\Ext w wx)
   case first=>
    obtain⟨iA,iB,fy⟩:=hT.see
    cases ot with
    |true=>
     obtain rfl:tn=true:=by rw [Vf.out];rfl
     go_wp2_with fail
     go_meet
     exact⟨rfl,aj,aj,aj,aj,aQ.out.ext Xt,Xt⟩
    |false=>
     go_wp2_with fail;(refine(ae4 m.length t.ows.length od oc ob oa m t.ows _ _ _ (ae rfl) (ae rfl) (How.out.ext Xt) (NF.out.ext Xt) (by omega) (ae fun y hy=>by have:=tK hy;omega)).mono ?_);rintro e w2 ⟨bq,rfl,Vg,h2⟩
     have Hbq:=ae (show (!bq)=tn by
      rw [Vf.out,Bool.false_or];congr 1
      rw [Bool.eq_iff_iff,Vg,NI])
     clear Vg;go_wp2_with fail
     go_meet
     exact⟨by rw [Hbq.out],af.ext (w:=wc) Xt hA,af.ext (w:=wc) Xt hR,af.ext (w:=wc) Xt hT,af.ext (w:=wc) Xt hS,aQ.out.ext Xt,Xt⟩
   case rest=>
    clear hA hR hT hS hx;obtain⟨rfl,hA,hR,hT,hS,hst,hx⟩:=hcut;have aQ:=ae hst;clear hst;have ag:=af.ext hx iQ;have hu:aU (fun b=>b≠r) w wc:=hx.upd _;clear hx;go_upto_if 48 with fail
    go_cut [] (fun wx=>aD wx w.heap.size x kb kd lb ld/\jm wx (w.heap.size+1)/\af wx (w.heap.size+1+1) #[.string t.name, .int .i64 t.v.k, .int .i64 t.v.n, .string t.v.s, .slice ka t.v.keys.length kc, .slice la t.v.l.length lc, .slice oa t.ows.length oc, .int .i64 mK, .int .i64 t.gen, .string t.st.sb, .string t.st.cm, .int .i64 t.st.ph, .int .i64 t.st.sp, .int .i64 t.st.wt, .int .i64 t.st.si] 46/\af wx w1.heap.size #[.string im, .slice a1 n1 c1] 53/\StepsIn wx a1 sx/\af wx r #[.slice (some ⟨g,0,none⟩) s.ay.length c, .int .i64 s.time, .int .i64 xI, .int .i64 s.acts] 65/\aU (fun b=>b≠r) w wx)
    case first=>
     obtain⟨iA,iB,fy⟩:=hT.see;obtain⟨hc0,aw,hl0⟩:=ag.see
     cases tn with
     |true=>
      obtain rfl:mK=s.last+1:=by rw [<-Vc.out];rfl
      obtain rfl:xI=s.last+1:=by rw [<-Vd.out];rfl
      go_wp2_with fail
      go_meet
      exact⟨aR,aR,aR,aR,aQ.out.held NG.out aC,aR,gP⟩
     |false=>
      obtain rfl:mK=t.ver:=by rw [<-Vc.out];rfl
      obtain rfl:xI=s.last:=by rw [<-Vd.out];rfl
      go_wp2_with fail
      go_meet
      exact⟨hA,hR,hT,hS,aQ.out,ag,hu⟩
    case rest=>
     clear hA hR hT hS ag hu;obtain⟨hA,hR,hT,hS,hst,ag,hu⟩:=hcut;have aQ:=ae hst;clear hst;go_upto_if 61 with fail
     go_cut [] (fun wx=>aD wx w.heap.size x kb kd lb ld/\jm wx (w.heap.size+1)/\af wx (w.heap.size+1+1) #[.string t.name, .int .i64 t.v.k, .int .i64 t.v.n, .string t.v.s, .slice ka t.v.keys.length kc, .slice la t.v.l.length lc, .slice oa t.ows.length oc, .int .i64 mK, .int .i64 o8, .string t.st.sb, .string t.st.cm, .int .i64 t.st.ph, .int .i64 t.st.sp, .int .i64 t.st.wt, .int .i64 t.st.si] 46/\af wx w1.heap.size #[.string im, .slice a1 n1 c1] 53/\StepsIn wx a1 sx/\af wx r #[.slice (some ⟨g,0,none⟩) s.ay.length c, .int .i64 s.time, .int .i64 xI, .int .i64 s.acts] 65/\aU (fun b=>b≠r) w wx)
     case first=>
      obtain⟨iA,iB,fy⟩:=hT.see
      cases ot with
      |true=>
       obtain rfl:o8=t.gen+1:=by rw [<-Ve.out];rfl
       go_wp2_with fail
       go_meet
       exact⟨aR,aR,aR,aR,aQ.out.held NG.out aC,aR,gP⟩
      |false=>
       obtain rfl:o8=t.gen:=by rw [<-Ve.out];rfl
       go_wp2_with fail
       go_meet
       exact⟨hA,hR,hT,hS,aQ.out,ag,hu⟩
     case rest=>
      clear hA hR hT hS ag hu;obtain⟨hA,hR,hT,hS,hst,ag,hu⟩:=hcut;have aQ:=ae hst;clear hst;obtain⟨jZ,j3,hlA⟩:=hA.see;obtain⟨iA,iB,fy⟩:=hT.see;go_upto_region 13 with fail
      refine aI (R:=fun wx=>aD wx w.heap.size x kb kd lb ld/\jm wx (w.heap.size+1)/\af wx (w.heap.size+1+1) #[.string t.name, .int .i64 x.k, .int .i64 x.n, .string x.s, .slice kb x.keys.length kd, .slice lb x.l.length ld, .slice ob m.length od, .int .i64 mK, .int .i64 o8, .string t.st.sb, .string t.st.cm, .int .i64 t.st.ph, .int .i64 t.st.sp, .int .i64 t.st.wt, .int .i64 t.st.si] 46/\af wx w1.heap.size #[.string im, .slice a1 n1 c1] 53/\StepsIn wx a1 sx/\af wx r #[.slice (some ⟨g,0,none⟩) s.ay.length c, .int .i64 s.time, .int .i64 xI, .int .i64 s.acts] 65/\aU (fun b=>b≠r) w wx) ⟨aR,aR,aR,aR,aQ.out.held NG.out aC,aR,gP⟩ ?_;clear hA hR hT hS ag hu aQ jZ j3 hlA iA iB fy;rintro wd ⟨hA,hR,hT,hS,hst,ag,hu⟩;have aQ:=ae hst;clear hst;have fy:=hT.lt
      go_cut [] (fun wx=>jm wx (w.heap.size+1)/\af wx (w.heap.size+1+1) #[.string t.name, .int .i64 x.k, .int .i64 x.n, .string x.s, .slice kb x.keys.length kd, .slice lb x.l.length ld, .slice ob m.length od, .int .i64 mK, .int .i64 o8, .string x'.sb, .string x'.cm, .int .i64 x'.ph, .int .i64 x'.sp, .int .i64 x'.wt, .int .i64 x'.si] 46/\af wx r #[.slice (some ⟨g,0,none⟩) s.ay.length c, .int .i64 s.time, .int .i64 xI, .int .i64 s.acts] 65/\aU (fun b=>b≠r) w wx)
      case first=>
       have au:∀w',Ext wd w'-> (w'.cell? ⟨w1.heap.size,0,none⟩=some (.string im)/\w'.cell? ⟨w1.heap.size,1,none⟩=some (.slice a1 n1 c1)/\w'.cell? ⟨w.heap.size+1+1,9,none⟩=some (.string t.st.sb)/\w'.cell? ⟨w.heap.size+1+1,10,none⟩=some (.string t.st.cm)/\w'.cell? ⟨w.heap.size+1+1,11,none⟩=some (.int .i64 t.st.ph)/\w'.cell? ⟨w.heap.size+1+1,12,none⟩=some (.int .i64 t.st.sp)/\w'.cell? ⟨w.heap.size+1+1,13,none⟩=some (.int .i64 t.st.wt)/\w'.cell? ⟨w.heap.size+1+1,14,none⟩=some (.int .i64 t.st.si)/\w'.cell? ⟨r,1,none⟩=some (.int .i64 s.time)):=
        fun w' e=>⟨e.cell (hS.cells 0),e.cell (hS.cells 1),e.cell (hT.cells 9),e.cell (hT.cells 10),e.cell (hT.cells 11),e.cell (hT.cells 12),e.cell (hT.cells 13),e.cell (hT.cells 14),e.cell (ag.cells 1)⟩
       refine fN au (c:=12) (by kernel_rfl) ?_;refine aH 0 [12] (hS:=au _ Xt) (h:= ?_);refine aH 1 [12] (hS:=au _ Xt) (h:= ?_);refine aH 2 [12] (hS:=au _ Xt) (h:= ?_);refine aH 3 [12] (hS:=au _ Xt) (h:= ?_);refine aH 4 [12] (hS:=au _ Xt) (h:= ?_);refine aH 5 [12] (hS:=au _ Xt) (h:= ?_);refine aH 6 [12] (hS:=au _ Xt) (h:= ?_);(try simp only [rl]);refine aM 7 (h:=fun K hK=> ?_);(try simp only [rl]);(try go_simp);(refine(M7 rO.out _ hxl (aQ.out.ext Xt) zH.symm).mono ?_);rintro e w2 ⟨rfl,h2⟩;(try go_simp);have hx2:Ext wd w2:=Xt;have bY:=af.ext hx2 hR;have qZ:=af.ext hx2 hT;have ak:=af.ext hx2 ag;have hu2:aU (fun b=>b≠r) w w2:=hu.ext hx2;have ahG:=qZ.lt;refine hK.out _ _ (fun _=>au _ Xt) ?_;clear hK K;refine aH 8 [12] (hS:=au _ Xt) (h:= ?_);refine aH 9 [12] (hS:=au _ Xt) (h:= ?_);(try simp only [rl]);obtain⟨iA,iB,fy⟩:=qZ.see;refine mQ (rs:= [10,11]) (by kernel_rfl) (by simp) ?_;refine cT.cons (Array.getElem?_eq_getElem (by decide)) (fun K hK=> ?_) (cT.cons (Array.getElem?_eq_getElem (by decide)) (fun K hK=> ?_) cT.nil)
       · (try simp only [rl])
         go_simp;refine hK.out _ _ (fun _=>au _ Xt) ?_;clear hK K;(try simp only [rl]);refine aM 11 (h:=fun K hK=> ?_);(try simp only [rl]);go_simp;refine hK.out _ _ (fun _=>au _ Xt) ?_;clear hK K;(try simp only [rl]);refine aM 12 (h:=fun K hK=> ?_);(try simp only [rl]);go_simp;refine bD hK (h:= ?_);clear hK K;(try simp only [rl]);refine dE (by kernel_rfl) ?_ _;go_wp2_with fail
         go_meet
         exact⟨aR,aR,aR,gP⟩
       · (try simp only [rl])
         go_simp;refine hK.out _ _ (fun _=>au _ Xt) ?_;clear hK K;(try simp only [rl]);refine mQ (rs:= [10,12]) (by kernel_rfl) (by simp) ?_;refine cT.cons (Array.getElem?_eq_getElem (by decide)) (fun K hK=> ?_) (cT.cons (Array.getElem?_eq_getElem (by decide)) (fun K hK=> ?_) cT.nil)
         · (try simp only [rl])
           go_simp;refine hK.out _ _ (fun _=>au _ Xt) ?_;clear hK K;(try simp only [rl]);refine aM 12 (h:=fun K hK=> ?_);(try simp only [rl]);go_simp;refine bD hK (h:= ?_);clear hK K;(try simp only [rl]);refine dE (by kernel_rfl) ?_ _;go_wp2_with fail
           go_meet
           exact⟨aR,aR,aR,gP⟩
         · (try simp only [rl])
           go_simp;refine bD hK (h:= ?_);clear hK K;(try simp only [rl]);refine aM 10 (h:=fun K hK=> ?_);(try simp only [rl]);go_simp;refine bD hK (h:= ?_);clear hK K;(try simp only [rl]);refine dE (by kernel_rfl) ?_ _;go_wp2_with fail
           go_meet
           exact⟨aR,aR,aR,gP⟩
      case rest=>
       clear hA hR hT hS ag hu aQ fy;obtain⟨hR,hT,ag,hu⟩:=hcut;have jP:Hid (∀w',Ext wc w'->w'.there g (k*15) 15):=fun w' e=>by have:=Vh (m:=0) (n:=15) (IP (w:=w) (w':=w) Hc.out Xt) (by rw [Th.xH];omega);intro j hj;have h1:=this j hj;rw [Nat.add_zero] at h1;have h2:=(hu.ext e).block g (fun h=>hgr h) hg;rw [World.cell?_of_block (a:=⟨g,k*15+j,none⟩) h2,World.frozen?_of_block (a:=⟨g,k*15+j,none⟩) h2];exact h1
       have hgl:g<wc.heap.size:=Nat.lt_of_lt_of_le hg hu.size;have Vi:=ae (show kG w (fun b=>(P b/\b<w.heap.size)/\b≠r/\ (Value.slice (some ⟨g,0,none⟩) s.ay.length c).ownBlock≠some b) (⟨t.name,x,m,mK,o8,x'⟩:Th) kb kd lb ld ob od from⟨aJ.out,dv.out,How.out⟩);obtain⟨iA,iB,fy⟩:=hT.see;obtain⟨hc0,aw,hl0⟩:=ag.see;go_upto_region 14 with fail
       go_still_tail 7,(by kernel_rfl)
       refine wpList_store_mid rfl 46 _ _ rfl g (k*15) #[.string t.name, .int .i64 x.k, .int .i64 x.n, .string x.s, .slice kb x.keys.length kd, .slice lb x.l.length ld, .slice ob m.length od, .int .i64 mK, .int .i64 o8, .string x'.sb, .string x'.cm, .int .i64 x'.ph, .int .i64 x'.sp, .int .i64 x'.wt, .int .i64 x'.si] (by rfl) (by rfl) (jP.out wc.drew ((Ext.refl _).drew)) Tryz.afe (all_oneCell_toArray (Th.IQ (⟨t.name,x,m,mK,o8,x'⟩:Th) kb kd lb ld ob od)) ?_;go_upto_region 15 with fail
       have hup:aU (fun b=>¬P b) w wc:=hu.mono (fun b hb e=>hb (e▸Bz.out));obtain⟨wd,hwd⟩:∃wd,wc.drew.setCells g (k*15) (Th.cells (⟨t.name,x,m,mK,o8,x'⟩:Th) kb kd lb ld ob od)=wd:=⟨_,rfl⟩;have gF:ez wd (fun b=>P b/\b<w.heap.size) r {s with ay:=s.ay.set k ⟨t.name,x,m,mK,o8,x'⟩,last:=xI} (.slice (some ⟨g,0,none⟩) s.ay.length c) (xs.take (k*15)++Th.cells (⟨t.name,x,m,mK,o8,x'⟩:Th) kb kd lb ld ob od++xs.drop ((k+1)*15)):=by rw [<-hwd];exact ez.lay rfl fk.out hu.drew ag.drew hk _ Vi.out
       have bY:=hR.drew.nG (g:=g) (by omega) (k*15) (Th.cells (⟨t.name,x,m,mK,o8,x'⟩:Th) kb kd lb ld ob od);have qZ:=hT.drew.nG (g:=g) (by omega) (k*15) (Th.cells (⟨t.name,x,m,mK,o8,x'⟩:Th) kb kd lb ld ob od);have qV:=hup.drew.sets (g:=g) (fun h=>absurd zE.out h) (k*15) (Th.cells (⟨t.name,x,m,mK,o8,x'⟩:Th) kb kd lb ld ob od);rw [hwd] at bY qZ qV;refine aI (R:=fun wy=>wy=wd) hwd ?_;clear hwd hR hT ag hu hup hgl jP Vi iA iB fy hc0 aw hl0;rintro wy rfl;have qY:=ae gF;clear gF;obtain⟨hcR,jY,eP⟩:=bY.see;obtain⟨iA,iB,fy⟩:=qZ.see;go_wp2_with fail;refine aG (h:= ?_);rw [ig.out];exact⟨rfl,⟨_,_,(qY.out.keep ((Held.kept (T:=fun b=>b<w.heap.size) aC).mono fun b hb=>hb.2)).mono fun b hb=> .inl hb.1⟩,gP⟩
end Go.Proofs.YtlcebdaghmdkeaaGreatDoor
namespace Go.Proofs.YtlcebdaghmdkeaaGreatDoor
open Go.Proofs.Tryz
open Go.RowKit
theorem WN (base g m cap k:Nat) (cur:Array Value) (w:World) (hb:base<=g) (hg:w.heap[g]? =some (.cells cur 46 (0,0))) (hnc:m<cap) (hm:cap<=maxLen) (hcs:cur.size=cap*15)
 (hk:k<=m) (h1c:∀u∈cur.toList.take ((m+1)*15),u.oneCell'=true):
 Calls prog 31 #[.slice (some ⟨g,0,none⟩) (m+1) cap, .int .i64 k, .int .i64 ((k:Int)+1)] w fun e w'=>e= .returned (.slice (some ⟨g,0,none⟩) m cap)/\
  w'.ownsRow base 46 15 (.slice (some ⟨g,0,none⟩) m cap) m ((cur.toList.take ((m+1)*15)).take (k*15)++(cur.toList.take ((m+1)*15)).drop ((k+1)*15))/\w.grownBy w' (some g):=by
 obtain⟨i0,hi,hz0,hz1,hz2⟩:=info_parts Tryz.BX;have hm2:cap<=9223372036854775807:=hm;have zZ:(m+1)*15<=cap*15:=Nat.mul_le_mul_right _ hnc;obtain⟨cs,cg⟩:∃cs,cs=(cur.toList.take ((m+1)*15)).drop ((k+1)*15):=⟨_,rfl⟩;have hcl:cs.length=(m-k)*15:=by rw [cg];simp;omega
 have hdel:=Jh cur.toList ([Value.string ⟨#[]⟩, .int .i64 0, .int .i64 0, .string ⟨#[]⟩, .slice none 0 0, .slice none 0 0, .slice none 0 0, .int .i64 0, .int .i64 0, .string ⟨#[]⟩, .string ⟨#[]⟩, .int .i64 0, .int .i64 0, .int .i64 0, .int .i64 0]:List Value) (k*15) 15 ((m+1)*15) (by omega) (by rw [Array.length_toList,hcs];omega) rfl cs (by rw [cg];first|done|(congr 1<;>omega));simp only at hdel;rw [show (m+1)*15-15=m*15 by omega] at hdel;obtain⟨az,hl2,aS⟩:=hdel;obtain⟨c1,hc1⟩:∃c1,c1=cur.toList.take (k*15)++cs++cur.toList.drop (k*15+cs.length):=⟨_,rfl⟩;rw [<-hc1] at az hl2 aS;obtain⟨W1,hW1⟩:∃W1,W1=w.drew.setRow g c1.toArray:=⟨_,rfl⟩;have hg1:W1.heap[g]? =some (.cells c1.toArray 46 (0,0)):=by rw [hW1];exact setRow_heap w.drew g cur _ 46 _ hg
 have hap:∀(ad:Addr) ty,(cap=k+1\/ad=⟨g,(k+1)*15,none⟩)-> (Builtin.append_ #[29,29] ty #[.slice (some ⟨g,0,none⟩) k cap, .slice (some ad) (m+1-(k+1)) (cap-(k+1))]).run prog w.drew= .ok (.slice (some ⟨g,0,none⟩) m cap) W1:=fun ad ty had=>by
  have hsrc:∀j u,cs[j]? =some u->w.drew.cell? (ad.add j)=some u:=by
   rcases had with h|rfl
   ·have h0:m-k=0:=by omega
    have:cs.length=0:=by rw [hcl,h0,Nat.zero_mul]
    obtain rfl:=List.eq_nil_of_length_eq_zero this;intro j u hj;simp at hj
   ·intro j v hj
    rw [Addr.add_lit,cg,List.getElem?_drop,List.getElem?_take] at*
    split at hj
    ·show w.cell? _=_
     rw [cell_of_row w g _ cur _ _ hg];simpa using hj
    ·cases hj
  have h:=run_append_room (P:=prog) w.drew 29 ty 46 i0 underlying29 hi g k cap cur hg ad (m+1-(k+1)) (cap-(k+1)) cs (by rw [hz1,hcl];first|done|(congr 1;omega)) hsrc (fun u hu=>h1c u (List.mem_of_mem_drop (by rw [<-cg];exact hu))) (by omega) (by rw [hz1,hcl,hcs];omega);rw [h,hW1,hc1,hz1];rw [show k+(m+1-(k+1))=m by omega]
  first|done|simp only [Nat.mul_one]
 obtain⟨W2,hW2⟩:∃W2,W2=W1.setRow g (c1.take (m*15)++([Value.string ⟨#[]⟩, .int .i64 0, .int .i64 0, .string ⟨#[]⟩, .slice none 0 0, .slice none 0 0, .slice none 0 0, .int .i64 0, .int .i64 0, .string ⟨#[]⟩, .string ⟨#[]⟩, .int .i64 0, .int .i64 0, .int .i64 0, .int .i64 0]:List Value)++c1.drop (m*15+15)).toArray:=⟨_,rfl⟩;have hsz1:c1.toArray.size=cap*15:=by rw [List.size_toArray,aS,Array.length_toList,hcs]
 have BZ:∀ty,(Builtin.clear_ #[29] ty #[.slice (some ⟨g,m*15,none⟩) 1 (cap-m)]).run prog W1= .ok (.tuple #[]) W2:=fun ty=>by have hz:(.agg #[Value.string ⟨#[]⟩, .int .i64 0, .int .i64 0, .string ⟨#[]⟩, .slice none 0 0, .slice none 0 0, .slice none 0 0, .int .i64 0, .int .i64 0, .string ⟨#[]⟩, .string ⟨#[]⟩, .int .i64 0, .int .i64 0, .int .i64 0, .int .i64 0]:Value).cells.size=15:=rfl;have h:=Ji (P:=prog) W1 29 46 ty (.agg #[Value.string ⟨#[]⟩, .int .i64 0, .int .i64 0, .string ⟨#[]⟩, .slice none 0 0, .slice none 0 0, .slice none 0 0, .int .i64 0, .int .i64 0, .string ⟨#[]⟩, .string ⟨#[]⟩, .int .i64 0, .int .i64 0, .int .i64 0, .int .i64 0]) underlying29 (fun w=>by simp [Go.zeroValue,typeInfo,hi,hz0]) (by decide) g (m*15) (cap-m) c1.toArray 46 hg1 (by rw [hsz1,hz];omega);rw [h,hW2];rfl
 have ja:W2.ownsRow base 46 15 (.slice (some ⟨g,0,none⟩) m cap) m ((cur.toList.take ((m+1)*15)).take (k*15)++(cur.toList.take ((m+1)*15)).drop ((k+1)*15)):=by
  rw [hW2];refine rh hb (setRow_heap W1 g _ _ 46 _ hg1) (by omega) hm ?_ ?_
  ·rw [List.size_toArray,hl2,Array.length_toList,hcs]
  ·rw [show m*15=m*15 by omega]
   rw [List.toList_toArray,az]
   try(congr 2<;>omega)
 have jb:w.grownBy W2 (some g):=by rw [hW2,hW1];exact rq (nV (jH w.drew g _)) (jH _ g _)
 have mixed:prog.follows Departure.mixedOrders=true:=by kernel_rfl
 have hz3:¬((k:Int)=(k:Int)+1):=by omega
 have hb1:(0:Int)<= (k:Int)+1:=by omega
 have htn:((k:Int)+1).toNat=k+1:=by omega
 have hin:k<=cap:=by omega
 have bZ:k+1<=cap:=by omega
 have bj:k<=k+1:=by omega
 have dm:k+1<=m+1:=by omega
 have fV:m+1<=cap:=by omega
 have ct:m<=m+1:=by omega
 have hb3:((k:Int)+1)<= ((m:Int)+1):=by omega
 have hcm:¬(cap=m):=by omega
 have hcm2:m+1-m=1:=by omega
 have mS:=ae ja;have jI:=ae jb;clear ja jb hW2 hsz1 hW1 hg1 az hl2 aS hc1 cg hcl hg h1c hcs hi hz0 hz1 hz2;by_cases vT:cap=k+1
 ·obtain rfl:m=k:=by omega
  subst vT;have ru:=fun ty=>hap ⟨g,0,none⟩ ty (.inl rfl);clear hap;have Jj:(m:Int)<= (m:Int)+1:=by omega
  rw [show m+1-m=1 by omega] at BZ;go_enter func31,ntmps31;go_wp2_with fail
  go_region_law_o (refine z6 rfl _ _ 29 29 rfl _ _ (by simp [Act.eval,Act.put]) (by simp [Act.eval,Act.put]) (ru _) ?_)
  go_wp2;go_ret;exact⟨rfl,mS.out,jI.out⟩
 ·have ru:=fun ty=>hap ⟨g,(k+1)*15,none⟩ ty (.inr rfl)
  clear hap;go_enter func31,ntmps31;go_wp2_with fail
  go_region_law_o (refine z6 rfl _ _ 29 29 rfl _ _ (by simp [Act.eval,Act.put]) (by simp [Act.eval,Act.put,vT]) (ru _) ?_)
  go_wp2;go_ret;exact⟨rfl,mS.out,jI.out⟩
end Go.Proofs.YtlcebdaghmdkeaaGreatDoor
