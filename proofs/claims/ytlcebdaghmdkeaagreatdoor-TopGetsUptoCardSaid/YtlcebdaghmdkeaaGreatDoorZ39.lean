import Derived.Test.YtlcebdaghmdkeaaGreatDoorZ37
import Derived.Test.YtlcebdaghmdkeaaGreatDoorZ38
set_option linter.all false
set_option maxRecDepth 100000
set_option maxHeartbeats 64000000
namespace Go.Proofs.YtlcebdaghmdkeaaGreatDoor
open Go.Proofs.Tryz
open Go.RowKit
attribute [local go_sem↓] Go.wp_at_zero Go.wp_at_succ
theorem af1 {l:List Ac} {k:Nat} (hk:k<l.length) (s:Sv):fq s (l.take (k+1))=(bz (fq s (l.take k)) l[k]).1:=by
 unfold fq;rw [List.take_succ_eq_append_getElem hk,List.foldl_append];rfl
theorem fU.old {w:World} {T:aA} {l:List Th} {xs:List Value} (h:fU w T l xs):fU w (fun b=>T b/\b<w.heap.size) l xs:=h.keep (fun _ _ _=>rfl) fun b hb hl=>⟨hb,hl⟩
theorem fT.old {w:World} {S:aA} {l:List Th} {a:aq} (h:fT w S l a):fT w (fun b=>S b/\b<w.heap.size) l a:=by
 obtain⟨xs,h1,h2⟩:=h;refine⟨xs,?_,h2.old⟩;rcases h1 with h1|⟨b,h3,h4,h5,h6⟩
 ·exact .inl h1
 ·exact .inr ⟨b,h3,⟨h4,h5⟩,h5,h6⟩
theorem fT.keep {S T:aA} {w w':World} {l:List Th} {a:aq} (h:fT w S l a) (e:Kept S w w') (hs:w.heap.size<=w'.heap.size) (hT:∀b,S b->T b):fT w' T l a:=by
 obtain⟨xs,h1,h2⟩:=h;refine⟨xs,?_,h2.keep e fun b hb _=>hT b hb⟩;rcases h1 with h1|⟨b,h3,h4,h5,h6⟩
 ·exact .inl h1
 ·exact .inr ⟨b,h3,hT b h4,Nat.lt_of_lt_of_le h5 hs,fun j u hj=>e.cell (p:=⟨b,j,none⟩) h4 (h6 j u hj)⟩
def af2 (g:Nat) (lb:Array Value) (l:List Ac) (w0:World) (D:aA) (KK:Nat-> (aA)->World->Prop):Prop:=
 (∀args w,(callFunc g args).run prog w= .ok (.enter g args) w)/\
 ∀(k:Nat) (hk:k<l.length) (P F T:aA) (r:Nat) (wa:aq) (wc:Nat) (w1:World),k<100->aU (fun b=>¬D b) w0 w1->Sat w1 P r (bz (fq cQ (l.take k)) l[k]).1->
  (∀b,P b->D b/\¬F b/\¬T b/\b<w1.heap.size)->KK k F w1-> (∀b,F b->D b/\¬T b/\b<w1.heap.size)->
  aO wa (fq cQ (l.take k)).ay.length wc->fT w1 T (fq cQ (l.take k)).ay wa-> (∀b,T b->w0.heap.size<=b/\b<w1.heap.size)->
  Calls prog g (#[.pointer (some ⟨r,0,none⟩), .slice wa (fq cQ (l.take k)).ay.length wc, .agg #[.int .i64 l[k].k, .string l[k].name, .string l[k].who, .string l[k].body, .int .i64 l[k].ver, .int .i64 l[k].n, .int .i64 l[k].ord, .bool l[k].force],(bz (fq cQ (l.take k)) l[k]).2.val]++lb) w1 fun e w2=>
   e= .returned (.bool true)/\aU (fun b=>¬D b) w1 w2/\∃P' F',Sat w2 P' r (bz (fq cQ (l.take k)) l[k]).1/\ (∀b,P' b->D b/\¬F' b/\b<w2.heap.size)/\KK (k+1) F' w2/\ (∀b,F' b->D b/\b<w2.heap.size)
theorem af3 (g:Nat) (lb:Array Value) (l:List Ac) (a:aq) (c:Nat) (D F0:aA) (KK:Nat-> (aA)->World->Prop) (w:World) (hbig:l.length<=1048576) (hz:∀x∈l,x.name.size<=1048576/\x.body.size<=1048576/\x.who.size<=1048576)
 (lf:jL w (fun b=>¬D b) l a) (hD:∀b,w.heap.size<=b->D b) (hl:iU D w) (hK:KK 0 F0 w) (VP:∀b,F0 b->D b/\b<w.heap.size)
 (VQ:∀k F w1 w2,KK k F w1->aU F w1 w2->KK k F w2) (N7:af2 g lb l w D KK):
 Calls prog 9 #[.slice a l.length c, .func (.func g) #[] lb] w fun e w'=>∃P F r,e= .returned (.tuple #[.pointer (some ⟨r,0,none⟩), .bool true])/\Sat w' P r (fq cQ (l.take 100))/\
  (∀b,P b->D b/\¬F b/\b<w'.heap.size)/\KK (min 100 l.length) F w'/\ (∀b,F b->D b/\b<w'.heap.size)/\aU (fun b=>¬D b) w w':=by
 obtain⟨eg,hcall⟩:=N7;have Hc:=ae hcall;have Hz:=ae hz;have Ha:=ae lf;have Hl:=ae hl;have HK:=ae hK;have HF:=ae VP;have xP:=ae VQ;have HD:=ae hD;clear hcall hz lf hl hK VP VQ hD;go_enter func9,ntmps9;go_wp2_with fail;(refine(afc _ ((Hl.out.next ((show Ext w _ from Xt).upd _)).mono fun b h=>HD.out b (by(try simp at h);omega))).mono ?_);rintro e w1 ⟨rfl,h1⟩;have hx1:Ext w w1:=Xt;have hz1:=hx1.size;clear h1;go_wp2_with fail;(refine(U5 _).mono ?_);rintro e w2 ⟨rfl,hs2,h2⟩;have hx2:Ext w w2:=Xt;have hz2:=hx2.size;obtain⟨v2,NC,hs2⟩:=hs2;have cw:=ae (show Sat w2 (fun b=>w1.heap.size<=b/\b<w2.heap.size) w1.heap.size cQ from⟨v2,NC,hs2.old.mono fun b h=>⟨by have:=h.1;(try simp at this);omega,h.2⟩⟩);have VR:=ae (xP.out 0 F0 w w2 HK.out (hx2.upd _));have VT:=ae (hx2.upd fun b=>¬D b);clear hs2 h2 hx1;go_wp2_with fail
 go_loopg [7,8,9] (min 100 l.length) (fun g i _ _ wr=>∃(k:Nat) (P F:aA),k<=min 100 l.length/\i= .int .i64 k/\g=min 100 l.length-k/\Hid (Sat wr P w1.heap.size (fq cQ (l.take k))/\ (∀b,P b->D b/\¬F b/\b<wr.heap.size)/\KK k F wr/\ (∀b,F b->D b/\b<wr.heap.size)/\aU (fun b=>¬D b) w wr)/\w.heap.size<=wr.heap.size)
 case atStart=>exact⟨0,fun b=>w1.heap.size<=b/\b<w2.heap.size,F0,by omega,rfl,by omega,ae ⟨cw.out.ext Xt,fun b h=>⟨HD.out b (by omega),fun hf=>by have:=(HF.out b hf).2;omega,by(try simp);omega⟩,xP.out 0 F0 _ _ VR.out ((show Ext w2 _ from Xt).upd _),fun b h=>⟨(HF.out b h).1,by have:=(HF.out b h).2;(try simp);omega⟩,VT.out.ext Xt⟩,by(try simp);omega⟩
 case round=>
  clear cw VR VT hx2;obtain⟨k,P,F,hk,rfl,rfl,H,uJ⟩:=hrel;by_cases hlt:k<l.length/\k<100
  ·obtain⟨hlt,J1⟩:=hlt
   have hok:=Ok.BJ .new (l.take k);have dv:=ae hok;have hlen:=hok.len;have gG:=ae hok.inv;obtain⟨hS,hP,VU,hF,hU⟩:=H.out;have HS:=ae hS;have HP:=ae hP;have VW:=ae VU;have HF:=ae hF;have HU:=ae hU;clear hok hS hP VU hF hU H;obtain⟨b,o,rfl,tS,ha⟩:=Ha.out.resolve_left (by intro h;rw [h] at hlt;simp at hlt);obtain⟨s,hs⟩:∃s,fq cQ (l.take k)=s:=⟨_,rfl⟩;obtain⟨x,hx⟩:∃x,l[k]=x:=⟨_,rfl⟩;have VX:=ae (show uN w b (o+k*8) x from hx▸ha k hlt);have hat:uN wr b (o+k*8) x:=VX.out.keep HU.out.kept tS;obtain⟨d0,d1,d2,d3,d4,d5,d6,d7⟩:=hat;have fS:=ae (show uN wr b (o+k*8) x from⟨d0,d1,d2,d3,d4,d5,d6,d7⟩);obtain⟨mo,hzb,rN⟩:=Hz.out x (hx▸List.getElem_mem hlt);have mh:(0:Int)<= (k:Int):=by omega
   have ml:(k:Int)<(l.length:Int):=by omega
   have Fe:(k:Int)<100:=by omega
   have Hs:=ae hs;have Hx:=ae hx;have cY:=ae (af1 hlt cQ);rw [hs,hx] at cY;rw [hs] at HS gG hlen dv;clear hs hx ha;go_wp2_with fail;(refine(pK P w1.heap.size s _ (HS.out.ext Xt) hlen (fun t ht=>by have h:=gG.out.size t ht;exact⟨h.1,h.2.1⟩)).mono ?_);rintro e w3 ⟨a3,c3,rfl,gK,tv,h3⟩;have hx3:Ext wr w3:=Xt;have hz3:=hx3.size;have NM:=ae gK;obtain⟨T,hT⟩:∃T:aA,T=fun b=>wr.heap.size<=b/\b<w3.heap.size:=⟨_,rfl⟩
   have HT:=ae (show∀b,T b->wr.heap.size<=b/\b<w3.heap.size from fun b h=>by rw [hT] at h;exact h);have q9:=ae (show fT w3 T s.ay a3 from tv.old.keep (fun _ _ _=>rfl) (Nat.le_refl _) fun b h=>by rw [hT];exact⟨by have:=h.1;(try simp at this);omega,h.2⟩);have d0:=hx3.cell d0;have d1:=hx3.cell d1;have d2:=hx3.cell d2;have d3:=hx3.cell d3;have d4:=hx3.cell d4;have d5:=hx3.cell d5;have d6:=hx3.cell d6;have d7:=hx3.cell d7;clear gK tv h3 hT;go_wp2_with fail;(refine(sX P w1.heap.size s x _ (HS.out.ext Xt) gG.out (((Hl.out.next HU.out).mono fun b h=>(HP.out b h).1).next ((show Ext wr _ from Xt).upd _)) mo hzb rN).mono ?_);rintro e w4 ⟨rfl,hs4,nQ⟩;have N8:Ext wr _:=hx3.trans (show Ext w3 _ from Xt)
   have bL:=ae (show Sat w4 (fun b=>(P b\/wr.heap.size<=b)/\¬T b/\b<w4.heap.size) w1.heap.size (bz s x).1 from by
    obtain⟨v4,ND,hs4⟩:=hs4
    exact⟨v4,ND,hs4.old.mono fun b h=>by
     rcases h.1 with h1|h1
     ·exact⟨.inl h1,fun ht=>by have:=(HT.out b ht).1;have:=(HP.out b h1).2.2;omega,h.2⟩
     ·exact⟨.inr (by(try simp at h1);omega),fun ht=>by have:=(HT.out b ht).2;(try simp at h1);omega,h.2⟩⟩)
   have VY:=ae (xP.out k F wr w4 VW.out ((N8.upd F).trans (nQ.mono fun b hf hp=>(HP.out b hp).2.1 hf)));have N9:=ae ((HU.out.ext N8).trans (nQ.mono fun b hd hp=>hd (HP.out b hp).1));have zL:=ae ((q9.out.ext (show Ext w3 _ from Xt)).keep (nQ.kept.mono fun b ht hp=>by have:=(HT.out b ht).1;have:=(HP.out b hp).2.2;omega) nQ.size fun _ h=>h);have ij:w3.heap.size<=w4.heap.size:=by have:=nQ.size;(try simp at this);omega
   have Oa:=ae (show∀b,(P b\/wr.heap.size<=b)/\¬T b/\b<w4.heap.size->D b/\¬F b from fun b h=>by
    rcases h.1 with h1|h1
    ·exact⟨(HP.out b h1).1,(HP.out b h1).2.1⟩
    ·exact⟨HD.out b (by omega),fun hf=>by have:=(HF.out b hf).2;omega⟩)
   obtain⟨P4,Ob⟩:∃P4:aA,P4=fun b=>(P b\/wr.heap.size<=b)/\¬T b/\b<w4.heap.size:=⟨_,rfl⟩
   rw [<-Ob] at bL;have IY:=ae (show∀b,P4 b->D b/\¬F b/\¬T b/\b<w4.heap.size from fun b h=>by rw [Ob] at h;exact⟨(Oa.out b h).1,(Oa.out b h).2,h.2.1,h.2.2⟩);have BR:=Hc.out k hlt;rw [Hs.out,Hx.out] at BR;obtain⟨s',hs'⟩:∃s',(bz s x).1=s':=⟨_,rfl⟩;obtain⟨y,hy⟩:∃y,(bz s x).2=y:=⟨_,rfl⟩;rw [hs'] at bL cY BR;rw [hy] at BR⊢;replace BR:=ae BR;clear hs4 nQ hs' hy Ob Oa HS gG dv fS N8 hx3 d0 d1 d2 d3 d4 d5 d6 d7 q9 VW HU HP;go_upto_region 9 with fail
   refine aI (R:=fun wx=>af wx w4.heap.size #[.int .i64 y.c, .int .i64 y.n, .string y.b] 34/\uN wx b (o+k*8) x/\Sat wx P4 w1.heap.size s'/\KK k F wx/\fT wx T s.ay a3/\aU (fun b=>¬D b) w wx) ⟨aj,VX.out.keep (N9.out.ext (show Ext w4 _ from Xt)).kept tS,bL.out.ext Xt,xP.out k F _ _ VY.out ((show Ext w4 _ from Xt).upd _),zL.out.ext Xt,N9.out.ext Xt⟩ ?_;clear bL VY N9 zL;rintro wb ⟨hB,⟨d0,d1,d2,d3,d4,d5,d6,d7⟩,VZ,V2,V3,V4⟩;have bP:=ae VZ;have V5:=ae V2;have V6:=ae V3;have Oc:=ae V4;have hlB:=hB.lt;clear VZ V2 V3 V4;have au:∀w',Ext wb w'-> (w'.cell? ⟨b,o+k*8,none⟩=some (.int .i64 x.k)/\w'.cell? ⟨b,o+k*8+1,none⟩=some (.string x.name)/\w'.cell? ⟨b,o+k*8+2,none⟩=some (.string x.who)/\w'.cell? ⟨b,o+k*8+3,none⟩=some (.string x.body)/\w'.cell? ⟨b,o+k*8+4,none⟩=some (.int .i64 x.ver)/\w'.cell? ⟨b,o+k*8+5,none⟩=some (.int .i64 x.n)/\w'.cell? ⟨b,o+k*8+6,none⟩=some (.int .i64 x.ord)/\w'.cell? ⟨b,o+k*8+7,none⟩=some (.bool x.force)/\w'.cell? ⟨w4.heap.size,0,none⟩=some (.int .i64 y.c)/\w'.cell? ⟨w4.heap.size,1,none⟩=some (.int .i64 y.n)/\w'.cell? ⟨w4.heap.size,2,none⟩=some (.string y.b)):=fun w' e=>⟨e.cell d0,e.cell d1,e.cell d2,e.cell d3,e.cell d4,e.cell d5,e.cell d6,e.cell d7,e.cell (hB.cells 0),e.cell (hB.cells 1),e.cell (hB.cells 2)⟩;refine fN au (c:=8) (by kernel_rfl) ?_;refine aH 0 [8] (hS:=au _ Xt) (h:= ?_);refine aH 1 [8] (hS:=au _ Xt) (h:= ?_);refine aH 2 [8] (hS:=au _ Xt) (h:= ?_);refine aH 3 [5,6,8] (hS:=au _ Xt) (h:= ?_);refine aH 4 [5,6,8] (hS:=au _ Xt) (h:= ?_);refine aH 5 [6,8] (hS:=au _ Xt) (h:= ?_);refine aH 6 [8] (hS:=au _ Xt) (h:= ?_);refine aH 7 [8] (hS:=au _ Xt) (h:= ?_);(try simp only [rl]);refine aM 8 (h:=fun K hK=> ?_);(try simp only [rl]);(try go_simp);go_at_fn g;(refine(BR.out P4 F T w1.heap.size a3 c3 _ J1 (Oc.out.ext Xt) (bP.out.ext Xt) (fun b h=>⟨(IY.out b h).1,(IY.out b h).2.1,(IY.out b h).2.2.1,by have:=(IY.out b h).2.2.2;(try simp);omega⟩) (xP.out k F _ _ V5.out ((show Ext wb _ from Xt).upd _)) (fun b h=>⟨(HF.out b h).1,fun ht=>by have:=(HT.out b ht).1;have:=(HF.out b h).2;omega,by have:=(HF.out b h).2;(try simp);omega⟩) NM.out (V6.out.ext Xt) (fun b h=>by have:=HT.out b h;(try simp);omega)).mono ?_);rintro e w6 ⟨rfl,xL,P',F',V7,V8,V9,Wa⟩;(try go_simp);have cF:=ae (show Sat w6 P' w1.heap.size s'/\ (∀b,P' b->D b/\¬F' b/\b<w6.heap.size)/\KK (k+1) F' w6/\ (∀b,F' b->D b/\b<w6.heap.size)/\aU (fun b=>¬D b) w w6 from⟨V7,V8,V9,Wa,(Oc.out.ext Xt).trans xL⟩);have yq:w.heap.size<=w6.heap.size:=by have:=xL.size;(try simp at this);omega
   clear xL V7 V8 V9 Wa bP V5 V6 Oc;refine bD hK (h:= ?_);clear hK K;(try simp only [rl]);refine aM 9 (h:=fun K hK=> ?_);(try simp only [rl]);go_simp;refine bD hK (h:= ?_);clear hK K;(try simp only [rl]);refine dE (by kernel_rfl) ?_ _;clear au hB d0 d1 d2 d3 d4 d5 d6 d7;go_wp2_with fail;go_roundg (min 100 l.length-(k+1))
   case measure=>omega
   case rel=>exact⟨k+1,P',F',by omega,by go_num,by omega,ae (by rw [cY.out];exact⟨cF.out.1.ext Xt,fun b h=>⟨(cF.out.2.1 b h).1,(cF.out.2.1 b h).2.1,by have:=(cF.out.2.1 b h).2.2;(try simp);omega⟩,xP.out _ F' _ _ cF.out.2.2.1 ((show Ext w6 _ from Xt).upd _),fun b h=>⟨(cF.out.2.2.2.1 b h).1,by have:=(cF.out.2.2.2.1 b h).2;(try simp);omega⟩,cF.out.2.2.2.2.ext Xt⟩),by(try simp);omega⟩
  ·have cF:=ae (show Sat wr P w1.heap.size (fq cQ (l.take 100))/\ (∀b,P b->D b/\¬F b/\b<wr.heap.size)/\KK (min 100 l.length) F wr/\ (∀b,F b->D b/\b<wr.heap.size)/\aU (fun b=>¬D b) w wr from by
    obtain⟨h1,h2,h3,h4,h5⟩:=H.out;have e1:l.take k=l.take 100:=by
     rcases Nat.lt_or_ge k 100 with q|q
     ·rw [List.take_of_length_le (by omega),List.take_of_length_le (by omega)]
     ·rw [show k=100 by omega]
    have e2:k=min 100 l.length:=by omega
    rw [e1] at h1;rw [e2] at h3
    exact⟨h1,h2,h3,h4,h5⟩)
   clear H;by_cases h1:k<l.length
   ·have h2:¬(k:Int)<100:=by omega
    go_wp2_with fail;go_ret2;exact⟨P,F,w1.heap.size,rfl,cF.out.1.ext Xt,fun b h=>⟨(cF.out.2.1 b h).1,(cF.out.2.1 b h).2.1,by have:=(cF.out.2.1 b h).2.2;(try simp);omega⟩,xP.out _ F _ _ cF.out.2.2.1 ((show Ext wr _ from Xt).upd _),fun b h=>⟨(cF.out.2.2.2.1 b h).1,by have:=(cF.out.2.2.2.1 b h).2;(try simp);omega⟩,cF.out.2.2.2.2.ext Xt⟩
   ·go_wp2_with fail
    go_ret2;exact⟨P,F,w1.heap.size,rfl,cF.out.1.ext Xt,fun b h=>⟨(cF.out.2.1 b h).1,(cF.out.2.1 b h).2.1,by have:=(cF.out.2.1 b h).2.2;(try simp);omega⟩,xP.out _ F _ _ cF.out.2.2.1 ((show Ext wr _ from Xt).upd _),fun b h=>⟨(cF.out.2.2.2.1 b h).1,by have:=(cF.out.2.2.2.1 b h).2;(try simp);omega⟩,cF.out.2.2.2.2.ext Xt⟩
end Go.Proofs.YtlcebdaghmdkeaaGreatDoor
