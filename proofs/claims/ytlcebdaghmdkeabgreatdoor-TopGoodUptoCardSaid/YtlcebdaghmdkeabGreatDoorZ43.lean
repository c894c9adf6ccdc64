import Derived.Test.YtlcebdaghmdkeabGreatDoorZ42
set_option linter.all false
set_option maxRecDepth 100000
set_option maxHeartbeats 64000000
namespace Go.Proofs.YtlcebdaghmdkeabGreatDoor
open Go.RowKit
def zS:Ac:=⟨1,⟨#[97]⟩,⟨#[]⟩,⟨#[123,34,105,109,97,103,101,34,58,34,120,34,125]⟩,0,0,0,false⟩
def zT:Ac:=⟨3,⟨#[97]⟩,⟨#[]⟩,⟨#[123,34,105,109,97,103,101,34,58,34,121,34,44,34,115,116,101,112,115,34,58,91,49,48,44,123,34,112,97,117,115,101,34,58,48,125,93,125]⟩,0,0,0,false⟩
def EG:Ac:=⟨7,⟨#[97]⟩,⟨#[]⟩,⟨#[]⟩,0,0,2,false⟩
def uB:Sv:=(bP bQ zS).1
def xS:Sv:=(bP uB zT).1
def EH:Sv:=(bP xS EG).1
theorem BH:(bP bQ zS).2.c=0/\ (bP bQ zS).2.n=1/\ (bP uB zT).2.c=0/\ (bP uB zT).2.n=2/\ (bP xS EG).2.n=1/\EH.ax.length=1:=
 ⟨by kernel_rfl,by kernel_rfl,by kernel_rfl,by kernel_rfl,by kernel_rfl,by kernel_rfl⟩
def EI (s:Sv):Bool:=s.ax.length==1&&decide (s.ax.map Th.name= [⟨#[97]⟩])&&s.ax.all (fun t=>decide (t.v.size<=14640)&&decide (cw t.ows<=1800000)&&decide (0<=t.gen)&&decide (t.gen<=1000000))&&decide (0<=s.last)&&decide (s.last<=1000000)&&decide (0<=s.time)&&decide (s.time<=1099511627776)&&decide (0<=s.acts)&&decide (s.acts<=1000000)
theorem Nl:EI uB=true/\EI xS=true/\EI EH=true:=⟨by kernel_rfl,by kernel_rfl,by kernel_rfl⟩
end Go.Proofs.YtlcebdaghmdkeabGreatDoor
namespace Go.Proofs.YtlcebdaghmdkeabGreatDoor
open Go.Proofs.Tryz
open Go.RowKit
attribute [local go_sem↓] Go.wp_at_zero Go.wp_at_succ
theorem jl.mono {P Q:az} {w:World} (h:jl P w) (k:∀b,Q b->P b):jl Q w:=fun _ u=>h _ (u.mono fun b hb hq=>hb (k b hq))
theorem Nz {s:Sv} (h:EI s=true):Inv s:=by
 unfold EI at h;simp only [Bool.and_eq_true,beq_iff_eq,decide_eq_true_eq,List.all_eq_true] at h;obtain⟨⟨⟨⟨⟨⟨⟨⟨h1,h2⟩,h3⟩,h4⟩,h5⟩,h6⟩,h7⟩,h8⟩,h9⟩:=h;exact⟨by omega,by rw [h2];simp [cz],fun t ht=>by obtain⟨⟨⟨a,b⟩,c⟩,d⟩:=h3 t ht;exact⟨a,b,c,d⟩,⟨h4,h5⟩,⟨h6,h7⟩,⟨h8,h9⟩⟩
theorem ae6:Inv bQ:=⟨by simp [bQ],by simp [bQ,cz],fun _ h=>by simp [bQ] at h,by simp [bQ],by simp [bQ],by simp [bQ]⟩
theorem NA (w:World) (hl:jl (fun b=>w.heap.size<=b) w):Calls prog 27 #[] w fun e w'=>e= .returned (.bool true)/\Ext w w':=by
 have Hl:=ae hl;clear hl;go_enter func27,ntmps27;go_wp2_with fail;(refine(NB _).mono ?_);rintro e w1 ⟨rfl,hs1,h1⟩;have hx1:Ext w w1:=Xt;have hz1:=hx1.size;have dY:=ae (show Sat w1 (fun b=>w.heap.size<=b) w.heap.size bQ from hs1.mono fun b h=>by(try simp at h);omega);clear hs1 h1;go_wp2_with fail;(refine(EJ (fun b=>w.heap.size<=b) w.heap.size bQ zS _ (dY.out.ext Xt) ae6 (Hl.out.next ((show Ext w _ from Xt).upd _)) (by decide) (by decide) (by decide)).mono ?_);rintro e w2 ⟨rfl,hs2,hu2⟩;have hx2:Ext w w2:=aT.to (show Ext w _ from Xt) (hu2.mono fun b h h'=>by(try simp at h);omega);have hz2:=hx2.size;obtain⟨v2,NC,hs2⟩:=hs2;have jv:=ae (show Sat w2 (fun b=>w.heap.size<=b/\b<w2.heap.size) w.heap.size uB from⟨v2,NC,hs2.old.mono fun b h=>⟨by rcases h.1 with h|h;exact h;(try simp at h);omega,h.2⟩⟩);have hc2:(bP bQ zS).2.c=0:=BH.1;have kI:(bP bQ zS).2.n=1:=BH.2.1;obtain⟨p2,hp2⟩:∃p,(bP bQ zS).2=p:=⟨_,rfl⟩;rw [hp2] at hc2 kI⊢;clear hs2 hu2 hp2 hx1 dY;have Hc2:=ae hc2;have vC:=ae kI;clear hc2 kI;go_upto_region 5 with fail
 refine aI (R:=fun wx=>af wx w2.heap.size #[.int .i64 p2.c, .int .i64 p2.n, .string p2.b] 31/\Sat wx (fun b=>w.heap.size<=b/\b<w2.heap.size) w.heap.size uB/\Ext w wx) ⟨aj,jv.out.ext Xt,Xt⟩ ?_;clear jv hx2 hz1;rintro wa ⟨ak,hs2,aH⟩;have jv:=ae hs2;have hl2:=ak.lt;clear hs2;go_wp2_with fail;(refine(EJ (fun b=>w.heap.size<=b/\b<w2.heap.size) w.heap.size uB zT _ (jv.out.ext Xt) (Nz Nl.1) ((Hl.out.next ((show Ext w _ from Xt).upd _)).mono fun _ h=>h.1) (by decide) (by decide) (by decide)).mono ?_);rintro e w3 ⟨rfl,hs3,hu3⟩;have aV:af w3 w2.heap.size #[.int .i64 p2.c, .int .i64 p2.n, .string p2.b] 31:=af.held (T:=fun b=>¬(w.heap.size<=b/\b<w2.heap.size)) ⟨hu3.size,fun b hb hl=>hu3.block b hb hl⟩ (show af _ _ _ _ from ak) (by omega);have hx3:Ext w w3:=aT.to (show Ext w _ from Xt) (hu3.mono fun b h h'=>by omega);have hz3:=hu3.size;obtain⟨v3,ys3,hs3⟩:=hs3;have zU:=ae (show Sat w3 (fun b=>w.heap.size<=b/\b<w3.heap.size/\b≠w2.heap.size) w.heap.size xS from⟨v3,ys3,hs3.old.mono fun b h=>by rcases h.1 with h1|h1<;> (try simp at h1)<;>exact⟨by omega,h.2,by omega⟩⟩);have hc3:(bP uB zT).2.c=0:=BH.2.2.1;have yE:(bP uB zT).2.n=2:=BH.2.2.2.1;obtain⟨p3,vT⟩:∃p,(bP uB zT).2=p:=⟨_,rfl⟩;rw [vT] at hc3 yE⊢;have Hc3:=ae hc3;have DZ:=ae yE;have aR:=aV.lt;clear hs3 hu3 vT aH ak jv hc3 yE hl2;go_upto_region 6 with fail
 refine aI (R:=fun wx=>af wx w2.heap.size #[.int .i64 p2.c, .int .i64 p2.n, .string p2.b] 31/\af wx w3.heap.size #[.int .i64 p3.c, .int .i64 p3.n, .string p3.b] 31/\Sat wx (fun b=>w.heap.size<=b/\b<w3.heap.size/\b≠w2.heap.size) w.heap.size xS/\Ext w wx) ⟨aj,aj,zU.out.ext Xt,Xt⟩ ?_;clear zU hx3 aR aV;rintro wb ⟨ak,aV,hs3,aO⟩;have zU:=ae hs3;have hl2:=ak.lt;have aR:=aV.lt;clear hs3;go_wp2_with fail;(refine(EJ (fun b=>w.heap.size<=b/\b<w3.heap.size/\b≠w2.heap.size) w.heap.size xS EG _ (zU.out.ext Xt) (Nz Nl.2.1) ((Hl.out.next ((show Ext w _ from Xt).upd _)).mono fun _ h=>h.1) (by decide) (by decide) (by decide)).mono ?_);rintro e w4 ⟨rfl,hs4,lI⟩;have hB2':af w4 w2.heap.size #[.int .i64 p2.c, .int .i64 p2.n, .string p2.b] 31:=af.held (T:=fun b=>¬(w.heap.size<=b/\b<w3.heap.size/\b≠w2.heap.size)) ⟨lI.size,fun b hb hl=>lI.block b hb hl⟩ (show af _ _ _ _ from ak) (by omega);have ae7:af w4 w3.heap.size #[.int .i64 p3.c, .int .i64 p3.n, .string p3.b] 31:=af.held (T:=fun b=>¬(w.heap.size<=b/\b<w3.heap.size/\b≠w2.heap.size)) ⟨lI.size,fun b hb hl=>lI.block b hb hl⟩ (show af _ _ _ _ from aV) (by omega);have bH:Ext w w4:=aT.to (show Ext w _ from Xt) (lI.mono fun b h h'=>by omega);have gJ:=lI.size;obtain⟨v4,EO,hs4⟩:=hs4;have zH:=ae (show Sat w4 (fun b=>w.heap.size<=b/\b<w4.heap.size/\b≠w2.heap.size/\b≠w3.heap.size) w.heap.size EH from⟨v4,EO,hs4.old.mono fun b h=>by rcases h.1 with h1|h1<;> (try simp at h1)<;>exact⟨by omega,h.2,by omega,by omega⟩⟩);have U':=ae (show (bP xS EG).2.n=1 from BH.2.2.2.2.1);obtain⟨p4,xZ⟩:∃p,(bP xS EG).2=p:=⟨_,rfl⟩;rw [xZ] at U'⊢;clear hs4 lI xZ aO ak aV zU;go_upto_region 7 with fail
 refine aI (R:=fun wx=>af wx w2.heap.size #[.int .i64 p2.c, .int .i64 p2.n, .string p2.b] 31/\af wx w3.heap.size #[.int .i64 p3.c, .int .i64 p3.n, .string p3.b] 31/\af wx w4.heap.size #[.int .i64 p4.c, .int .i64 p4.n, .string p4.b] 31/\Sat wx (fun b=>w.heap.size<=b/\b<w4.heap.size/\b≠w2.heap.size/\b≠w3.heap.size) w.heap.size EH/\Ext w wx) ⟨aj,aj,aj,zH.out.ext Xt,Xt⟩ ?_;clear zH bH gJ hl2 aR hB2' ae7 hz3;rintro wc ⟨ak,aV,hB4,hs4,fh⟩;have zH:=ae hs4;clear hs4;obtain⟨hc2,hf2,hl2⟩:=ak.see;obtain⟨hc3,hf3,aR⟩:=aV.see;obtain⟨se,xu,hl4⟩:=hB4.see;have q1:(p2.c==0)=true:=by rw [Hc2.out];rfl
 have q2:(p2.n==1)=true:=by rw [vC.out];rfl
 have q3:(p3.c==0)=true:=by rw [Hc3.out];rfl
 have q4:(p3.n==2)=true:=by rw [DZ.out];rfl
 have q5:(p4.n==1)=true:=by rw [U'.out];rfl
 have Va:=ae BH.2.2.2.2.2;go_wp2_with fail;(refine(zR _ w.heap.size EH _ (zH.out.ext Xt) (by rw [Va.out];decide) (fun t ht=>by have h:=(Nz Nl.2.2).size t ht;exact⟨h.1,h.2.1⟩)).mono ?_);rintro e w5 ⟨a5,c5,rfl,-,-,h5⟩;rw [Va.out];go_wp2_with fail;go_ret;exact⟨rfl,Xt⟩
theorem VR {l:List Ac} {k:Nat} (hk:k<l.length) (s:Sv):eI s (l.take (k+1))=(bP (eI s (l.take k)) l[k]).1:=by
 unfold eI;rw [List.take_succ_eq_append_getElem hk,List.foldl_append];rfl
theorem fY.old {w:World} {T:az} {l:List Th} {xs:List Value} (h:fY w T l xs):fY w (fun b=>T b/\b<w.heap.size) l xs:=h.keep (fun _ _ _=>rfl) fun b hb hl=>⟨hb,hl⟩
theorem jk.old {w:World} {S:az} {l:List Th} {a:au} (h:jk w S l a):jk w (fun b=>S b/\b<w.heap.size) l a:=by
 obtain⟨xs,h1,h2⟩:=h;refine⟨xs,?_,h2.old⟩;rcases h1 with h1|⟨b,h3,h4,h5,h6⟩
 ·exact .inl h1
 ·exact .inr ⟨b,h3,⟨h4,h5⟩,h5,h6⟩
theorem jk.keep {S T:az} {w w':World} {l:List Th} {a:au} (h:jk w S l a) (e:Kept S w w') (hs:w.heap.size<=w'.heap.size) (hT:∀b,S b->T b):jk w' T l a:=by
 obtain⟨xs,h1,h2⟩:=h;refine⟨xs,?_,h2.keep e fun b hb _=>hT b hb⟩;rcases h1 with h1|⟨b,h3,h4,h5,h6⟩
 ·exact .inl h1
 ·exact .inr ⟨b,h3,hT b h4,Nat.lt_of_lt_of_le h5 hs,fun j u hj=>e.cell (p:=⟨b,j,none⟩) h4 (h6 j u hj)⟩
def VP (g:Nat) (lb:Array Value) (l:List Ac) (w0:World) (D:az) (KK:Nat-> (az)->World->Prop):Prop:=
 (∀args w,(callFunc g args).run prog w= .ok (.enter g args) w)/\
 ∀(k:Nat) (hk:k<l.length) (P F T:az) (r:Nat) (wa:au) (wc:Nat) (w1:World),k<100->aT (fun b=>¬D b) w0 w1->Sat w1 P r (bP (eI bQ (l.take k)) l[k]).1->
  (∀b,P b->D b/\¬F b/\¬T b/\b<w1.heap.size)->KK k F w1-> (∀b,F b->D b/\¬T b/\b<w1.heap.size)->
  aM wa (eI bQ (l.take k)).ax.length wc->jk w1 T (eI bQ (l.take k)).ax wa-> (∀b,T b->w0.heap.size<=b/\b<w1.heap.size)->
  Calls prog g (#[.pointer (some ⟨r,0,none⟩), .slice wa (eI bQ (l.take k)).ax.length wc, .agg #[.int .i64 l[k].k, .string l[k].name, .string l[k].who, .string l[k].body, .int .i64 l[k].ver, .int .i64 l[k].n, .int .i64 l[k].ord, .bool l[k].force],(bP (eI bQ (l.take k)) l[k]).2.val]++lb) w1 fun e w2=>
   e= .returned (.bool true)/\aT (fun b=>¬D b) w1 w2/\∃P' F',Sat w2 P' r (bP (eI bQ (l.take k)) l[k]).1/\ (∀b,P' b->D b/\¬F' b/\b<w2.heap.size)/\KK (k+1) F' w2/\ (∀b,F' b->D b/\b<w2.heap.size)
theorem VT (g:Nat) (lb:Array Value) (l:List Ac) (a:au) (c:Nat) (D F0:az) (KK:Nat-> (az)->World->Prop) (w:World) (hbig:l.length<=1048576) (hz:∀x∈l,x.name.size<=1048576/\x.body.size<=1048576/\x.who.size<=1048576)
 (wC:gI w (fun b=>¬D b) l a) (hD:∀b,w.heap.size<=b->D b) (hl:jl D w) (hK:KK 0 F0 w) (V5:∀b,F0 b->D b/\b<w.heap.size)
 (V6:∀k F w1 w2,KK k F w1->aT F w1 w2->KK k F w2) (Oi:VP g lb l w D KK):
 Calls prog 9 #[.slice a l.length c, .func (.func g) #[] lb] w fun e w'=>∃P F r,e= .returned (.tuple #[.pointer (some ⟨r,0,none⟩), .bool true])/\Sat w' P r (eI bQ (l.take 100))/\
  (∀b,P b->D b/\¬F b/\b<w'.heap.size)/\KK (min 100 l.length) F w'/\ (∀b,F b->D b/\b<w'.heap.size)/\aT (fun b=>¬D b) w w':=by
 obtain⟨eg,hcall⟩:=Oi;have Hc:=ae hcall;have Hz:=ae hz;have Ha:=ae wC;have Hl:=ae hl;have HK:=ae hK;have HF:=ae V5;have yh:=ae V6;have HD:=ae hD;clear hcall hz wC hl hK V5 V6 hD;go_enter func9,ntmps9;go_wp2_with fail;(refine(NA _ ((Hl.out.next ((show Ext w _ from Xt).upd _)).mono fun b h=>HD.out b (by(try simp at h);omega))).mono ?_);rintro e w1 ⟨rfl,h1⟩;have hx1:Ext w w1:=Xt;have hz1:=hx1.size;clear h1;go_wp2_with fail;(refine(NB _).mono ?_);rintro e w2 ⟨rfl,hs2,h2⟩;have hx2:Ext w w2:=Xt;have hz2:=hx2.size;obtain⟨v2,NC,hs2⟩:=hs2;have ct:=ae (show Sat w2 (fun b=>w1.heap.size<=b/\b<w2.heap.size) w1.heap.size bQ from⟨v2,NC,hs2.old.mono fun b h=>⟨by have:=h.1;(try simp at this);omega,h.2⟩⟩);have V7:=ae (yh.out 0 F0 w w2 HK.out (hx2.upd _));have V8:=ae (hx2.upd fun b=>¬D b);clear hs2 h2 hx1;go_wp2_with fail
 go_loopg [7,8,9] (min 100 l.length) (fun g i _ _ wr=>∃(k:Nat) (P F:az),k<=min 100 l.length/\i= .int .i64 k/\g=min 100 l.length-k/\Hid (Sat wr P w1.heap.size (eI bQ (l.take k))/\ (∀b,P b->D b/\¬F b/\b<wr.heap.size)/\KK k F wr/\ (∀b,F b->D b/\b<wr.heap.size)/\aT (fun b=>¬D b) w wr)/\w.heap.size<=wr.heap.size)
 case atStart=>exact⟨0,fun b=>w1.heap.size<=b/\b<w2.heap.size,F0,by omega,rfl,by omega,ae ⟨ct.out.ext Xt,fun b h=>⟨HD.out b (by omega),fun hf=>by have:=(HF.out b hf).2;omega,by(try simp);omega⟩,yh.out 0 F0 _ _ V7.out ((show Ext w2 _ from Xt).upd _),fun b h=>⟨(HF.out b h).1,by have:=(HF.out b h).2;(try simp);omega⟩,V8.out.ext Xt⟩,by(try simp);omega⟩
 case round=>
  clear ct V7 V8 hx2;obtain⟨k,P,F,hk,rfl,rfl,H,yz⟩:=hrel;by_cases hlt:k<l.length/\k<100
  ·obtain⟨hlt,JV⟩:=hlt
   have hok:=Ok.IJ .new (l.take k);have dN:=ae hok;have hlen:=hok.len;have tE:=ae hok.inv;obtain⟨hS,hP,V9,hF,hU⟩:=H.out;have HS:=ae hS;have HP:=ae hP;have Wa:=ae V9;have HF:=ae hF;have HU:=ae hU;clear hok hS hP V9 hF hU H;obtain⟨b,o,rfl,o8,ha⟩:=Ha.out.resolve_left (by intro h;rw [h] at hlt;simp at hlt);obtain⟨s,hs⟩:∃s,eI bQ (l.take k)=s:=⟨_,rfl⟩;obtain⟨x,hx⟩:∃x,l[k]=x:=⟨_,rfl⟩;have Wb:=ae (show uT w b (o+k*8) x from hx▸ha k hlt);have hat:uT wr b (o+k*8) x:=Wb.out.keep HU.out.kept o8;obtain⟨d0,d1,d2,d3,d4,d5,d6,d7⟩:=hat;have fC:=ae (show uT wr b (o+k*8) x from⟨d0,d1,d2,d3,d4,d5,d6,d7⟩);obtain⟨kG,hzb,o9⟩:=Hz.out x (hx▸List.getElem_mem hlt);have kY:(0:Int)<= (k:Int):=by omega
   have kZ:(k:Int)<(l.length:Int):=by omega
   have Fa:(k:Int)<100:=by omega
   have Hs:=ae hs;have Hx:=ae hx;have cK:=ae (VR hlt bQ);rw [hs,hx] at cK;rw [hs] at HS tE hlen dN;clear hs hx ha;go_wp2_with fail;(refine(zR P w1.heap.size s _ (HS.out.ext Xt) hlen (fun t ht=>by have h:=tE.out.size t ht;exact⟨h.1,h.2.1⟩)).mono ?_);rintro e w3 ⟨a3,c3,rfl,jI,Wc,h3⟩;have hx3:Ext wr w3:=Xt;have hz3:=hx3.size;have NM:=ae jI;obtain⟨T,hT⟩:∃T:az,T=fun b=>wr.heap.size<=b/\b<w3.heap.size:=⟨_,rfl⟩
   have HT:=ae (show∀b,T b->wr.heap.size<=b/\b<w3.heap.size from fun b h=>by rw [hT] at h;exact h);have Wd:=ae (show jk w3 T s.ax a3 from Wc.old.keep (fun _ _ _=>rfl) (Nat.le_refl _) fun b h=>by rw [hT];exact⟨by have:=h.1;(try simp at this);omega,h.2⟩);have d0:=hx3.cell d0;have d1:=hx3.cell d1;have d2:=hx3.cell d2;have d3:=hx3.cell d3;have d4:=hx3.cell d4;have d5:=hx3.cell d5;have d6:=hx3.cell d6;have d7:=hx3.cell d7;clear jI Wc h3 hT;go_wp2_with fail;(refine(EJ P w1.heap.size s x _ (HS.out.ext Xt) tE.out (((Hl.out.next HU.out).mono fun b h=>(HP.out b h).1).next ((show Ext wr _ from Xt).upd _)) kG hzb o9).mono ?_);rintro e w4 ⟨rfl,hs4,lI⟩;have Oj:Ext wr _:=hx3.trans (show Ext w3 _ from Xt)
   have bI:=ae (show Sat w4 (fun b=>(P b\/wr.heap.size<=b)/\¬T b/\b<w4.heap.size) w1.heap.size (bP s x).1 from by
    obtain⟨v4,EO,hs4⟩:=hs4
    exact⟨v4,EO,hs4.old.mono fun b h=>by
     rcases h.1 with h1|h1
     ·exact⟨.inl h1,fun ht=>by have:=(HT.out b ht).1;have:=(HP.out b h1).2.2;omega,h.2⟩
     ·exact⟨.inr (by(try simp at h1);omega),fun ht=>by have:=(HT.out b ht).2;(try simp at h1);omega,h.2⟩⟩)
   have Wf:=ae (yh.out k F wr w4 Wa.out ((Oj.upd F).trans (lI.mono fun b hf hp=>(HP.out b hp).2.1 hf)));have Ol:=ae ((HU.out.ext Oj).trans (lI.mono fun b hd hp=>hd (HP.out b hp).1));have Wh:=ae ((Wd.out.ext (show Ext w3 _ from Xt)).keep (lI.kept.mono fun b ht hp=>by have:=(HT.out b ht).1;have:=(HP.out b hp).2.2;omega) lI.size fun _ h=>h);have gJ:w3.heap.size<=w4.heap.size:=by have:=lI.size;(try simp at this);omega
   have Om:=ae (show∀b,(P b\/wr.heap.size<=b)/\¬T b/\b<w4.heap.size->D b/\¬F b from fun b h=>by
    rcases h.1 with h1|h1
    ·exact⟨(HP.out b h1).1,(HP.out b h1).2.1⟩
    ·exact⟨HD.out b (by omega),fun hf=>by have:=(HF.out b hf).2;omega⟩)
   obtain⟨P4,Oo⟩:∃P4:az,P4=fun b=>(P b\/wr.heap.size<=b)/\¬T b/\b<w4.heap.size:=⟨_,rfl⟩
   rw [<-Oo] at bI;have IU:=ae (show∀b,P4 b->D b/\¬F b/\¬T b/\b<w4.heap.size from fun b h=>by rw [Oo] at h;exact⟨(Om.out b h).1,(Om.out b h).2,h.2.1,h.2.2⟩);have BW:=Hc.out k hlt;rw [Hs.out,Hx.out] at BW;obtain⟨s',hs'⟩:∃s',(bP s x).1=s':=⟨_,rfl⟩;obtain⟨y,hy⟩:∃y,(bP s x).2=y:=⟨_,rfl⟩;rw [hs'] at bI cK BW;rw [hy] at BW⊢;replace BW:=ae BW;clear hs4 lI hs' hy Oo Om HS tE dN fC Oj hx3 d0 d1 d2 d3 d4 d5 d6 d7 Wd Wa HU HP;go_upto_region 9 with fail
   refine aI (R:=fun wx=>af wx w4.heap.size #[.int .i64 y.c, .int .i64 y.n, .string y.b] 31/\uT wx b (o+k*8) x/\Sat wx P4 w1.heap.size s'/\KK k F wx/\jk wx T s.ax a3/\aT (fun b=>¬D b) w wx) ⟨aj,Wb.out.keep (Ol.out.ext (show Ext w4 _ from Xt)).kept o8,bI.out.ext Xt,yh.out k F _ _ Wf.out ((show Ext w4 _ from Xt).upd _),Wh.out.ext Xt,Ol.out.ext Xt⟩ ?_;clear bI Wf Ol Wh;rintro wb ⟨hB,⟨d0,d1,d2,d3,d4,d5,d6,d7⟩,Wi,Wj,Wk,Wl⟩;have cP:=ae Wi;have Wm:=ae Wj;have Wn:=ae Wk;have Oq:=ae Wl;have hlB:=hB.lt;clear Wi Wj Wk Wl;have aq:∀w',Ext wb w'-> (w'.cell? ⟨b,o+k*8,none⟩=some (.int .i64 x.k)/\w'.cell? ⟨b,o+k*8+1,none⟩=some (.string x.name)/\w'.cell? ⟨b,o+k*8+2,none⟩=some (.string x.who)/\w'.cell? ⟨b,o+k*8+3,none⟩=some (.string x.body)/\w'.cell? ⟨b,o+k*8+4,none⟩=some (.int .i64 x.ver)/\w'.cell? ⟨b,o+k*8+5,none⟩=some (.int .i64 x.n)/\w'.cell? ⟨b,o+k*8+6,none⟩=some (.int .i64 x.ord)/\w'.cell? ⟨b,o+k*8+7,none⟩=some (.bool x.force)/\w'.cell? ⟨w4.heap.size,0,none⟩=some (.int .i64 y.c)/\w'.cell? ⟨w4.heap.size,1,none⟩=some (.int .i64 y.n)/\w'.cell? ⟨w4.heap.size,2,none⟩=some (.string y.b)):=fun w' e=>⟨e.cell d0,e.cell d1,e.cell d2,e.cell d3,e.cell d4,e.cell d5,e.cell d6,e.cell d7,e.cell (hB.cells 0),e.cell (hB.cells 1),e.cell (hB.cells 2)⟩;refine fF aq (c:=8) (by kernel_rfl) ?_;refine aG 0 [8] (hS:=aq _ Xt) (h:= ?_);refine aG 1 [8] (hS:=aq _ Xt) (h:= ?_);refine aG 2 [8] (hS:=aq _ Xt) (h:= ?_);refine aG 3 [5,6,8] (hS:=aq _ Xt) (h:= ?_);refine aG 4 [5,6,8] (hS:=aq _ Xt) (h:= ?_);refine aG 5 [6,8] (hS:=aq _ Xt) (h:= ?_);refine aG 6 [8] (hS:=aq _ Xt) (h:= ?_);refine aG 7 [8] (hS:=aq _ Xt) (h:= ?_);(try simp only [rl]);refine aK 8 (h:=fun K hK=> ?_);(try simp only [rl]);(try go_simp);go_at_fn g;(refine(BW.out P4 F T w1.heap.size a3 c3 _ JV (Oq.out.ext Xt) (cP.out.ext Xt) (fun b h=>⟨(IU.out b h).1,(IU.out b h).2.1,(IU.out b h).2.2.1,by have:=(IU.out b h).2.2.2;(try simp);omega⟩) (yh.out k F _ _ Wm.out ((show Ext wb _ from Xt).upd _)) (fun b h=>⟨(HF.out b h).1,fun ht=>by have:=(HT.out b ht).1;have:=(HF.out b h).2;omega,by have:=(HF.out b h).2;(try simp);omega⟩) NM.out (Wn.out.ext Xt) (fun b h=>by have:=HT.out b h;(try simp);omega)).mono ?_);rintro e w6 ⟨rfl,yc,P',F',Wo,Wp,Wq,Ws⟩;(try go_simp);have cy:=ae (show Sat w6 P' w1.heap.size s'/\ (∀b,P' b->D b/\¬F' b/\b<w6.heap.size)/\KK (k+1) F' w6/\ (∀b,F' b->D b/\b<w6.heap.size)/\aT (fun b=>¬D b) w w6 from⟨Wo,Wp,Wq,Ws,(Oq.out.ext Xt).trans yc⟩);have uZ:w.heap.size<=w6.heap.size:=by have:=yc.size;(try simp at this);omega
   clear yc Wo Wp Wq Ws cP Wm Wn Oq;refine bz hK (h:= ?_);clear hK K;(try simp only [rl]);refine aK 9 (h:=fun K hK=> ?_);(try simp only [rl]);go_simp;refine bz hK (h:= ?_);clear hK K;(try simp only [rl]);refine cZ (by kernel_rfl) ?_ _;clear aq hB d0 d1 d2 d3 d4 d5 d6 d7;go_wp2_with fail;go_roundg (min 100 l.length-(k+1))
   case measure=>omega
   case rel=>exact⟨k+1,P',F',by omega,by go_num,by omega,ae (by rw [cK.out];exact⟨cy.out.1.ext Xt,fun b h=>⟨(cy.out.2.1 b h).1,(cy.out.2.1 b h).2.1,by have:=(cy.out.2.1 b h).2.2;(try simp);omega⟩,yh.out _ F' _ _ cy.out.2.2.1 ((show Ext w6 _ from Xt).upd _),fun b h=>⟨(cy.out.2.2.2.1 b h).1,by have:=(cy.out.2.2.2.1 b h).2;(try simp);omega⟩,cy.out.2.2.2.2.ext Xt⟩),by(try simp);omega⟩
  ·have cy:=ae (show Sat wr P w1.heap.size (eI bQ (l.take 100))/\ (∀b,P b->D b/\¬F b/\b<wr.heap.size)/\KK (min 100 l.length) F wr/\ (∀b,F b->D b/\b<wr.heap.size)/\aT (fun b=>¬D b) w wr from by
    obtain⟨h1,h2,h3,h4,h5⟩:=H.out;have e1:l.take k=l.take 100:=by
     rcases Nat.lt_or_ge k 100 with q|q
     ·rw [List.take_of_length_le (by omega),List.take_of_length_le (by omega)]
     ·rw [show k=100 by omega]
    have e2:k=min 100 l.length:=by omega
    rw [e1] at h1;rw [e2] at h3
    exact⟨h1,h2,h3,h4,h5⟩)
   clear H;by_cases h1:k<l.length
   ·have h2:¬(k:Int)<100:=by omega
    go_wp2_with fail;go_ret2;exact⟨P,F,w1.heap.size,rfl,cy.out.1.ext Xt,fun b h=>⟨(cy.out.2.1 b h).1,(cy.out.2.1 b h).2.1,by have:=(cy.out.2.1 b h).2.2;(try simp);omega⟩,yh.out _ F _ _ cy.out.2.2.1 ((show Ext wr _ from Xt).upd _),fun b h=>⟨(cy.out.2.2.2.1 b h).1,by have:=(cy.out.2.2.2.1 b h).2;(try simp);omega⟩,cy.out.2.2.2.2.ext Xt⟩
   ·go_wp2_with fail
    go_ret2;exact⟨P,F,w1.heap.size,rfl,cy.out.1.ext Xt,fun b h=>⟨(cy.out.2.1 b h).1,(cy.out.2.1 b h).2.1,by have:=(cy.out.2.1 b h).2.2;(try simp);omega⟩,yh.out _ F _ _ cy.out.2.2.1 ((show Ext wr _ from Xt).upd _),fun b h=>⟨(cy.out.2.2.2.1 b h).1,by have:=(cy.out.2.2.2.1 b h).2;(try simp);omega⟩,cy.out.2.2.2.2.ext Xt⟩
end Go.Proofs.YtlcebdaghmdkeabGreatDoor
