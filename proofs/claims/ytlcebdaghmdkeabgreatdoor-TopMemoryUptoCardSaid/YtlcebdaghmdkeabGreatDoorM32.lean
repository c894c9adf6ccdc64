import Derived.Test.YtlcebdaghmdkeabGreatDoorM31
set_option linter.all false
set_option maxRecDepth 100000
set_option maxHeartbeats 64000000
namespace Go.Proofs.YtlcebdaghmdkeabGreatDoor
open Go.RowKit
def yX:Ac:=⟨1,⟨#[97]⟩,⟨#[]⟩,⟨#[123,34,105,109,97,103,101,34,58,34,120,34,125]⟩,0,0,0,false⟩
def yY:Ac:=⟨3,⟨#[97]⟩,⟨#[]⟩,⟨#[123,34,105,109,97,103,101,34,58,34,121,34,44,34,115,116,101,112,115,34,58,91,49,48,44,123,34,112,97,117,115,101,34,58,48,125,93,125]⟩,0,0,0,false⟩
def Dt:Ac:=⟨7,⟨#[97]⟩,⟨#[]⟩,⟨#[]⟩,0,0,2,false⟩
def tH:Sv:=(ck dO yX).1
def wN:Sv:=(ck tH yY).1
def Du:Sv:=(ck wN Dt).1
theorem AL:(ck dO yX).2.c=0/\ (ck dO yX).2.n=1/\ (ck tH yY).2.c=0/\ (ck tH yY).2.n=2/\ (ck wN Dt).2.n=1/\Du.az.length=1:=
 ⟨by kernel_rfl,by kernel_rfl,by kernel_rfl,by kernel_rfl,by kernel_rfl,by kernel_rfl⟩
def Dv (s:Sv):Bool:=s.az.length==1&&decide (s.az.map Th.name= [⟨#[97]⟩])&&s.az.all (fun t=>decide (t.v.size<=14640)&&decide (cF t.ows<=1800000)&&decide (0<=t.gen)&&decide (t.gen<=1000000))&&decide (0<=s.last)&&decide (s.last<=1000000)&&decide (0<=s.time)&&decide (s.time<=1099511627776)&&decide (0<=s.acts)&&decide (s.acts<=1000000)
theorem LZ:Dv tH=true/\Dv wN=true/\Dv Du=true:=⟨by kernel_rfl,by kernel_rfl,by kernel_rfl⟩
end Go.Proofs.YtlcebdaghmdkeabGreatDoor
namespace Go.Proofs.YtlcebdaghmdkeabGreatDoor
open Go.Proofs.Tryz
open Go.RowKit
attribute [local go_sem↓] Go.wp_at_zero Go.wp_at_succ
theorem nY.mono {P Q:aw} {w:World} (h:nY P w) (k:∀b,Q b->P b):nY Q w:=fun _ u=>h _ (u.mono fun b hb hq=>hb (k b hq))
theorem Me {s:Sv} (h:Dv s=true):Inv s:=by
 unfold Dv at h;simp only [Bool.and_eq_true,beq_iff_eq,decide_eq_true_eq,List.all_eq_true] at h;obtain⟨⟨⟨⟨⟨⟨⟨⟨h1,h2⟩,h3⟩,h4⟩,h5⟩,h6⟩,h7⟩,h8⟩,h9⟩:=h;exact⟨by omega,by rw [h2];simp [cG],fun t ht=>by obtain⟨⟨⟨a,b⟩,c⟩,d⟩:=h3 t ht;exact⟨a,b,c,d⟩,⟨h4,h5⟩,⟨h6,h7⟩,⟨h8,h9⟩⟩
theorem ad1:Inv dO:=⟨by simp [dO],by simp [dO,cG],fun _ h=>by simp [dO] at h,by simp [dO],by simp [dO],by simp [dO]⟩
theorem ad2 (w:World) (hl:nY (fun b=>w.heap.size<=b) w):Calls prog 27 #[] w fun e w'=>e= .returned (.bool true)/\Ext w w':=by
 have Hl:=ae hl;clear hl;go_enter func27,ntmps27;go_wp2_with fail;(refine(Mf _).mono ?_);rintro e w1 ⟨rfl,hs1,h1⟩;have hx1:Ext w w1:=Xt;have hz1:=hx1.size;have dU:=ae (show Sat w1 (fun b=>w.heap.size<=b) w.heap.size dO from hs1.mono fun b h=>by(try simp at h);omega);clear hs1 h1;go_wp2_with fail;(refine(Dw (fun b=>w.heap.size<=b) w.heap.size dO yX _ (dU.out.ext Xt) ad1 (Hl.out.next ((show Ext w _ from Xt).upd _)) (by decide) (by decide) (by decide)).mono ?_);rintro e w2 ⟨rfl,hs2,hu2⟩;have hx2:Ext w w2:=aQ.to (show Ext w _ from Xt) (hu2.mono fun b h h'=>by(try simp at h);omega);have hz2:=hx2.size;obtain⟨v2,Mg,hs2⟩:=hs2;have je:=ae (show Sat w2 (fun b=>w.heap.size<=b/\b<w2.heap.size) w.heap.size tH from⟨v2,Mg,hs2.old.mono fun b h=>⟨by rcases h.1 with h|h;exact h;(try simp at h);omega,h.2⟩⟩);have hc2:(ck dO yX).2.c=0:=AL.1;have kx:(ck dO yX).2.n=1:=AL.2.1;obtain⟨p2,hp2⟩:∃p,(ck dO yX).2=p:=⟨_,rfl⟩;rw [hp2] at hc2 kx⊢;clear hs2 hu2 hp2 hx1 dU;have Hc2:=ae hc2;have uw:=ae kx;clear hc2 kx;go_upto_region 5 with fail
 refine aI (R:=fun wx=>af wx w2.heap.size #[.int .i64 p2.c, .int .i64 p2.n, .string p2.b] 31/\Sat wx (fun b=>w.heap.size<=b/\b<w2.heap.size) w.heap.size tH/\Ext w wx) ⟨aj,je.out.ext Xt,Xt⟩ ?_;clear je hx2 hz1;rintro wa ⟨ak,hs2,aD⟩;have je:=ae hs2;have hl2:=ak.lt;clear hs2;go_wp2_with fail;(refine(Dw (fun b=>w.heap.size<=b/\b<w2.heap.size) w.heap.size tH yY _ (je.out.ext Xt) (Me LZ.1) ((Hl.out.next ((show Ext w _ from Xt).upd _)).mono fun _ h=>h.1) (by decide) (by decide) (by decide)).mono ?_);rintro e w3 ⟨rfl,hs3,hu3⟩;have bK:af w3 w2.heap.size #[.int .i64 p2.c, .int .i64 p2.n, .string p2.b] 31:=af.held (T:=fun b=>¬(w.heap.size<=b/\b<w2.heap.size)) ⟨hu3.size,fun b hb hl=>hu3.block b hb hl⟩ (show af _ _ _ _ from ak) (by omega);have hx3:Ext w w3:=aQ.to (show Ext w _ from Xt) (hu3.mono fun b h h'=>by omega);have hz3:=hu3.size;obtain⟨v3,Mh,hs3⟩:=hs3;have yZ:=ae (show Sat w3 (fun b=>w.heap.size<=b/\b<w3.heap.size/\b≠w2.heap.size) w.heap.size wN from⟨v3,Mh,hs3.old.mono fun b h=>by rcases h.1 with h1|h1<;> (try simp at h1)<;>exact⟨by omega,h.2,by omega⟩⟩);have hc3:(ck tH yY).2.c=0:=AL.2.2.1;have xB:(ck tH yY).2.n=2:=AL.2.2.2.1;obtain⟨p3,uM⟩:∃p,(ck tH yY).2=p:=⟨_,rfl⟩;rw [uM] at hc3 xB⊢;have Hc3:=ae hc3;have CN:=ae xB;have aS:=bK.lt;clear hs3 hu3 uM aD ak je hc3 xB hl2;go_upto_region 6 with fail
 refine aI (R:=fun wx=>af wx w2.heap.size #[.int .i64 p2.c, .int .i64 p2.n, .string p2.b] 31/\af wx w3.heap.size #[.int .i64 p3.c, .int .i64 p3.n, .string p3.b] 31/\Sat wx (fun b=>w.heap.size<=b/\b<w3.heap.size/\b≠w2.heap.size) w.heap.size wN/\Ext w wx) ⟨aj,aj,yZ.out.ext Xt,Xt⟩ ?_;clear yZ hx3 aS bK;rintro wb ⟨ak,bK,hs3,aO⟩;have yZ:=ae hs3;have hl2:=ak.lt;have aS:=bK.lt;clear hs3;go_wp2_with fail;(refine(Dw (fun b=>w.heap.size<=b/\b<w3.heap.size/\b≠w2.heap.size) w.heap.size wN Dt _ (yZ.out.ext Xt) (Me LZ.2.1) ((Hl.out.next ((show Ext w _ from Xt).upd _)).mono fun _ h=>h.1) (by decide) (by decide) (by decide)).mono ?_);rintro e w4 ⟨rfl,hs4,lf⟩;have hB2':af w4 w2.heap.size #[.int .i64 p2.c, .int .i64 p2.n, .string p2.b] 31:=af.held (T:=fun b=>¬(w.heap.size<=b/\b<w3.heap.size/\b≠w2.heap.size)) ⟨lf.size,fun b hb hl=>lf.block b hb hl⟩ (show af _ _ _ _ from ak) (by omega);have ad3:af w4 w3.heap.size #[.int .i64 p3.c, .int .i64 p3.n, .string p3.b] 31:=af.held (T:=fun b=>¬(w.heap.size<=b/\b<w3.heap.size/\b≠w2.heap.size)) ⟨lf.size,fun b hb hl=>lf.block b hb hl⟩ (show af _ _ _ _ from bK) (by omega);have bP:Ext w w4:=aQ.to (show Ext w _ from Xt) (lf.mono fun b h h'=>by omega);have iu:=lf.size;obtain⟨v4,Mi,hs4⟩:=hs4;have yL:=ae (show Sat w4 (fun b=>w.heap.size<=b/\b<w4.heap.size/\b≠w2.heap.size/\b≠w3.heap.size) w.heap.size Du from⟨v4,Mi,hs4.old.mono fun b h=>by rcases h.1 with h1|h1<;> (try simp at h1)<;>exact⟨by omega,h.2,by omega,by omega⟩⟩);have TD:=ae (show (ck wN Dt).2.n=1 from AL.2.2.2.2.1);obtain⟨p4,TE⟩:∃p,(ck wN Dt).2=p:=⟨_,rfl⟩;rw [TE] at TD⊢;clear hs4 lf TE aO ak bK yZ;go_upto_region 7 with fail
 refine aI (R:=fun wx=>af wx w2.heap.size #[.int .i64 p2.c, .int .i64 p2.n, .string p2.b] 31/\af wx w3.heap.size #[.int .i64 p3.c, .int .i64 p3.n, .string p3.b] 31/\af wx w4.heap.size #[.int .i64 p4.c, .int .i64 p4.n, .string p4.b] 31/\Sat wx (fun b=>w.heap.size<=b/\b<w4.heap.size/\b≠w2.heap.size/\b≠w3.heap.size) w.heap.size Du/\Ext w wx) ⟨aj,aj,aj,yL.out.ext Xt,Xt⟩ ?_;clear yL bP iu hl2 aS hB2' ad3 hz3;rintro wc ⟨ak,bK,hB4,hs4,fg⟩;have yL:=ae hs4;clear hs4;obtain⟨hc2,hf2,hl2⟩:=ak.see;obtain⟨hc3,hf3,aS⟩:=bK.see;obtain⟨rh,vY,hl4⟩:=hB4.see;have q1:(p2.c==0)=true:=by rw [Hc2.out];rfl
 have q2:(p2.n==1)=true:=by rw [uw.out];rfl
 have q3:(p3.c==0)=true:=by rw [Hc3.out];rfl
 have q4:(p3.n==2)=true:=by rw [CN.out];rfl
 have q5:(p4.n==1)=true:=by rw [TD.out];rfl
 have TF:=ae AL.2.2.2.2.2;go_wp2_with fail;(refine(Gn _ w.heap.size Du _ (yL.out.ext Xt) (by rw [TF.out];decide) (fun t ht=>by have h:=(Me LZ.2.2).size t ht;exact⟨h.1,h.2.1⟩)).mono ?_);rintro e w5 ⟨a5,c5,rfl,-,-,h5⟩;rw [TF.out];go_wp2_with fail;go_ret;exact⟨rfl,Xt⟩
def zg (w:World) (b i:Nat):Prop:=(∃s,w.cell? ⟨b,i,none⟩=some (.string s))/\w.frozen? ⟨b,i,none⟩=false
structure DM (w:World) (b o:Nat) (ka:aq) (kn kc:Nat) (la:aq) (ln lc:Nat):Prop where
 k:∃x,w.cell? ⟨b,o,none⟩=some (.int .i64 x)
 n:∃x,w.cell? ⟨b,o+1,none⟩=some (.int .i64 x)
 s:∃x,w.cell? ⟨b,o+2,none⟩=some (.string x)
 ks:w.cell? ⟨b,o+3,none⟩=some (.slice ka kn kc)
 ls:w.cell? ⟨b,o+4,none⟩=some (.slice la ln lc)
 f0:w.frozen? ⟨b,o,none⟩=false
 f1:w.frozen? ⟨b,o+1,none⟩=false
 f2:w.frozen? ⟨b,o+2,none⟩=false
 f3:w.frozen? ⟨b,o+3,none⟩=false
 f4:w.frozen? ⟨b,o+4,none⟩=false
def tL (w:World) (S:aw):Nat->aq->Nat->aq->aw
 |0,_,_,_,_=>False
 |d+1,ka,kn,la,ln=>(kn=0\/∃b o,ka=some ⟨b,o,none⟩/\S b/\kn<=1073741824/\∀i,i<kn->zg w b (o+i))/\
   (ln=0\/∃b o,la=some ⟨b,o,none⟩/\S b/\ln<=1073741824/\∀i,i<ln->∃ka kn kc la ln lc,DM w b (o+i*5) ka kn kc la ln lc/\tL w S d ka kn la ln)
theorem tL.pos {w:World} {S:aw} {d:Nat} {ka:aq} {kn:Nat} {la:aq} {ln:Nat} (h:tL w S d ka kn la ln):∃e,d=e+1:=by
 cases d with
 |zero=>exact h.elim
 |succ d=>exact⟨d,rfl⟩
theorem tL.nil (w:World) (S:aw) (d:Nat):tL w S (d+1) none 0 none 0:=⟨.inl rfl, .inl rfl⟩
structure jJ (S:aw) (w w':World):Prop where
 txt:∀b i,S b->zg w b i->zg w' b i
 DK:∀d ka kn la ln,tL w S d ka kn la ln->tL w' S d ka kn la ln
theorem jJ.refl (S:aw) (w:World):jJ S w w:=⟨fun _ _ _ h=>h,fun _ _ _ _ _ h=>h⟩
theorem jJ.trans {S:aw} {a b c:World} (h:jJ S a b) (k:jJ S b c):jJ S a c:=⟨fun b i hb h1=>k.txt b i hb (h.txt b i hb h1),fun d ka kn la ln h1=>k.DK d ka kn la ln (h.DK d ka kn la ln h1)⟩
theorem MI {S:aw} {w w':World} (hT:∀b i,S b->zg w b i->zg w' b i)
 (hI:∀b o ka kn kc la ln lc,S b->DM w b o ka kn kc la ln lc->DM w' b o ka kn kc la ln lc\/DM w' b o none 0 0 none 0 0):jJ S w w':=by
 refine⟨hT,fun d=> ?_⟩
 induction d with
 |zero=>intro _ _ _ _ h;exact h.elim
 |succ d ih=>
  intro ka kn la ln ⟨h1,h2⟩;refine⟨?_,?_⟩
  ·rcases h1 with h1|⟨b,o,e,hS,hz,h1⟩
   ·exact .inl h1
   ·exact .inr ⟨b,o,e,hS,hz,fun i hi=>hT b _ hS (h1 i hi)⟩
  ·rcases h2 with h2|⟨b,o,e,hS,hz,h2⟩
   ·exact .inl h2
   ·refine .inr ⟨b,o,e,hS,hz,fun i hi=> ?_⟩
    obtain⟨fI,kn',fJ,fW,ln',fK,g1,g2⟩:=h2 i hi;rcases hI b _ _ _ _ _ _ _ hS g1 with g3|g3
    ·exact⟨_,_,_,_,_,_,g3,ih _ _ _ _ g2⟩
    ·obtain⟨e,rfl⟩:=g2.pos
     exact⟨_,_,_,_,_,_,g3,tL.nil _ _ _⟩
theorem DI {S:aw} {w w':World} (h:∀b,S b->w'.heap[b]? =w.heap[b]?):jJ S w w':=by
 have hc:∀b i,S b->w'.cell? ⟨b,i,none⟩=w.cell? ⟨b,i,none⟩:=fun b i hb=>World.cell?_of_block (h b hb);have hf:∀b i,S b->w'.frozen? ⟨b,i,none⟩=w.frozen? ⟨b,i,none⟩:=fun b i hb=>World.frozen?_of_block (h b hb);refine MI (fun b i hb h1=> ?_) (fun b o ka kn kc la ln lc hb h1=> .inl ?_)
 ·unfold zg;rw [hc b i hb,hf b i hb];exact h1
 ·obtain⟨k,n,s,ks,ls,f0,f1,f2,f3,f4⟩:=h1
  exact⟨by rw [hc b _ hb];exact k,by rw [hc b _ hb];exact n,by rw [hc b _ hb];exact s,by rw [hc b _ hb];exact ks,by rw [hc b _ hb];exact ls,by rw [hf b _ hb];exact f0,by rw [hf b _ hb];exact f1,by rw [hf b _ hb];exact f2,by rw [hf b _ hb];exact f3,by rw [hf b _ hb];exact f4⟩
theorem Uo {S:aw} {w:World} {b i:Nat} (h:zg w b i) (t:ah):jJ S w (w.setCell ⟨b,i,none⟩ (.string t)):=by
 obtain⟨⟨s0,h0⟩,-⟩:=h;have hf:∀p,(w.setCell ⟨b,i,none⟩ (.string t)).frozen? p=w.frozen? p:=fun p=>World.frozen?_setCell ..;have hsame:(w.setCell ⟨b,i,none⟩ (.string t)).cell? ⟨b,i,none⟩=some (.string t):=World.cell?_setCell_same _ _ _ h0
 have hne:∀b' j,¬(b'=b/\j=i)-> (w.setCell ⟨b,i,none⟩ (.string t)).cell? ⟨b',j,none⟩=w.cell? ⟨b',j,none⟩:=fun b' j hn=>World.cell?_setCell_other _ _ _ _ (by
  intro e;simp only [Addr.mk.injEq,and_true] at e
  exact hn ⟨e.1.symm,e.2.symm⟩)
 have U7:∀b' j,(∃s,w.cell? ⟨b',j,none⟩=some (.string s))->∃s,(w.setCell ⟨b,i,none⟩ (.string t)).cell? ⟨b',j,none⟩=some (.string s):=fun b' j hs=>by
  by_cases he:b'=b/\j=i
  ·obtain⟨rfl,rfl⟩:=he;exact⟨t,hsame⟩
  ·rw [hne b' j he];exact hs
 have hoth:∀b' j v,(∀s,v≠ .string s)->w.cell? ⟨b',j,none⟩=some v-> (w.setCell ⟨b,i,none⟩ (.string t)).cell? ⟨b',j,none⟩=some v:=fun b' j v hv hc=>by
  by_cases he:b'=b/\j=i
  ·obtain⟨rfl,rfl⟩:=he
   rw [h0] at hc;exact absurd (Option.some.inj hc).symm (hv s0)
  ·rw [hne b' j he];exact hc
 refine MI (fun b' j _ h1=>⟨U7 b' j h1.1,by rw [hf];exact h1.2⟩) (fun b' o ka kn kc la ln lc _ h1=> .inl ?_);obtain⟨⟨x,k⟩,⟨y,n⟩,s,ks,ls,f0,f1,f2,f3,f4⟩:=h1;exact⟨⟨x,hoth _ _ _ (fun _ e=>by cases e) k⟩,⟨y,hoth _ _ _ (fun _ e=>by cases e) n⟩,U7 _ _ s,hoth _ _ _ (fun _ e=>by cases e) ks,hoth _ _ _ (fun _ e=>by cases e) ls,by rw [hf];exact f0,by rw [hf];exact f1,by rw [hf];exact f2,by rw [hf];exact f3,by rw [hf];exact f4⟩
def sf:List Value:= [.int .i64 (-1), .int .i64 0, .string ⟨#[]⟩, .slice none 0 0, .slice none 0 0]
theorem ae8 {S:aw} {w:World} {b o:Nat} {ka:aq} {kn kc:Nat} {la:aq} {ln lc:Nat} (h:DM w b o ka kn kc la ln lc):jJ S w (w.setCells b o sf):=by
 obtain⟨⟨x0,h0⟩,⟨x1,h1⟩,⟨x2,h2⟩,h3,h4,-,-,-,-,-⟩:=h;have hf:∀p,(w.setCells b o sf).frozen? p=w.frozen? p:=fun p=>World.frozen?_setCells b _ _ w p
 have hin:∀j (hj:j<5),(w.setCells b o sf).cell? ⟨b,o+j,none⟩=some sf[j]:=fun j hj=>World.cell?_setCells_in b sf o w (fun i hi=>by
  have hi:i<5:=hi
  match i,hi with
  |0,_=>rw [Nat.add_zero,h0];rfl
  |1,_=>rw [h1];rfl
  |2,_=>rw [h2];rfl
  |3,_=>rw [h3];rfl
  |4,_=>rw [h4];rfl) j hj
 have hout:∀b' j,¬(b'=b/\o<=j/\j<o+5)-> (w.setCells b o sf).cell? ⟨b',j,none⟩=w.cell? ⟨b',j,none⟩:=fun b' j hn=>World.cell?_setCells_out b sf o w ⟨b',j,none⟩ (fun e _=>by
  have e:b'=b:=e;have h5:sf.length=5:=rfl;show j<o\/o+sf.length<=j
  omega)
 have ae9:∀b' j,(b'=b/\o<=j/\j<o+5)-> (j=o/\w.cell? ⟨b',j,none⟩=some (.int .i64 x0))\/ (j=o+1/\w.cell? ⟨b',j,none⟩=some (.int .i64 x1))\/ (j=o+2/\w.cell? ⟨b',j,none⟩=some (.string x2))\/ (j=o+3/\w.cell? ⟨b',j,none⟩=some (.slice ka kn kc))\/ (j=o+4/\w.cell? ⟨b',j,none⟩=some (.slice la ln lc)):=fun b' j hj=>by
  obtain⟨rfl,h5,h6⟩:=hj;have:j=o\/j=o+1\/j=o+2\/j=o+3\/j=o+4:=by omega
  rcases this with rfl|rfl|rfl|rfl|rfl
  ·exact .inl ⟨rfl,h0⟩
  ·exact .inr (.inl ⟨rfl,h1⟩)
  ·exact .inr (.inr (.inl ⟨rfl,h2⟩))
  ·exact .inr (.inr (.inr (.inl ⟨rfl,h3⟩)))
  ·exact .inr (.inr (.inr (.inr ⟨rfl,h4⟩)))
 refine MI (fun b' j _ g=>⟨?_,by rw [hf];exact g.2⟩) (fun b' q fI kn' fJ fW ln' fK _ g=> ?_)
 ·obtain⟨⟨s,g⟩,-⟩:=g
  by_cases he:b'=b/\o<=j/\j<o+5
  ·rcases ae9 b' j he with⟨-,e⟩|⟨-,e⟩|⟨rfl,e⟩|⟨-,e⟩|⟨-,e⟩
   ·rw [e] at g;cases g
   ·rw [e] at g;cases g
   ·obtain⟨rfl,-⟩:=he
    exact⟨⟨#[]⟩,hin 2 (by omega)⟩
   ·rw [e] at g;cases g
   ·rw [e] at g;cases g
  ·exact⟨s,by rw [hout b' j he];exact g⟩
 ·obtain⟨⟨y0,g0⟩,⟨y1,g1⟩,⟨y2,g2⟩,g3,g4,f0,f1,f2,f3,f4⟩:=g
  by_cases hb:b'=b/\q<o+5/\o<q+5
  ·obtain⟨rfl,hq1,hq2⟩:=hb
   have hqo:q=o:=by
    have:q=o\/q=o+1\/q=o+2\/q=o+3\/q=o+4\/o=q+1\/o=q+2\/o=q+3\/o=q+4:=by omega
    rcases this with h|rfl|rfl|rfl|rfl|rfl|rfl|rfl|rfl
    ·exact h
    ·rw [show o+1+1=o+2 from rfl,h2] at g1;cases g1
    ·rw [h2] at g0;cases g0
    ·rw [h3] at g0;cases g0
    ·rw [h4] at g0;cases g0
    ·rw [show q+1+1=q+2 from rfl,g2] at h1;cases h1
    ·rw [g2] at h0;cases h0
    ·rw [g3] at h0;cases h0
    ·rw [g4] at h0;cases h0
   subst hqo;exact .inr ⟨⟨-1,hin 0 (by omega)⟩,⟨0,hin 1 (by omega)⟩,⟨⟨#[]⟩,hin 2 (by omega)⟩,hin 3 (by omega),hin 4 (by omega),by rw [hf];exact f0,by rw [hf];exact f1,by rw [hf];exact f2,by rw [hf];exact f3,by rw [hf];exact f4⟩
  ·exact .inl ⟨⟨y0,by rw [hout b' q (by omega)];exact g0⟩,⟨y1,by rw [hout b' (q+1) (by omega)];exact g1⟩,⟨y2,by rw [hout b' (q+2) (by omega)];exact g2⟩,by rw [hout b' (q+3) (by omega)];exact g3,by rw [hout b' (q+4) (by omega)];exact g4,by rw [hf];exact f0,by rw [hf];exact f1,by rw [hf];exact f2,by rw [hf];exact f3,by rw [hf];exact f4⟩
theorem aex (S:aw):∀(d:Nat) (k n:Int) (s:ah) (ka:aq) (kn kc:Nat) (la:aq) (ln lc:Nat) (w:World),tL w S d ka kn la ln-> (∀b,S b->b<w.heap.size)->
 Calls prog 33 #[.agg #[.int .i64 k, .int .i64 n, .string s, .slice ka kn kc, .slice la ln lc]] w fun e w'=>e= .returned (.tuple #[])/\aQ (fun b=>¬S b) w w'/\jJ S w w':=by
 intro d
 induction d with
 |zero=>intro _ _ _ _ _ _ _ _ _ _ h;exact h.elim
 |succ d ih=>
  intro k n s ka kn kc la ln lc w hs hS;have Ih:=ae ih;have Hs:=ae hs;have HS:=ae hS;have Fx:kn<=1073741824:=by rcases hs.1 with h|⟨_,_,-,-,h,-⟩<;>omega
  have eJ:ln<=1073741824:=by rcases hs.2 with h|⟨_,_,-,-,h,-⟩<;>omega
  clear ih hs hS;go_enter func33,ntmps33;go_upto_region 1 with fail
  refine aI (R:=fun wx=>af wx w.heap.size #[.int .i64 k, .int .i64 n, .string s, .slice ka kn kc, .slice la ln lc] 36/\Ext w wx) ⟨bk,Xt⟩ ?_;rintro wa ⟨hB,aD⟩;have gB:=hB.lt;have H0:=ae (show aQ (fun b=>¬S b) w wa/\jJ S w wa from⟨aD.upd _,DI fun b hb=>Below.block aD b (HS.out b hb)⟩);clear aD;obtain⟨hc0,ax,hl0⟩:=hB.see;go_wp2_with fail
  go_loopg [2,7] kn (fun g _ i wr=>∃j:Nat,j<=kn/\i= .int .i64 j/\g=kn-j/\af wr w.heap.size #[.int .i64 k, .int .i64 n, .string s, .slice ka kn kc, .slice la ln lc] 36/\Hid (aQ (fun b=>¬S b) w wr/\jJ S w wr))
  case atStart=>exact⟨0,Nat.zero_le _,rfl,rfl,bk,H0⟩
  case round=>
   clear hB hc0 ax hl0 H0;obtain⟨j,hj,rfl,rfl,hB,H⟩:=hrel;have U8:=hB.lt;obtain⟨hc0,ax,hl0⟩:=hB.see;by_cases hjl:j<kn
   ·obtain⟨b,o,rfl,iA,-,hC⟩:=Hs.out.1.resolve_left (by omega)
    have hT:=H.out.2.txt b _ iA (hC j hjl);have HT:=ae hT;obtain⟨⟨s0,g0⟩,g1⟩:=hT;have eB:=HS.out b iA;have SU:(0:Int)<= (j:Int):=by omega
    have SV:(j:Int)<(kn:Int):=by omega
    have mI:=ae iA;clear hC iA;go_wp2_with fail;go_roundg (kn-(j+1))
    case measure=>omega
    case rel=>exact⟨j+1,by omega,by go_num,rfl,bk,ae ⟨H.out.1.set (fun h=>absurd mI.out h) _,H.out.2.trans (Uo HT.out _)⟩⟩
   ·go_wp2_with fail
    go_loopg [3,18] ln (fun g _ i wx=>∃j:Nat,j<=ln/\i= .int .i64 j/\g=ln-j/\af wx w.heap.size #[.int .i64 k, .int .i64 n, .string s, .slice ka kn kc, .slice la ln lc] 36/\Hid (aQ (fun b=>¬S b) w wx/\jJ S w wx))
    case atStart=>exact⟨0,Nat.zero_le _,rfl,rfl,bk,H⟩
    case round=>
     clear hB hc0 ax hl0 H U8;obtain⟨m,hm,rfl,rfl,hB,H⟩:=hrel;have U8:=hB.lt;obtain⟨hc0,ax,hl0⟩:=hB.see;by_cases tY:m<ln
     ·obtain⟨b,o,rfl,iA,-,hC⟩:=(H.out.2.DK _ _ _ _ _ Hs.out).2.resolve_left (by omega)
      obtain⟨cp,kn2,ct,cu,ln2,cw,hI,ry⟩:=hC m tY;obtain⟨⟨x0,d0⟩,⟨x1,d1⟩,⟨x2,d2⟩,d3,d4,-,-,-,-,-⟩:=hI;have eB:=HS.out b iA;have hbz:=H.out.1.size;have aez:(0:Int)<= (m:Int):=by omega
      have aeA:(m:Int)<(ln:Int):=by omega
      have mI:=ae iA;have sY:=ae ry;clear hC iA ry;go_wp2_with fail;(refine(Ih.out x0 x1 x2 cp kn2 ct cu ln2 cw _ sY.out (fun q hq=>by have:=HS.out q hq;omega)).mono ?_);rintro e w4 ⟨rfl,lf,Az⟩;have hB4:=af.held (T:=fun b=>¬S b) ⟨lf.size,fun b hb hl=>lf.block b hb hl⟩ hB (fun h=>by have:=HS.out _ h;omega);have H4:=ae (show aQ (fun b=>¬S b) w w4/\jJ S w w4 from⟨H.out.1.trans lf,H.out.2.trans Az⟩);obtain⟨b',o',sS,iA,-,hC⟩:=(H4.out.2.DK _ _ _ _ _ Hs.out).2.resolve_left (by omega);simp only [Option.some.injEq,Addr.mk.injEq,and_true] at sS;obtain⟨rfl,rfl⟩:=sS;obtain⟨aX,kn3,aY,aZ,ln3,bf,hI,-⟩:=hC m tY;have HI:=ae hI;obtain⟨⟨y0,d0⟩,⟨y1,d1⟩,⟨y2,d2⟩,d3,d4,f0,f1,f2,f3,f4⟩:=hI;clear lf Az hC iA hB hc0 ax hl0 sY H;obtain⟨hc0,ax,hl0⟩:=hB4.see;go_wp2_with fail;go_roundg (ln-(m+1))
      case measure=>omega
      case rel=>exact⟨m+1,by omega,by go_num,rfl,bk,ae (show aQ (fun b=>¬S b) w (w4.setCells b (o+m*5) sf)/\jJ S w (w4.setCells b (o+m*5) sf) from⟨H4.out.1.sets (fun h=>absurd mI.out h) _ _,H4.out.2.trans (ae8 HI.out)⟩)⟩
     ·go_wp2_with fail
      go_end0;exact⟨rfl,H.out.1.ext Xt,H.out.2.trans (DI fun b hb=>rfl)⟩
theorem Ud {l:List Ac} {k:Nat} (hk:k<l.length) (s:Sv):kG s (l.take (k+1))=(ck (kG s (l.take k)) l[k]).1:=by
 unfold kG;rw [List.take_succ_eq_append_getElem hk,List.foldl_append];rfl
theorem fA.old {w:World} {T:aw} {l:List Th} {xs:List Value} (h:fA w T l xs):fA w (fun b=>T b/\b<w.heap.size) l xs:=h.keep (fun _ _ _=>rfl) fun b hb hl=>⟨hb,hl⟩
theorem jF.old {w:World} {S:aw} {l:List Th} {a:aq} (h:jF w S l a):jF w (fun b=>S b/\b<w.heap.size) l a:=by
 obtain⟨xs,h1,h2⟩:=h;refine⟨xs,?_,h2.old⟩;rcases h1 with h1|⟨b,h3,h4,h5,h6⟩
 ·exact .inl h1
 ·exact .inr ⟨b,h3,⟨h4,h5⟩,h5,h6⟩
theorem jF.keep {S T:aw} {w w':World} {l:List Th} {a:aq} (h:jF w S l a) (e:Kept S w w') (hs:w.heap.size<=w'.heap.size) (hT:∀b,S b->T b):jF w' T l a:=by
 obtain⟨xs,h1,h2⟩:=h;refine⟨xs,?_,h2.keep e fun b hb _=>hT b hb⟩;rcases h1 with h1|⟨b,h3,h4,h5,h6⟩
 ·exact .inl h1
 ·exact .inr ⟨b,h3,hT b h4,Nat.lt_of_lt_of_le h5 hs,fun j u hj=>e.cell (p:=⟨b,j,none⟩) h4 (h6 j u hj)⟩
def Ua (g:Nat) (lb:Array Value) (l:List Ac) (w0:World) (D:aw) (KK:Nat-> (aw)->World->Prop):Prop:=
 (∀args w,(callFunc g args).run prog w= .ok (.enter g args) w)/\
 ∀(k:Nat) (hk:k<l.length) (P F T:aw) (r:Nat) (wa:aq) (wc:Nat) (w1:World),k<100->aQ (fun b=>¬D b) w0 w1->Sat w1 P r (ck (kG dO (l.take k)) l[k]).1->
  (∀b,P b->D b/\¬F b/\¬T b/\b<w1.heap.size)->KK k F w1-> (∀b,F b->D b/\¬T b/\b<w1.heap.size)->
  aM wa (kG dO (l.take k)).az.length wc->jF w1 T (kG dO (l.take k)).az wa-> (∀b,T b->w0.heap.size<=b/\b<w1.heap.size)->
  Calls prog g (#[.pointer (some ⟨r,0,none⟩), .slice wa (kG dO (l.take k)).az.length wc, .agg #[.int .i64 l[k].k, .string l[k].name, .string l[k].who, .string l[k].body, .int .i64 l[k].ver, .int .i64 l[k].n, .int .i64 l[k].ord, .bool l[k].force],(ck (kG dO (l.take k)) l[k]).2.val]++lb) w1 fun e w2=>
   e= .returned (.bool true)/\aQ (fun b=>¬D b) w1 w2/\∃P' F',Sat w2 P' r (ck (kG dO (l.take k)) l[k]).1/\ (∀b,P' b->D b/\¬F' b/\b<w2.heap.size)/\KK (k+1) F' w2/\ (∀b,F' b->D b/\b<w2.heap.size)
theorem aes (g:Nat) (lb:Array Value) (l:List Ac) (a:aq) (c:Nat) (D F0:aw) (KK:Nat-> (aw)->World->Prop) (w:World) (hbig:l.length<=1048576) (hz:∀x∈l,x.name.size<=1048576/\x.body.size<=1048576/\x.who.size<=1048576)
 (Uy:sD w (fun b=>¬D b) l a) (hD:∀b,w.heap.size<=b->D b) (hl:nY D w) (hK:KK 0 F0 w) (Uz:∀b,F0 b->D b/\b<w.heap.size)
 (UA:∀k F w1 w2,KK k F w1->aQ F w1 w2->KK k F w2) (aeJ:Ua g lb l w D KK):
 Calls prog 9 #[.slice a l.length c, .func (.func g) #[] lb] w fun e w'=>∃P F r,e= .returned (.tuple #[.pointer (some ⟨r,0,none⟩), .bool true])/\Sat w' P r (kG dO (l.take 100))/\
  (∀b,P b->D b/\¬F b/\b<w'.heap.size)/\KK (min 100 l.length) F w'/\ (∀b,F b->D b/\b<w'.heap.size)/\aQ (fun b=>¬D b) w w':=by
 obtain⟨eg,hcall⟩:=aeJ;have Hc:=ae hcall;have Hz:=ae hz;have Ha:=ae Uy;have Hl:=ae hl;have HK:=ae hK;have HF:=ae Uz;have wZ:=ae UA;have HD:=ae hD;clear hcall hz Uy hl hK Uz UA hD;go_enter func9,ntmps9;go_wp2_with fail;(refine(ad2 _ ((Hl.out.next ((show Ext w _ from Xt).upd _)).mono fun b h=>HD.out b (by(try simp at h);omega))).mono ?_);rintro e w1 ⟨rfl,h1⟩;have hx1:Ext w w1:=Xt;have hz1:=hx1.size;clear h1;go_wp2_with fail;(refine(Mf _).mono ?_);rintro e w2 ⟨rfl,hs2,h2⟩;have hx2:Ext w w2:=Xt;have hz2:=hx2.size;obtain⟨v2,Mg,hs2⟩:=hs2;have cd:=ae (show Sat w2 (fun b=>w1.heap.size<=b/\b<w2.heap.size) w1.heap.size dO from⟨v2,Mg,hs2.old.mono fun b h=>⟨by have:=h.1;(try simp at this);omega,h.2⟩⟩);have UB:=ae (wZ.out 0 F0 w w2 HK.out (hx2.upd _));have UC:=ae (hx2.upd fun b=>¬D b);clear hs2 h2 hx1;go_wp2_with fail
 go_loopg [7,8,9] (min 100 l.length) (fun g i _ _ wr=>∃(k:Nat) (P F:aw),k<=min 100 l.length/\i= .int .i64 k/\g=min 100 l.length-k/\Hid (Sat wr P w1.heap.size (kG dO (l.take k))/\ (∀b,P b->D b/\¬F b/\b<wr.heap.size)/\KK k F wr/\ (∀b,F b->D b/\b<wr.heap.size)/\aQ (fun b=>¬D b) w wr)/\w.heap.size<=wr.heap.size)
 case atStart=>exact⟨0,fun b=>w1.heap.size<=b/\b<w2.heap.size,F0,by omega,rfl,by omega,ae ⟨cd.out.ext Xt,fun b h=>⟨HD.out b (by omega),fun hf=>by have:=(HF.out b hf).2;omega,by(try simp);omega⟩,wZ.out 0 F0 _ _ UB.out ((show Ext w2 _ from Xt).upd _),fun b h=>⟨(HF.out b h).1,by have:=(HF.out b h).2;(try simp);omega⟩,UC.out.ext Xt⟩,by(try simp);omega⟩
 case round=>
  clear cd UB UC hx2;obtain⟨k,P,F,hk,rfl,rfl,H,A6⟩:=hrel;by_cases hlt:k<l.length/\k<100
  ·obtain⟨hlt,II⟩:=hlt
   have hok:=Ok.Uc .new (l.take k);have eK:=ae hok;have hlen:=hok.len;have Gz:=ae hok.inv;obtain⟨hS,hP,UD,hF,hU⟩:=H.out;have HS:=ae hS;have HP:=ae hP;have UE:=ae UD;have HF:=ae hF;have HU:=ae hU;clear hok hS hP UD hF hU H;obtain⟨b,o,rfl,iA,ha⟩:=Ha.out.resolve_left (by intro h;rw [h] at hlt;simp at hlt);obtain⟨s,hs⟩:∃s,kG dO (l.take k)=s:=⟨_,rfl⟩;obtain⟨x,hx⟩:∃x,l[k]=x:=⟨_,rfl⟩;have UF:=ae (show tW w b (o+k*8) x from hx▸ha k hlt);have hat:tW wr b (o+k*8) x:=UF.out.keep HU.out.kept iA;obtain⟨d0,d1,d2,d3,d4,d5,d6,d7⟩:=hat;have fF:=ae (show tW wr b (o+k*8) x from⟨d0,d1,d2,d3,d4,d5,d6,d7⟩);obtain⟨kM,hzb,pq⟩:=Hz.out x (hx▸List.getElem_mem hlt);have nj:(0:Int)<= (k:Int):=by omega
   have np:(k:Int)<(l.length:Int):=by omega
   have D6:(k:Int)<100:=by omega
   have Hs:=ae hs;have Hx:=ae hx;have cQ:=ae (Ud hlt dO);rw [hs,hx] at cQ;rw [hs] at HS Gz hlen eK;clear hs hx ha;go_wp2_with fail;(refine(Gn P w1.heap.size s _ (HS.out.ext Xt) hlen (fun t ht=>by have h:=Gz.out.size t ht;exact⟨h.1,h.2.1⟩)).mono ?_);rintro e w3 ⟨a3,c3,rfl,jw,UG,h3⟩;have hx3:Ext wr w3:=Xt;have hz3:=hx3.size;have Mq:=ae jw;obtain⟨T,hT⟩:∃T:aw,T=fun b=>wr.heap.size<=b/\b<w3.heap.size:=⟨_,rfl⟩
   have HT:=ae (show∀b,T b->wr.heap.size<=b/\b<w3.heap.size from fun b h=>by rw [hT] at h;exact h);have UH:=ae (show jF w3 T s.az a3 from UG.old.keep (fun _ _ _=>rfl) (Nat.le_refl _) fun b h=>by rw [hT];exact⟨by have:=h.1;(try simp at this);omega,h.2⟩);have d0:=hx3.cell d0;have d1:=hx3.cell d1;have d2:=hx3.cell d2;have d3:=hx3.cell d3;have d4:=hx3.cell d4;have d5:=hx3.cell d5;have d6:=hx3.cell d6;have d7:=hx3.cell d7;clear jw UG h3 hT;go_wp2_with fail;(refine(Dw P w1.heap.size s x _ (HS.out.ext Xt) Gz.out (((Hl.out.next HU.out).mono fun b h=>(HP.out b h).1).next ((show Ext wr _ from Xt).upd _)) kM hzb pq).mono ?_);rintro e w4 ⟨rfl,hs4,lf⟩;have MA:Ext wr _:=hx3.trans (show Ext w3 _ from Xt)
   have bD:=ae (show Sat w4 (fun b=>(P b\/wr.heap.size<=b)/\¬T b/\b<w4.heap.size) w1.heap.size (ck s x).1 from by
    obtain⟨v4,Mi,hs4⟩:=hs4
    exact⟨v4,Mi,hs4.old.mono fun b h=>by
     rcases h.1 with h1|h1
     ·exact⟨.inl h1,fun ht=>by have:=(HT.out b ht).1;have:=(HP.out b h1).2.2;omega,h.2⟩
     ·exact⟨.inr (by(try simp at h1);omega),fun ht=>by have:=(HT.out b ht).2;(try simp at h1);omega,h.2⟩⟩)
   have UI:=ae (wZ.out k F wr w4 UE.out ((MA.upd F).trans (lf.mono fun b hf hp=>(HP.out b hp).2.1 hf)));have MB:=ae ((HU.out.ext MA).trans (lf.mono fun b hd hp=>hd (HP.out b hp).1));have UJ:=ae ((UH.out.ext (show Ext w3 _ from Xt)).keep (lf.kept.mono fun b ht hp=>by have:=(HT.out b ht).1;have:=(HP.out b hp).2.2;omega) lf.size fun _ h=>h);have iu:w3.heap.size<=w4.heap.size:=by have:=lf.size;(try simp at this);omega
   have MC:=ae (show∀b,(P b\/wr.heap.size<=b)/\¬T b/\b<w4.heap.size->D b/\¬F b from fun b h=>by
    rcases h.1 with h1|h1
    ·exact⟨(HP.out b h1).1,(HP.out b h1).2.1⟩
    ·exact⟨HD.out b (by omega),fun hf=>by have:=(HF.out b hf).2;omega⟩)
   obtain⟨P4,MD⟩:∃P4:aw,P4=fun b=>(P b\/wr.heap.size<=b)/\¬T b/\b<w4.heap.size:=⟨_,rfl⟩
   rw [<-MD] at bD;have GA:=ae (show∀b,P4 b->D b/\¬F b/\¬T b/\b<w4.heap.size from fun b h=>by rw [MD] at h;exact⟨(MC.out b h).1,(MC.out b h).2,h.2.1,h.2.2⟩);have AW:=Hc.out k hlt;rw [Hs.out,Hx.out] at AW;obtain⟨s',hs'⟩:∃s',(ck s x).1=s':=⟨_,rfl⟩;obtain⟨y,hy⟩:∃y,(ck s x).2=y:=⟨_,rfl⟩;rw [hs'] at bD cQ AW;rw [hy] at AW⊢;replace AW:=ae AW;clear hs4 lf hs' hy MD MC HS Gz eK fF MA hx3 d0 d1 d2 d3 d4 d5 d6 d7 UH UE HU HP;go_upto_region 9 with fail
   refine aI (R:=fun wx=>af wx w4.heap.size #[.int .i64 y.c, .int .i64 y.n, .string y.b] 31/\tW wx b (o+k*8) x/\Sat wx P4 w1.heap.size s'/\KK k F wx/\jF wx T s.az a3/\aQ (fun b=>¬D b) w wx) ⟨aj,UF.out.keep (MB.out.ext (show Ext w4 _ from Xt)).kept iA,bD.out.ext Xt,wZ.out k F _ _ UI.out ((show Ext w4 _ from Xt).upd _),UJ.out.ext Xt,MB.out.ext Xt⟩ ?_;clear bD UI MB UJ;rintro wb ⟨hB,⟨d0,d1,d2,d3,d4,d5,d6,d7⟩,UK,UL,UM,UN⟩;have cT:=ae UK;have UO:=ae UL;have UQ:=ae UM;have ME:=ae UN;have hlB:=hB.lt;clear UK UL UM UN;have au:∀w',Ext wb w'-> (w'.cell? ⟨b,o+k*8,none⟩=some (.int .i64 x.k)/\w'.cell? ⟨b,o+k*8+1,none⟩=some (.string x.name)/\w'.cell? ⟨b,o+k*8+2,none⟩=some (.string x.who)/\w'.cell? ⟨b,o+k*8+3,none⟩=some (.string x.body)/\w'.cell? ⟨b,o+k*8+4,none⟩=some (.int .i64 x.ver)/\w'.cell? ⟨b,o+k*8+5,none⟩=some (.int .i64 x.n)/\w'.cell? ⟨b,o+k*8+6,none⟩=some (.int .i64 x.ord)/\w'.cell? ⟨b,o+k*8+7,none⟩=some (.bool x.force)/\w'.cell? ⟨w4.heap.size,0,none⟩=some (.int .i64 y.c)/\w'.cell? ⟨w4.heap.size,1,none⟩=some (.int .i64 y.n)/\w'.cell? ⟨w4.heap.size,2,none⟩=some (.string y.b)):=fun w' e=>⟨e.cell d0,e.cell d1,e.cell d2,e.cell d3,e.cell d4,e.cell d5,e.cell d6,e.cell d7,e.cell (hB.cells 0),e.cell (hB.cells 1),e.cell (hB.cells 2)⟩;refine fC au (c:=8) (by kernel_rfl) ?_;refine aG 0 [8] (hS:=au _ Xt) (h:= ?_);refine aG 1 [8] (hS:=au _ Xt) (h:= ?_);refine aG 2 [8] (hS:=au _ Xt) (h:= ?_);refine aG 3 [5,6,8] (hS:=au _ Xt) (h:= ?_);refine aG 4 [5,6,8] (hS:=au _ Xt) (h:= ?_);refine aG 5 [6,8] (hS:=au _ Xt) (h:= ?_);refine aG 6 [8] (hS:=au _ Xt) (h:= ?_);refine aG 7 [8] (hS:=au _ Xt) (h:= ?_);(try simp only [rl]);refine aL 8 (h:=fun K hK=> ?_);(try simp only [rl]);(try go_simp);go_at_fn g;(refine(AW.out P4 F T w1.heap.size a3 c3 _ II (ME.out.ext Xt) (cT.out.ext Xt) (fun b h=>⟨(GA.out b h).1,(GA.out b h).2.1,(GA.out b h).2.2.1,by have:=(GA.out b h).2.2.2;(try simp);omega⟩) (wZ.out k F _ _ UO.out ((show Ext wb _ from Xt).upd _)) (fun b h=>⟨(HF.out b h).1,fun ht=>by have:=(HT.out b ht).1;have:=(HF.out b h).2;omega,by have:=(HF.out b h).2;(try simp);omega⟩) Mq.out (UQ.out.ext Xt) (fun b h=>by have:=HT.out b h;(try simp);omega)).mono ?_);rintro e w6 ⟨rfl,wW,P',F',UR,UT,UU,UW⟩;(try go_simp);have cx:=ae (show Sat w6 P' w1.heap.size s'/\ (∀b,P' b->D b/\¬F' b/\b<w6.heap.size)/\KK (k+1) F' w6/\ (∀b,F' b->D b/\b<w6.heap.size)/\aQ (fun b=>¬D b) w w6 from⟨UR,UT,UU,UW,(ME.out.ext Xt).trans wW⟩);have vA:w.heap.size<=w6.heap.size:=by have:=wW.size;(try simp at this);omega
   clear wW UR UT UU UW cT UO UQ ME;refine br hK (h:= ?_);clear hK K;(try simp only [rl]);refine aL 9 (h:=fun K hK=> ?_);(try simp only [rl]);go_simp;refine br hK (h:= ?_);clear hK K;(try simp only [rl]);refine dw (by kernel_rfl) ?_ _;clear au hB d0 d1 d2 d3 d4 d5 d6 d7;go_wp2_with fail;go_roundg (min 100 l.length-(k+1))
   case measure=>omega
   case rel=>exact⟨k+1,P',F',by omega,by go_num,by omega,ae (by rw [cQ.out];exact⟨cx.out.1.ext Xt,fun b h=>⟨(cx.out.2.1 b h).1,(cx.out.2.1 b h).2.1,by have:=(cx.out.2.1 b h).2.2;(try simp);omega⟩,wZ.out _ F' _ _ cx.out.2.2.1 ((show Ext w6 _ from Xt).upd _),fun b h=>⟨(cx.out.2.2.2.1 b h).1,by have:=(cx.out.2.2.2.1 b h).2;(try simp);omega⟩,cx.out.2.2.2.2.ext Xt⟩),by(try simp);omega⟩
  ·have cx:=ae (show Sat wr P w1.heap.size (kG dO (l.take 100))/\ (∀b,P b->D b/\¬F b/\b<wr.heap.size)/\KK (min 100 l.length) F wr/\ (∀b,F b->D b/\b<wr.heap.size)/\aQ (fun b=>¬D b) w wr from by
    obtain⟨h1,h2,h3,h4,h5⟩:=H.out;have e1:l.take k=l.take 100:=by
     rcases Nat.lt_or_ge k 100 with q|q
     ·rw [List.take_of_length_le (by omega),List.take_of_length_le (by omega)]
     ·rw [show k=100 by omega]
    have e2:k=min 100 l.length:=by omega
    rw [e1] at h1;rw [e2] at h3
    exact⟨h1,h2,h3,h4,h5⟩)
   clear H;by_cases h1:k<l.length
   ·have h2:¬(k:Int)<100:=by omega
    go_wp2_with fail;go_ret2;exact⟨P,F,w1.heap.size,rfl,cx.out.1.ext Xt,fun b h=>⟨(cx.out.2.1 b h).1,(cx.out.2.1 b h).2.1,by have:=(cx.out.2.1 b h).2.2;(try simp);omega⟩,wZ.out _ F _ _ cx.out.2.2.1 ((show Ext wr _ from Xt).upd _),fun b h=>⟨(cx.out.2.2.2.1 b h).1,by have:=(cx.out.2.2.2.1 b h).2;(try simp);omega⟩,cx.out.2.2.2.2.ext Xt⟩
   ·go_wp2_with fail
    go_ret2;exact⟨P,F,w1.heap.size,rfl,cx.out.1.ext Xt,fun b h=>⟨(cx.out.2.1 b h).1,(cx.out.2.1 b h).2.1,by have:=(cx.out.2.1 b h).2.2;(try simp);omega⟩,wZ.out _ F _ _ cx.out.2.2.1 ((show Ext wr _ from Xt).upd _),fun b h=>⟨(cx.out.2.2.2.1 b h).1,by have:=(cx.out.2.2.2.1 b h).2;(try simp);omega⟩,cx.out.2.2.2.2.ext Xt⟩
end Go.Proofs.YtlcebdaghmdkeabGreatDoor
