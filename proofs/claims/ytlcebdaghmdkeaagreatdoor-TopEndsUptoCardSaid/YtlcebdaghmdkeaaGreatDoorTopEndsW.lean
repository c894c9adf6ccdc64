import Derived.Test.YtlcebdaghmdkeaaGreatDoorZ41
set_option linter.all false
set_option maxRecDepth 100000
set_option maxHeartbeats 64000000
namespace Go.Proofs.YtlcebdaghmdkeaaGreatDoor
open Go.Proofs.Tryz
open Go.RowKit
attribute [local go_sem↓] Go.wp_at_zero Go.wp_at_succ
attribute [local go_sem] field_code
def Sv.upto (s:Sv) (k:Nat):Sv:= {s with acts:=(k:Int)}
theorem aft {s:Sv} {k:Nat} (h:k<300):bz (s.upto k) EK=(s.upto (k+1), .no 9):=by
 unfold bz;rw [if_neg (show¬(300:Int)<= (s.upto k).acts by show¬(300:Int)<= (k:Int);omega)];unfold uy;rw [if_pos (show EK.k<1\/9<EK.k from .inl (by decide))];simp [Sv.upto]
theorem afu {s:Sv} (x:Ac):bz (s.upto 300) x=(s.upto 300, .no 10):=by
 unfold bz;rw [if_pos (show (300:Int)<= (s.upto 300).acts from Int.le_refl _)]
theorem Ok.upto {s:Sv} (h:Ok s) {k:Nat} (h1:s.acts<=k) (h2:k<=300):Ok (s.upto k):=
 ⟨h.len,h.dO,h.ay,⟨h.last.1,Int.le_trans h.last.2 h1⟩,by show (k:Int)<=300;omega,h.time⟩
theorem afv {s:Sv} {k:Nat} (h:s.acts=k):s.upto k=s:=by cases s;simp only at h;subst h;rfl
theorem afr (a:aq) (cap:Nat) (l:List Ac) (x:Ac) (w:World) (hl:iU (fun b=>w.heap.size<=b) w) (cx:iJ l<=1048576) (br:x.size<=1048576) (hin:jL w (fun b=>b<w.heap.size) l a):
 Calls prog 6 #[.slice a l.length cap, .agg #[.int .i64 x.k, .string x.name, .string x.who, .string x.body, .int .i64 x.ver, .int .i64 x.n, .int .i64 x.ord, .bool x.force]] w fun e w'=>e= .returned (.bool true)/\Ext w w':=by
 have Hl:=ae hl;have aJ:=ae hin;have EL:=ae br;have hll:=Ff l;clear hl hin br;go_enter func6,ntmps6;go_upto_region 1 with fail
 refine aI (R:=fun wx=>kY wx w.heap.size x/\Ext w wx) ⟨aR,Xt⟩ ?_;rintro wa ⟨hB,aF⟩;have jk:=hB.lt;go_wp2_with fail;(refine(IU l a cap _ cx ((aJ.out.keep ((show Ext w _ from Xt).kept _)).mono fun b h=>by(try simp);omega) ((Hl.out.next ((show Ext w _ from Xt).upd _)).mono fun b h=>by(try simp at h);omega)).mono ?_);rintro e w2 ⟨P,r,rfl,hS,hP,h2⟩;have hx2:Ext wa w2:=Xt;have cX:Ext w w2:=aF.trans hx2;have ak:=hB.ext hx2;have HP:=ae (show∀b,P b->wa.heap.size<=b/\b<w2.heap.size from fun b h=>⟨by have:=(hP b h).1;(try simp at this);omega,(hP b h).2⟩);have iV:=Ok.BJ .new (l.take 100);obtain⟨m,hm⟩:∃m,min l.length 100=m:=⟨_,rfl⟩;have lf:(fq cQ (l.take 100)).acts=m:=by rw [EM (by rw [List.length_take];omega),List.length_take];omega
 obtain⟨s,hs⟩:∃s,fq cQ (l.take 100)=s:=⟨_,rfl⟩;rw [hs] at hS iV lf;have HS:=ae (show Sat w2 P r (s.upto m) by rw [afv lf];exact hS);have yo:m<=100:=by omega
 have dv:=ae (show∀k:Nat,m<=k->k<=300->Ok (s.upto k) from fun k h1 h2=>iV.upto (by omega) h2);have hz2:=hx2.size;clear hS hP h2 hs iV hB aF hx2 lf;have hmin:(min (l.length:Int) 100)=(m:Int):=by omega
 go_wp2_with fail
 go_loopg [7] (300-m) (fun g i wr=>∃(k:Nat) (P:aA),m<=k/\k<=300/\i= .int .i64 k/\g=300-k/\Hid (Sat wr P r (s.upto k)/\∀b,P b->wa.heap.size<=b)/\kY wr w.heap.size x/\Ext w wr/\wa.heap.size<=wr.heap.size)
 case atStart=>exact⟨m,P,by omega,by omega,by simp only [Value.int.injEq,true_and,hmin],rfl,ae ⟨HS.out.ext Xt,fun b h=>(HP.out b h).1⟩,aR,Xt,by(try simp);omega⟩
 case round=>
  clear HS HP ak cX hmin;obtain⟨k,P,gh,hk,rfl,rfl,H,hB,hx,Co⟩:=hrel;by_cases hlt:k<300
  ·have KL:(k:Int)<300:=by omega
   go_wp2_with fail;(refine(sX P r (s.upto k) EK _ (H.out.1.ext Xt) (dv.out k gh hk).inv ((Hl.out.next ((show Ext w _ from Xt).upd _)).mono fun b h=>by have:=H.out.2 b h;omega) (by decide) (by decide) (by decide)).mono ?_);rw [aft hlt];rintro e w5 ⟨he,hs5,eW⟩;obtain rfl:e= .returned (.agg #[.int .i64 9, .int .i64 0, .string ⟨#[]⟩]):=he;have bG:Ext w w5:=aU.to (show Ext w _ from Xt) (eW.mono fun b h hp=>by have:=H.out.2 b hp;omega);have jd:kY w5 w.heap.size x:=af.held (T:=fun b=>¬P b) ⟨eW.size,fun b hb hl=>eW.block b hb hl⟩ (show af _ _ _ _ from hB) (fun hp=>by have:=H.out.2 _ hp;omega);have uJ:=hB.lt;have fX:wa.heap.size<=w5.heap.size:=by have:=eW.size;(try simp at this);omega
   have H5:=ae (show Sat w5 (fun b=>wa.heap.size<=b) r (s.upto (k+1)) from hs5.mono fun b h=>by
    rcases h with h|h
    ·exact H.out.2 b h
    · (try simp at h);omega)
   clear hs5 eW hB hx H;go_wp2_with fail;go_roundg (300-(k+1))
   case measure=>omega
   case rel=>exact⟨k+1,_,by omega,by omega,by go_num,rfl,ae ⟨H5.out.ext Xt,fun b h=>h⟩,aR,Xt,by(try simp);omega⟩
  ·obtain rfl:k=300:=by omega
   have hlen:=(dv.out 300 (by omega) (by omega)).len;have gG:=ae (dv.out 300 (by omega) (by omega)).inv;have uJ:=hB.lt;have hlx:x.name.size<=1048576/\x.body.size<=1048576/\x.who.size<=1048576:=by have:=EL.out;unfold Ac.size at this;omega
   go_wp2_with fail;(refine(pK P r (s.upto 300) _ (H.out.1.ext Xt) hlen (fun t ht=>by have h:=gG.out.size t ht;exact⟨h.1,h.2.1⟩)).mono ?_);rintro e w3 ⟨a3,c3,rfl,gK,tv,h3⟩;have hx3:Ext wr w3:=Xt;have hz3:=hx3.size;obtain⟨v3,U6,h33⟩:=H.out.1.ext hx3
   have jJ:=ae (show Sat w3 (fun b=>P b/\b<wr.heap.size) r (s.upto 300) from by
    obtain⟨v,ys,hh⟩:=H.out.1
    exact Sat.ext ⟨v,ys,hh.old⟩ hx3)
   have q9:=ae (show fT w3 (fun b=>wr.heap.size<=b/\b<w3.heap.size) (s.upto 300).ay a3 from tv.old.keep (fun _ _ _=>rfl) (Nat.le_refl _) fun b h=>⟨by have:=h.1;(try simp at this);omega,h.2⟩);have Vt:=ae H.out.2;have bK:=hB.ext hx3;have cX:Ext w w3:=hx.trans hx3;clear gK tv h3 hB hx hx3 H h33;obtain⟨hc3,hf3,aS⟩:=bK.see;go_wp2_with fail;(refine(sX (fun b=>P b/\b<wr.heap.size) r (s.upto 300) x _ (jJ.out.ext Xt) gG.out ((Hl.out.next ((show Ext w _ from Xt).upd _)).mono fun b h=>by have:=Vt.out b h.1;omega) hlx.1 hlx.2.1 hlx.2.2).mono ?_);rw [afu];rintro e w5 ⟨he,hs5,eW⟩;obtain rfl:e= .returned (.agg #[.int .i64 10, .int .i64 0, .string ⟨#[]⟩]):=he;have bG:Ext w w5:=aU.to (show Ext w _ from Xt) (eW.mono fun b h hp=>by have:=Vt.out b hp.1;omega);have ra:=ae ((q9.out.ext (show Ext w3 _ from Xt)).keep (T:=fun b=>wr.heap.size<=b) (eW.kept.mono fun b hb hp=>by have:=hp.2;omega) eW.size fun _ h=>h.1);have bP:=ae hs5;clear hs5 eW q9 jJ bK hc3 hf3 aS cX;go_wp2_with fail;(refine(pK _ r (s.upto 300) _ (bP.out.ext Xt) hlen (fun t ht=>by have h:=gG.out.size t ht;exact⟨h.1,h.2.1⟩)).mono ?_);rintro e w6 ⟨a6,c6,rfl,gT,mO,h6⟩;have bS:Ext w5 w6:=Xt;have p8:=ae mO;clear gT mO h6;go_wp2_with fail;(refine(BK (s.upto 300).ay a3 a6 _ _ c3 c6 _ _ _ (ra.out.ext Xt) (p8.out.ext Xt) rfl rfl (by omega) (fun t ht=>by have h:=gG.out.size t ht;exact⟨h.1,h.2.1⟩)).mono ?_);rintro e w7 ⟨rfl,h7⟩;go_wp2_with fail;go_ret;exact⟨rfl,bG.trans Xt⟩
end Go.Proofs.YtlcebdaghmdkeaaGreatDoor
