import Derived.Test.YtlcebdaghmdkeabGreatDoorZ43
import Derived.Test.YtlcebdaghmdkeabGreatDoorTpO
set_option linter.all false
set_option maxRecDepth 100000
set_option maxHeartbeats 64000000
namespace Go.Proofs.YtlcebdaghmdkeabGreatDoor
open Go.Proofs.Tryz
open Go.RowKit
attribute [local go_sem↓] Go.wp_at_zero Go.wp_at_succ
theorem pQ.keep {w w':World} {base:Nat} {v:Value} {n:Nat} {l:List Rp} (h:pQ w base v n l) (k:∀b,b<w.heap.size->v.ownBlock=some b->w'.heap[b]? =w.heap[b]?):pQ w' base v n l:=⟨h.1,dX h.2 k⟩
theorem agv {l:List Ac} {k:Nat} (hk:k<l.length) (s:Sv):eI s (l.take (k+1))=(bP (eI s (l.take k)) l[k]).1:=by
 unfold eI;rw [List.take_succ_eq_append_getElem hk,List.foldl_append];rfl
theorem VL (l:List Ac) (a:au) (c:Nat) (w:World) (hlen:l.length<=300) (hz:∀x∈l,x.name.size<=1048576/\x.body.size<=1048576/\x.who.size<=1048576) (wC:gI w (fun b=>b<w.heap.size) l a) (hl:jl (fun b=>w.heap.size<=b) w):
 Calls prog 28 #[.slice a l.length c] w fun e w'=>∃a' c',e= .returned (.tuple #[.slice a' l.length c', .int .i64 0])/\BV w' (kx bQ l) a'/\Ext w w':=by
 have Hz:=ae hz;have Ha:=ae wC;have Hl:=ae hl;have hle:¬(300:Int)<(l.length:Int):=by omega
 clear hz wC hl;go_enter func28,ntmps28;go_wp2_with fail;(refine(NB _).mono ?_);rintro e w1 ⟨rfl,hs1,h1⟩;have hx1:Ext w w1:=Xt;have hz1:=hx1.size;obtain⟨v1,ys1,hs1⟩:=hs1;have um:=ae (show Sat w1 (fun b=>w.heap.size<=b/\b<w1.heap.size) w.heap.size bQ from⟨v1,ys1,hs1.old.mono fun b h=>⟨by have:=h.1;(try simp at this);omega,h.2⟩⟩);clear hs1 h1;go_wp2_with fail
 go_loopg [5,7,14] l.length (fun g ov _ i wr=>∃(k:Nat) (P:az),k<=l.length/\i= .int .i64 k/\g=l.length-k/\Hid (Sat wr P w.heap.size (eI bQ (l.take k))/\ (∀b,P b->w.heap.size<=b/\b<wr.heap.size/\ov.ownBlock≠some b)/\pQ wr w.heap.size ov k (kx bQ (l.take k)))/\Ext w wr)
 case atStart=>exact⟨0,fun b=>w.heap.size<=b/\b<w1.heap.size,by omega,rfl,rfl,ae ⟨um.out.ext Xt,fun b h=>⟨h.1,by(try simp);omega,by simp [Value.ownBlock]⟩,pQ.nil _ _⟩,Xt⟩
 case round=>
  clear um hx1;obtain⟨k,P,hk,rfl,rfl,H,hx⟩:=hrel;obtain⟨hS,hP,hO⟩:=H.out;obtain⟨ao,co,rfl,agw⟩:=fT hO.2;have HS:=ae hS;have HP:=ae hP;have HO:=ae hO;have yz:=hx.size;clear hS hP hO H agw;by_cases hlt:k<l.length
  ·have tE:=ae (Ok.IJ .new (l.take k)).inv
   obtain⟨b,o,rfl,o8,ha⟩:=Ha.out.resolve_left (by intro h;rw [h] at hlt;simp at hlt);obtain⟨d0,d1,d2,d3,d4,d5,d6,d7⟩:=(ha k hlt).keep (hx.kept (fun b=>b<w.heap.size)) o8;obtain⟨kG,hzb,o9⟩:=Hz.out _ (List.getElem_mem hlt);have kY:(0:Int)<= (k:Int):=by omega
   have kZ:(k:Int)<(l.length:Int):=by omega
   have AR:=agv hlt bQ;have hrun:=Wv hlt bQ;obtain⟨x,nU⟩:∃x,l[k]=x:=⟨_,rfl⟩;obtain⟨s,hs⟩:∃s,eI bQ (l.take k)=s:=⟨_,rfl⟩;rw [nU] at d0 d1 d2 d3 d4 d5 d6 d7 kG hzb o9 AR hrun;rw [hs] at HS tE AR hrun;have cK:=ae AR;have WH:=ae hrun;clear ha nU hs AR hrun;go_upto_region 8 with fail
   refine aI (R:=fun wx=>qq wx wr.heap.size x/\Ext wr wx) ⟨aQ,Xt⟩ ?_;clear d0 d1 d2 d3 d4 d5 d6 d7;rintro wb ⟨hB,aO⟩;have ahT:=hB.lt;have vF:Ext w wb:=hx.trans aO;obtain⟨hc0,aw,hl0⟩:=hB.see;go_wp2_with fail;(refine(EJ P w.heap.size s x _ (HS.out.ext Xt) tE.out ((Hl.out.next ((show Ext w _ from Xt).upd _)).mono fun b h=>(HP.out b h).1) kG hzb o9).mono ?_);rintro e w4 ⟨he,hs4,lI⟩;obtain⟨y,hy⟩:∃y,(bP s x).2=y:=⟨_,rfl⟩;rw [hy] at he WH;obtain rfl:e= .returned (.agg #[.int .i64 y.c, .int .i64 y.n, .string y.b]):=he;have bH:Ext w w4:=aT.to (show Ext w _ from Xt) (lI.mono fun b hb hp=>by have:=(HP.out b hp).1;omega);have gJ:wr.heap.size<=w4.heap.size:=by have:=lI.size;(try simp at this);omega
   have df:∀b,(Value.slice ao k co).ownBlock=some b->w.heap.size<=b/\b<wr.heap.size:=fun b hb=>HO.out.2.lt b hb
   have bI:=ae (show Sat w4 (fun b=>(w.heap.size<=b/\b<w4.heap.size)/\ (Value.slice ao k co).ownBlock≠some b) w.heap.size (bP s x).1 from by
    obtain⟨v4,EO,hs4⟩:=hs4
    exact⟨v4,EO,hs4.old.mono fun b h=>by
     rcases h.1 with h1|h1
     ·exact⟨⟨(HP.out b h1).1,h.2⟩,(HP.out b h1).2.2⟩
     ·exact⟨⟨by(try simp at h1);omega,h.2⟩,fun hb=>by have:=(df b hb).2;(try simp at h1);omega⟩⟩)
   have xJ:=ae ((HO.out.ext (show Ext wr _ from Xt)).keep fun b hb he=>lI.block b (fun hp=>(HP.out b hp).2.2 he) hb);have pY:=ae df;clear hs4 lI hy hB hc0 aw hl0 vF aO HS HO hx;go_upto_region 9 with(at_builtin;refine af8 (y:=y) (by rfl) w4.heap.size (by rfl) (by rfl) (by rfl) xJ.out Xt aQ (by omega) (by have:=bH.size;omega) ?_;intro g3 zB w5 zI hgrow hat)
   have aZ:Ext w w5:=Ext.grown (Ext.trans bH (show Ext w4 _ from Xt)) hgrow (fun q hq=>(pY.out q hq).1);have fA:=hgrow.size;have cP:=ae (bI.out.keep (w':=w5) fun b hb hl=>(hgrow.block b (by(try simp);omega) (fun he=>hb.2 he.symm)).trans (Below.block (show Ext w4 _ from Xt) b hl));have zI:=ae zI;have fC:=ae hat;(try simp at fA);clear hgrow hat bI xJ;go_wp2_with fail;go_roundg (l.length-(k+1))
   case measure=>omega
   case rel=>exact⟨k+1,fun b=>(w.heap.size<=b/\b<w4.heap.size)/\ (Value.slice ao k co).ownBlock≠some b,by omega,by go_num,rfl,ae ⟨by rw [cK.out];exact cP.out.ext Xt,fun b h=>⟨h.1.1,by have:=h.1.2;(try simp);omega,fun he=>by
    have hg:g3=b:=by simpa [Value.ownBlock] using he
    subst hg;rcases fC.out with h1|h1
    ·exact h.2 h1
    ·have:=h.1.2;(try simp at h1);omega⟩,by rw [WH.out];exact zI.out.ext Xt⟩,Xt⟩
  ·obtain rfl:k=l.length:=by omega
   have ho:=HO.out;rw [List.take_length] at ho;obtain⟨a',c',hv,hr⟩:=ho.rps
   cases hv
   have Hr:=ae hr;clear ho hr HO HS HP;go_wp2_with fail;go_ret2;exact⟨ao,co,rfl,Hr.out.ext Xt,Xt⟩
end Go.Proofs.YtlcebdaghmdkeabGreatDoor
