import Derived.Test.YtlcebdaghmdkeabGreatDoorTopVersionsW
set_option linter.all false
set_option maxRecDepth 100000
set_option maxHeartbeats 64000000
namespace Go.Proofs.YtlcebdaghmdkeabGreatDoor
open Go.Proofs.Tryz
open Go.RowKit
attribute [local go_sem↓] Go.wp_at_zero Go.wp_at_succ
theorem afP (l:List Ac) (w W:World) (hW:w.heap.size<W.heap.size) (D:az) (hD:∀b,D b↔w.heap.size<=b):
 VP 13 #[.pointer (some ⟨w.heap.size,0,none⟩)] l W D fun k F v=>(∀b,F b↔b=w.heap.size)/\∃L,af v w.heap.size #[.int .i64 L] 3/\L<= (eI bQ (l.take k)).last:=by
 refine⟨enters_of func13 (by kernel_rfl) rfl,?_⟩;intro k hk P F T r wa wc w1 hk1 hu hS hP hK hF hsl hT Nw;obtain⟨VQ,L,dI,hL⟩:=hK;have Aa:=Ok.IJ .new (l.take k);refine(afQ (eI bQ (l.take k)) (bP (eI bQ (l.take k)) l[k]).1 l[k] (bP (eI bQ (l.take k)) l[k]).2 P T r w.heap.size L wa wc w1 Aa (Aa.next _) (Aa.so l[k]) hS hT dI hL (fun h=>by have:=(Nw _ h).1;omega)).mono ?_;rintro e w2 ⟨rfl,hu2,L2,ak,hL2⟩;refine⟨rfl,hu2.mono fun b hb e=>hb ((hD b).2 (by omega)),P,F,hS.keep (hu2.kept.mono fun b hb e=>(hP b hb).2.1 ((VQ b).2 e)),fun b h=>⟨(hP b h).1,(hP b h).2.1,Nat.lt_of_lt_of_le (hP b h).2.2.2 hu2.size⟩,⟨VQ,L2,ak,by rw [VR hk];exact hL2⟩,fun b h=>⟨(hF b h).1,Nat.lt_of_lt_of_le (hF b h).2.2 hu2.size⟩⟩
theorem afO (a:au) (cap:Nat) (l:List Ac) (w:World) (hl:jl (fun b=>w.heap.size<=b) w) (cX:j3 l<=1048576) (hin:gI w (fun b=>b<w.heap.size) l a):
 Calls prog 4 #[.slice a l.length cap] w fun e w'=>e= .returned (.bool true)/\Ext w w':=by
 have Hl:=ae hl;have aJ:=ae hin;have hlen:=Ju l;clear hl hin;go_enter func4,ntmps4;go_upto_region 2 with fail
 refine aI (R:=fun wx=>af wx w.heap.size #[.int .i64 0] 3/\Ext w wx) ⟨aQ,Xt⟩ ?_;rintro wb ⟨hB,aO⟩;have jN:=hB.lt;go_wp2_with fail
 (refine(VT 13 #[.pointer (some ⟨w.heap.size,0,none⟩)] l a cap (fun b=>w.heap.size<=b) (fun b=>b=w.heap.size) (fun k F v=>(∀b,F b↔b=w.heap.size)/\∃L,af v w.heap.size #[.int .i64 L] 3/\L<= (eI bQ (l.take k)).last) _ (by omega)
  (fun x hx=>by have h:=Az hx;unfold Ac.size at h;omega) ((aJ.out.keep ((show Ext w _ from aO.trans Xt).kept _)).mono fun b h h'=>by omega) (fun b h=>by(try simp at h);omega) (Hl.out.next ((show Ext w _ from aO.trans Xt).upd _)) ⟨fun b=>Iff.rfl,0,hB.ext Xt,by simp [eI,bQ]⟩ (fun b h=>⟨by omega,by(try simp);omega⟩)
  (fun k F v1 v2 h u=>⟨h.1,by obtain⟨L,h1,h2⟩:=h.2;exact⟨L,af.held ⟨u.size,u.block⟩ h1 ((h.1 _).2 rfl),h2⟩⟩) (afP l w _ (by(try simp);omega) _ (fun b=>Iff.rfl))).mono ?_)
 rintro e w2 ⟨P,F,r,rfl,-,-,-,-,hu⟩;have hx2:Ext w w2:=aT.to (aO.trans Xt) (hu.mono fun b h h'=>by omega);go_wp2_with fail;go_ret;exact⟨rfl,Xt⟩
end Go.Proofs.YtlcebdaghmdkeabGreatDoor
