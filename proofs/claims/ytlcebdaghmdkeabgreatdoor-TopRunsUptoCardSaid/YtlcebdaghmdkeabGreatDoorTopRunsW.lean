import Derived.Test.YtlcebdaghmdkeabGreatDoorZ45
import Derived.Test.YtlcebdaghmdkeabGreatDoorTpRun
set_option linter.all false
set_option maxRecDepth 100000
set_option maxHeartbeats 64000000
namespace Go.Proofs.YtlcebdaghmdkeabGreatDoor
open Go.Proofs.Tryz
open Go.RowKit
attribute [local go_sem↓] Go.wp_at_zero Go.wp_at_succ
theorem VJ {W:World} {ops:Array Oper} {rest:List Oper} {o:Oper} {a:Act} {Q:Exit->Act->World->Prop} {S:az} {m c:Nat} {ad:au} {l:List Ac} (hgd:o.guard=none) {s t:Operand}
 (ho:o.op= .call {callee:= .builtin .append,args:= #[s,t],argTypes:= #[22,22]}) (hs:a.eval s= .slice none 0 0) (hx:a.eval t= .slice ad m c) (hok:aM ad m c) (hm:l.length=m) (hin:gI W S l ad) (hn:m<=1048576)
 (h:∀a' c' w',gI w' (fun b=>W.heap.size<=b/\b<w'.heap.size) l a'->Ext W w'->wpList prog ops Q rest (a.put o.dst (.slice a' m c')) w'):wpList prog ops Q (o::rest) a W:=by
 subst hm;obtain⟨j0,hj,hy0,hy1,hy2⟩:=info_parts Tryz.afG;refine wpList_plain hgd fun _ hK=>afH s t _ ho W.heap.size 28 j0 _ 8 88 underlying22 hj hy0 hy1 hy2 rfl (by decide) (.slice none 0 0) 0 [] hs (World.ownsRow_nil _ _ _ _) ad l.length c (l.flatMap Ac.cells) hx hok (VK Ac.cells 8 (fun _=>rfl) l) (afI hin) (afJ Ac.cells Ac.tD l) (by unfold maxLen;omega) (by omega) (Nat.le_refl _) ?_;intro a' c' w' hown fL hgrow;rw [Nat.zero_add] at hown⊢;obtain⟨a2,c2,he,bN⟩:=afK (l:=l) rfl (by simpa using hown)
 cases he
 exact hK _ _ (h a' c' w' bN (Ext.grown (Ext.refl W) hgrow fun k hk=>by cases hk))
theorem afL (l:List Ac) (a:au) (n c:Nat) (w:World) (hn:l.length=n) (hlen:n<=300) (hz:∀x∈l,x.name.size<=1048576/\x.body.size<=1048576/\x.who.size<=1048576) (wC:gI w (fun b=>b<w.heap.size) l a) (hl:jl (fun b=>w.heap.size<=b) w):
 Calls prog 28 #[.slice a n c] w fun e w'=>∃a' c',e= .returned (.tuple #[.slice a' n c', .int .i64 0])/\BV w' (kx bQ l) a'/\Ext w w':=by
 subst hn;exact VL l a c w hlen hz wC hl
theorem afM (n:Int) (m:Nat) (hm:m<=100):∃k:Nat,k<=m/\ (wrap64 (wrap64 (n.tmod ((m:Int)+1)+(m:Int))+1)).tmod ((m:Int)+1)=(k:Int):=by
 have h0:(0:Int)<(m:Int)+1:=by omega
 have h1:=Int.tmod_lt_of_pos n h0;have h2:=Int.lt_tmod_of_pos n h0;have hw:∀x:Int,-9223372036854775808<=x->x<=9223372036854775807->wrap64 x=x:=fun x _ _=>by unfold wrap64;omega
 rw [hw (n.tmod ((m:Int)+1)+(m:Int)) (by omega) (by omega),hw _ (by omega) (by omega)];have h3:=Int.tmod_lt_of_pos (n.tmod ((m:Int)+1)+(m:Int)+1) h0;have h4:=Int.tmod_nonneg ((m:Int)+1) (show 0<=n.tmod ((m:Int)+1)+(m:Int)+1 by omega);exact⟨((n.tmod ((m:Int)+1)+(m:Int)+1).tmod ((m:Int)+1)).toNat,by omega,by omega⟩
theorem afF (a:au) (cap:Nat) (l:List Ac) (n:Int) (w:World) (hl:jl (fun b=>w.heap.size<=b) w) (cX:j3 l<=1048576) (hn: -9223372036854775808<=n/\n<=9223372036854775807) (hok:aM a l.length cap) (hin:gI w (fun b=>b<w.heap.size) l a):
 Calls prog 7 #[.slice a l.length cap, .int .i64 n] w fun e w'=>e= .returned (.bool true)/\Ext w w':=by
 have Hl:=ae hl;have aJ:=ae hin;have dN:=ae hok;have hll:=Ju l;clear hl hin hok;go_enter func7,ntmps7;go_wp2_with fail;(refine(NA _ ((Hl.out.next ((show Ext w _ from Xt).upd _)).mono fun b h=>by(try simp at h);omega)).mono ?_);rintro e w1 ⟨rfl,h1⟩;have hx1:Ext w w1:=Xt;have hz1:=hx1.size;clear h1;by_cases N5:100<l.length
 ·have hgt:(100:Int)<(l.length:Int):=by omega
  go_wp2_with fail;(refine(NA _ ((Hl.out.next ((show Ext w _ from Xt).upd _)).mono fun b h=>by(try simp at h);omega)).mono ?_);rintro e w2 ⟨rfl,h2⟩;have hx2:Ext w w2:=Xt;clear h2;go_wp2_with fail;go_ret;exact⟨rfl,Xt⟩
 have hgt:¬(100:Int)<(l.length:Int):=by omega
 go_upto_region 4 with fail
 obtain⟨k,hkl,hk⟩:=afM n l.length (by omega);rw [hk];have gS:(0:Int)<= (k:Int):=by omega
 have hkc:(k:Int)<= (cap:Int):=by have:=dN.out.1;omega
 have afN:k<=cap:=by omega
 have ahP:(k:Int)<= (l.length:Int):=by omega
 have hz:∀x∈l,x.name.size<=1048576/\x.body.size<=1048576/\x.who.size<=1048576:=fun x hx=>by have h:=Az hx;unfold Ac.size at h;omega
 have Hz:=ae hz;clear hk hz;go_wp2_with (at_builtin;refine VJ (l:=l) (by rfl) (by rfl) (by rfl) (by rfl) dN.out rfl (aJ.out.keep ((show Ext w _ from Xt).kept _)) (by omega) ?_;intro a2 c2 w2 bN h2);have hx2:Ext w w2:=Xt;have hz2:=hx2.size;have bE:=ae bN;(refine(VL l a2 c2 _ (by omega) Hz.out ((bE.out.mono fun b h=>h.2).keep ((show Ext w2 _ from Xt).kept _)) ((Hl.out.next (hx2.upd _)).mono fun b h=>by(try simp at h);omega)).mono ?_);rintro e w3 ⟨a3,c3,rfl,hr3,h3⟩;have hx3:Ext w w3:=Xt;have py:=ae hr3;clear bN h2 bE hx2 hr3 h3;have nO:=ae (show (l.take k).length=k by rw [List.length_take];omega);go_wp2_with (at_builtin;refine VJ (l:=l.take k) (by rfl) (by rfl) (by rfl) (by rfl) ⟨afN,dN.out.2.1,dN.out.2.2⟩ nO.out ((aJ.out.take k).keep ((show Ext w _ from Xt).kept _)) (by omega) ?_;intro a4 c4 w4 cU h4);have bH:Ext w w4:=Xt;have C6:Ext w3 w4:=Xt;have dm:=ae cU;have gJ:=bH.size;have VM:=ae (show (kx bQ (l.take k)).length=k by rw [N7];exact nO.out);(refine(afL (l.take k) a4 k c4 _ nO.out (by omega) (fun x hx=>Hz.out x (List.mem_of_mem_take hx)) ((dm.out.mono fun b h=>h.2).keep ((show Ext w4 _ from Xt).kept _)) ((Hl.out.next (bH.upd _)).mono fun b h=>by(try simp at h);omega)).mono ?_);rintro e w5 ⟨a5,c5,rfl,qZ,h5⟩;have aZ:Ext w w5:=Xt;have Kl:Ext w3 w5:=C6.trans Xt;have DF:=ae qZ;have py:=ae (py.out.ext Kl);have VN:=ae (N7 l bQ);clear cU h4 dm bH C6 qZ h5 hx3;go_wp2_with fail
 go_loopg [9] k (fun g i wr=>∃j:Nat,j<=k/\i= .int .i64 j/\g=k-j/\Ext w5 wr)
 case atStart=>exact⟨0,Nat.zero_le _,rfl,rfl,Xt⟩
 case round=>
  obtain⟨j,hj,rfl,rfl,mF⟩:=hrel;by_cases hjk:j<k
  ·obtain⟨b3,rfl,hc3⟩:=py.out.resolve_left (fun h=>by have h2:=VN.out;rw [h] at h2;simp only [List.length_nil] at h2;omega)
   obtain⟨b5,rfl,kN⟩:=DF.out.resolve_left (fun h=>by have h2:=VM.out;rw [h] at h2;simp only [List.length_nil] at h2;omega);have xt:j<(kx bQ l).length:=by have:=VN.out;omega
   have N8:j<(kx bQ (l.take k)).length:=by have:=VM.out;omega
   obtain⟨d0,d1,d2⟩:=hc3 j xt;obtain⟨e0,e1,e2⟩:=kN j N8;have heq:(kx bQ (l.take k))[j]'N8=(kx bQ l)[j]'xt:=by simp only [VO,List.getElem_take]
   rw [heq] at e0 e1 e2;obtain⟨y,hy⟩:∃y,(kx bQ l)[j]'xt=y:=⟨_,rfl⟩;rw [hy] at d0 d1 d2 e0 e1 e2;have d0:=mF.cell d0;have d1:=mF.cell d1;have d2:=mF.cell d2;have e0:=mF.cell e0;have e1:=mF.cell e1;have e2:=mF.cell e2;have Ii:(0:Int)<= (j:Int):=by omega
   have Ij:(j:Int)<(k:Int):=by omega
   have ahQ:(j:Int)<(l.length:Int):=by omega
   clear hc3 kN heq hy xt N8;go_upto_region 11 with fail
   have aq:∀w',Ext wr w'-> (w'.cell? ⟨b3,j*3,none⟩=some (.int .i64 y.c)/\w'.cell? ⟨b3,j*3+1,none⟩=some (.int .i64 y.n)/\w'.cell? ⟨b3,j*3+2,none⟩=some (.string y.b)/\w'.cell? ⟨b5,j*3,none⟩=some (.int .i64 y.c)/\w'.cell? ⟨b5,j*3+1,none⟩=some (.int .i64 y.n)/\w'.cell? ⟨b5,j*3+2,none⟩=some (.string y.b)):=fun w' e=>⟨e.cell d0,e.cell d1,e.cell d2,e.cell e0,e.cell e1,e.cell e2⟩;refine lO aq (by kernel_rfl) (aq _ Xt) (fun hHeld=> ?_);refine aB 0 (h:= ?_);refine aB 1 (h:= ?_);refine aB 2 (h:= ?_);refine aB 3 (h:= ?_);refine aB 4 (h:= ?_);refine aB 5 (h:= ?_);refine aB 6 (h:= ?_);refine aB 7 (h:= ?_);refine aB 8 (h:= ?_);(try simp only [rl]);refine wpAnyH_done (by kernel_rfl) ?_ _;go_wp2_with fail;go_roundg (k-(j+1))
   case measure=>omega
   case rel=>exact⟨j+1,by omega,by go_num,rfl,mF.trans Xt⟩
  ·go_wp2_with fail
   go_ret;exact⟨rfl,aZ.trans (mF.trans Xt)⟩
end Go.Proofs.YtlcebdaghmdkeabGreatDoor
