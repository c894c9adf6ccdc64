import Derived.Test.YtlcebdaghmdkeabGreatDoorZ20
import Derived.Test.YtlcebdaghmdkeabGreatDoorZ39
set_option linter.all false
set_option maxRecDepth 100000
set_option maxHeartbeats 64000000
namespace Go.Proofs.YtlcebdaghmdkeabGreatDoor
open Go.Proofs.Tryz
open Go.RowKit
attribute [local go_sem↓] Go.wp_at_zero Go.wp_at_succ
theorem VC (ks js:List ah) (a1 a2:au) (n1 n2 c1 c2:Nat) (S1 S2:az) (w:World) (h1:bR w S1 a1 ks) (h2:bR w S2 a2 js) (e1:ks.length=n1) (e2:js.length=n2) (hl:ks.length<=1073741824):
 Calls prog 26 #[.slice a1 n1 c1, .slice a2 n2 c2] w (zJ (ks=js) w):=by
 subst e1;subst e2;by_cases hne:ks.length=js.length
 ·have hnb:((ks.length:Int) !=(js.length:Int))=false:=by simp [hne]
  have dW:=ae hne;clear hne;go_enter func26,ntmps26;go_wp2_with fail
  go_loopg [5,13] ks.length (fun g _ i wr=>∃k:Nat,k<=ks.length/\i= .int .i64 k/\g=ks.length-k/\Hid (ks.take k=js.take k)/\Ext w wr)
  case atStart=>exact⟨0,by omega,rfl,rfl,ae (by simp),Ext.refl _⟩
  case round=>
   obtain⟨k,hk,rfl,rfl,xO,hx⟩:=hrel;by_cases hlt:k<ks.length
   ·have Ad:k<js.length:=by have:=dW.out;omega
    obtain⟨b1,o1,rfl,hS1,hc1⟩:=h1.resolve_left (by intro h;rw [h] at hlt;simp at hlt);obtain⟨b2,o2,rfl,uV,hc2⟩:=h2.resolve_left (by intro h;rw [h] at Ad;simp at Ad);have d0:=hx.cell (hc1 k hlt);have d1:=hx.cell (hc2 k Ad);have kY:(0:Int)<= (k:Int):=by omega
    have kZ:(k:Int)<(ks.length:Int):=by omega
    have Fa:(k:Int)<(js.length:Int):=by omega
    have IY:=ae (List.take_succ_eq_append_getElem hlt);have uw:=ae (List.take_succ_eq_append_getElem Ad);clear hc1 hc2 h1 h2;by_cases he:ks[k]=js[k]
    ·have hb:=qL he
     have He:=ae he;clear he;go_wp2_with fail
     go_quiet (fail)
     go_wp2_with fail;go_roundg (ks.length-(k+1))
     case measure=>omega
     case rel=>exact⟨k+1,by omega,by go_num,rfl,ae (by rw [IY.out,uw.out,xO.out,He.out]),Xt⟩
    ·have hb:=qM he
     have He:=ae he;clear he;go_wp2_with fail
     go_quiet (fail)
     go_wp2_with fail;go_ret;exact⟨_,rfl,⟨fun h=>by(first|cases h|simp at h),fun h=>absurd (by subst h;rfl) He.out⟩,Xt⟩
   ·have cy:=ae (show ks=js by
     have:=xO.out
     rwa [List.take_of_length_le (by omega),List.take_of_length_le (by have:=dW.out;omega)] at this)
    clear h1 h2;go_wp2_with fail;go_ret;exact⟨_,rfl,⟨fun _=>cy.out,fun _=>rfl⟩,Xt⟩
 ·have hnb:((ks.length:Int) !=(js.length:Int))=true:=by simp;omega
  have dW:=ae hne;clear hne;go_enter func26,ntmps26;go_wp2_with fail;go_ret;exact⟨_,rfl,⟨fun h=>by(first|cases h|simp at h),fun h=>absurd (by rw [h]) dW.out⟩,Xt⟩
theorem VU (l m:List Ow) (a1 a2:au) (n1 n2 c1 c2:Nat) (S1 S2:az) (w:World) (h1:cx w S1 l a1) (h2:cx w S2 m a2) (e1:l.length=n1) (e2:m.length=n2) (hl:cw l<=1073741824):
 Calls prog 15 #[.slice a1 n1 c1, .slice a2 n2 c2] w (zJ (l=m) w):=by
 subst e1;subst e2;have hll:=tQ l;have Hl:=ae hl;by_cases hne:l.length=m.length
 ·have hnb:((l.length:Int) !=(m.length:Int))=false:=by simp [hne]
  have dW:=ae hne;have H1:=ae h1;have H2:=ae h2;clear hne h1 h2;go_enter func15,ntmps15;go_wp2_with fail
  go_loopg [5,13] l.length (fun g _ i wr=>∃k:Nat,k<=l.length/\i= .int .i64 k/\g=l.length-k/\Hid (l.take k=m.take k)/\Ext w wr)
  case atStart=>exact⟨0,by omega,rfl,rfl,ae (by simp),Ext.refl _⟩
  case round=>
   obtain⟨k,hk,rfl,rfl,xO,hx⟩:=hrel;by_cases hlt:k<l.length
   ·have Ad:k<m.length:=by have:=dW.out;omega
    obtain⟨b1,o1,rfl,hS1,pa,pc,d0,d1,hs1,hst⟩:=(H1.out.ext hx).item hlt;obtain⟨b2,o2,rfl,uV,qa,qc,e0,e1,hs2,hsu⟩:=(H2.out.ext hx).item Ad;have kY:(0:Int)<= (k:Int):=by omega
    have kZ:(k:Int)<(l.length:Int):=by omega
    have Fa:(k:Int)<(m.length:Int):=by omega
    have IY:=ae (List.take_succ_eq_append_getElem hlt);have uw:=ae (List.take_succ_eq_append_getElem Ad);have bL:=Ow.qH l[k];have vU:=qG (List.getElem_mem hlt);obtain⟨x,hex⟩:∃x,l[k]=x:=⟨_,rfl⟩;obtain⟨y,OA⟩:∃y,m[k]=y:=⟨_,rfl⟩;rw [hex] at d0 d1 hst IY bL vU;rw [OA] at e0 e1 hsu uw;have tX:x.paths.length<=1073741824:=by omega
    have aP:=ae hst;have Hsu:=ae hsu;have WJ:=ae hex;have WK:=ae OA;clear hst hsu hex OA hs1 hs2 bL vU;by_cases he:x.name=y.name
    ·have hb:=qL he
     have He:=ae he;clear he;go_upto_region 6 with fail
     have aq:∀w',Ext wr w'-> (w'.cell? ⟨b1,o1+k*2,none⟩=some (.string x.name)/\w'.cell? ⟨b1,o1+k*2+1,none⟩=some (.slice pa x.paths.length pc)/\w'.cell? ⟨b2,o2+k*2,none⟩=some (.string y.name)/\w'.cell? ⟨b2,o2+k*2+1,none⟩=some (.slice qa y.paths.length qc)):=fun w' e=>⟨e.cell (d0),e.cell (d1),e.cell (e0),e.cell (e1)⟩;refine lO aq (by kernel_rfl) (aq _ Xt) (fun hHeld=> ?_);refine aB 0 (h:= ?_);refine aB 1 (h:= ?_);refine aB 2 (h:= ?_);refine aB 3 (h:= ?_);refine aB 4 (h:= ?_);refine aB 5 (h:= ?_);refine aB 6 (h:= ?_);refine aB 7 (h:= ?_);refine aB 8 (h:= ?_);refine aB 9 (h:= ?_);refine aB 10 (h:= ?_);refine aB 11 (h:= ?_);refine aB 12 (h:= ?_);refine aB 13 (h:= ?_);refine aB 14 (h:= ?_);refine aB 15 (h:= ?_);refine aB 16 (h:= ?_);refine aB 17 (h:= ?_);refine aB 18 (h:= ?_);refine aB 19 (h:= ?_);refine aB 20 (h:= ?_);refine aB 21 (h:= ?_);(try simp only [rl]);refine fJ 22 (h:=fun K hK=> ?_);(try simp only [rl]);(try go_simp);(refine(VC x.paths y.paths pa qa _ _ pc qc S1 S2 _ (aP.out.ext Xt) (Hsu.out.ext Xt) rfl rfl (by omega)).mono ?_);rintro e w2 ⟨b,rfl,hr,h2x⟩;have Hr:=ae hr;clear hr;(try go_simp);refine hK.out _ _ (aq _ Xt) (fun hHeld=> ?_);clear hK K;(try simp only [rl]);refine aB 23 (h:= ?_);refine aB 24 (h:= ?_);(try simp only [rl]);refine wpAnyH_done (by kernel_rfl) ?_ _
     cases b with
     |true=>
      have Hxy:=ae (show x=y by have h3:=Hr.out.1 rfl;have h4:=He.out;cases x;cases y;simp_all);go_wp2_with fail;go_roundg (l.length-(k+1))
      case measure=>omega
      case rel=>exact⟨k+1,by omega,by go_num,rfl,ae (by rw [IY.out,uw.out,xO.out,Hxy.out]),Xt⟩
     |false=>
      go_wp2_with fail;go_ret
      exact⟨_,rfl,⟨fun h=>by(first|cases h|simp at h),fun h=>by
       have h3:x=y:=by have h5:=WJ.out;have h6:=WK.out;subst h;rw [<-h5,<-h6]
       have:=Hr.out.2 (by rw [h3])
       cases this⟩,Xt⟩
    ·have hb:=qM he
     have He:=ae he;clear he;go_upto_region 6 with fail
     have aq:∀w',Ext wr w'-> (w'.cell? ⟨b1,o1+k*2,none⟩=some (.string x.name)/\w'.cell? ⟨b1,o1+k*2+1,none⟩=some (.slice pa x.paths.length pc)/\w'.cell? ⟨b2,o2+k*2,none⟩=some (.string y.name)/\w'.cell? ⟨b2,o2+k*2+1,none⟩=some (.slice qa y.paths.length qc)):=fun w' e=>⟨e.cell (d0),e.cell (d1),e.cell (e0),e.cell (e1)⟩;refine lO aq (by kernel_rfl) (aq _ Xt) (fun hHeld=> ?_);refine aB 0 (h:= ?_);refine aB 1 (h:= ?_);refine aB 2 (h:= ?_);refine aB 3 (h:= ?_);refine aB 4 (h:= ?_);refine aB 5 (h:= ?_);refine aB 6 (h:= ?_);refine aB 7 (h:= ?_);refine aB 8 (h:= ?_);refine aB 9 (h:= ?_);refine aB 10 (h:= ?_);refine aB 11 (h:= ?_);refine bV 12 (h:= ?_);refine bV 13 (h:= ?_);refine bV 14 (h:= ?_);refine bV 15 (h:= ?_);refine bV 16 (h:= ?_);refine bV 17 (h:= ?_);refine bV 18 (h:= ?_);refine bV 19 (h:= ?_);refine bV 20 (h:= ?_);refine bV 21 (h:= ?_);refine bV 22 (h:= ?_);refine bV 23 (h:= ?_);refine aB 24 (h:= ?_);(try simp only [rl]);refine wpAnyH_done (by kernel_rfl) ?_ _;go_wp2_with fail;go_ret
     exact⟨_,rfl,⟨fun h=>by(first|cases h|simp at h),fun h=>by
      have h3:x=y:=by have h5:=WJ.out;have h6:=WK.out;subst h;rw [<-h5,<-h6]
      exact absurd (by rw [h3]) He.out⟩,Xt⟩
   ·have cy:=ae (show l=m by
     have:=xO.out
     rwa [List.take_of_length_le (by omega),List.take_of_length_le (by have:=dW.out;omega)] at this)
    go_wp2_with fail;go_ret;exact⟨_,rfl,⟨fun _=>cy.out,fun _=>rfl⟩,Xt⟩
 ·have hnb:((l.length:Int) !=(m.length:Int))=true:=by simp;omega
  have dW:=ae hne;clear hne h1 h2;go_enter func15,ntmps15;go_wp2_with fail;go_ret;exact⟨_,rfl,⟨fun h=>by(first|cases h|simp at h),fun h=>absurd (by rw [h]) dW.out⟩,Xt⟩
end Go.Proofs.YtlcebdaghmdkeabGreatDoor
namespace Go.Proofs.YtlcebdaghmdkeabGreatDoor
open Go.Proofs.Tryz
open Go.RowKit
theorem ad2 (base g n cap k vb vc:Nat) (cur:Array Value) (new:List Value) (w:World) (TB:TypeId) (hb:base<=g) (hg:w.heap[g]? =some (.cells cur 41 (0,0))) (hnc:n<cap) (hm:cap<=maxLen) (hcs:cur.size=cap*15)
 (hk:k<n) (hB:af w vb new.toArray TB) (hvb:vb≠g) (hnew:new.length=15) (h1c:∀u∈cur.toList.take (n*15),u.oneCell'=true) (h1:∀u∈new,u.oneCell'=true):
 Calls prog 84 #[.slice (some ⟨g,0,none⟩) n cap, .int .i64 k, .slice (some ⟨vb,0,none⟩) 1 vc] w fun e w'=>e= .returned (.slice (some ⟨g,0,none⟩) (n+1) cap)/\
  w'.ownsRow base 41 15 (.slice (some ⟨g,0,none⟩) (n+1) cap) (n+1) ((cur.toList.take (n*15)).take (k*15)++new++(cur.toList.take (n*15)).drop (k*15))/\w.grownBy w' (some g):=by
 obtain⟨i0,hi,hz0,hz1,hz2⟩:=info_parts Tryz.Cc;have hsz:(prog.info? 41).map (·.size)=some 15:=by rw [hi];simp [hz1]
 have hm2:cap<=9223372036854775807:=hm;have Ak:(n+1)*15<=cap*15:=Nat.mul_le_mul_right _ hnc;have hB':w.heap[vb]? =some (.cells new.toArray TB (0,0)):=hB;have hov:∀lb cb,(callFunc 123 #[.slice (some ⟨vb,0,none⟩) 1 vc, .slice (some ⟨g,(k+1)*15,none⟩) lb cb]).run prog w= .ok (.value (.bool false)) w:=fun lb cb=>by
  rw [run_callFunc_extern func123 (by kernel_rfl) (by kernel_rfl) (by kernel_rfl) (e:=Extern.SlicesOverlaps.overlaps #[26,26] #[4]) (by kernel_rfl),
   Lib.run_overlaps_apart w 26 4 41 underlying26 15 (by intro w;simp [Go.sizeOf,typeInfo,hi,hz1]) ⟨vb,0,none⟩ ⟨g,(k+1)*15,none⟩ 1 vc lb cb hvb TB 41 new.length cur.size (by simp [World.shape?,hB']) (by simp [World.shape?,hg]) (by rw [hcs];omega) (hB.free 0) (hB.free new.length)]
  rfl
 obtain⟨cs,bY⟩:∃cs,cs=(cur.toList.take (n*15)).drop (k*15):=⟨_,rfl⟩;have hcl:cs.length=(n-k)*15:=by rw [bY];simp;omega
 have hcell:∀j v,cs[j]? =some v->w.drew.cell? ((⟨g,k*15,none⟩:Addr).add j)=some v:=fun j v hj=>by
  rw [Addr.add_lit,bY,List.getElem?_drop,List.getElem?_take] at*
  split at hj
  ·show w.cell? _=_
   rw [cell_of_row w g _ cur _ _ hg];simpa using hj
  ·cases hj
 have hlist:=Gj cur.toList new (k*15) (n*15) (by omega) (by rw [hnew,Array.length_toList,hcs];omega) cs bY;simp only at hlist;obtain⟨ay,hl2,aR⟩:=hlist;have oD:∀ty,(Builtin.copy_ #[26,26] ty #[.slice (some ⟨g,(k+1)*15,none⟩) (n-k) (cap-(k+1)), .slice (some ⟨g,k*15,none⟩) (n+1-k) (cap-k)]).run prog w.drew= .ok (goInt (n-k:Nat)) (w.drew.setRow g (cur.toList.take ((k+1)*15)++cs++cur.toList.drop ((k+1)*15+cs.length)).toArray):=fun ty=>
  ni w.drew _ _ ty 41 15 g ((k+1)*15) _ _ ⟨g,k*15,none⟩ _ _ cur 41 cs (n-k) underlying26 hsz (by simp only [Nat.min_def];split<;>omega) hg hcl hcell (by rw [hcl,hcs];omega) (fun v hv=>h1c v (List.mem_of_mem_drop (by rw [<-bY];exact hv)))
 have fM:(k+1)*15=k*15+new.length:=by omega
 obtain⟨c1,hc1⟩:∃c1,c1=cur.toList.take ((k+1)*15)++cs++cur.toList.drop ((k+1)*15+cs.length):=⟨_,rfl⟩;rw [<-hc1] at oD;rw [<-fM,<-hc1] at ay hl2 aR;obtain⟨W1,hW1⟩:∃W1,W1=w.drew.setRow g c1.toArray:=⟨_,rfl⟩;rw [<-hW1] at oD;have hg1:W1.heap[g]? =some (.cells c1.toArray 41 (0,0)):=by rw [hW1];exact setRow_heap w.drew g cur _ 41 _ hg
 have lH:∀ty,(Builtin.copy_ #[26,26] ty #[.slice (some ⟨g,k*15,none⟩) (n+1-k) (cap-k), .slice (some ⟨vb,0,none⟩) 1 vc]).run prog W1= .ok (goInt (1:Nat)) (W1.setRow g (c1.toArray.toList.take (k*15)++new++c1.toArray.toList.drop (k*15+new.length)).toArray):=fun ty=>
  ni W1 _ _ ty 41 15 g (k*15) _ _ ⟨vb,0,none⟩ _ _ c1.toArray 41 new 1 underlying26 hsz (by simp only [Nat.min_def];split<;>omega) hg1 (by omega) (fun j v hj=>by
   rw [Addr.add_lit,hW1,cell_setRow_other _ _ _ _ (by exact hvb)];show w.cell? _=_
   rw [cell_of_row w vb _ _ _ _ hB'];first|done|simpa using hj) (by simp only [List.size_toArray,aR,Array.length_toList,hcs,hnew];omega) h1
 rw [<-fM] at lH;simp only [List.toList_toArray] at lH;have mixed:prog.follows Departure.mixedOrders=true:=by kernel_rfl
 have hw1:IntKind.i64.wrap ((k:Int)+1)=(k:Int)+1:=by rw [IntKind.wrap_i64];omega
 have hz3:¬((k:Int)=(n:Int)):=by omega
 have hb1:(0:Int)<= (k:Int)+1:=by omega
 have htn:((k:Int)+1).toNat=k+1:=by omega
 have hb2:¬(cap=k+1):=by omega
 have hb3:(k:Int)<= (n:Int)+1:=by omega
 have hin:k<=n:=by omega
 have hb4:¬(cap=k):=by omega
 have iW:(W1.setRow g (c1.take (k*15)++new++c1.drop ((k+1)*15)).toArray).ownsRow base 41 15 (.slice (some ⟨g,0,none⟩) (n+1) cap) (n+1) ((cur.toList.take (n*15)).take (k*15)++new++(cur.toList.take (n*15)).drop (k*15)):=by
  refine rH hb (setRow_heap W1 g _ _ 41 _ hg1) hnc hm ?_ ?_
  ·rw [List.size_toArray,hl2,Array.length_toList,hcs]
  ·rw [<-ay,hnew]
   rw [show (n+1)*15=n*15+15 from by omega]
 have iX:w.grownBy (W1.setRow g (c1.take (k*15)++new++c1.drop ((k+1)*15)).toArray) (some g):=by rw [hW1];exact rI (nI (jE w.drew g _)) (jE _ g _)
 obtain⟨W2,hW2⟩:∃W2,W2=W1.setRow g (c1.take (k*15)++new++c1.drop ((k+1)*15)).toArray:=⟨_,rfl⟩;rw [<-hW2] at lH iW iX;have mI:=ae iW;have jF:=ae iX;clear iW iX fM hW2 hW1 hg1 ay hl2 aR hc1 hcell bY hcl hg h1c h1 hcs hB hB';go_enter func84,ntmps84;go_wp2_with (simp only [hov])
 go_region_law_o (refine step_copy_runI rfl _ _ 26 26 rfl _ _ (by simp [Act.eval,Act.put]) (by simp [Act.eval,Act.put]) (oD _) ?_)
 go_wp2_with (at_builtin;refine wpList_copy_runI _ rfl _ _ 26 26 rfl _ _ rfl rfl (lH _) ?_);go_ret;exact⟨rfl,mI.out,jF.out⟩
theorem ad3 (base g n cap k vb vc:Nat) (cur:Array Value) (new:List Value) (w:World) (TB:TypeId) (fB:base<=w.heap.size) (hg:w.heap[g]? =some (.cells cur 41 (0,0))) (hnc:n<=cap) (hfull:cap<n+1) (dw:n<=1073741824) (hcs:cur.size=cap*15)
 (hk:k<n) (hB:af w vb new.toArray TB) (hnew:new.length=15) (h1c:∀u∈cur.toList.take (n*15),u.oneCell'=true) (h1:∀u∈new,u.oneCell'=true):
 Calls prog 84 #[.slice (some ⟨g,0,none⟩) n cap, .int .i64 k, .slice (some ⟨vb,0,none⟩) 1 vc] w fun e w'=>∃G,e= .returned (.slice (some ⟨w.heap.size,0,none⟩) (n+1) G)/\
  w'.ownsRow base 41 15 (.slice (some ⟨w.heap.size,0,none⟩) (n+1) G) (n+1) ((cur.toList.take (n*15)).take (k*15)++new++(cur.toList.take (n*15)).drop (k*15))/\Ext w w':=by
 obtain⟨i0,hi,hz0,hz1,hz2⟩:=info_parts Tryz.Cc;have hsz:(prog.info? 41).map (·.size)=some 15:=by rw [hi];simp [hz1]
 obtain⟨cs,bY⟩:∃cs,cs=cur.toList.take (n*15):=⟨_,rfl⟩;rw [<-bY] at h1c⊢;have rh:n*15<=cap*15:=Nat.mul_le_mul_right _ hnc;have hcl:cs.length=n*15:=by rw [bY];simp;omega
 have vR:g<w.heap.size:=lt_of_block hg;have MT:vb<w.heap.size:=hB.lt;have hB':w.heap[vb]? =some (.cells new.toArray TB (0,0)):=hB;have hcell:∀j v,cs[j]? =some v->w.cell? ⟨g,j,none⟩=some v:=fun j v hj=>by
  rw [cell_of_row w g j cur _ _ hg];rw [bY,List.getElem?_take] at hj
  split at hj
  ·simpa using hj
  ·cases hj
 have hold:(Builtin.firstCells i0.size k (.slice (some ⟨g,0,none⟩) k cap)).run prog w.drew= .ok (cs.take (k*15)).toArray w.drew:=by
  rw [hz1]
  exact run_firstCells_some w.drew 15 k ⟨g,0,none⟩ k cap (cs.take (k*15)) (by rw [List.length_take];omega) (fun j v hj=>by
   rw [Addr.add_lit];rw [List.getElem?_take] at hj
   split at hj
   ·rw [Nat.zero_add];exact hcell j v hj
   ·cases hj)
 have hkk:(n:Int)+1-(k:Int)=((n+1-k:Nat):Int):=by omega
 have hik:k+(n+1-k)=n+1:=by omega
 have lG:∀ty,(Builtin.append_ #[26,3] ty #[.slice (some ⟨g,0,none⟩) k cap, .int .i64 ((n:Int)+1-(k:Int))]).run prog w=
  .ok (.slice (some ⟨w.heap.size,0,none⟩) (n+1) (grownCap w (n+1) cap 41)) (w.drew.alloc (.cells ((cs.take (k*15)).toArray++Builtin.zeroCells (Value.cells (.agg #[Value.string ⟨#[]⟩, .int .i64 0, .int .i64 0, .string ⟨#[]⟩, .slice none 0 0, .slice none 0 0, .slice none 0 0, .int .i64 0, .int .i64 0, .string ⟨#[]⟩, .string ⟨#[]⟩, .int .i64 0, .int .i64 0, .int .i64 0, .int .i64 0])) (n+1-k)++Builtin.zeroCells (Value.cells (.agg #[Value.string ⟨#[]⟩, .int .i64 0, .int .i64 0, .string ⟨#[]⟩, .slice none 0 0, .slice none 0 0, .slice none 0 0, .int .i64 0, .int .i64 0, .string ⟨#[]⟩, .string ⟨#[]⟩, .int .i64 0, .int .i64 0, .int .i64 0, .int .i64 0])) (grownCap w (n+1) cap 41-(n+1))) 41)):=fun ty=>by
  have h:=Lib.run_append_grow_zeros w 26 3 ty 41 i0 _ .i64 .i64 underlying26 underlying3 hi hz0 (some ⟨g,0,none⟩) k cap (cs.take (k*15)) hold (n+1-k) (by omega) (by omega) (by omega) (by omega) (by rw [hz2];omega) (by rw [hz2,hik];exact growslice_fits (by omega) (by omega));rw [hik] at h;rw [hkk];exact h
 obtain⟨G,hG⟩:∃G,G=grownCap w (n+1) cap 41:=⟨_,rfl⟩;have zK:n+1<=G:=by rw [hG];exact grownCap_ge w _ _ _
 have sV:G<=maxLen:=by rw [hG];exact grownCap_le_maxLen w (n+1) cap 41 (by unfold maxLen;omega)
 have MU:G<=9223372036854775807:=sV;rw [<-hG] at lG;obtain⟨z1,oF⟩:∃z1,z1=(Builtin.zeroCells (Value.cells (.agg #[Value.string ⟨#[]⟩, .int .i64 0, .int .i64 0, .string ⟨#[]⟩, .slice none 0 0, .slice none 0 0, .slice none 0 0, .int .i64 0, .int .i64 0, .string ⟨#[]⟩, .string ⟨#[]⟩, .int .i64 0, .int .i64 0, .int .i64 0, .int .i64 0])) (n+1-k)).toList:=⟨_,rfl⟩;obtain⟨z2,oG⟩:∃z2,z2=(Builtin.zeroCells (Value.cells (.agg #[Value.string ⟨#[]⟩, .int .i64 0, .int .i64 0, .string ⟨#[]⟩, .slice none 0 0, .slice none 0 0, .slice none 0 0, .int .i64 0, .int .i64 0, .string ⟨#[]⟩, .string ⟨#[]⟩, .int .i64 0, .int .i64 0, .int .i64 0, .int .i64 0])) (G-(n+1))).toList:=⟨_,rfl⟩;have oH:z1.length=(n+1-k)*15:=by rw [oF,Array.length_toList,size_zeroCells];simp [Value.cells]
 have sW:z2.length=(G-(n+1))*15:=by rw [oG,Array.length_toList,size_zeroCells];simp [Value.cells]
 obtain⟨c0,hc0⟩:∃c0:List Value,c0=cs.take (k*15)++z1++z2:=⟨_,rfl⟩;have hrow:(cs.take (k*15)).toArray++Builtin.zeroCells (Value.cells (.agg #[Value.string ⟨#[]⟩, .int .i64 0, .int .i64 0, .string ⟨#[]⟩, .slice none 0 0, .slice none 0 0, .slice none 0 0, .int .i64 0, .int .i64 0, .string ⟨#[]⟩, .string ⟨#[]⟩, .int .i64 0, .int .i64 0, .int .i64 0, .int .i64 0])) (n+1-k)++Builtin.zeroCells (Value.cells (.agg #[Value.string ⟨#[]⟩, .int .i64 0, .int .i64 0, .string ⟨#[]⟩, .slice none 0 0, .slice none 0 0, .slice none 0 0, .int .i64 0, .int .i64 0, .string ⟨#[]⟩, .string ⟨#[]⟩, .int .i64 0, .int .i64 0, .int .i64 0, .int .i64 0])) (G-(n+1))=c0.toArray:=by apply Array.toList_inj.1;rw [hc0,oF,oG];simp
 rw [hrow] at lG;have hlist:=Gk cs new z1 z2 (k*15) (by omega) (by rw [oH,hnew,hcl];omega);simp only at hlist;rw [<-hc0] at hlist;obtain⟨ay,hl2,aR⟩:=hlist;have hl0:c0.length=G*15:=by rw [hc0,List.length_append,List.length_append,oH,sW,List.length_take,hcl];omega
 obtain⟨c1,hc1⟩:∃c1,c1=c0.take (k*15)++new++c0.drop (k*15+new.length):=⟨_,rfl⟩;rw [<-hc1] at ay hl2 aR;have fM:k*15+new.length=(k+1)*15:=by omega
 have oI:∀W:World,(∀b,W.heap[b]? =(w.drew.alloc (.cells c0.toArray 41)).heap[b]?)->W.heap[w.heap.size]? =some (.cells c0.toArray 41 (0,0)):=fun W h=>by rw [h];show (w.heap.push _)[w.heap.size]? =_;simp
 have zL:∀(W:World),(∀b,W.heap[b]? =(w.drew.alloc (.cells c0.toArray 41)).heap[b]?)->∀ty dc,(Builtin.copy_ #[26,26] ty #[.slice (some ⟨w.heap.size,k*15,none⟩) (n+1-k) dc, .slice (some ⟨vb,0,none⟩) 1 vc]).run prog W= .ok (goInt (1:Nat)) (W.setRow w.heap.size c1.toArray):=fun W hW ty dc=>by
  have h:=ni W 26 26 ty 41 15 w.heap.size (k*15) (n+1-k) dc ⟨vb,0,none⟩ 1 vc c0.toArray 41 new 1 underlying26 hsz (by simp only [Nat.min_def];split<;>omega) (oI W hW) (by omega) (fun j v hj=>by
   have zM:W.heap[vb]? =some (.cells new.toArray TB (0,0)):=by rw [hW];show (w.heap.push _)[vb]? =_;rw [Array.getElem?_push,if_neg (by omega)];exact hB'
   rw [Addr.add_lit,cell_of_row W vb _ _ _ _ zM];simpa using hj) (by rw [List.size_toArray,hl0,hnew];omega) h1
  simp only [List.toList_toArray] at h;rw [<-hc1] at h;exact h
 have MV:g≠w.heap.size:=by omega
 have oJ:∀(W:World),W.heap[w.heap.size]? =some (.cells c1.toArray 41 (0,0))-> (∀b,b<w.heap.size->W.heap[b]? =w.heap[b]?)->∀ty dc sc,(Builtin.copy_ #[26,26] ty #[.slice (some ⟨w.heap.size,(k+1)*15,none⟩) (n-k) dc, .slice (some ⟨g,k*15,none⟩) (n-k) sc]).run prog W= .ok (goInt (n-k:Nat)) (W.setRow w.heap.size (c1.take (k*15+new.length)++cs.drop (k*15)++c1.drop (k*15+new.length+(cs.drop (k*15)).length)).toArray):=fun W hW hO ty dc sc=>by
  have h:=ni W 26 26 ty 41 15 w.heap.size ((k+1)*15) (n-k) dc ⟨g,k*15,none⟩ (n-k) sc c1.toArray 41 (cs.drop (k*15)) (n-k) underlying26 hsz (by simp) hW (by rw [List.length_drop,hcl];omega) (fun j v hj=>by
   have hbg:W.heap[g]? =some (.cells cur 41 (0,0)):=by rw [hO g vR];exact hg
   rw [List.getElem?_drop] at hj;rw [Addr.add_lit,cell_of_row W g _ _ _ _ hbg,<-cell_of_row w g _ _ _ _ hg]
   exact hcell _ v hj) (by rw [List.size_toArray,aR,hl0,List.length_drop,hcl];omega) (fun v hv=>h1c v (List.mem_of_mem_drop hv))
  simp only [List.toList_toArray] at h;rw [fM];exact h
 obtain⟨c2,hc2⟩:∃c2,c2=c1.take (k*15+new.length)++cs.drop (k*15)++c1.drop (k*15+new.length+(cs.drop (k*15)).length):=⟨_,rfl⟩;rw [<-hc2] at oJ ay hl2;have hfin:∀W:World,W.heap[w.heap.size]? =some (.cells c1.toArray 41 (0,0))-> (W.setRow w.heap.size c2.toArray).ownsRow base 41 15 (.slice (some ⟨w.heap.size,0,none⟩) (n+1) G) (n+1) (cs.take (k*15)++new++cs.drop (k*15)):=fun W hW=>by
  refine rH fB (setRow_heap W w.heap.size _ _ 41 _ hW) zK sV ?_ ?_
  ·rw [List.size_toArray,hl2,hl0]
  ·rw [<-ay,hcl,hnew]
   rw [show (n+1)*15=n*15+15 from by omega]
 have sX:∀W:World,W.heap[w.heap.size]? =some (.cells c0.toArray 41 (0,0))-> (W.setRow w.heap.size c1.toArray).heap[w.heap.size]? =some (.cells c1.toArray 41 (0,0)):=fun W hW=>setRow_heap W w.heap.size _ _ 41 _ hW;have mixed:prog.follows Departure.mixedOrders=true:=by kernel_rfl
 have hw1:IntKind.i64.wrap ((k:Int)+1)=(k:Int)+1:=by rw [IntKind.wrap_i64];omega
 have hz3:¬((k:Int)=(n:Int)):=by omega
 have gJ:(cap:Int)<(n:Int)+1:=by omega
 have hb1:(0:Int)<= (k:Int)+1:=by omega
 have hin:k<=n:=by omega
 have htn:((k:Int)+1).toNat=k+1:=by omega
 have hb3:(k:Int)<= (n:Int):=by omega
 have MW:¬(G=k):=by omega
 have MX:¬(G=k+1):=by omega
 have lQ:¬(cap=k):=by omega
 have hE:∀b:Nat,((w.alloc (.cells c0.toArray 41)).drew).heap[b]? =(w.drew.alloc (.cells c0.toArray 41)).heap[b]? :=fun _=>rfl;have oK:(((w.alloc (.cells c0.toArray 41)).drew.setRow w.heap.size c1.toArray).drew).heap[w.heap.size]? =some (.cells c1.toArray 41 (0,0)):=sX _ (oI _ hE);have sY:∀b,b<w.heap.size-> (((w.alloc (.cells c0.toArray 41)).drew.setRow w.heap.size c1.toArray).drew).heap[b]? =w.heap[b]? :=fun b hb=>by show ((w.drew.alloc (.cells c0.toArray 41)).setRow w.heap.size c1.toArray).heap[b]? =_;rw [setRow_other _ _ _ _ (by omega)];show (w.heap.push _)[b]? =_;rw [Array.getElem?_push,if_neg (by omega)]
 have aV:=oJ _ oK sY;have sZ:=hfin _ oK;have td:Ext w ((((w.alloc (.cells c0.toArray 41)).drew.setRow w.heap.size c1.toArray).drew).setRow w.heap.size c2.toArray):=by refine Ext.grown (row:=some w.heap.size) (b:=w.alloc (.cells c0.toArray 41)) ((Ext.refl w).alloc _) ?_ (by simp);exact rI (b:=(w.alloc (.cells c0.toArray 41)).drew.setRow w.heap.size c1.toArray) (nI (jE (w.alloc (.cells c0.toArray 41)).drew w.heap.size c1.toArray)) (nI (jE (((w.alloc (.cells c0.toArray 41)).drew.setRow w.heap.size c1.toArray).drew) w.heap.size c2.toArray))
 have pE:=ae sZ;have zN:=ae td;clear hfin sZ td oJ oK sY ay hl2 aR hc1 hc2 hcell bY hcl hg h1c h1 hcs hB hB' fM hold hkk hik oF oG oH sW hc0 hrow hl0 hG rh oI sX hi hz0 hz1 hz2 hsz;go_enter func84,ntmps84
 go_wp2_with (first
  |(at_builtin;refine Lib.wpList_append_run _ rfl _ _ _ _ rfl _ _ rfl rfl _ _ (lG _) ?_)
  |(at_builtin;refine wpList_copy_runI _ rfl _ _ 26 26 rfl _ _ rfl rfl (zL _ hE _ _) ?_))
 go_region_law_o (refine step_copy_runI rfl _ _ 26 26 rfl (.slice (some ⟨w.heap.size,(k+1)*15,none⟩) (n-k) (G-(k+1))) (.slice (some ⟨g,k*15,none⟩) (n-k) (cap-k)) (by simp [Act.eval,Act.put]) (by simp [Act.eval,Act.put]) (aV _ _ _) ?_)
 go_wp2;go_ret;exact⟨G,rfl,pE.out,zN.out⟩
theorem ad4 (base n vb vc:Nat) (v:Value) (xs new:List Value) (w:World) (TB:TypeId) (fB:base<=w.heap.size) (hown:w.ownsRow base 41 15 v n xs) (dw:n<=1073741824)
 (hB:af w vb new.toArray TB) (hnew:new.length=15) (h1:∀u∈new,u.oneCell'=true):
 Calls prog 84 #[v, .int .i64 n, .slice (some ⟨vb,0,none⟩) 1 vc] w fun e w'=>∃g cap,e= .returned (.slice (some ⟨g,0,none⟩) (n+1) cap)/\
  w'.ownsRow base 41 15 (.slice (some ⟨g,0,none⟩) (n+1) cap) (n+1) (xs++new)/\w.grownBy w' v.ownBlock/\ (v.ownBlock=some g\/g=w.heap.size):=by
 obtain⟨i0,hi,hz0,hz1,hz2⟩:=info_parts Tryz.Cc;obtain⟨a,c,rfl,hok⟩:=fT hown;have hB':w.heap[vb]? =some (.cells new.toArray TB (0,0)):=hB;have hsl:(a=none/\n=0/\c=0)\/∃g,a=some ⟨g,0,none⟩:=by
  rcases hown.2 with⟨h,h0⟩|⟨g,cap,cur,h,-⟩
  ·simp only [Value.slice.injEq] at h;exact .inl ⟨h.1,h.2.1,h.2.2⟩
  ·simp only [Value.slice.injEq] at h;exact .inr ⟨g,h.1⟩
 have hcell:∀(j:Nat) (u:Value),new[j]? =some u->w.cell? ((⟨vb,0,none⟩:Addr).add j)=some u:=fun j u hj=>by rw [Addr.add_lit,cell_of_row w vb _ _ _ _ hB'];simpa using hj
 have tj:=ae hcell;have cg:=ae hown;have hnc:=hok.1;have MZ:c<=9223372036854775807:=hok.2.1;have hsk:(1:Nat)*15=new.length:=by omega
 clear hcell hown hB' hB hok;rcases hsl with⟨rfl,rfl,rfl⟩|⟨g0,rfl⟩
 ·go_enter func84,ntmps84
  go_wp2_with ((at_builtin;refine wpList_append_lies _ (by rfl) _ _ 26 (by rfl) base 41 i0 _ 15 200 underlying26 hi hz0 hz1 hz2 rfl (by decide) _ _ xs (by rfl) cg.out ⟨vb,0,none⟩ 1 vc new (by rfl) hsk.symm tj.out h1 (by omega) (by unfold maxLen;omega) (by omega) fB _ rfl ?_;intro g6 bA w6 bF aY ck ug;have gY:=ae bF;have iM:=ae aY;have fC:=ae ck;clear bF aY ck));go_ret;exact⟨g6,bA,rfl,gY.out,iM.out,fC.out⟩
 ·go_enter func84,ntmps84
  go_wp2_with ((at_builtin;refine wpList_append_lies _ (by rfl) _ _ 26 (by rfl) base 41 i0 _ 15 200 underlying26 hi hz0 hz1 hz2 rfl (by decide) _ _ xs (by rfl) cg.out ⟨vb,0,none⟩ 1 vc new (by rfl) hsk.symm tj.out h1 (by omega) (by unfold maxLen;omega) (by omega) fB _ rfl ?_;intro g6 bA w6 bF aY ck ug;have gY:=ae bF;have iM:=ae aY;have fC:=ae ck;clear bF aY ck))
  all_goals (go_ret;exact⟨g6,bA,rfl,gY.out,iM.out,fC.out⟩)
theorem ad5 (base n k vb vc:Nat) (v:Value) (xs new:List Value) (w:World) (TB:TypeId) (fB:base<=w.heap.size) (hown:w.ownsRow base 41 15 v n xs) (dw:n<=1073741824) (hk:k<=n)
 (hB:af w vb new.toArray TB) (hvb:v.ownBlock≠some vb) (hnew:new.length=15) (h1c:∀u∈xs,u.oneCell'=true) (h1:∀u∈new,u.oneCell'=true):
 Calls prog 84 #[v, .int .i64 k, .slice (some ⟨vb,0,none⟩) 1 vc] w fun e w'=>∃g cap,e= .returned (.slice (some ⟨g,0,none⟩) (n+1) cap)/\
  w'.ownsRow base 41 15 (.slice (some ⟨g,0,none⟩) (n+1) cap) (n+1) (xs.take (k*15)++new++xs.drop (k*15))/\w.grownBy w' v.ownBlock/\ (v.ownBlock=some g\/g=w.heap.size):=by
 by_cases hkn:k=n
 ·subst hkn
  have hl:=hown.1;refine(ad4 base k vb vc v xs new w TB fB hown dw hB hnew h1).mono ?_;rintro e w' ⟨g,cap,he,h2,h3,h4⟩;refine⟨g,cap,he,?_,h3,h4⟩;rw [List.take_of_length_le (by omega),List.drop_of_length_le (by omega),List.append_nil];exact h2
 ·obtain⟨g,cap,cur,rfl,hb,hg,hnc,hm,hcs,ht⟩:=uh hown (by omega)
  have ht':cur.toList.take (n*15)=xs:=by simpa using ht
  by_cases hroom:n<cap
  ·refine(ad2 base g n cap k vb vc cur new w TB hb hg hroom hm hcs (by omega) hB (fun e=>hvb (by rw [e];rfl)) hnew (by rw [ht'];exact h1c) h1).mono ?_
   rintro e w' ⟨he,h2,h3⟩;rw [ht'] at h2;exact⟨g,cap,he,h2,h3, .inl rfl⟩
  ·refine(ad3 base g n cap k vb vc cur new w TB fB hg hnc (by omega) dw hcs (by omega) hB hnew (by rw [ht'];exact h1c) h1).mono ?_
   rintro e w' ⟨G,he,h2,h3⟩;rw [ht'] at h2;exact⟨w.heap.size,G,he,h2,⟨h3.os,h3.tape,h3.output,h3.size,fun k hk _=>h3.block k hk⟩, .inr rfl⟩
end Go.Proofs.YtlcebdaghmdkeabGreatDoor
