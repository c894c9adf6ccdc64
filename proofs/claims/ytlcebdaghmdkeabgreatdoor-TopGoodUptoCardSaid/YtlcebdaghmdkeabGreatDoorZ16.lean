import Derived.Test.YtlcebdaghmdkeabGreatDoorZ8
set_option linter.all false
set_option maxRecDepth 100000
set_option maxHeartbeats 64000000
namespace Go.Proofs.YtlcebdaghmdkeabGreatDoor
open Go.Proofs.Tryz
open Go.RowKit
theorem adW (base g n cap k vb vc:Nat) (cur:Array Value) (new:List Value) (w:World) (TB:TypeId) (hb:base<=g) (hg:w.heap[g]? =some (.cells cur 58 (0,0))) (hnc:n<cap) (hm:cap<=maxLen) (hcs:cur.size=cap*2)
 (hk:k<n) (hB:af w vb new.toArray TB) (hvb:vb≠g) (hnew:new.length=2) (h1c:∀u∈cur.toList.take (n*2),u.oneCell'=true) (h1:∀u∈new,u.oneCell'=true):
 Calls prog 143 #[.slice (some ⟨g,0,none⟩) n cap, .int .i64 k, .slice (some ⟨vb,0,none⟩) 1 vc] w fun e w'=>e= .returned (.slice (some ⟨g,0,none⟩) (n+1) cap)/\
  w'.ownsRow base 58 2 (.slice (some ⟨g,0,none⟩) (n+1) cap) (n+1) ((cur.toList.take (n*2)).take (k*2)++new++(cur.toList.take (n*2)).drop (k*2))/\w.grownBy w' (some g):=by
 obtain⟨i0,hi,hz0,hz1,hz2⟩:=info_parts Tryz.DT;have hsz:(prog.info? 58).map (·.size)=some 2:=by rw [hi];simp [hz1]
 have hm2:cap<=9223372036854775807:=hm;have Ak:(n+1)*2<=cap*2:=Nat.mul_le_mul_right _ hnc;have hB':w.heap[vb]? =some (.cells new.toArray TB (0,0)):=hB;have hov:∀lb cb,(callFunc 185 #[.slice (some ⟨vb,0,none⟩) 1 vc, .slice (some ⟨g,(k+1)*2,none⟩) lb cb]).run prog w= .ok (.value (.bool false)) w:=fun lb cb=>by
  rw [run_callFunc_extern func185 (by kernel_rfl) (by kernel_rfl) (by kernel_rfl) (e:=Extern.SlicesOverlaps.overlaps #[37,37] #[4]) (by kernel_rfl),
   Lib.run_overlaps_apart w 37 4 58 underlying37 2 (by intro w;simp [Go.sizeOf,typeInfo,hi,hz1]) ⟨vb,0,none⟩ ⟨g,(k+1)*2,none⟩ 1 vc lb cb hvb TB 58 new.length cur.size (by simp [World.shape?,hB']) (by simp [World.shape?,hg]) (by rw [hcs];omega) (hB.free 0) (hB.free new.length)]
  rfl
 obtain⟨cs,bY⟩:∃cs,cs=(cur.toList.take (n*2)).drop (k*2):=⟨_,rfl⟩;have hcl:cs.length=(n-k)*2:=by rw [bY];simp;omega
 have hcell:∀j v,cs[j]? =some v->w.drew.cell? ((⟨g,k*2,none⟩:Addr).add j)=some v:=fun j v hj=>by
  rw [Addr.add_lit,bY,List.getElem?_drop,List.getElem?_take] at*
  split at hj
  ·show w.cell? _=_
   rw [cell_of_row w g _ cur _ _ hg];simpa using hj
  ·cases hj
 have hlist:=Gj cur.toList new (k*2) (n*2) (by omega) (by rw [hnew,Array.length_toList,hcs];omega) cs bY;simp only at hlist;obtain⟨ay,hl2,aR⟩:=hlist;have oD:∀ty,(Builtin.copy_ #[37,37] ty #[.slice (some ⟨g,(k+1)*2,none⟩) (n-k) (cap-(k+1)), .slice (some ⟨g,k*2,none⟩) (n+1-k) (cap-k)]).run prog w.drew= .ok (goInt (n-k:Nat)) (w.drew.setRow g (cur.toList.take ((k+1)*2)++cs++cur.toList.drop ((k+1)*2+cs.length)).toArray):=fun ty=>
  ni w.drew _ _ ty 58 2 g ((k+1)*2) _ _ ⟨g,k*2,none⟩ _ _ cur 58 cs (n-k) underlying37 hsz (by simp only [Nat.min_def];split<;>omega) hg hcl hcell (by rw [hcl,hcs];omega) (fun v hv=>h1c v (List.mem_of_mem_drop (by rw [<-bY];exact hv)))
 have fM:(k+1)*2=k*2+new.length:=by omega
 obtain⟨c1,hc1⟩:∃c1,c1=cur.toList.take ((k+1)*2)++cs++cur.toList.drop ((k+1)*2+cs.length):=⟨_,rfl⟩;rw [<-hc1] at oD;rw [<-fM,<-hc1] at ay hl2 aR;obtain⟨W1,hW1⟩:∃W1,W1=w.drew.setRow g c1.toArray:=⟨_,rfl⟩;rw [<-hW1] at oD;have hg1:W1.heap[g]? =some (.cells c1.toArray 58 (0,0)):=by rw [hW1];exact setRow_heap w.drew g cur _ 58 _ hg
 have lH:∀ty,(Builtin.copy_ #[37,37] ty #[.slice (some ⟨g,k*2,none⟩) (n+1-k) (cap-k), .slice (some ⟨vb,0,none⟩) 1 vc]).run prog W1= .ok (goInt (1:Nat)) (W1.setRow g (c1.toArray.toList.take (k*2)++new++c1.toArray.toList.drop (k*2+new.length)).toArray):=fun ty=>
  ni W1 _ _ ty 58 2 g (k*2) _ _ ⟨vb,0,none⟩ _ _ c1.toArray 58 new 1 underlying37 hsz (by simp only [Nat.min_def];split<;>omega) hg1 (by omega) (fun j v hj=>by
   rw [Addr.add_lit,hW1,cell_setRow_other _ _ _ _ (by exact hvb)];show w.cell? _=_
   rw [cell_of_row w vb _ _ _ _ hB'];first|done|simpa using hj) (by simp only [List.size_toArray,aR,Array.length_toList,hcs,hnew];omega) h1
 rw [<-fM] at lH;simp only [List.toList_toArray] at lH;have mixed:prog.follows Departure.mixedOrders=true:=by kernel_rfl
 have hw1:IntKind.i64.wrap ((k:Int)+1)=(k:Int)+1:=by rw [IntKind.wrap_i64];omega
 have hz3:¬((k:Int)=(n:Int)):=by omega
 have hb1:(0:Int)<= (k:Int)+1:=by omega
 have htn:((k:Int)+1).toNat=k+1:=by omega
 have hb2:¬(cap=k+1):=by omega
 have hb3:(k:Int)<= (n:Int)+1:=by omega
 have hin:k<=n:=by omega
 have hb4:¬(cap=k):=by omega
 have iW:(W1.setRow g (c1.take (k*2)++new++c1.drop ((k+1)*2)).toArray).ownsRow base 58 2 (.slice (some ⟨g,0,none⟩) (n+1) cap) (n+1) ((cur.toList.take (n*2)).take (k*2)++new++(cur.toList.take (n*2)).drop (k*2)):=by
  refine rH hb (setRow_heap W1 g _ _ 58 _ hg1) hnc hm ?_ ?_
  ·rw [List.size_toArray,hl2,Array.length_toList,hcs]
  ·rw [<-ay,hnew]
   rw [show (n+1)*2=n*2+2 from by omega]
 have iX:w.grownBy (W1.setRow g (c1.take (k*2)++new++c1.drop ((k+1)*2)).toArray) (some g):=by rw [hW1];exact rI (nI (jE w.drew g _)) (jE _ g _)
 obtain⟨W2,hW2⟩:∃W2,W2=W1.setRow g (c1.take (k*2)++new++c1.drop ((k+1)*2)).toArray:=⟨_,rfl⟩;rw [<-hW2] at lH iW iX;have mI:=ae iW;have jF:=ae iX;clear iW iX fM hW2 hW1 hg1 ay hl2 aR hc1 hcell bY hcl hg h1c h1 hcs hB hB';go_enter func143,ntmps143;go_wp2_with (simp only [hov])
 go_region_law_o (refine step_copy_runI rfl _ _ 37 37 rfl _ _ (by simp [Act.eval,Act.put]) (by simp [Act.eval,Act.put]) (oD _) ?_)
 go_wp2_with (at_builtin;refine wpList_copy_runI _ rfl _ _ 37 37 rfl _ _ rfl rfl (lH _) ?_);go_ret;exact⟨rfl,mI.out,jF.out⟩
theorem adX (base g n cap k vb vc:Nat) (cur:Array Value) (new:List Value) (w:World) (TB:TypeId) (fB:base<=w.heap.size) (hg:w.heap[g]? =some (.cells cur 58 (0,0))) (hnc:n<=cap) (hfull:cap<n+1) (dw:n<=1073741824) (hcs:cur.size=cap*2)
 (hk:k<n) (hB:af w vb new.toArray TB) (hnew:new.length=2) (h1c:∀u∈cur.toList.take (n*2),u.oneCell'=true) (h1:∀u∈new,u.oneCell'=true):
 Calls prog 143 #[.slice (some ⟨g,0,none⟩) n cap, .int .i64 k, .slice (some ⟨vb,0,none⟩) 1 vc] w fun e w'=>∃G,e= .returned (.slice (some ⟨w.heap.size,0,none⟩) (n+1) G)/\
  w'.ownsRow base 58 2 (.slice (some ⟨w.heap.size,0,none⟩) (n+1) G) (n+1) ((cur.toList.take (n*2)).take (k*2)++new++(cur.toList.take (n*2)).drop (k*2))/\Ext w w':=by
 obtain⟨i0,hi,hz0,hz1,hz2⟩:=info_parts Tryz.DT;have hsz:(prog.info? 58).map (·.size)=some 2:=by rw [hi];simp [hz1]
 obtain⟨cs,bY⟩:∃cs,cs=cur.toList.take (n*2):=⟨_,rfl⟩;rw [<-bY] at h1c⊢;have rh:n*2<=cap*2:=Nat.mul_le_mul_right _ hnc;have hcl:cs.length=n*2:=by rw [bY];simp;omega
 have vR:g<w.heap.size:=lt_of_block hg;have MT:vb<w.heap.size:=hB.lt;have hB':w.heap[vb]? =some (.cells new.toArray TB (0,0)):=hB;have hcell:∀j v,cs[j]? =some v->w.cell? ⟨g,j,none⟩=some v:=fun j v hj=>by
  rw [cell_of_row w g j cur _ _ hg];rw [bY,List.getElem?_take] at hj
  split at hj
  ·simpa using hj
  ·cases hj
 have hold:(Builtin.firstCells i0.size k (.slice (some ⟨g,0,none⟩) k cap)).run prog w.drew= .ok (cs.take (k*2)).toArray w.drew:=by
  rw [hz1]
  exact run_firstCells_some w.drew 2 k ⟨g,0,none⟩ k cap (cs.take (k*2)) (by rw [List.length_take];omega) (fun j v hj=>by
   rw [Addr.add_lit];rw [List.getElem?_take] at hj
   split at hj
   ·rw [Nat.zero_add];exact hcell j v hj
   ·cases hj)
 have hkk:(n:Int)+1-(k:Int)=((n+1-k:Nat):Int):=by omega
 have hik:k+(n+1-k)=n+1:=by omega
 have lG:∀ty,(Builtin.append_ #[37,3] ty #[.slice (some ⟨g,0,none⟩) k cap, .int .i64 ((n:Int)+1-(k:Int))]).run prog w=
  .ok (.slice (some ⟨w.heap.size,0,none⟩) (n+1) (grownCap w (n+1) cap 58)) (w.drew.alloc (.cells ((cs.take (k*2)).toArray++Builtin.zeroCells (Value.cells (.agg #[.string ⟨#[]⟩, .slice none 0 0])) (n+1-k)++Builtin.zeroCells (Value.cells (.agg #[.string ⟨#[]⟩, .slice none 0 0])) (grownCap w (n+1) cap 58-(n+1))) 58)):=fun ty=>by
  have h:=Lib.run_append_grow_zeros w 37 3 ty 58 i0 _ .i64 .i64 underlying37 underlying3 hi hz0 (some ⟨g,0,none⟩) k cap (cs.take (k*2)) hold (n+1-k) (by omega) (by omega) (by omega) (by omega) (by rw [hz2];omega) (by rw [hz2,hik];exact growslice_fits (by omega) (by omega));rw [hik] at h;rw [hkk];exact h
 obtain⟨G,hG⟩:∃G,G=grownCap w (n+1) cap 58:=⟨_,rfl⟩;have zK:n+1<=G:=by rw [hG];exact grownCap_ge w _ _ _
 have sV:G<=maxLen:=by rw [hG];exact grownCap_le_maxLen w (n+1) cap 58 (by unfold maxLen;omega)
 have MU:G<=9223372036854775807:=sV;rw [<-hG] at lG;obtain⟨z1,oF⟩:∃z1,z1=(Builtin.zeroCells (Value.cells (.agg #[.string ⟨#[]⟩, .slice none 0 0])) (n+1-k)).toList:=⟨_,rfl⟩;obtain⟨z2,oG⟩:∃z2,z2=(Builtin.zeroCells (Value.cells (.agg #[.string ⟨#[]⟩, .slice none 0 0])) (G-(n+1))).toList:=⟨_,rfl⟩;have oH:z1.length=(n+1-k)*2:=by rw [oF,Array.length_toList,size_zeroCells];simp [Value.cells]
 have sW:z2.length=(G-(n+1))*2:=by rw [oG,Array.length_toList,size_zeroCells];simp [Value.cells]
 obtain⟨c0,hc0⟩:∃c0:List Value,c0=cs.take (k*2)++z1++z2:=⟨_,rfl⟩;have hrow:(cs.take (k*2)).toArray++Builtin.zeroCells (Value.cells (.agg #[.string ⟨#[]⟩, .slice none 0 0])) (n+1-k)++Builtin.zeroCells (Value.cells (.agg #[.string ⟨#[]⟩, .slice none 0 0])) (G-(n+1))=c0.toArray:=by apply Array.toList_inj.1;rw [hc0,oF,oG];simp
 rw [hrow] at lG;have hlist:=Gk cs new z1 z2 (k*2) (by omega) (by rw [oH,hnew,hcl];omega);simp only at hlist;rw [<-hc0] at hlist;obtain⟨ay,hl2,aR⟩:=hlist;have hl0:c0.length=G*2:=by rw [hc0,List.length_append,List.length_append,oH,sW,List.length_take,hcl];omega
 obtain⟨c1,hc1⟩:∃c1,c1=c0.take (k*2)++new++c0.drop (k*2+new.length):=⟨_,rfl⟩;rw [<-hc1] at ay hl2 aR;have fM:k*2+new.length=(k+1)*2:=by omega
 have oI:∀W:World,(∀b,W.heap[b]? =(w.drew.alloc (.cells c0.toArray 58)).heap[b]?)->W.heap[w.heap.size]? =some (.cells c0.toArray 58 (0,0)):=fun W h=>by rw [h];show (w.heap.push _)[w.heap.size]? =_;simp
 have zL:∀(W:World),(∀b,W.heap[b]? =(w.drew.alloc (.cells c0.toArray 58)).heap[b]?)->∀ty dc,(Builtin.copy_ #[37,37] ty #[.slice (some ⟨w.heap.size,k*2,none⟩) (n+1-k) dc, .slice (some ⟨vb,0,none⟩) 1 vc]).run prog W= .ok (goInt (1:Nat)) (W.setRow w.heap.size c1.toArray):=fun W hW ty dc=>by
  have h:=ni W 37 37 ty 58 2 w.heap.size (k*2) (n+1-k) dc ⟨vb,0,none⟩ 1 vc c0.toArray 58 new 1 underlying37 hsz (by simp only [Nat.min_def];split<;>omega) (oI W hW) (by omega) (fun j v hj=>by
   have zM:W.heap[vb]? =some (.cells new.toArray TB (0,0)):=by rw [hW];show (w.heap.push _)[vb]? =_;rw [Array.getElem?_push,if_neg (by omega)];exact hB'
   rw [Addr.add_lit,cell_of_row W vb _ _ _ _ zM];simpa using hj) (by rw [List.size_toArray,hl0,hnew];omega) h1
  simp only [List.toList_toArray] at h;rw [<-hc1] at h;exact h
 have MV:g≠w.heap.size:=by omega
 have oJ:∀(W:World),W.heap[w.heap.size]? =some (.cells c1.toArray 58 (0,0))-> (∀b,b<w.heap.size->W.heap[b]? =w.heap[b]?)->∀ty dc sc,(Builtin.copy_ #[37,37] ty #[.slice (some ⟨w.heap.size,(k+1)*2,none⟩) (n-k) dc, .slice (some ⟨g,k*2,none⟩) (n-k) sc]).run prog W= .ok (goInt (n-k:Nat)) (W.setRow w.heap.size (c1.take (k*2+new.length)++cs.drop (k*2)++c1.drop (k*2+new.length+(cs.drop (k*2)).length)).toArray):=fun W hW hO ty dc sc=>by
  have h:=ni W 37 37 ty 58 2 w.heap.size ((k+1)*2) (n-k) dc ⟨g,k*2,none⟩ (n-k) sc c1.toArray 58 (cs.drop (k*2)) (n-k) underlying37 hsz (by simp) hW (by rw [List.length_drop,hcl];omega) (fun j v hj=>by
   have hbg:W.heap[g]? =some (.cells cur 58 (0,0)):=by rw [hO g vR];exact hg
   rw [List.getElem?_drop] at hj;rw [Addr.add_lit,cell_of_row W g _ _ _ _ hbg,<-cell_of_row w g _ _ _ _ hg]
   exact hcell _ v hj) (by rw [List.size_toArray,aR,hl0,List.length_drop,hcl];omega) (fun v hv=>h1c v (List.mem_of_mem_drop hv))
  simp only [List.toList_toArray] at h;rw [fM];exact h
 obtain⟨c2,hc2⟩:∃c2,c2=c1.take (k*2+new.length)++cs.drop (k*2)++c1.drop (k*2+new.length+(cs.drop (k*2)).length):=⟨_,rfl⟩;rw [<-hc2] at oJ ay hl2;have hfin:∀W:World,W.heap[w.heap.size]? =some (.cells c1.toArray 58 (0,0))-> (W.setRow w.heap.size c2.toArray).ownsRow base 58 2 (.slice (some ⟨w.heap.size,0,none⟩) (n+1) G) (n+1) (cs.take (k*2)++new++cs.drop (k*2)):=fun W hW=>by
  refine rH fB (setRow_heap W w.heap.size _ _ 58 _ hW) zK sV ?_ ?_
  ·rw [List.size_toArray,hl2,hl0]
  ·rw [<-ay,hcl,hnew]
   rw [show (n+1)*2=n*2+2 from by omega]
 have sX:∀W:World,W.heap[w.heap.size]? =some (.cells c0.toArray 58 (0,0))-> (W.setRow w.heap.size c1.toArray).heap[w.heap.size]? =some (.cells c1.toArray 58 (0,0)):=fun W hW=>setRow_heap W w.heap.size _ _ 58 _ hW;have mixed:prog.follows Departure.mixedOrders=true:=by kernel_rfl
 have hw1:IntKind.i64.wrap ((k:Int)+1)=(k:Int)+1:=by rw [IntKind.wrap_i64];omega
 have hz3:¬((k:Int)=(n:Int)):=by omega
 have gJ:(cap:Int)<(n:Int)+1:=by omega
 have hb1:(0:Int)<= (k:Int)+1:=by omega
 have hin:k<=n:=by omega
 have htn:((k:Int)+1).toNat=k+1:=by omega
 have hb3:(k:Int)<= (n:Int):=by omega
 have MW:¬(G=k):=by omega
 have MX:¬(G=k+1):=by omega
 have lQ:¬(cap=k):=by omega
 have hE:∀b:Nat,((w.alloc (.cells c0.toArray 58)).drew).heap[b]? =(w.drew.alloc (.cells c0.toArray 58)).heap[b]? :=fun _=>rfl;have oK:(((w.alloc (.cells c0.toArray 58)).drew.setRow w.heap.size c1.toArray).drew).heap[w.heap.size]? =some (.cells c1.toArray 58 (0,0)):=sX _ (oI _ hE);have sY:∀b,b<w.heap.size-> (((w.alloc (.cells c0.toArray 58)).drew.setRow w.heap.size c1.toArray).drew).heap[b]? =w.heap[b]? :=fun b hb=>by show ((w.drew.alloc (.cells c0.toArray 58)).setRow w.heap.size c1.toArray).heap[b]? =_;rw [setRow_other _ _ _ _ (by omega)];show (w.heap.push _)[b]? =_;rw [Array.getElem?_push,if_neg (by omega)]
 have aV:=oJ _ oK sY;have sZ:=hfin _ oK;have td:Ext w ((((w.alloc (.cells c0.toArray 58)).drew.setRow w.heap.size c1.toArray).drew).setRow w.heap.size c2.toArray):=by refine Ext.grown (row:=some w.heap.size) (b:=w.alloc (.cells c0.toArray 58)) ((Ext.refl w).alloc _) ?_ (by simp);exact rI (b:=(w.alloc (.cells c0.toArray 58)).drew.setRow w.heap.size c1.toArray) (nI (jE (w.alloc (.cells c0.toArray 58)).drew w.heap.size c1.toArray)) (nI (jE (((w.alloc (.cells c0.toArray 58)).drew.setRow w.heap.size c1.toArray).drew) w.heap.size c2.toArray))
 have pE:=ae sZ;have zN:=ae td;clear hfin sZ td oJ oK sY ay hl2 aR hc1 hc2 hcell bY hcl hg h1c h1 hcs hB hB' fM hold hkk hik oF oG oH sW hc0 hrow hl0 hG rh oI sX hi hz0 hz1 hz2 hsz;go_enter func143,ntmps143
 go_wp2_with (first
  |(at_builtin;refine Lib.wpList_append_run _ rfl _ _ _ _ rfl _ _ rfl rfl _ _ (lG _) ?_)
  |(at_builtin;refine wpList_copy_runI _ rfl _ _ 37 37 rfl _ _ rfl rfl (zL _ hE _ _) ?_))
 go_region_law_o (refine step_copy_runI rfl _ _ 37 37 rfl (.slice (some ⟨w.heap.size,(k+1)*2,none⟩) (n-k) (G-(k+1))) (.slice (some ⟨g,k*2,none⟩) (n-k) (cap-k)) (by simp [Act.eval,Act.put]) (by simp [Act.eval,Act.put]) (aV _ _ _) ?_)
 go_wp2;go_ret;exact⟨G,rfl,pE.out,zN.out⟩
theorem adY (base n vb vc:Nat) (v:Value) (xs new:List Value) (w:World) (TB:TypeId) (fB:base<=w.heap.size) (hown:w.ownsRow base 58 2 v n xs) (dw:n<=1073741824)
 (hB:af w vb new.toArray TB) (hnew:new.length=2) (h1:∀u∈new,u.oneCell'=true):
 Calls prog 143 #[v, .int .i64 n, .slice (some ⟨vb,0,none⟩) 1 vc] w fun e w'=>∃g cap,e= .returned (.slice (some ⟨g,0,none⟩) (n+1) cap)/\
  w'.ownsRow base 58 2 (.slice (some ⟨g,0,none⟩) (n+1) cap) (n+1) (xs++new)/\w.grownBy w' v.ownBlock/\ (v.ownBlock=some g\/g=w.heap.size):=by
 obtain⟨i0,hi,hz0,hz1,hz2⟩:=info_parts Tryz.DT;obtain⟨a,c,rfl,hok⟩:=fT hown;have hB':w.heap[vb]? =some (.cells new.toArray TB (0,0)):=hB;have hsl:(a=none/\n=0/\c=0)\/∃g,a=some ⟨g,0,none⟩:=by
  rcases hown.2 with⟨h,h0⟩|⟨g,cap,cur,h,-⟩
  ·simp only [Value.slice.injEq] at h;exact .inl ⟨h.1,h.2.1,h.2.2⟩
  ·simp only [Value.slice.injEq] at h;exact .inr ⟨g,h.1⟩
 have hcell:∀(j:Nat) (u:Value),new[j]? =some u->w.cell? ((⟨vb,0,none⟩:Addr).add j)=some u:=fun j u hj=>by rw [Addr.add_lit,cell_of_row w vb _ _ _ _ hB'];simpa using hj
 have tj:=ae hcell;have cg:=ae hown;have hnc:=hok.1;have MZ:c<=9223372036854775807:=hok.2.1;have hsk:(1:Nat)*2=new.length:=by omega
 clear hcell hown hB' hB hok;rcases hsl with⟨rfl,rfl,rfl⟩|⟨g0,rfl⟩
 ·go_enter func143,ntmps143
  go_wp2_with ((at_builtin;refine wpList_append_lies _ (by rfl) _ _ 37 (by rfl) base 58 i0 _ 2 40 underlying37 hi hz0 hz1 hz2 rfl (by decide) _ _ xs (by rfl) cg.out ⟨vb,0,none⟩ 1 vc new (by rfl) hsk.symm tj.out h1 (by omega) (by unfold maxLen;omega) (by omega) fB _ rfl ?_;intro g6 bA w6 bF aY ck ug;have gY:=ae bF;have iM:=ae aY;have fC:=ae ck;clear bF aY ck));go_ret;exact⟨g6,bA,rfl,gY.out,iM.out,fC.out⟩
 ·go_enter func143,ntmps143
  go_wp2_with ((at_builtin;refine wpList_append_lies _ (by rfl) _ _ 37 (by rfl) base 58 i0 _ 2 40 underlying37 hi hz0 hz1 hz2 rfl (by decide) _ _ xs (by rfl) cg.out ⟨vb,0,none⟩ 1 vc new (by rfl) hsk.symm tj.out h1 (by omega) (by unfold maxLen;omega) (by omega) fB _ rfl ?_;intro g6 bA w6 bF aY ck ug;have gY:=ae bF;have iM:=ae aY;have fC:=ae ck;clear bF aY ck))
  all_goals (go_ret;exact⟨g6,bA,rfl,gY.out,iM.out,fC.out⟩)
theorem Y2 (base n k vb vc:Nat) (v:Value) (xs new:List Value) (w:World) (TB:TypeId) (fB:base<=w.heap.size) (hown:w.ownsRow base 58 2 v n xs) (dw:n<=1073741824) (hk:k<=n)
 (hB:af w vb new.toArray TB) (hvb:v.ownBlock≠some vb) (hnew:new.length=2) (h1c:∀u∈xs,u.oneCell'=true) (h1:∀u∈new,u.oneCell'=true):
 Calls prog 143 #[v, .int .i64 k, .slice (some ⟨vb,0,none⟩) 1 vc] w fun e w'=>∃g cap,e= .returned (.slice (some ⟨g,0,none⟩) (n+1) cap)/\
  w'.ownsRow base 58 2 (.slice (some ⟨g,0,none⟩) (n+1) cap) (n+1) (xs.take (k*2)++new++xs.drop (k*2))/\w.grownBy w' v.ownBlock/\ (v.ownBlock=some g\/g=w.heap.size):=by
 by_cases hkn:k=n
 ·subst hkn
  have hl:=hown.1;refine(adY base k vb vc v xs new w TB fB hown dw hB hnew h1).mono ?_;rintro e w' ⟨g,cap,he,h2,h3,h4⟩;refine⟨g,cap,he,?_,h3,h4⟩;rw [List.take_of_length_le (by omega),List.drop_of_length_le (by omega),List.append_nil];exact h2
 ·obtain⟨g,cap,cur,rfl,hb,hg,hnc,hm,hcs,ht⟩:=uh hown (by omega)
  have ht':cur.toList.take (n*2)=xs:=by simpa using ht
  by_cases hroom:n<cap
  ·refine(adW base g n cap k vb vc cur new w TB hb hg hroom hm hcs (by omega) hB (fun e=>hvb (by rw [e];rfl)) hnew (by rw [ht'];exact h1c) h1).mono ?_
   rintro e w' ⟨he,h2,h3⟩;rw [ht'] at h2;exact⟨g,cap,he,h2,h3, .inl rfl⟩
  ·refine(adX base g n cap k vb vc cur new w TB fB hg hnc (by omega) dw hcs (by omega) hB hnew (by rw [ht'];exact h1c) h1).mono ?_
   rintro e w' ⟨G,he,h2,h3⟩;rw [ht'] at h2;exact⟨w.heap.size,G,he,h2,⟨h3.os,h3.tape,h3.output,h3.size,fun k hk _=>h3.block k hk⟩, .inr rfl⟩
end Go.Proofs.YtlcebdaghmdkeabGreatDoor
namespace Go.Proofs.YtlcebdaghmdkeabGreatDoor
open Go.Proofs.Tryz
open Go.RowKit
attribute [local go_sem↓] Go.wp_at_zero Go.wp_at_succ
theorem MO (x:V) (ka:au) (kc:Nat) (la:au) (lc:Nat) (S:az) (key:ah) (w:World) (hsz:x.size<=1073741824) (hin:x.In w S ka kc la lc):
 Calls prog 187 #[x.val ka kc la lc, .string key] w fun e w'=>e= .returned (.tuple #[.string (x.txt key).1, .bool (x.txt key).2])/\Ext w w':=by
 have aJ:=ae hin;unfold V.txt;obtain⟨z,hz⟩:∃z,x.iH key=z:=⟨_,rfl⟩;obtain⟨b3,hb3⟩:∃b,(z.k==3)=b:=⟨_,rfl⟩;have Hz:=ae hz;rw [hz,hb3];clear hin hz
 cases hm:(x.member key).isSome with
 |true=>
  have Hm:=ae hm;clear hm;go_enter func187,ntmps187;go_upto_region 1 with fail
  refine aI (R:=fun wx=>aD wx w.heap.size x ka kc la lc/\Ext w wx) ⟨aj,Xt⟩ ?_;rintro wa ⟨ag,aH⟩;obtain⟨hc0,aw,hl0⟩:=ag.see;go_wp2_with fail;(refine(qC x key ka kc la lc S _ hsz (aJ.out.ext Xt)).mono ?_);rw [Hz.out,Hm.out];rintro e w1 ⟨iR,iT,iU,iV,rfl,eJ,h1⟩;have hx1:Ext w w1:=Xt;clear h1 eJ ag hc0 aw hl0 aH;go_upto_region 2 with fail
  refine aI (R:=fun wx=>aD wx w1.heap.size z iR iT iU iV/\Ext w wx) ⟨aj,Xt⟩ ?_;clear hx1;rintro wb ⟨hB,hx⟩;have aq:∀w',Ext wb w'-> (w'.cell? ⟨w1.heap.size,0,none⟩=some (.int .i64 z.k)/\w'.cell? ⟨w1.heap.size,2,none⟩=some (.string z.s)):=fun w' e=>⟨e.cell (hB.cells 0),e.cell (hB.cells 2)⟩;refine lO aq (by kernel_rfl) (aq _ Xt) (fun hHeld=> ?_);refine aB 0 (h:= ?_);refine aB 1 (h:= ?_);refine aB 2 (h:= ?_);refine aB 3 (h:= ?_);refine aB 4 (h:= ?_);refine aB 5 (h:= ?_);refine aB 6 (h:= ?_);refine aB 7 (h:= ?_);refine aB 8 (h:= ?_);refine aB 9 (h:= ?_);(try simp only [rl]);refine wpAnyH_done (by kernel_rfl) ?_ _;go_wp2_with fail;go_ret2;exact⟨rfl,Xt⟩
 |false=>
  have Hm:=ae hm;clear hm;go_enter func187,ntmps187;go_upto_region 1 with fail
  refine aI (R:=fun wx=>aD wx w.heap.size x ka kc la lc/\Ext w wx) ⟨aj,Xt⟩ ?_;rintro wa ⟨ag,aH⟩;obtain⟨hc0,aw,hl0⟩:=ag.see;go_wp2_with fail;(refine(qC x key ka kc la lc S _ hsz (aJ.out.ext Xt)).mono ?_);rw [Hz.out,Hm.out];rintro e w1 ⟨iR,iT,iU,iV,rfl,eJ,h1⟩;have hx1:Ext w w1:=Xt;clear h1 eJ ag hc0 aw hl0 aH;go_upto_region 2 with fail
  refine aI (R:=fun wx=>aD wx w1.heap.size z iR iT iU iV/\Ext w wx) ⟨aj,Xt⟩ ?_;clear hx1;rintro wb ⟨hB,hx⟩;have aq:∀w',Ext wb w'-> (w'.cell? ⟨w1.heap.size,0,none⟩=some (.int .i64 z.k)/\w'.cell? ⟨w1.heap.size,2,none⟩=some (.string z.s)):=fun w' e=>⟨e.cell (hB.cells 0),e.cell (hB.cells 2)⟩;refine lO aq (by kernel_rfl) (aq _ Xt) (fun hHeld=> ?_);refine aB 0 (h:= ?_);refine aB 1 (h:= ?_);refine aB 2 (h:= ?_);refine aB 3 (h:= ?_);refine bV 4 (h:= ?_);refine bV 5 (h:= ?_);refine bV 6 (h:= ?_);refine aB 7 (h:= ?_);refine aB 8 (h:= ?_);refine aB 9 (h:= ?_);(try simp only [rl]);refine wpAnyH_done (by kernel_rfl) ?_ _;go_wp2_with fail;go_ret2;exact⟨rfl,Xt⟩
def rN (w:World):Prop:=∀i,i<7->w.cell? ⟨1,i,none⟩=some (.string (qz i))
theorem rN.ext {w w':World} (h:rN w) (e:Ext w w'):rN w':=fun i hi=>e.cell (h i hi)
def ac8 (S:az) (x:V) (w:World) (e:Ending) (w':World):Prop:=
 ∃(o:bM) (ka:au) (kc:Nat) (la:au) (lc:Nat) (b:Bool),e= .returned (.tuple #[.agg #[.int .i64 o.k, .string o.p, .string o.f, .int .i64 (o.v).k, .int .i64 (o.v).n, .string (o.v).s, .slice ka (o.v).keys.length kc, .slice la (o.v).l.length lc], .bool b])/\o.v.In w' (aW S w) ka kc la lc/\x.iQ=(if b=true then some o else none)/\Ext w w'
theorem ac9 {s:ah} {k:Nat} (hk:1<=k) (h:qz k=s):oC s true (k+1)=k:=by unfold oC;rw [if_pos ⟨hk,rfl,h⟩]
theorem TX {s:ah} {ok:Bool} {k:Nat} (h:ok=false\/qz k≠s):oC s ok (k+1)=oC s ok k:=by
 rw [oC,if_neg];rintro⟨_,h1,h2⟩;rcases h with h|h
 ·rw [h] at h1;cases h1
 ·exact h h2
section
variable {x:V}
theorem ada (h:x.kd=0):x.iQ=none:=by unfold V.iQ;rw [if_pos h]
theorem adb (h:x.kd≠0) (hp:(x.txt nz).2=false):x.iQ=none:=by unfold V.iQ;rw [if_neg h,if_pos hp]
theorem ade (h:x.kd=1\/x.kd=3\/x.kd=6) (hp:(x.txt nz).2=true):x.iQ=if(x.member xN).isSome=true then some ⟨x.kd,(x.txt nz).1,⟨#[]⟩,x.iH xN⟩ else none:=by
 unfold V.iQ;rw [if_neg (by omega),if_neg (by rw [hp];decide),if_pos h]
theorem adf (h:x.kd=4\/x.kd=5) (hp:(x.txt nz).2=true):x.iQ=if(x.txt vP).2=true then some ⟨x.kd,(x.txt nz).1,(x.txt vP).1,V.zero⟩ else none:=by
 unfold V.iQ;rw [if_neg (by omega),if_neg (by rw [hp];decide),if_neg (by omega),if_pos h]
theorem adg (h:x.kd=2) (hp:(x.txt nz).2=true):x.iQ=some ⟨x.kd,(x.txt nz).1,⟨#[]⟩,V.zero⟩:=by
 unfold V.iQ;rw [if_neg (by omega),if_neg (by rw [hp];decide),if_neg (by omega),if_neg (by omega)]
end
theorem adh (x:V) (ka:au) (kc:Nat) (la:au) (lc:Nat) (S:az) (w:World) (hsz:x.size<=1073741824) (eF:rN w) (hin:x.In w S ka kc la lc):
 Calls prog 145 #[x.val ka kc la lc] w (ac8 S x w):=by
 obtain⟨SS,br⟩:∃SS:az,SS=fun b=>(S b/\b<w.heap.size)\/w.heap.size+3<=b:=⟨_,rfl⟩
 have aJ:=ae (show x.In w SS ka kc la lc from hin.mono fun b h hl=>by rw [br];exact .inl ⟨h,hl⟩);have ct:=ae (show∀b,w.heap.size+3<=b->SS b from fun b h=>by rw [br];exact .inr h);have cP:=ae (show∀b,SS b->b≠w.heap.size+1/\b≠w.heap.size+2 from fun b h=>by rw [br] at h;rcases h with h|h<;>omega);have bI:=ae (show∀b,SS b->aW S w b from fun b h=>by rw [br] at h;exact h.elim (fun h=> .inl h.1) (fun h=> .inr (by omega)));clear br hin;obtain⟨s,hs⟩:∃s,(x.txt En).1=s:=⟨_,rfl⟩;obtain⟨ok,hok⟩:∃b,(x.txt En).2=b:=⟨_,rfl⟩;obtain⟨p,hp⟩:∃p,(x.txt nz).1=p:=⟨_,rfl⟩;obtain⟨okp,TY⟩:∃b,(x.txt nz).2=b:=⟨_,rfl⟩;have Hs:=ae hs;have dN:=ae hok;have Hp:=ae hp;have Eo:=ae TY;have MN:=ae (show x.kd=oC s ok 7 by unfold V.kd;rw [hs,hok]);have ij:=ae eF;clear hs hok hp TY eF;go_enter func145,ntmps145;go_upto_region 2 with fail
 refine aI (R:=fun wx=>aD wx w.heap.size x ka kc la lc/\af wx (w.heap.size+1) #[.int .i64 0, .string ⟨#[]⟩, .string ⟨#[]⟩, .int .i64 0, .int .i64 0, .string ⟨#[]⟩, .slice none 0 0, .slice none 0 0] 198/\af wx (w.heap.size+2) #[.int .i64 0, .string ⟨#[]⟩, .string ⟨#[]⟩, .int .i64 0, .int .i64 0, .string ⟨#[]⟩, .slice none 0 0, .slice none 0 0] 198/\Ext w wx) ⟨aj,aj,aj,Xt⟩ ?_;rintro wa ⟨ag,ai,ak,aH⟩;have hz2:=ak.lt;obtain⟨hc0,aw,hl0⟩:=ag.see;go_wp2_with fail;(refine(MO x ka kc la lc SS En _ hsz (aJ.out.ext Xt)).mono ?_);rw [Hs.out,dN.out];rintro e w1 ⟨rfl,h1⟩;have ag:=af.ext (w':=w1) Xt ag;have ai:=af.ext (w':=w1) Xt ai;have ak:=af.ext (w':=w1) Xt ak;have hx1:Ext w w1:=Xt;clear h1 aH hc0 aw hl0;go_wp2_with fail
 go_loopg [7] 6 (fun g i wr=>∃k:Nat,1<=k/\k<=7/\i= .int .i64 k/\g=7-k/\aD wr w.heap.size x ka kc la lc/\af wr (w.heap.size+1) #[.int .i64 0, .string ⟨#[]⟩, .string ⟨#[]⟩, .int .i64 0, .int .i64 0, .string ⟨#[]⟩, .slice none 0 0, .slice none 0 0] 198/\af wr (w.heap.size+2) #[.int .i64 (oC s ok k), .string ⟨#[]⟩, .string ⟨#[]⟩, .int .i64 0, .int .i64 0, .string ⟨#[]⟩, .slice none 0 0, .slice none 0 0] 198/\Ext w wr)
 case atStart=>exact⟨1,by omega,by omega,rfl,rfl,ag,ai,by rw [adi];exact ak,hx1⟩
 case round=>
  clear ag ai ak hx1;obtain⟨k,hk1,hk7,rfl,rfl,ag,ai,ak,hx⟩:=hrel;obtain⟨hc2,hf2,hl2⟩:=ak.see;by_cases hlt:k<7
  ·have hle:(k:Int)<=6:=by omega
   have gS:(0:Int)<= (k:Int):=by omega
   have aho:(k:Int)<7:=by omega
   have e0:=hx.cell (ij.out k hlt);obtain⟨nk,rh⟩:∃q,qz k=q:=⟨_,rfl⟩;have Ek:=ae rh;rw [rh] at e0;clear rh;by_cases hq:nk=s
   ·have yC:(nk.toList==s.toList)=true:=by rw [hq];simp
    cases ok with
    |true=>
     have Hk:=ae (ac9 hk1 (Ek.out.trans hq));clear hq;go_wp2_with fail;go_roundg (7-(k+1))
     case measure=>omega
     case rel=>exact⟨k+1,by omega,by omega,by go_num,rfl,aj,aj,by rw [Hk.out];exact aj,Xt⟩
    |false=>
     have Hk:=ae (TX (s:=s) (ok:=false) (k:=k) (.inl rfl));clear hq;go_wp2_with fail;go_roundg (7-(k+1))
     case measure=>omega
     case rel=>exact⟨k+1,by omega,by omega,by go_num,rfl,aj,aj,by rw [Hk.out];exact aj,Xt⟩
   ·have yC:(nk.toList==s.toList)=false:=by simpa using fun h=>hq (kV h)
    have Hk:=ae (TX (ok:=ok) (k:=k) (.inr (fun h=>hq (Ek.out.symm.trans h))));clear hq;go_wp2_with fail;go_roundg (7-(k+1))
    case measure=>omega
    case rel=>exact⟨k+1,by omega,by omega,by go_num,rfl,aj,aj,by rw [Hk.out];exact aj,Xt⟩
  ·obtain rfl:k=7:=by omega
   rw [<-MN.out] at ak;obtain⟨kd,Ay⟩:∃q,x.kd=q:=⟨_,rfl⟩;have adj:=adk s ok 7;rw [<-MN.out,Ay] at adj;rw [Ay] at ak;have Hq:=ae Ay;clear MN Ay hc2 hf2 hl2;obtain⟨hc1,aA,ay⟩:=ai.see;obtain⟨hc2,hf2,hl2⟩:=ak.see;by_cases h0:kd=0
   ·have b0:(kd==0)=true:=by simpa using h0
    have Hr:=ae (ada (Hq.out.trans h0));clear h0;go_wp2_with fail;refine aF (h:= ?_);exact⟨⟨kd,⟨#[]⟩,⟨#[]⟩,V.zero⟩,none,0,none,0,false,rfl,V.mJ _ _,Hr.out,Xt⟩
   have b0:(kd==0)=false:=by simpa using h0
   have H0:=ae h0;clear h0;obtain⟨hc0,aw,hl0⟩:=ag.see;go_wp2_with fail;(refine(MO x ka kc la lc SS nz _ hsz (aJ.out.ext Xt)).mono ?_);rw [Hp.out,Eo.out];rintro e w2 ⟨rfl,h2⟩;have ag:=af.ext (w':=w2) Xt ag;have ai:=af.ext (w':=w2) Xt ai;have ak:=af.ext (w':=w2) Xt ak;have hx2:Ext w w2:=Xt;clear h2 hx hc0 aw hl0 hc1 aA ay hc2 hf2 hl2;obtain⟨hc2,hf2,hl2⟩:=ak.see;go_upto_region 11 with fail
   refine aI (R:=fun wx=>aD wx w.heap.size x ka kc la lc/\af wx (w.heap.size+1) #[.int .i64 0, .string ⟨#[]⟩, .string ⟨#[]⟩, .int .i64 0, .int .i64 0, .string ⟨#[]⟩, .slice none 0 0, .slice none 0 0] 198/\af wx (w.heap.size+2) #[.int .i64 kd, .string p, .string ⟨#[]⟩, .int .i64 0, .int .i64 0, .string ⟨#[]⟩, .slice none 0 0, .slice none 0 0] 198/\Ext w wx) ⟨aj,aj,aj,Xt⟩ ?_;clear ag ai ak hx2 hc2 hf2 hl2;rintro wb ⟨ag,ai,ak,hx⟩;have hz3:=ak.lt;obtain⟨hc0,aw,hl0⟩:=ag.see;obtain⟨hc1,aA,ay⟩:=ai.see;obtain⟨hc2,hf2,hl2⟩:=ak.see
   cases okp with
   |false=>
    have Hr:=ae (adb (by rw [Hq.out];exact H0.out) Eo.out);go_wp2_with fail;refine aF (h:= ?_);exact⟨⟨kd,p,⟨#[]⟩,V.zero⟩,none,0,none,0,false,rfl,V.mJ _ _,Hr.out,Xt⟩
   |true=>
    by_cases hv:kd=1\/kd=3\/kd=6
    ·obtain⟨z,hz⟩:∃z,x.iH xN=z:=⟨_,rfl⟩
     obtain⟨ms,vA⟩:∃b,(x.member xN).isSome=b:=⟨_,rfl⟩;have Hr:=ae (show x.iQ=if ms=true then some ⟨kd,p,⟨#[]⟩,z⟩ else none by rw [ade (by rw [Hq.out];exact hv) Eo.out,Hq.out,Hp.out,hz,vA]);have Hz:=ae hz;have uS:=ae vA;clear hz vA;rcases hv with rfl|rfl|rfl
     all_goals
      go_wp2_with fail;(refine(qC x xN ka kc la lc SS _ hsz (aJ.out.ext Xt)).mono ?_);rw [Hz.out,uS.out];rintro e w3 ⟨bh,bj,bk,bn,rfl,bf,h3⟩;have ai:=af.ext (w':=w3) Xt ai;have ak:=af.ext (w':=w3) Xt ak;have hx3:Ext w w3:=Xt;have bg:=ae (show z.In w3 SS bh bj bk bn from bf.mono fun q h _=>h.elim id (fun h=>ct.out q (by(try simp at h);omega)));clear h3 hx bf ag hc0 aw hl0 hc1 aA ay hc2 hf2 hl2;obtain⟨hc1,aA,ay⟩:=ai.see;obtain⟨hc2,hf2,hl2⟩:=ak.see;go_wp2_with fail;refine aF (h:= ?_);exact⟨⟨_,p,⟨#[]⟩,z⟩,bh,bj,bk,bn,ms,rfl,bg.out.keep (Held.kept (Held.mono (a:=w3) (S:=fun b=>b≠w.heap.size+1/\b≠w.heap.size+2) aC cP.out)) (fun b hb _=>bI.out b hb),Hr.out,Xt⟩
    ·by_cases hf:kd=4\/kd=5
     ·obtain⟨f,MP⟩:∃f,(x.txt vP).1=f:=⟨_,rfl⟩
      obtain⟨T3,MQ⟩:∃b,(x.txt vP).2=b:=⟨_,rfl⟩;have Hr:=ae (show x.iQ=if T3=true then some ⟨kd,p,f,V.zero⟩ else none by rw [adf (by rw [Hq.out];exact hf) Eo.out,Hq.out,Hp.out,MP,MQ]);have Hff:=ae MP;have adl:=ae MQ;clear MP MQ hv;rcases hf with rfl|rfl
      all_goals
       go_wp2_with fail;(refine(MO x ka kc la lc SS vP _ hsz (aJ.out.ext Xt)).mono ?_);rw [Hff.out,adl.out];rintro e w3 ⟨rfl,h3⟩;have ai:=af.ext (w':=w3) Xt ai;have ak:=af.ext (w':=w3) Xt ak;have hx3:Ext w w3:=Xt;clear h3 hx ag hc0 aw hl0 hc1 aA ay hc2 hf2 hl2;obtain⟨hc1,aA,ay⟩:=ai.see;obtain⟨hc2,hf2,hl2⟩:=ak.see;go_wp2_with fail;refine aF (h:= ?_);exact⟨⟨_,p,f,V.zero⟩,none,0,none,0,T3,rfl,V.mJ _ _,Hr.out,Xt⟩
     ·have h2:kd=2:=by have:=H0.out;omega
      have Hr:=ae (show x.iQ=some ⟨kd,p,⟨#[]⟩,V.zero⟩ by rw [adg (by rw [Hq.out];exact h2) Eo.out,Hq.out,Hp.out]);subst h2;clear hv hf;go_wp2_with fail;refine aF (h:= ?_);exact⟨⟨_,p,⟨#[]⟩,V.zero⟩,none,0,none,0,true,rfl,V.mJ _ _,Hr.out,Xt⟩
end Go.Proofs.YtlcebdaghmdkeabGreatDoor
