import Derived.Test.YtlcebdaghmdkeaaGreatDoorZ22
set_option linter.all false
set_option maxRecDepth 100000
set_option maxHeartbeats 64000000
namespace Go.Proofs.YtlcebdaghmdkeaaGreatDoor
open Go.Proofs.Tryz
open Go.RowKit
theorem ad1 (base g n cap k vb vc:Nat) (cur:Array Value) (new:List Value) (w:World) (TB:TypeId) (hb:base<=g) (hg:w.heap[g]? =some (.cells cur 46 (0,0))) (hnc:n<cap) (hm:cap<=maxLen) (hcs:cur.size=cap*15)
 (hk:k<n) (hB:af w vb new.toArray TB) (hvb:vb≠g) (hnew:new.length=15) (h1c:∀u∈cur.toList.take (n*15),u.oneCell'=true) (h1:∀u∈new,u.oneCell'=true):
 Calls prog 46 #[.slice (some ⟨g,0,none⟩) n cap, .int .i64 k, .slice (some ⟨vb,0,none⟩) 1 vc] w fun e w'=>e= .returned (.slice (some ⟨g,0,none⟩) (n+1) cap)/\
  w'.ownsRow base 46 15 (.slice (some ⟨g,0,none⟩) (n+1) cap) (n+1) ((cur.toList.take (n*15)).take (k*15)++new++(cur.toList.take (n*15)).drop (k*15))/\w.grownBy w' (some g):=by
 obtain⟨i0,hi,hz0,hz1,hz2⟩:=info_parts Tryz.BX;have hsz:(prog.info? 46).map (·.size)=some 15:=by rw [hi];simp [hz1]
 have hm2:cap<=9223372036854775807:=hm;have zZ:(n+1)*15<=cap*15:=Nat.mul_le_mul_right _ hnc;have hB':w.heap[vb]? =some (.cells new.toArray TB (0,0)):=hB;have hov:∀lb cb,(callFunc 67 #[.slice (some ⟨vb,0,none⟩) 1 vc, .slice (some ⟨g,(k+1)*15,none⟩) lb cb]).run prog w= .ok (.value (.bool false)) w:=fun lb cb=>by
  rw [run_callFunc_extern func67 (by kernel_rfl) (by kernel_rfl) (by kernel_rfl) (e:=Extern.SlicesOverlaps.overlaps #[29,29] #[4]) (by kernel_rfl),
   Lib.run_overlaps_apart w 29 4 46 underlying29 15 (by intro w;simp [Go.sizeOf,typeInfo,hi,hz1]) ⟨vb,0,none⟩ ⟨g,(k+1)*15,none⟩ 1 vc lb cb hvb TB 46 new.length cur.size (by simp [World.shape?,hB']) (by simp [World.shape?,hg]) (by rw [hcs];omega) (hB.free 0) (hB.free new.length)]
  rfl
 obtain⟨cs,cg⟩:∃cs,cs=(cur.toList.take (n*15)).drop (k*15):=⟨_,rfl⟩;have hcl:cs.length=(n-k)*15:=by rw [cg];simp;omega
 have hcell:∀j v,cs[j]? =some v->w.drew.cell? ((⟨g,k*15,none⟩:Addr).add j)=some v:=fun j v hj=>by
  rw [Addr.add_lit,cg,List.getElem?_drop,List.getElem?_take] at*
  split at hj
  ·show w.cell? _=_
   rw [cell_of_row w g _ cur _ _ hg];simpa using hj
  ·cases hj
 have hlist:=Gv cur.toList new (k*15) (n*15) (by omega) (by rw [hnew,Array.length_toList,hcs];omega) cs cg;simp only at hlist;obtain⟨az,hl2,aS⟩:=hlist;have oQ:∀ty,(Builtin.copy_ #[29,29] ty #[.slice (some ⟨g,(k+1)*15,none⟩) (n-k) (cap-(k+1)), .slice (some ⟨g,k*15,none⟩) (n+1-k) (cap-k)]).run prog w.drew= .ok (goInt (n-k:Nat)) (w.drew.setRow g (cur.toList.take ((k+1)*15)++cs++cur.toList.drop ((k+1)*15+cs.length)).toArray):=fun ty=>
  nD w.drew _ _ ty 46 15 g ((k+1)*15) _ _ ⟨g,k*15,none⟩ _ _ cur 46 cs (n-k) underlying29 hsz (by simp only [Nat.min_def];split<;>omega) hg hcl hcell (by rw [hcl,hcs];omega) (fun v hv=>h1c v (List.mem_of_mem_drop (by rw [<-cg];exact hv)))
 have fF:(k+1)*15=k*15+new.length:=by omega
 obtain⟨c1,hc1⟩:∃c1,c1=cur.toList.take ((k+1)*15)++cs++cur.toList.drop ((k+1)*15+cs.length):=⟨_,rfl⟩;rw [<-hc1] at oQ;rw [<-fF,<-hc1] at az hl2 aS;obtain⟨W1,hW1⟩:∃W1,W1=w.drew.setRow g c1.toArray:=⟨_,rfl⟩;rw [<-hW1] at oQ;have hg1:W1.heap[g]? =some (.cells c1.toArray 46 (0,0)):=by rw [hW1];exact setRow_heap w.drew g cur _ 46 _ hg
 have lK:∀ty,(Builtin.copy_ #[29,29] ty #[.slice (some ⟨g,k*15,none⟩) (n+1-k) (cap-k), .slice (some ⟨vb,0,none⟩) 1 vc]).run prog W1= .ok (goInt (1:Nat)) (W1.setRow g (c1.toArray.toList.take (k*15)++new++c1.toArray.toList.drop (k*15+new.length)).toArray):=fun ty=>
  nD W1 _ _ ty 46 15 g (k*15) _ _ ⟨vb,0,none⟩ _ _ c1.toArray 46 new 1 underlying29 hsz (by simp only [Nat.min_def];split<;>omega) hg1 (by omega) (fun j v hj=>by
   rw [Addr.add_lit,hW1,cell_setRow_other _ _ _ _ (by exact hvb)];show w.cell? _=_
   rw [cell_of_row w vb _ _ _ _ hB'];first|done|simpa using hj) (by simp only [List.size_toArray,aS,Array.length_toList,hcs,hnew];omega) h1
 rw [<-fF] at lK;simp only [List.toList_toArray] at lK;have mixed:prog.follows Departure.mixedOrders=true:=by kernel_rfl
 have hw1:IntKind.i64.wrap ((k:Int)+1)=(k:Int)+1:=by rw [IntKind.wrap_i64];omega
 have hz3:¬((k:Int)=(n:Int)):=by omega
 have hb1:(0:Int)<= (k:Int)+1:=by omega
 have htn:((k:Int)+1).toNat=k+1:=by omega
 have hb2:¬(cap=k+1):=by omega
 have hb3:(k:Int)<= (n:Int)+1:=by omega
 have hin:k<=n:=by omega
 have hb4:¬(cap=k):=by omega
 have ja:(W1.setRow g (c1.take (k*15)++new++c1.drop ((k+1)*15)).toArray).ownsRow base 46 15 (.slice (some ⟨g,0,none⟩) (n+1) cap) (n+1) ((cur.toList.take (n*15)).take (k*15)++new++(cur.toList.take (n*15)).drop (k*15)):=by
  refine rh hb (setRow_heap W1 g _ _ 46 _ hg1) hnc hm ?_ ?_
  ·rw [List.size_toArray,hl2,Array.length_toList,hcs]
  ·rw [<-az,hnew]
   rw [show (n+1)*15=n*15+15 from by omega]
 have jb:w.grownBy (W1.setRow g (c1.take (k*15)++new++c1.drop ((k+1)*15)).toArray) (some g):=by rw [hW1];exact rq (nV (jH w.drew g _)) (jH _ g _)
 obtain⟨W2,hW2⟩:∃W2,W2=W1.setRow g (c1.take (k*15)++new++c1.drop ((k+1)*15)).toArray:=⟨_,rfl⟩;rw [<-hW2] at lK ja jb;have mS:=ae ja;have jI:=ae jb;clear ja jb fF hW2 hW1 hg1 az hl2 aS hc1 hcell cg hcl hg h1c h1 hcs hB hB';go_enter func46,ntmps46;go_wp2_with (simp only [hov])
 go_region_law_o (refine step_copy_runI rfl _ _ 29 29 rfl _ _ (by simp [Act.eval,Act.put]) (by simp [Act.eval,Act.put]) (oQ _) ?_)
 go_wp2_with (at_builtin;refine wpList_copy_runI _ rfl _ _ 29 29 rfl _ _ rfl rfl (lK _) ?_);go_ret;exact⟨rfl,mS.out,jI.out⟩
theorem ad2 (base g n cap k vb vc:Nat) (cur:Array Value) (new:List Value) (w:World) (TB:TypeId) (dY:base<=w.heap.size) (hg:w.heap[g]? =some (.cells cur 46 (0,0))) (hnc:n<=cap) (hfull:cap<n+1) (dx:n<=1073741824) (hcs:cur.size=cap*15)
 (hk:k<n) (hB:af w vb new.toArray TB) (hnew:new.length=15) (h1c:∀u∈cur.toList.take (n*15),u.oneCell'=true) (h1:∀u∈new,u.oneCell'=true):
 Calls prog 46 #[.slice (some ⟨g,0,none⟩) n cap, .int .i64 k, .slice (some ⟨vb,0,none⟩) 1 vc] w fun e w'=>∃G,e= .returned (.slice (some ⟨w.heap.size,0,none⟩) (n+1) G)/\
  w'.ownsRow base 46 15 (.slice (some ⟨w.heap.size,0,none⟩) (n+1) G) (n+1) ((cur.toList.take (n*15)).take (k*15)++new++(cur.toList.take (n*15)).drop (k*15))/\Ext w w':=by
 obtain⟨i0,hi,hz0,hz1,hz2⟩:=info_parts Tryz.BX;have hsz:(prog.info? 46).map (·.size)=some 15:=by rw [hi];simp [hz1]
 obtain⟨cs,cg⟩:∃cs,cs=cur.toList.take (n*15):=⟨_,rfl⟩;rw [<-cg] at h1c⊢;have qT:n*15<=cap*15:=Nat.mul_le_mul_right _ hnc;have hcl:cs.length=n*15:=by rw [cg];simp;omega
 have vI:g<w.heap.size:=lt_of_block hg;have MX:vb<w.heap.size:=hB.lt;have hB':w.heap[vb]? =some (.cells new.toArray TB (0,0)):=hB;have hcell:∀j v,cs[j]? =some v->w.cell? ⟨g,j,none⟩=some v:=fun j v hj=>by
  rw [cell_of_row w g j cur _ _ hg];rw [cg,List.getElem?_take] at hj
  split at hj
  ·simpa using hj
  ·cases hj
 have hold:(Builtin.firstCells i0.size k (.slice (some ⟨g,0,none⟩) k cap)).run prog w.drew= .ok (cs.take (k*15)).toArray w.drew:=by
  rw [hz1]
  exact run_firstCells_some w.drew 15 k ⟨g,0,none⟩ k cap (cs.take (k*15)) (by rw [List.length_take];omega) (fun j v hj=>by
   rw [Addr.add_lit];rw [List.getElem?_take] at hj
   split at hj
   ·rw [Nat.zero_add];exact hcell j v hj
   ·cases hj)
 have hkk:(n:Int)+1-(k:Int)=((n+1-k:Nat):Int):=by omega
 have hik:k+(n+1-k)=n+1:=by omega
 have lJ:∀ty,(Builtin.append_ #[29,3] ty #[.slice (some ⟨g,0,none⟩) k cap, .int .i64 ((n:Int)+1-(k:Int))]).run prog w=
  .ok (.slice (some ⟨w.heap.size,0,none⟩) (n+1) (grownCap w (n+1) cap 46)) (w.drew.alloc (.cells ((cs.take (k*15)).toArray++Builtin.zeroCells (Value.cells (.agg #[Value.string ⟨#[]⟩, .int .i64 0, .int .i64 0, .string ⟨#[]⟩, .slice none 0 0, .slice none 0 0, .slice none 0 0, .int .i64 0, .int .i64 0, .string ⟨#[]⟩, .string ⟨#[]⟩, .int .i64 0, .int .i64 0, .int .i64 0, .int .i64 0])) (n+1-k)++Builtin.zeroCells (Value.cells (.agg #[Value.string ⟨#[]⟩, .int .i64 0, .int .i64 0, .string ⟨#[]⟩, .slice none 0 0, .slice none 0 0, .slice none 0 0, .int .i64 0, .int .i64 0, .string ⟨#[]⟩, .string ⟨#[]⟩, .int .i64 0, .int .i64 0, .int .i64 0, .int .i64 0])) (grownCap w (n+1) cap 46-(n+1))) 46)):=fun ty=>by
  have h:=Lib.run_append_grow_zeros w 29 3 ty 46 i0 _ .i64 .i64 underlying29 underlying3 hi hz0 (some ⟨g,0,none⟩) k cap (cs.take (k*15)) hold (n+1-k) (by omega) (by omega) (by omega) (by omega) (by rw [hz2];omega) (by rw [hz2,hik];exact growslice_fits (by omega) (by omega));rw [hik] at h;rw [hkk];exact h
 obtain⟨G,hG⟩:∃G,G=grownCap w (n+1) cap 46:=⟨_,rfl⟩;have zt:n+1<=G:=by rw [hG];exact grownCap_ge w _ _ _
 have sL:G<=maxLen:=by rw [hG];exact grownCap_le_maxLen w (n+1) cap 46 (by unfold maxLen;omega)
 have MZ:G<=9223372036854775807:=sL;rw [<-hG] at lJ;obtain⟨z1,oU⟩:∃z1,z1=(Builtin.zeroCells (Value.cells (.agg #[Value.string ⟨#[]⟩, .int .i64 0, .int .i64 0, .string ⟨#[]⟩, .slice none 0 0, .slice none 0 0, .slice none 0 0, .int .i64 0, .int .i64 0, .string ⟨#[]⟩, .string ⟨#[]⟩, .int .i64 0, .int .i64 0, .int .i64 0, .int .i64 0])) (n+1-k)).toList:=⟨_,rfl⟩;obtain⟨z2,oV⟩:∃z2,z2=(Builtin.zeroCells (Value.cells (.agg #[Value.string ⟨#[]⟩, .int .i64 0, .int .i64 0, .string ⟨#[]⟩, .slice none 0 0, .slice none 0 0, .slice none 0 0, .int .i64 0, .int .i64 0, .string ⟨#[]⟩, .string ⟨#[]⟩, .int .i64 0, .int .i64 0, .int .i64 0, .int .i64 0])) (G-(n+1))).toList:=⟨_,rfl⟩;have oW:z1.length=(n+1-k)*15:=by rw [oU,Array.length_toList,size_zeroCells];simp [Value.cells]
 have sM:z2.length=(G-(n+1))*15:=by rw [oV,Array.length_toList,size_zeroCells];simp [Value.cells]
 obtain⟨c0,hc0⟩:∃c0:List Value,c0=cs.take (k*15)++z1++z2:=⟨_,rfl⟩;have hrow:(cs.take (k*15)).toArray++Builtin.zeroCells (Value.cells (.agg #[Value.string ⟨#[]⟩, .int .i64 0, .int .i64 0, .string ⟨#[]⟩, .slice none 0 0, .slice none 0 0, .slice none 0 0, .int .i64 0, .int .i64 0, .string ⟨#[]⟩, .string ⟨#[]⟩, .int .i64 0, .int .i64 0, .int .i64 0, .int .i64 0])) (n+1-k)++Builtin.zeroCells (Value.cells (.agg #[Value.string ⟨#[]⟩, .int .i64 0, .int .i64 0, .string ⟨#[]⟩, .slice none 0 0, .slice none 0 0, .slice none 0 0, .int .i64 0, .int .i64 0, .string ⟨#[]⟩, .string ⟨#[]⟩, .int .i64 0, .int .i64 0, .int .i64 0, .int .i64 0])) (G-(n+1))=c0.toArray:=by apply Array.toList_inj.1;rw [hc0,oU,oV];simp
 rw [hrow] at lJ;have hlist:=Gw cs new z1 z2 (k*15) (by omega) (by rw [oW,hnew,hcl];omega);simp only at hlist;rw [<-hc0] at hlist;obtain⟨az,hl2,aS⟩:=hlist;have hl0:c0.length=G*15:=by rw [hc0,List.length_append,List.length_append,oW,sM,List.length_take,hcl];omega
 obtain⟨c1,hc1⟩:∃c1,c1=c0.take (k*15)++new++c0.drop (k*15+new.length):=⟨_,rfl⟩;rw [<-hc1] at az hl2 aS;have fF:k*15+new.length=(k+1)*15:=by omega
 have oX:∀W:World,(∀b,W.heap[b]? =(w.drew.alloc (.cells c0.toArray 46)).heap[b]?)->W.heap[w.heap.size]? =some (.cells c0.toArray 46 (0,0)):=fun W h=>by rw [h];show (w.heap.push _)[w.heap.size]? =_;simp
 have zu:∀(W:World),(∀b,W.heap[b]? =(w.drew.alloc (.cells c0.toArray 46)).heap[b]?)->∀ty dc,(Builtin.copy_ #[29,29] ty #[.slice (some ⟨w.heap.size,k*15,none⟩) (n+1-k) dc, .slice (some ⟨vb,0,none⟩) 1 vc]).run prog W= .ok (goInt (1:Nat)) (W.setRow w.heap.size c1.toArray):=fun W hW ty dc=>by
  have h:=nD W 29 29 ty 46 15 w.heap.size (k*15) (n+1-k) dc ⟨vb,0,none⟩ 1 vc c0.toArray 46 new 1 underlying29 hsz (by simp only [Nat.min_def];split<;>omega) (oX W hW) (by omega) (fun j v hj=>by
   have zw:W.heap[vb]? =some (.cells new.toArray TB (0,0)):=by rw [hW];show (w.heap.push _)[vb]? =_;rw [Array.getElem?_push,if_neg (by omega)];exact hB'
   rw [Addr.add_lit,cell_of_row W vb _ _ _ _ zw];simpa using hj) (by rw [List.size_toArray,hl0,hnew];omega) h1
  simp only [List.toList_toArray] at h;rw [<-hc1] at h;exact h
 have M0:g≠w.heap.size:=by omega
 have oY:∀(W:World),W.heap[w.heap.size]? =some (.cells c1.toArray 46 (0,0))-> (∀b,b<w.heap.size->W.heap[b]? =w.heap[b]?)->∀ty dc sc,(Builtin.copy_ #[29,29] ty #[.slice (some ⟨w.heap.size,(k+1)*15,none⟩) (n-k) dc, .slice (some ⟨g,k*15,none⟩) (n-k) sc]).run prog W= .ok (goInt (n-k:Nat)) (W.setRow w.heap.size (c1.take (k*15+new.length)++cs.drop (k*15)++c1.drop (k*15+new.length+(cs.drop (k*15)).length)).toArray):=fun W hW hO ty dc sc=>by
  have h:=nD W 29 29 ty 46 15 w.heap.size ((k+1)*15) (n-k) dc ⟨g,k*15,none⟩ (n-k) sc c1.toArray 46 (cs.drop (k*15)) (n-k) underlying29 hsz (by simp) hW (by rw [List.length_drop,hcl];omega) (fun j v hj=>by
   have hbg:W.heap[g]? =some (.cells cur 46 (0,0)):=by rw [hO g vI];exact hg
   rw [List.getElem?_drop] at hj;rw [Addr.add_lit,cell_of_row W g _ _ _ _ hbg,<-cell_of_row w g _ _ _ _ hg]
   exact hcell _ v hj) (by rw [List.size_toArray,aS,hl0,List.length_drop,hcl];omega) (fun v hv=>h1c v (List.mem_of_mem_drop hv))
  simp only [List.toList_toArray] at h;rw [fF];exact h
 obtain⟨c2,hc2⟩:∃c2,c2=c1.take (k*15+new.length)++cs.drop (k*15)++c1.drop (k*15+new.length+(cs.drop (k*15)).length):=⟨_,rfl⟩;rw [<-hc2] at oY az hl2;have hfin:∀W:World,W.heap[w.heap.size]? =some (.cells c1.toArray 46 (0,0))-> (W.setRow w.heap.size c2.toArray).ownsRow base 46 15 (.slice (some ⟨w.heap.size,0,none⟩) (n+1) G) (n+1) (cs.take (k*15)++new++cs.drop (k*15)):=fun W hW=>by
  refine rh dY (setRow_heap W w.heap.size _ _ 46 _ hW) zt sL ?_ ?_
  ·rw [List.size_toArray,hl2,hl0]
  ·rw [<-az,hcl,hnew]
   rw [show (n+1)*15=n*15+15 from by omega]
 have sN:∀W:World,W.heap[w.heap.size]? =some (.cells c0.toArray 46 (0,0))-> (W.setRow w.heap.size c1.toArray).heap[w.heap.size]? =some (.cells c1.toArray 46 (0,0)):=fun W hW=>setRow_heap W w.heap.size _ _ 46 _ hW;have mixed:prog.follows Departure.mixedOrders=true:=by kernel_rfl
 have hw1:IntKind.i64.wrap ((k:Int)+1)=(k:Int)+1:=by rw [IntKind.wrap_i64];omega
 have hz3:¬((k:Int)=(n:Int)):=by omega
 have ij:(cap:Int)<(n:Int)+1:=by omega
 have hb1:(0:Int)<= (k:Int)+1:=by omega
 have hin:k<=n:=by omega
 have htn:((k:Int)+1).toNat=k+1:=by omega
 have hb3:(k:Int)<= (n:Int):=by omega
 have M3:¬(G=k):=by omega
 have M4:¬(G=k+1):=by omega
 have lO:¬(cap=k):=by omega
 have hE:∀b:Nat,((w.alloc (.cells c0.toArray 46)).drew).heap[b]? =(w.drew.alloc (.cells c0.toArray 46)).heap[b]? :=fun _=>rfl;have oZ:(((w.alloc (.cells c0.toArray 46)).drew.setRow w.heap.size c1.toArray).drew).heap[w.heap.size]? =some (.cells c1.toArray 46 (0,0)):=sN _ (oX _ hE);have sO:∀b,b<w.heap.size-> (((w.alloc (.cells c0.toArray 46)).drew.setRow w.heap.size c1.toArray).drew).heap[b]? =w.heap[b]? :=fun b hb=>by show ((w.drew.alloc (.cells c0.toArray 46)).setRow w.heap.size c1.toArray).heap[b]? =_;rw [setRow_other _ _ _ _ (by omega)];show (w.heap.push _)[b]? =_;rw [Array.getElem?_push,if_neg (by omega)]
 have bK:=oY _ oZ sO;have sP:=hfin _ oZ;have sQ:Ext w ((((w.alloc (.cells c0.toArray 46)).drew.setRow w.heap.size c1.toArray).drew).setRow w.heap.size c2.toArray):=by refine Ext.grown (row:=some w.heap.size) (b:=w.alloc (.cells c0.toArray 46)) ((Ext.refl w).alloc _) ?_ (by simp);exact rq (b:=(w.alloc (.cells c0.toArray 46)).drew.setRow w.heap.size c1.toArray) (nV (jH (w.alloc (.cells c0.toArray 46)).drew w.heap.size c1.toArray)) (nV (jH (((w.alloc (.cells c0.toArray 46)).drew.setRow w.heap.size c1.toArray).drew) w.heap.size c2.toArray))
 have pF:=ae sP;have zx:=ae sQ;clear hfin sP sQ oY oZ sO az hl2 aS hc1 hc2 hcell cg hcl hg h1c h1 hcs hB hB' fF hold hkk hik oU oV oW sM hc0 hrow hl0 hG qT oX sN hi hz0 hz1 hz2 hsz;go_enter func46,ntmps46
 go_wp2_with (first
  |(at_builtin;refine Lib.wpList_append_run _ rfl _ _ _ _ rfl _ _ rfl rfl _ _ (lJ _) ?_)
  |(at_builtin;refine wpList_copy_runI _ rfl _ _ 29 29 rfl _ _ rfl rfl (zu _ hE _ _) ?_))
 go_region_law_o (refine step_copy_runI rfl _ _ 29 29 rfl (.slice (some ⟨w.heap.size,(k+1)*15,none⟩) (n-k) (G-(k+1))) (.slice (some ⟨g,k*15,none⟩) (n-k) (cap-k)) (by simp [Act.eval,Act.put]) (by simp [Act.eval,Act.put]) (bK _ _ _) ?_)
 go_wp2;go_ret;exact⟨G,rfl,pF.out,zx.out⟩
theorem ad3 (base n vb vc:Nat) (v:Value) (xs new:List Value) (w:World) (TB:TypeId) (dY:base<=w.heap.size) (hown:w.ownsRow base 46 15 v n xs) (dx:n<=1073741824)
 (hB:af w vb new.toArray TB) (hnew:new.length=15) (h1:∀u∈new,u.oneCell'=true):
 Calls prog 46 #[v, .int .i64 n, .slice (some ⟨vb,0,none⟩) 1 vc] w fun e w'=>∃g cap,e= .returned (.slice (some ⟨g,0,none⟩) (n+1) cap)/\
  w'.ownsRow base 46 15 (.slice (some ⟨g,0,none⟩) (n+1) cap) (n+1) (xs++new)/\w.grownBy w' v.ownBlock/\ (v.ownBlock=some g\/g=w.heap.size):=by
 obtain⟨i0,hi,hz0,hz1,hz2⟩:=info_parts Tryz.BX;obtain⟨a,c,rfl,hok⟩:=gU hown;have hB':w.heap[vb]? =some (.cells new.toArray TB (0,0)):=hB;have hsl:(a=none/\n=0/\c=0)\/∃g,a=some ⟨g,0,none⟩:=by
  rcases hown.2 with⟨h,h0⟩|⟨g,cap,cur,h,-⟩
  ·simp only [Value.slice.injEq] at h;exact .inl ⟨h.1,h.2.1,h.2.2⟩
  ·simp only [Value.slice.injEq] at h;exact .inr ⟨g,h.1⟩
 have hcell:∀(j:Nat) (u:Value),new[j]? =some u->w.cell? ((⟨vb,0,none⟩:Addr).add j)=some u:=fun j u hj=>by rw [Addr.add_lit,cell_of_row w vb _ _ _ _ hB'];simpa using hj
 have sS:=ae hcell;have ck:=ae hown;have hnc:=hok.1;have M5:c<=9223372036854775807:=hok.2.1;have hsk:(1:Nat)*15=new.length:=by omega
 clear hcell hown hB' hB hok;rcases hsl with⟨rfl,rfl,rfl⟩|⟨g0,rfl⟩
 ·go_enter func46,ntmps46
  go_wp2_with ((at_builtin;refine wpList_append_lies _ (by rfl) _ _ 29 (by rfl) base 46 i0 _ 15 200 underlying29 hi hz0 hz1 hz2 rfl (by decide) _ _ xs (by rfl) ck.out ⟨vb,0,none⟩ 1 vc new (by rfl) hsk.symm sS.out h1 (by omega) (by unfold maxLen;omega) (by omega) dY _ rfl ?_;intro g6 bA w6 bF aY cp tY;have gZ:=ae bF;have iP:=ae aY;have fS:=ae cp;clear bF aY cp));go_ret;exact⟨g6,bA,rfl,gZ.out,iP.out,fS.out⟩
 ·go_enter func46,ntmps46
  go_wp2_with ((at_builtin;refine wpList_append_lies _ (by rfl) _ _ 29 (by rfl) base 46 i0 _ 15 200 underlying29 hi hz0 hz1 hz2 rfl (by decide) _ _ xs (by rfl) ck.out ⟨vb,0,none⟩ 1 vc new (by rfl) hsk.symm sS.out h1 (by omega) (by unfold maxLen;omega) (by omega) dY _ rfl ?_;intro g6 bA w6 bF aY cp tY;have gZ:=ae bF;have iP:=ae aY;have fS:=ae cp;clear bF aY cp))
  all_goals (go_ret;exact⟨g6,bA,rfl,gZ.out,iP.out,fS.out⟩)
theorem ad4 (base n k vb vc:Nat) (v:Value) (xs new:List Value) (w:World) (TB:TypeId) (dY:base<=w.heap.size) (hown:w.ownsRow base 46 15 v n xs) (dx:n<=1073741824) (hk:k<=n)
 (hB:af w vb new.toArray TB) (hvb:v.ownBlock≠some vb) (hnew:new.length=15) (h1c:∀u∈xs,u.oneCell'=true) (h1:∀u∈new,u.oneCell'=true):
 Calls prog 46 #[v, .int .i64 k, .slice (some ⟨vb,0,none⟩) 1 vc] w fun e w'=>∃g cap,e= .returned (.slice (some ⟨g,0,none⟩) (n+1) cap)/\
  w'.ownsRow base 46 15 (.slice (some ⟨g,0,none⟩) (n+1) cap) (n+1) (xs.take (k*15)++new++xs.drop (k*15))/\w.grownBy w' v.ownBlock/\ (v.ownBlock=some g\/g=w.heap.size):=by
 by_cases hkn:k=n
 ·subst hkn
  have hl:=hown.1;refine(ad3 base k vb vc v xs new w TB dY hown dx hB hnew h1).mono ?_;rintro e w' ⟨g,cap,he,h2,h3,h4⟩;refine⟨g,cap,he,?_,h3,h4⟩;rw [List.take_of_length_le (by omega),List.drop_of_length_le (by omega),List.append_nil];exact h2
 ·obtain⟨g,cap,cur,rfl,hb,hg,hnc,hm,hcs,ht⟩:=tZ hown (by omega)
  have ht':cur.toList.take (n*15)=xs:=by simpa using ht
  by_cases hroom:n<cap
  ·refine(ad1 base g n cap k vb vc cur new w TB hb hg hroom hm hcs (by omega) hB (fun e=>hvb (by rw [e];rfl)) hnew (by rw [ht'];exact h1c) h1).mono ?_
   rintro e w' ⟨he,h2,h3⟩;rw [ht'] at h2;exact⟨g,cap,he,h2,h3, .inl rfl⟩
  ·refine(ad2 base g n cap k vb vc cur new w TB dY hg hnc (by omega) dx hcs (by omega) hB hnew (by rw [ht'];exact h1c) h1).mono ?_
   rintro e w' ⟨G,he,h2,h3⟩;rw [ht'] at h2;exact⟨w.heap.size,G,he,h2,⟨h3.os,h3.tape,h3.output,h3.size,fun k hk _=>h3.block k hk⟩, .inr rfl⟩
end Go.Proofs.YtlcebdaghmdkeaaGreatDoor
