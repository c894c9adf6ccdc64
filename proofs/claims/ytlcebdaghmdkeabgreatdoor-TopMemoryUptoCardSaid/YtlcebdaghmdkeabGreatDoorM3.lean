import Derived.Deep.MidRow
import Derived.Test.YtlcebdaghmdkeabGreatDoorM2
set_option linter.all false
set_option maxRecDepth 100000
set_option maxHeartbeats 64000000
namespace Go.Proofs.YtlcebdaghmdkeabGreatDoor
open Go.Proofs.Tryz
open Go.RowKit
theorem acQ (base g n cap k vb vc:Nat) (cur:Array Value) (new:List Value) (w:World) (TB:TypeId) (hb:base<=g) (hg:w.heap[g]? =some (.cells cur 9 (0,0))) (hnc:n<cap) (hm:cap<=maxLen) (hcs:cur.size=cap*1)
 (hk:k<n) (hB:af w vb new.toArray TB) (hvb:vb≠g) (hnew:new.length=1) (h1c:∀u∈cur.toList.take (n),u.oneCell'=true) (h1:∀u∈new,u.oneCell'=true):
 Calls prog 104 #[.slice (some ⟨g,0,none⟩) n cap, .int .i64 k, .slice (some ⟨vb,0,none⟩) 1 vc] w fun e w'=>e= .returned (.slice (some ⟨g,0,none⟩) (n+1) cap)/\
  w'.ownsRow base 9 1 (.slice (some ⟨g,0,none⟩) (n+1) cap) (n+1) ((cur.toList.take (n)).take (k)++new++(cur.toList.take (n)).drop (k))/\w.grownBy w' (some g):=by
 obtain⟨i0,hi,hz0,hz1,hz2⟩:=info_parts Tryz.vP;have hsz:(prog.info? 9).map (·.size)=some 1:=by rw [hi];simp [hz1]
 have hm2:cap<=9223372036854775807:=hm;have zq:(n+1)*1<=cap*1:=Nat.mul_le_mul_right _ hnc;have hB':w.heap[vb]? =some (.cells new.toArray TB (0,0)):=hB;have hov:∀lb cb,(callFunc 161 #[.slice (some ⟨vb,0,none⟩) 1 vc, .slice (some ⟨g,k+1,none⟩) lb cb]).run prog w= .ok (.value (.bool false)) w:=fun lb cb=>by
  rw [run_callFunc_extern func161 (by kernel_rfl) (by kernel_rfl) (by kernel_rfl) (e:=Extern.SlicesOverlaps.overlaps #[33,33] #[4]) (by kernel_rfl),
   Lib.run_overlaps_apart w 33 4 9 underlying33 1 (by intro w;simp [Go.sizeOf,typeInfo,hi,hz1]) ⟨vb,0,none⟩ ⟨g,k+1,none⟩ 1 vc lb cb hvb TB 9 new.length cur.size (by simp [World.shape?,hB']) (by simp [World.shape?,hg]) (by rw [hcs];omega) (hB.free 0) (hB.free new.length)]
  rfl
 obtain⟨cs,bU⟩:∃cs,cs=(cur.toList.take (n)).drop (k):=⟨_,rfl⟩;have hcl:cs.length=(n-k)*1:=by rw [bU];simp;omega
 have hcell:∀j v,cs[j]? =some v->w.drew.cell? ((⟨g,k,none⟩:Addr).add j)=some v:=fun j v hj=>by
  rw [Addr.add_lit,bU,List.getElem?_drop,List.getElem?_take] at*
  split at hj
  ·show w.cell? _=_
   rw [cell_of_row w g _ cur _ _ hg];simpa using hj
  ·cases hj
 have hlist:=E8 cur.toList new (k) (n) (by omega) (by rw [hnew,Array.length_toList,hcs];omega) cs bU;simp only at hlist;obtain⟨ay,hl2,aS⟩:=hlist;have nP:∀ty,(Builtin.copy_ #[33,33] ty #[.slice (some ⟨g,k+1,none⟩) (n-k) (cap-(k+1)), .slice (some ⟨g,k,none⟩) (n+1-k) (cap-k)]).run prog w.drew= .ok (goInt (n-k:Nat)) (w.drew.setRow g (cur.toList.take (k+1)++cs++cur.toList.drop (k+1+cs.length)).toArray):=fun ty=>
  mF w.drew _ _ ty 9 1 g (k+1) _ _ ⟨g,k,none⟩ _ _ cur 9 cs (n-k) underlying33 hsz (by simp only [Nat.min_def];split<;>omega) hg hcl hcell (by rw [hcl,hcs];omega) (fun v hv=>h1c v (List.mem_of_mem_drop (by rw [<-bU];exact hv)))
 have fq:k+1=k+new.length:=by omega
 obtain⟨c1,hc1⟩:∃c1,c1=cur.toList.take (k+1)++cs++cur.toList.drop (k+1+cs.length):=⟨_,rfl⟩;rw [<-hc1] at nP;rw [<-fq,<-hc1] at ay hl2 aS;obtain⟨W1,hW1⟩:∃W1,W1=w.drew.setRow g c1.toArray:=⟨_,rfl⟩;rw [<-hW1] at nP;have hg1:W1.heap[g]? =some (.cells c1.toArray 9 (0,0)):=by rw [hW1];exact setRow_heap w.drew g cur _ 9 _ hg
 have kY:∀ty,(Builtin.copy_ #[33,33] ty #[.slice (some ⟨g,k,none⟩) (n+1-k) (cap-k), .slice (some ⟨vb,0,none⟩) 1 vc]).run prog W1= .ok (goInt (1:Nat)) (W1.setRow g (c1.toArray.toList.take (k)++new++c1.toArray.toList.drop (k+new.length)).toArray):=fun ty=>
  mF W1 _ _ ty 9 1 g (k) _ _ ⟨vb,0,none⟩ _ _ c1.toArray 9 new 1 underlying33 hsz (by simp only [Nat.min_def];split<;>omega) hg1 (by omega) (fun j v hj=>by
   rw [Addr.add_lit,hW1,cell_setRow_other _ _ _ _ (by exact hvb)];show w.cell? _=_
   rw [cell_of_row w vb _ _ _ _ hB'];first|done|simpa using hj) (by simp only [List.size_toArray,aS,Array.length_toList,hcs,hnew];omega) h1
 rw [<-fq] at kY;simp only [List.toList_toArray] at kY;have mixed:prog.follows Departure.mixedOrders=true:=by kernel_rfl
 have hw1:IntKind.i64.wrap ((k:Int)+1)=(k:Int)+1:=by rw [IntKind.wrap_i64];omega
 have hz3:¬((k:Int)=(n:Int)):=by omega
 have hb1:(0:Int)<= (k:Int)+1:=by omega
 have htn:((k:Int)+1).toNat=k+1:=by omega
 have hb2:¬(cap=k+1):=by omega
 have hb3:(k:Int)<= (n:Int)+1:=by omega
 have hin:k<=n:=by omega
 have hb4:¬(cap=k):=by omega
 have iL:(W1.setRow g (c1.take (k)++new++c1.drop (k+1)).toArray).ownsRow base 9 1 (.slice (some ⟨g,0,none⟩) (n+1) cap) (n+1) ((cur.toList.take (n)).take (k)++new++(cur.toList.take (n)).drop (k)):=by
  refine qC hb (setRow_heap W1 g _ _ 9 _ hg1) hnc hm ?_ ?_
  ·rw [List.size_toArray,hl2,Array.length_toList,hcs]
  ·rw [<-ay,hnew]
   rw [show (n+1)*1=n+1 from by omega]
 have iM:w.grownBy (W1.setRow g (c1.take (k)++new++c1.drop (k+1)).toArray) (some g):=by rw [hW1];exact qD (mW (jo w.drew g _)) (jo _ g _)
 obtain⟨W2,hW2⟩:∃W2,W2=W1.setRow g (c1.take (k)++new++c1.drop (k+1)).toArray:=⟨_,rfl⟩;rw [<-hW2] at kY iL iM;have lZ:=ae iL;have jq:=ae iM;clear iL iM fq hW2 hW1 hg1 ay hl2 aS hc1 hcell bU hcl hg h1c h1 hcs hB hB';go_enter func104,ntmps104;go_wp2_with (simp only [hov])
 go_region_law_o (refine step_copy_runI rfl _ _ 33 33 rfl _ _ (by simp [Act.eval,Act.put]) (by simp [Act.eval,Act.put]) (nP _) ?_)
 go_wp2_with (at_builtin;refine wpList_copy_runI _ rfl _ _ 33 33 rfl _ _ rfl rfl (kY _) ?_);go_ret;exact⟨rfl,lZ.out,jq.out⟩
theorem acR (base g n cap k vb vc:Nat) (cur:Array Value) (new:List Value) (w:World) (TB:TypeId) (eB:base<=w.heap.size) (hg:w.heap[g]? =some (.cells cur 9 (0,0))) (hnc:n<=cap) (hfull:cap<n+1) (cZ:n<=1073741824) (hcs:cur.size=cap*1)
 (hk:k<n) (hB:af w vb new.toArray TB) (hnew:new.length=1) (h1c:∀u∈cur.toList.take (n),u.oneCell'=true) (h1:∀u∈new,u.oneCell'=true):
 Calls prog 104 #[.slice (some ⟨g,0,none⟩) n cap, .int .i64 k, .slice (some ⟨vb,0,none⟩) 1 vc] w fun e w'=>∃G,e= .returned (.slice (some ⟨w.heap.size,0,none⟩) (n+1) G)/\
  w'.ownsRow base 9 1 (.slice (some ⟨w.heap.size,0,none⟩) (n+1) G) (n+1) ((cur.toList.take (n)).take (k)++new++(cur.toList.take (n)).drop (k))/\Ext w w':=by
 obtain⟨i0,hi,hz0,hz1,hz2⟩:=info_parts Tryz.vP;have hsz:(prog.info? 9).map (·.size)=some 1:=by rw [hi];simp [hz1]
 obtain⟨cs,bU⟩:∃cs,cs=cur.toList.take (n):=⟨_,rfl⟩;rw [<-bU] at h1c⊢;have qi:n*1<=cap*1:=Nat.mul_le_mul_right _ hnc;have hcl:cs.length=n*1:=by rw [bU];simp;omega
 have uJ:g<w.heap.size:=lt_of_block hg;have Lx:vb<w.heap.size:=hB.lt;have hB':w.heap[vb]? =some (.cells new.toArray TB (0,0)):=hB;have hcell:∀j v,cs[j]? =some v->w.cell? ⟨g,j,none⟩=some v:=fun j v hj=>by
  rw [cell_of_row w g j cur _ _ hg];rw [bU,List.getElem?_take] at hj
  split at hj
  ·simpa using hj
  ·cases hj
 have hold:(Builtin.firstCells i0.size k (.slice (some ⟨g,0,none⟩) k cap)).run prog w.drew= .ok (cs.take (k)).toArray w.drew:=by
  rw [hz1]
  exact run_firstCells_some w.drew 1 k ⟨g,0,none⟩ k cap (cs.take (k)) (by rw [List.length_take];omega) (fun j v hj=>by
   rw [Addr.add_lit];rw [List.getElem?_take] at hj
   split at hj
   ·rw [Nat.zero_add];exact hcell j v hj
   ·cases hj)
 have hkk:(n:Int)+1-(k:Int)=((n+1-k:Nat):Int):=by omega
 have hik:k+(n+1-k)=n+1:=by omega
 have kX:∀ty,(Builtin.append_ #[33,3] ty #[.slice (some ⟨g,0,none⟩) k cap, .int .i64 ((n:Int)+1-(k:Int))]).run prog w=
  .ok (.slice (some ⟨w.heap.size,0,none⟩) (n+1) (grownCap w (n+1) cap 9)) (w.drew.alloc (.cells ((cs.take (k)).toArray++Builtin.zeroCells (Value.cells (Value.string ⟨#[]⟩)) (n+1-k)++Builtin.zeroCells (Value.cells (Value.string ⟨#[]⟩)) (grownCap w (n+1) cap 9-(n+1))) 9)):=fun ty=>by
  have h:=Lib.run_append_grow_zeros w 33 3 ty 9 i0 _ .i64 .i64 underlying33 underlying3 hi hz0 (some ⟨g,0,none⟩) k cap (cs.take (k)) hold (n+1-k) (by omega) (by omega) (by omega) (by omega) (by rw [hz2];omega) (by rw [hz2,hik];exact growslice_fits (by omega) (by omega));rw [hik] at h;rw [hkk];exact h
 obtain⟨G,hG⟩:∃G,G=grownCap w (n+1) cap 9:=⟨_,rfl⟩;have yO:n+1<=G:=by rw [hG];exact grownCap_ge w _ _ _
 have rT:G<=maxLen:=by rw [hG];exact grownCap_le_maxLen w (n+1) cap 9 (by unfold maxLen;omega)
 have LA:G<=9223372036854775807:=rT;rw [<-hG] at kX;obtain⟨z1,nQ⟩:∃z1,z1=(Builtin.zeroCells (Value.cells (Value.string ⟨#[]⟩)) (n+1-k)).toList:=⟨_,rfl⟩;obtain⟨z2,nR⟩:∃z2,z2=(Builtin.zeroCells (Value.cells (Value.string ⟨#[]⟩)) (G-(n+1))).toList:=⟨_,rfl⟩;have nS:z1.length=(n+1-k)*1:=by rw [nQ,Array.length_toList,size_zeroCells];simp [Value.cells]
 have rU:z2.length=(G-(n+1))*1:=by rw [nR,Array.length_toList,size_zeroCells];simp [Value.cells]
 obtain⟨c0,hc0⟩:∃c0:List Value,c0=cs.take (k)++z1++z2:=⟨_,rfl⟩;have hrow:(cs.take (k)).toArray++Builtin.zeroCells (Value.cells (Value.string ⟨#[]⟩)) (n+1-k)++Builtin.zeroCells (Value.cells (Value.string ⟨#[]⟩)) (G-(n+1))=c0.toArray:=by apply Array.toList_inj.1;rw [hc0,nQ,nR];simp
 rw [hrow] at kX;have hlist:=E9 cs new z1 z2 (k) (by omega) (by rw [nS,hnew,hcl];omega);simp only at hlist;rw [<-hc0] at hlist;obtain⟨ay,hl2,aS⟩:=hlist;have hl0:c0.length=G*1:=by rw [hc0,List.length_append,List.length_append,nS,rU,List.length_take,hcl];omega
 obtain⟨c1,hc1⟩:∃c1,c1=c0.take (k)++new++c0.drop (k+new.length):=⟨_,rfl⟩;rw [<-hc1] at ay hl2 aS;have fq:k+new.length=k+1:=by omega
 have nT:∀W:World,(∀b,W.heap[b]? =(w.drew.alloc (.cells c0.toArray 9)).heap[b]?)->W.heap[w.heap.size]? =some (.cells c0.toArray 9 (0,0)):=fun W h=>by rw [h];show (w.heap.push _)[w.heap.size]? =_;simp
 have yP:∀(W:World),(∀b,W.heap[b]? =(w.drew.alloc (.cells c0.toArray 9)).heap[b]?)->∀ty dc,(Builtin.copy_ #[33,33] ty #[.slice (some ⟨w.heap.size,k,none⟩) (n+1-k) dc, .slice (some ⟨vb,0,none⟩) 1 vc]).run prog W= .ok (goInt (1:Nat)) (W.setRow w.heap.size c1.toArray):=fun W hW ty dc=>by
  have h:=mF W 33 33 ty 9 1 w.heap.size (k) (n+1-k) dc ⟨vb,0,none⟩ 1 vc c0.toArray 9 new 1 underlying33 hsz (by simp only [Nat.min_def];split<;>omega) (nT W hW) (by omega) (fun j v hj=>by
   have yQ:W.heap[vb]? =some (.cells new.toArray TB (0,0)):=by rw [hW];show (w.heap.push _)[vb]? =_;rw [Array.getElem?_push,if_neg (by omega)];exact hB'
   rw [Addr.add_lit,cell_of_row W vb _ _ _ _ yQ];simpa using hj) (by rw [List.size_toArray,hl0,hnew];omega) h1
  simp only [List.toList_toArray] at h;rw [<-hc1] at h;exact h
 have LB:g≠w.heap.size:=by omega
 have nU:∀(W:World),W.heap[w.heap.size]? =some (.cells c1.toArray 9 (0,0))-> (∀b,b<w.heap.size->W.heap[b]? =w.heap[b]?)->∀ty dc sc,(Builtin.copy_ #[33,33] ty #[.slice (some ⟨w.heap.size,k+1,none⟩) (n-k) dc, .slice (some ⟨g,k,none⟩) (n-k) sc]).run prog W= .ok (goInt (n-k:Nat)) (W.setRow w.heap.size (c1.take (k+new.length)++cs.drop (k)++c1.drop (k+new.length+(cs.drop (k)).length)).toArray):=fun W hW hO ty dc sc=>by
  have h:=mF W 33 33 ty 9 1 w.heap.size (k+1) (n-k) dc ⟨g,k,none⟩ (n-k) sc c1.toArray 9 (cs.drop (k)) (n-k) underlying33 hsz (by simp) hW (by rw [List.length_drop,hcl];omega) (fun j v hj=>by
   have hbg:W.heap[g]? =some (.cells cur 9 (0,0)):=by rw [hO g uJ];exact hg
   rw [List.getElem?_drop] at hj;rw [Addr.add_lit,cell_of_row W g _ _ _ _ hbg,<-cell_of_row w g _ _ _ _ hg]
   exact hcell _ v hj) (by rw [List.size_toArray,aS,hl0,List.length_drop,hcl];omega) (fun v hv=>h1c v (List.mem_of_mem_drop hv))
  simp only [List.toList_toArray] at h;rw [fq];exact h
 obtain⟨c2,hc2⟩:∃c2,c2=c1.take (k+new.length)++cs.drop (k)++c1.drop (k+new.length+(cs.drop (k)).length):=⟨_,rfl⟩;rw [<-hc2] at nU ay hl2;have hfin:∀W:World,W.heap[w.heap.size]? =some (.cells c1.toArray 9 (0,0))-> (W.setRow w.heap.size c2.toArray).ownsRow base 9 1 (.slice (some ⟨w.heap.size,0,none⟩) (n+1) G) (n+1) (cs.take (k)++new++cs.drop (k)):=fun W hW=>by
  refine qC eB (setRow_heap W w.heap.size _ _ 9 _ hW) yO rT ?_ ?_
  ·rw [List.size_toArray,hl2,hl0]
  ·rw [<-ay,hcl,hnew]
   rw [show (n+1)*1=n*1+1 from by omega]
 have rV:∀W:World,W.heap[w.heap.size]? =some (.cells c0.toArray 9 (0,0))-> (W.setRow w.heap.size c1.toArray).heap[w.heap.size]? =some (.cells c1.toArray 9 (0,0)):=fun W hW=>setRow_heap W w.heap.size _ _ 9 _ hW;have mixed:prog.follows Departure.mixedOrders=true:=by kernel_rfl
 have hw1:IntKind.i64.wrap ((k:Int)+1)=(k:Int)+1:=by rw [IntKind.wrap_i64];omega
 have hz3:¬((k:Int)=(n:Int)):=by omega
 have iu:(cap:Int)<(n:Int)+1:=by omega
 have hb1:(0:Int)<= (k:Int)+1:=by omega
 have hin:k<=n:=by omega
 have htn:((k:Int)+1).toNat=k+1:=by omega
 have hb3:(k:Int)<= (n:Int):=by omega
 have LC:¬(G=k):=by omega
 have LD:¬(G=k+1):=by omega
 have lj:¬(cap=k):=by omega
 have hE:∀b:Nat,((w.alloc (.cells c0.toArray 9)).drew).heap[b]? =(w.drew.alloc (.cells c0.toArray 9)).heap[b]? :=fun _=>rfl;have nV:(((w.alloc (.cells c0.toArray 9)).drew.setRow w.heap.size c1.toArray).drew).heap[w.heap.size]? =some (.cells c1.toArray 9 (0,0)):=rV _ (nT _ hE);have rW:∀b,b<w.heap.size-> (((w.alloc (.cells c0.toArray 9)).drew.setRow w.heap.size c1.toArray).drew).heap[b]? =w.heap[b]? :=fun b hb=>by show ((w.drew.alloc (.cells c0.toArray 9)).setRow w.heap.size c1.toArray).heap[b]? =_;rw [setRow_other _ _ _ _ (by omega)];show (w.heap.push _)[b]? =_;rw [Array.getElem?_push,if_neg (by omega)]
 have bK:=nU _ nV rW;have rX:=hfin _ nV;have rY:Ext w ((((w.alloc (.cells c0.toArray 9)).drew.setRow w.heap.size c1.toArray).drew).setRow w.heap.size c2.toArray):=by refine Ext.grown (row:=some w.heap.size) (b:=w.alloc (.cells c0.toArray 9)) ((Ext.refl w).alloc _) ?_ (by simp);exact qD (b:=(w.alloc (.cells c0.toArray 9)).drew.setRow w.heap.size c1.toArray) (mW (jo (w.alloc (.cells c0.toArray 9)).drew w.heap.size c1.toArray)) (mW (jo (((w.alloc (.cells c0.toArray 9)).drew.setRow w.heap.size c1.toArray).drew) w.heap.size c2.toArray))
 have oN:=ae rX;have yR:=ae rY;clear hfin rX rY nU nV rW ay hl2 aS hc1 hc2 hcell bU hcl hg h1c h1 hcs hB hB' fq hold hkk hik nQ nR nS rU hc0 hrow hl0 hG qi nT rV hi hz0 hz1 hz2 hsz;go_enter func104,ntmps104
 go_wp2_with (first
  |(at_builtin;refine Lib.wpList_append_run _ rfl _ _ _ _ rfl _ _ rfl rfl _ _ (kX _) ?_)
  |(at_builtin;refine wpList_copy_runI _ rfl _ _ 33 33 rfl _ _ rfl rfl (yP _ hE _ _) ?_))
 go_region_law_o (refine step_copy_runI rfl _ _ 33 33 rfl (.slice (some ⟨w.heap.size,k+1,none⟩) (n-k) (G-(k+1))) (.slice (some ⟨g,k,none⟩) (n-k) (cap-k)) (by simp [Act.eval,Act.put]) (by simp [Act.eval,Act.put]) (bK _ _ _) ?_)
 go_wp2;go_ret;exact⟨G,rfl,oN.out,yR.out⟩
theorem acS (base n vb vc:Nat) (v:Value) (xs new:List Value) (w:World) (TB:TypeId) (eB:base<=w.heap.size) (hown:w.ownsRow base 9 1 v n xs) (cZ:n<=1073741824)
 (hB:af w vb new.toArray TB) (hnew:new.length=1) (h1:∀u∈new,u.oneCell'=true):
 Calls prog 104 #[v, .int .i64 n, .slice (some ⟨vb,0,none⟩) 1 vc] w fun e w'=>∃g cap,e= .returned (.slice (some ⟨g,0,none⟩) (n+1) cap)/\
  w'.ownsRow base 9 1 (.slice (some ⟨g,0,none⟩) (n+1) cap) (n+1) (xs++new)/\w.grownBy w' v.ownBlock/\ (v.ownBlock=some g\/g=w.heap.size):=by
 obtain⟨i0,hi,hz0,hz1,hz2⟩:=info_parts Tryz.vP;obtain⟨a,c,rfl,hok⟩:=fG hown;have hB':w.heap[vb]? =some (.cells new.toArray TB (0,0)):=hB;have hsl:(a=none/\n=0/\c=0)\/∃g,a=some ⟨g,0,none⟩:=by
  rcases hown.2 with⟨h,h0⟩|⟨g,cap,cur,h,-⟩
  ·simp only [Value.slice.injEq] at h;exact .inl ⟨h.1,h.2.1,h.2.2⟩
  ·simp only [Value.slice.injEq] at h;exact .inr ⟨g,h.1⟩
 have hcell:∀(j:Nat) (u:Value),new[j]? =some u->w.cell? ((⟨vb,0,none⟩:Addr).add j)=some u:=fun j u hj=>by rw [Addr.add_lit,cell_of_row w vb _ _ _ _ hB'];simpa using hj
 have rZ:=ae hcell;have bW:=ae hown;have hnc:=hok.1;have LF:c<=9223372036854775807:=hok.2.1;have hsk:(1:Nat)*1=new.length:=by omega
 clear hcell hown hB' hB hok;rcases hsl with⟨rfl,rfl,rfl⟩|⟨g0,rfl⟩
 ·go_enter func104,ntmps104
  go_wp2_with ((at_builtin;refine wpList_append_lies _ (by rfl) _ _ 33 (by rfl) base 9 i0 _ 1 16 underlying33 hi hz0 hz1 hz2 rfl (by decide) _ _ xs (by rfl) bW.out ⟨vb,0,none⟩ 1 vc new (by rfl) hsk.symm rZ.out h1 (by omega) (by unfold maxLen;omega) (by omega) eB _ rfl ?_;intro g6 bp w6 bz aW bX sU;have gL:=ae bz;have iC:=ae aW;have fF:=ae bX;clear bz aW bX));go_ret;exact⟨g6,bp,rfl,gL.out,iC.out,fF.out⟩
 ·go_enter func104,ntmps104
  go_wp2_with ((at_builtin;refine wpList_append_lies _ (by rfl) _ _ 33 (by rfl) base 9 i0 _ 1 16 underlying33 hi hz0 hz1 hz2 rfl (by decide) _ _ xs (by rfl) bW.out ⟨vb,0,none⟩ 1 vc new (by rfl) hsk.symm rZ.out h1 (by omega) (by unfold maxLen;omega) (by omega) eB _ rfl ?_;intro g6 bp w6 bz aW bX sU;have gL:=ae bz;have iC:=ae aW;have fF:=ae bX;clear bz aW bX))
  all_goals (go_ret;exact⟨g6,bp,rfl,gL.out,iC.out,fF.out⟩)
theorem uH (base n k vb vc:Nat) (v:Value) (xs new:List Value) (w:World) (TB:TypeId) (eB:base<=w.heap.size) (hown:w.ownsRow base 9 1 v n xs) (cZ:n<=1073741824) (hk:k<=n)
 (hB:af w vb new.toArray TB) (hvb:v.ownBlock≠some vb) (hnew:new.length=1) (h1c:∀u∈xs,u.oneCell'=true) (h1:∀u∈new,u.oneCell'=true):
 Calls prog 104 #[v, .int .i64 k, .slice (some ⟨vb,0,none⟩) 1 vc] w fun e w'=>∃g cap,e= .returned (.slice (some ⟨g,0,none⟩) (n+1) cap)/\
  w'.ownsRow base 9 1 (.slice (some ⟨g,0,none⟩) (n+1) cap) (n+1) (xs.take (k)++new++xs.drop (k))/\w.grownBy w' v.ownBlock/\ (v.ownBlock=some g\/g=w.heap.size):=by
 by_cases hkn:k=n
 ·subst hkn
  have hl:=hown.1;refine(acS base k vb vc v xs new w TB eB hown cZ hB hnew h1).mono ?_;rintro e w' ⟨g,cap,he,h2,h3,h4⟩;refine⟨g,cap,he,?_,h3,h4⟩;rw [List.take_of_length_le (by omega),List.drop_of_length_le (by omega),List.append_nil];exact h2
 ·obtain⟨g,cap,cur,rfl,hb,hg,hnc,hm,hcs,ht⟩:=pz hown (by omega)
  have ht':cur.toList.take (n)=xs:=by simpa using ht
  by_cases hroom:n<cap
  ·refine(acQ base g n cap k vb vc cur new w TB hb hg hroom hm hcs (by omega) hB (fun e=>hvb (by rw [e];rfl)) hnew (by rw [ht'];exact h1c) h1).mono ?_
   rintro e w' ⟨he,h2,h3⟩;rw [ht'] at h2;exact⟨g,cap,he,h2,h3, .inl rfl⟩
  ·refine(acR base g n cap k vb vc cur new w TB eB hg hnc (by omega) cZ hcs (by omega) hB hnew (by rw [ht'];exact h1c) h1).mono ?_
   rintro e w' ⟨G,he,h2,h3⟩;rw [ht'] at h2;exact⟨w.heap.size,G,he,h2,⟨h3.os,h3.tape,h3.output,h3.size,fun k hk _=>h3.block k hk⟩, .inr rfl⟩
theorem Fa (a:aq) (n c:Nat) (news:List Value) (w:World) (hok:aM a n c) (hbig:n<=1073741824) (hl:news.length=n*1) (hsrc:n=0\/∃ad,a=some ad/\∀j u,news[j]? =some u->w.cell? (ad.add j)=some u) (h1:∀u∈news,u.oneCell'=true):
 Calls prog 36 #[.slice a n c] w fun e w'=>∃a' c',e= .returned (.slice a' n c')/\aM a' n c'/\w'.ownsRow w.heap.size 9 1 (.slice a' n c') n news/\Ext w w':=by
 obtain⟨i0,hi,hz0,hz1,hz2⟩:=info_parts Tryz.vP;have PO:∀(w:World) (a:aq) (n c n' c':Nat),(binOp .eql 33 (.slice a n c) (.slice none n' c')).run prog w= .ok (.bool a.isNone) w:=fun w a n c n' c'=>Lib.run_eql_slice_nil w _ _ a n c n' c' underlying33
 cases a with
 |none=>
  obtain rfl:=hok.2.2 rfl;obtain rfl:n=0:=by have:=hok.1;omega
  obtain rfl:news= []:=List.eq_nil_of_length_eq_zero (by simpa using hl);clear hok hl hsrc h1;go_enter func36,ntmps36;go_wp2_with fail;go_ret;exact⟨none,0,rfl,aM.nil,World.ownsRow_nil _ _ _ _,Ext.refl _⟩
 |some ad=>
  have hc:∀j u,news[j]? =some u->w.cell? (ad.add j)=some u:=by
   rcases hsrc with h0|⟨PQ,he,h⟩
   ·subst h0
    obtain rfl:news= []:=List.eq_nil_of_length_eq_zero (by simpa using hl);intro j u hj;simp at hj
   ·simp only [Option.some.injEq] at he;subst he;exact h
  have Hc:=ae hc;have Hl:=ae hl;clear hc hsrc hl;have h63:n<=maxLen:=by unfold maxLen;omega
  go_enter func36,ntmps36;go_wp2_with (at_builtin;refine wpList_append_own _ rfl _ _ 33 rfl w.heap.size 9 i0 _ 1 16 underlying33 hi hz0 hz1 hz2 rfl (by decide) _ _ _ rfl (World.ownsRow_made w #[] 0 (Nat.le_refl _) (Nat.zero_le _) (by simp)) ad n c news rfl ?qc1 ?qc2 ?qc3 ?qc4 ?qc5 ?qc6 ?_)
  case qc1=>exact Hl.out
  case qc2=>
   intro j u hj;exact Lib.cell?_alloc_some _ (Hc.out j u hj)
  case qc3=>exact h1
  case qc4=>rw [Nat.zero_add];exact h63
  case qc5=>rw [Nat.zero_add];omega
  case qc6=>simp
  intro v' w1 hown hgrow hnil;obtain⟨a',c',rfl,uq⟩:=fG hown;go_wp2;go_ret;refine⟨a',c',by simp,by simpa using uq,by simpa using hown,?_⟩;exact((Below.refl _ w).alloc (Nat.le_refl _) _).grown hgrow (by simp) (by intro k hk;simp [Value.ownBlock] at hk;omega)
theorem zn (a:aq) (n c:Nat) (news:List Value) (w:World) (hok:aM a n c) (hbig:n<=1073741824) (hl:news.length=n*5) (hsrc:n=0\/∃ad,a=some ad/\∀j u,news[j]? =some u->w.cell? (ad.add j)=some u) (h1:∀u∈news,u.oneCell'=true):
 Calls prog 61 #[.slice a n c] w fun e w'=>∃a' c',e= .returned (.slice a' n c')/\aM a' n c'/\w'.ownsRow w.heap.size 36 5 (.slice a' n c') n news/\Ext w w':=by
 obtain⟨i0,hi,hz0,hz1,hz2⟩:=info_parts Tryz.yj;have PO:∀(w:World) (a:aq) (n c n' c':Nat),(binOp .eql 34 (.slice a n c) (.slice none n' c')).run prog w= .ok (.bool a.isNone) w:=fun w a n c n' c'=>Lib.run_eql_slice_nil w _ _ a n c n' c' underlying34
 cases a with
 |none=>
  obtain rfl:=hok.2.2 rfl;obtain rfl:n=0:=by have:=hok.1;omega
  obtain rfl:news= []:=List.eq_nil_of_length_eq_zero (by simpa using hl);clear hok hl hsrc h1;go_enter func61,ntmps61;go_wp2_with fail;go_ret;exact⟨none,0,rfl,aM.nil,World.ownsRow_nil _ _ _ _,Ext.refl _⟩
 |some ad=>
  have hc:∀j u,news[j]? =some u->w.cell? (ad.add j)=some u:=by
   rcases hsrc with h0|⟨PQ,he,h⟩
   ·subst h0
    obtain rfl:news= []:=List.eq_nil_of_length_eq_zero (by simpa using hl);intro j u hj;simp at hj
   ·simp only [Option.some.injEq] at he;subst he;exact h
  have Hc:=ae hc;have Hl:=ae hl;clear hc hsrc hl;have h63:n<=maxLen:=by unfold maxLen;omega
  go_enter func61,ntmps61;go_wp2_with (at_builtin;refine wpList_append_own _ rfl _ _ 34 rfl w.heap.size 36 i0 _ 5 80 underlying34 hi hz0 hz1 hz2 rfl (by decide) _ _ _ rfl (World.ownsRow_made w #[] 0 (Nat.le_refl _) (Nat.zero_le _) (by simp)) ad n c news rfl ?qc1 ?qc2 ?qc3 ?qc4 ?qc5 ?qc6 ?_)
  case qc1=>exact Hl.out
  case qc2=>
   intro j u hj;exact Lib.cell?_alloc_some _ (Hc.out j u hj)
  case qc3=>exact h1
  case qc4=>rw [Nat.zero_add];exact h63
  case qc5=>rw [Nat.zero_add];omega
  case qc6=>simp
  intro v' w1 hown hgrow hnil;obtain⟨a',c',rfl,uq⟩:=fG hown;go_wp2;go_ret;refine⟨a',c',by simp,by simpa using uq,by simpa using hown,?_⟩;exact((Below.refl _ w).alloc (Nat.le_refl _) _).grown hgrow (by simp) (by intro k hk;simp [Value.ownBlock] at hk;omega)
abbrev V.five (x:V) (ka:aq) (kc:Nat) (la:aq) (lc:Nat):List Value:= [.int .i64 x.k, .int .i64 x.n, .string x.s, .slice ka x.keys.length kc, .slice la x.l.length lc]
theorem V.lY (x:V) (ka:aq) (kc:Nat) (la:aq) (lc:Nat):∀u∈x.five ka kc la lc,u.oneCell'=true:=by
 intro u hu;simp only [V.five,List.mem_cons,List.not_mem_nil,or_false] at hu;rcases hu with rfl|rfl|rfl|rfl|rfl<;>rfl
theorem cH.cons {w:World} {T:aw} {x:V} {r:List V} {t:List Value} {ka:aq} {kc:Nat} {la:aq} {lc:Nat} (hx:x.In w T ka kc la lc) (hr:cH w T r t):cH w T (x::r) (x.five ka kc la lc++t):=
 ⟨ka,kc,la,lc,t,rfl,hx,hr⟩
theorem cH.Fb {w:World} {T:aw} {x:V} {r:List V} {xs:List Value} (h:cH w T (x::r) xs):∃ka kc la lc t,xs=x.five ka kc la lc++t/\x.In w T ka kc la lc/\cH w T r t:=by
 obtain⟨ka,kc,la,lc,t,rfl,h1,h2⟩:=h;exact⟨ka,kc,la,lc,t,rfl,h1,h2⟩
theorem cH.app {w:World} {T:aw} {a b:List V} {x y:List Value} (h1:cH w T a x) (h2:cH w T b y):cH w T (a++b) (x++y):=by
 induction a generalizing x with
 |nil=>obtain rfl:x= []:=h1;exact h2
 |cons v r ih=>
  obtain⟨ka,kc,la,lc,t,rfl,h3,h4⟩:=h1.Fb;rw [List.cons_append,List.append_assoc];exact .cons h3 (ih h4)
theorem cH.nil {w:World} {T:aw}:cH w T [] []:=rfl
theorem cH.cut {w:World} {T:aw} {l:List V} {xs:List Value} (h:cH w T l xs) (k:Nat):cH w T (l.take k) (xs.take (k*5))/\cH w T (l.drop k) (xs.drop (k*5)):=by
 induction k generalizing l xs with
 |zero=>exact⟨by rw [Nat.zero_mul,List.take_zero,List.take_zero];exact .nil,by simpa using h⟩
 |succ k ih=>
  cases l with
  |nil=>obtain rfl:xs= []:=h;exact⟨by rw [List.take_nil,List.take_nil];exact .nil,by rw [List.drop_nil,List.drop_nil];exact .nil⟩
  |cons v r=>
   obtain⟨ka,kc,la,lc,t,rfl,h3,h4⟩:=h.Fb;obtain⟨h5,h6⟩:=ih h4;have e:(k+1)*5=k*5+1+1+1+1+1:=by omega
   rw [e];refine⟨?_,?_⟩
   ·simp only [List.take_succ_cons,V.five,List.cons_append,List.nil_append]
    exact⟨ka,kc,la,lc,_,rfl,h3,h5⟩
   ·simpa using h6
theorem cH.one {w:World} {T:aw} {l:List V} {xs:List Value} (h:cH w T l xs):∀u∈xs,u.oneCell'=true:=by
 induction l generalizing xs with
 |nil=>obtain rfl:xs= []:=h;intro u hu;cases hu
 |cons v r ih=>
  obtain⟨ka,kc,la,lc,t,rfl,h3,h4⟩:=h.Fb;intro u hu;rcases List.mem_append.1 hu with hu|hu
  ·exact v.lY _ _ _ _ u hu
  ·exact ih h4 u hu
theorem cH.ins {w:World} {T:aw} {l:List V} {xs:List Value} (h:cH w T l xs) (k:Nat) {x:V} {ka:aq} {kc:Nat} {la:aq} {lc:Nat} (hx:x.In w T ka kc la lc):
 cH w T (l.take k++x::l.drop k) (xs.take (k*5)++x.five ka kc la lc++xs.drop (k*5)):=by
 rw [List.append_assoc];exact(h.cut k).1.app (.cons hx (h.cut k).2)
theorem cH.del {w:World} {T:aw} {l:List V} {xs:List Value} (h:cH w T l xs) (k:Nat):cH w T (l.take k++l.drop (k+1)) (xs.take (k*5)++xs.drop ((k+1)*5)):=(h.cut k).1.app (h.cut (k+1)).2
theorem cH.mono {w:World} {S T:aw} {l:List V} {xs:List Value} (h:cH w S l xs) (hT:∀b,S b->b<w.heap.size->T b):cH w T l xs:=h.keep (fun _ _ _=>rfl) hT
theorem zm {w:World} {S:aw} {l:List V} {a:aq} (h:Rows w S l a):∃xs,xs.length=l.length*5/\ (l.length=0\/∃ad,a=some ad/\∀j u,xs[j]? =some u->w.cell? (ad.add j)=some u)/\cH w S l xs:=by
 rcases h with rfl|⟨b,o,rfl,hS,hr⟩
 ·exact⟨[],rfl, .inl rfl,rfl⟩
 ·have aux:∀(l:List V) (o:Nat),(∀i (h:i<l.length),V.Item w S b (o+i*5) l[i])->∃xs,xs.length=l.length*5/\ (∀j u,xs[j]? =some u->w.cell? ⟨b,o+j,none⟩=some u)/\cH w S l xs:=by
   intro l
   induction l with
   |nil=>exact fun o _=>⟨[],rfl,fun j u hj=>by simp at hj,rfl⟩
   |cons x r ih=>
    intro o hr;obtain⟨ka,kc,la,lc,⟨c0,c1,c2,c3,c4⟩,hin⟩:=hr 0 (by simp)
    obtain⟨xs,h1,h2,h3⟩:=ih (o+5) (fun i hi=>by
     have:=hr (i+1) (by simpa using hi);rw [List.getElem_cons_succ,show o+(i+1)*5=o+5+i*5 from by omega] at this
     exact this)
    simp only [Nat.zero_mul,Nat.add_zero,List.getElem_cons_zero] at c0 c1 c2 c3 c4 hin;refine⟨x.five ka kc la lc++xs,by simp [h1];omega,?_, .cons hin h3⟩;intro j u hj
    match j with
    |0=>simp at hj;subst hj;exact c0
    |1=>simp at hj;subst hj;exact c1
    |2=>simp at hj;subst hj;exact c2
    |3=>simp at hj;subst hj;exact c3
    |4=>simp at hj;subst hj;exact c4
    |j+5=>
     have:xs[j]? =some u:=by simpa using hj
     have:=h2 j u this
     rwa [show o+5+j=o+(j+5) by omega] at this
  obtain⟨xs,h1,h2,h3⟩:=aux l o hr;exact⟨xs,h1, .inr ⟨_,rfl,fun j u hj=>by rw [Addr.add_lit];exact h2 j u hj⟩,h3⟩
theorem pI {w:World} {b0 b1 e size:Nat} {v:Value} {n:Nat} {xs:List Value} (h:w.ownsRow b1 e size v n xs) (hb:b0<=b1):w.ownsRow b0 e size v n xs:=by
 obtain⟨hl,h1⟩:=h;refine⟨hl,?_⟩;rcases h1 with h1|⟨g,cap,cur,hv,hg,hr⟩
 ·exact .inl h1
 ·exact .inr ⟨g,cap,cur,hv,Nat.le_trans hb hg,hr⟩
theorem gA.mk {w:World} {base:Nat} {S:aw} {v:Value} {n:Nat} {l:List V} {xs:List Value} (hl:l.length=n) (ho:w.ownsRow base 36 5 v n xs) (hc:cH w (dR base S v) l xs):gA w base S v n l:=⟨hl,xs,ho,hc⟩
theorem Cq (cur:Array Value) (a j:Nat) (u0 u1 u2 u3 u4:Value) (h:j<a\/a+5<=j):(((((cur.setIfInBounds a u0).setIfInBounds (a+1) u1).setIfInBounds (a+2) u2).setIfInBounds (a+3) u3).setIfInBounds (a+4) u4)[j]? =cur[j]? :=by
 have h0:¬a=j:=by omega
 have h1:¬a+1=j:=by omega
 have h2:¬a+2=j:=by omega
 have h3:¬a+3=j:=by omega
 have h4:¬a+4=j:=by omega
 simp [Array.getElem?_setIfInBounds,h0,h1,h2,h3,h4]
theorem Fe {w w':World} {F:aw} {g k:Nat} {cur:Array Value} {T:TypeId} {l:List V} {y:V} {ka:aq} {kc:Nat} {la:aq} {lc:Nat} (hb:af w g cur T) (hi:∀i (h:i<l.length),V.Item w F g (i*5) l[i])
 (hk:k<l.length) (hsz:l.length*5<=cur.size) (hy:y.In w F ka kc la lc)
 (hb':af w' g (((((cur.setIfInBounds (k*5) (.int .i64 y.k)).setIfInBounds (k*5+1) (.int .i64 y.n)).setIfInBounds (k*5+2) (.string y.s)).setIfInBounds (k*5+3) (.slice ka y.keys.length kc)).setIfInBounds (k*5+4) (.slice la y.l.length lc)) T)
 (hK:Kept F w w'):∀i (h:i<(l.set k y).length),V.Item w' F g (i*5) (l.set k y)[i]:=by
 have hc:=hb.cells;have hc':=hb'.cells;intro i h;simp only [List.length_set] at h;by_cases e:i=k
 ·subst e
  refine⟨ka,kc,la,lc,?_,?_⟩
  ·simp only [hc',List.getElem_set_self]
   have l0:i*5<cur.size:=by omega
   have l1:i*5+1<cur.size:=by omega
   have l2:i*5+2<cur.size:=by omega
   have l3:i*5+3<cur.size:=by omega
   have l4:i*5+4<cur.size:=by omega
   simp [Array.getElem?_setIfInBounds,l0,l1,l2,l3,l4]
  ·rw [List.getElem_set_self];exact hy.keep hK (fun _ h _=>h)
 ·obtain⟨fI,fJ,fW,fK,⟨c0,c1,c2,c3,c4⟩,hin⟩:=hi i h
  rw [hc] at c0 c1 c2 c3 c4;rw [List.getElem_set_ne (fun e'=>e e'.symm)];refine⟨fI,fJ,fW,fK,?_,hin.keep hK (fun _ h _=>h)⟩;simp only [hc'];have hap:∀j,j<5->i*5+j<k*5\/k*5+5<=i*5+j:=by intro j hj;omega
  exact⟨(Cq _ _ _ _ _ _ _ _ (hap 0 (by omega))).trans c0,(Cq _ _ _ _ _ _ _ _ (hap 1 (by omega))).trans c1,(Cq _ _ _ _ _ _ _ _ (hap 2 (by omega))).trans c2,(Cq _ _ _ _ _ _ _ _ (hap 3 (by omega))).trans c3,(Cq _ _ _ _ _ _ _ _ (hap 4 (by omega))).trans c4⟩
theorem af.jx {w:World} {g:Nat} {cur:Array Value} {T:TypeId} (h:af w g cur T) (a:Nat) (u0 u1 u2 u3 u4:Value):af (w.setCells g a [u0,u1,u2,u3,u4]) g (((((cur.setIfInBounds a u0).setIfInBounds (a+1) u1).setIfInBounds (a+2) u2).setIfInBounds (a+3) u3).setIfInBounds (a+4) u4) T:=
 ((((h.set a u0).set (a+1) u1).set (a+2) u2).set (a+3) u3).set (a+4) u4
theorem af.mG {w:World} {n:Nat} {vs:Array Value} {T:TypeId} (h:af w n vs T) {g:Nat} (hn:n≠g) (a:Nat) (cs:List Value):af (w.setCells g a cs) n vs T:=by
 induction cs generalizing w a with
 |nil=>exact h
 |cons c r ih=>exact ih (h.other (p:=⟨g,a,none⟩) hn c) _
theorem Held.jx {T:aw} {a b:World} (h:Held T a b) {g:Nat} (hg:¬T g) (o:Nat) (cs:List Value):Held T a (b.setCells g o cs):=by
 induction cs generalizing b o with
 |nil=>exact h
 |cons c r ih=>exact ih (h.set (p:=⟨g,o,none⟩) hg c) _
theorem Ext.jx {a b:World} (h:Ext a b) {g:Nat} (hg:a.heap.size<=g) (o:Nat) (cs:List Value):Ext a (b.setCells g o cs):=by
 induction cs generalizing b o with
 |nil=>exact h
 |cons c r ih=>exact ih (h.setCell (p:=⟨g,o,none⟩) hg c) _
theorem Ff {w:World} {g:Nat} {cur:Array Value} {T:TypeId} (h:af w g cur T) {o n:Nat} (hs:o+n<=cur.size):w.there g o n:=by
 intro j hj;rw [h.cells,h.free,Array.getElem?_eq_getElem (by omega)];exact⟨rfl,rfl⟩
theorem Tryz.Fg:(prog.info? 36).map (·.size)=some 5:=by kernel_rfl
theorem V.Item.keep' {S T:aw} {w w':World} {b o:Nat} {x:V} (h:V.Item w S b o x) (hT:T b) (hk:Kept T w w') (hS:∀b,S b->T b):V.Item w' S b o x:=by
 obtain⟨ka,kc,la,lc,⟨c0,c1,c2,c3,c4⟩,hin⟩:=h;exact⟨ka,kc,la,lc,⟨hk.cell hT c0,hk.cell hT c1,hk.cell hT c2,hk.cell hT c3,hk.cell hT c4⟩,hin.keep (hk.mono hS) (fun _ h _=>h)⟩
theorem V.Item.mono {S T:aw} {w:World} {b o:Nat} {x:V} (h:V.Item w S b o x) (hT:∀b,S b->T b):V.Item w T b o x:=by
 obtain⟨ka,kc,la,lc,hc,hin⟩:=h;exact⟨ka,kc,la,lc,hc,hin.mono (fun b h _=>hT b h)⟩
theorem pJ {w:World} {base:Nat} {F:aw} {a:aq} {n c:Nat} {l:List V} {xs:List Value} (hn:0<n) (hl:l.length=n) (ho:w.ownsRow base 36 5 (.slice a n c) n xs) (hc:cH w F l xs):
 ∃g cur,a=some ⟨g,0,none⟩/\base<=g/\af w g cur 36/\n*5<=cur.size/\∀i (h:i<l.length),V.Item w F g (i*5) l[i]:=by
 obtain⟨g,cap,cur,hv,hb,hg,hnc,hcm,hcs,ht⟩:=pz ho hn;simp only [Value.slice.injEq,true_and] at hv;obtain⟨rfl,rfl⟩:=hv;have hlt:n*5<=c*5:=Nat.mul_le_mul_right _ hnc;refine⟨g,cur,rfl,hb,hg,by omega,?_⟩;intro i hi;obtain⟨ka,kc,la,lc,⟨c0,c1,c2,c3,c4⟩,hin⟩:=hc.item i hi;have hx:∀j u,xs[j]? =some u->w.cell? ⟨g,j,none⟩=some u:=by
  intro j u hj;rw [cell_of_row w g j cur _ _ hg];rw [<-ht] at hj;rw [List.getElem?_take] at hj
  split at hj
  ·simpa using hj
  ·cases hj
 exact⟨ka,kc,la,lc,⟨hx _ _ c0,hx _ _ c1,hx _ _ c2,hx _ _ c3,hx _ _ c4⟩,hin⟩
theorem zw (a:aq) (n c:Nat) (ks:List ah) (S:aw) (key:ah) (w:World) (hn:ks.length=n) (hst:bC w S a ks) (hr:cG ks) (hbig:n<=1073741824):
 Calls prog 68 #[.slice a n c, .string key] w fun e w'=>e= .returned (.tuple #[.int .i64 (posOf ks key:Nat), .bool (hasB ks key)])/\Ext w w':=by
 subst hn;rcases hst with rfl|⟨b,o,rfl,hS,hc⟩
 ·refine(Any2.slices_BinarySearch_string_empty Tryz.PR a c key w).mono ?_
  rintro e w' ⟨rfl,rfl⟩;exact⟨rfl,Ext.refl _⟩
 ·have hcs:∀j,j<ks.length->w.cell? ⟨b,o+j,none⟩=some (.string (ks.getD j ⟨#[]⟩)):=by
   intro j hj;rw [hc j hj];simp [List.getD,List.getElem?_eq_getElem hj]
  have hp:=sK ks key;have hb:Lib.bsGo (fun t=>Op.bytesLess (ks.getD t ⟨#[]⟩).toList key.toList) ks.length 0 ks.length=posOf ks key:=by
   have e:∀lo hi f,hi<=ks.length->Lib.bsGo (fun t=>Op.bytesLess (ks.getD t ⟨#[]⟩).toList key.toList) f lo hi=Lib.bsGo (fun t=>decide (t<posOf ks key)) f lo hi:=by
    intro lo hi f
    induction f generalizing lo hi with
    |zero=>intro _;rfl
    |succ f ih=>
     intro hh;unfold Lib.bsGo;by_cases hlt:lo<hi
     ·rw [if_pos hlt,if_pos hlt]
      have hm:(lo+hi)/2<ks.length:=by omega
      have:Op.bytesLess (ks.getD ((lo+hi)/2) ⟨#[]⟩).toList key.toList=decide ((lo+hi)/2<posOf ks key):=by
       have eg:ks.getD ((lo+hi)/2) ⟨#[]⟩=ks[(lo+hi)/2]:=by simp [List.getD,List.getElem?_eq_getElem hm]
       rw [eg];by_cases hp2:(lo+hi)/2<posOf ks key
       ·rw [decide_eq_true hp2];exact OI hm hp2
       ·rw [decide_eq_false hp2];exact OL hr hm (by omega)
      rw [this,ih _ _ hh,ih _ _ (by omega)]
     ·rw [if_neg hlt,if_neg hlt]
   rw [e _ _ _ (Nat.le_refl _)];exact Lib.bsGo_spec _ _ (fun t ht=>by simpa using ht) (fun t ht=>by simpa using ht) _ _ _ (by omega) (by omega) hp
  refine(Any2.slices_BinarySearch_string Tryz.PR b o ks.length c (fun t=>ks.getD t ⟨#[]⟩) key w (by omega) hcs).mono ?_;rintro e w' ⟨rfl,q,rfl⟩;rw [hb];refine⟨?_,(Ext.refl w).drewN q⟩;have:decide (posOf ks key<ks.length/\ks.getD (posOf ks key) ⟨#[]⟩=key)=hasB ks key:=by
   rw [Bool.eq_iff_iff,decide_eq_true_eq,BZ];constructor
   ·rintro⟨h1,h2⟩
    rw [List.getElem?_eq_getElem h1];simp only [List.getD,List.getElem?_eq_getElem h1,Option.getD_some] at h2;rw [h2]
   ·intro h
    obtain⟨h1,h2⟩:=List.getElem?_eq_some_iff.1 h;exact⟨h1,by simp [List.getD,h]⟩
  rw [this]
end Go.Proofs.YtlcebdaghmdkeabGreatDoor
namespace Go.Proofs.YtlcebdaghmdkeabGreatDoor
abbrev Bytes:=List UInt8
def lL (n:Nat):UInt8:=if n<10 then UInt8.ofNat (48+n) else UInt8.ofNat (87+n)
def nA (c:UInt8):Bytes:=
 if c=34\/c=92 then [92,c] else if c=8 then [92,98] else if c=12 then [92,102] else if c=10 then [92,110] else if c=13 then [92,114] else if c=9 then [92,116]
 else if c.toNat<32\/c=127 then [92,117,48,48,lL (c.toNat/16),lL (c.toNat%16)] else [c]
def nB (s:Bytes):Bytes:=34::(s.flatMap nA++ [34])
def V.text:V->Bytes
 | .mk k n s ks l=>
   if k=0 then [110,117,108,108] else if k=1 then(if n=1 then [116,114,117,101] else [102,97,108,115,101]) else if k=2 then Lib.itoa n else if k=3 then nB s.data.toList
   else if k=5 then 123::(go true true ks l++ [125]) else 91::(go false true ks l++ [93])
where go:Bool->Bool->List ah->List V->Bytes
 |_,_,_, []=> []
 |o,first,ks,x::r=>(if first then [] else [44])++((if o then nB (ks.headD ⟨#[]⟩).data.toList++ [58] else [])++(V.text x++go o false ks.tail r))
def isSp (c:UInt8):Bool:=c==32||c==9||c==10||c==13
def dG (s:Bytes):Bytes:=s.dropWhile isSp
def gK (c:UInt8):Option Nat:=
 if 48<=c.toNat/\c.toNat<=57 then some (c.toNat-48) else if 97<=c.toNat/\c.toNat<=102 then some (c.toNat-87) else if 65<=c.toNat/\c.toNat<=70 then some (c.toNat-55) else none
def yf (s:Bytes):Option (Nat×Bytes):=
 match s with
 |a::b::c::d::t=>(gK a).bind fun a=>(gK b).bind fun b=>(gK c).bind fun c=>(gK d).bind fun d=>some (((a*16+b)*16+c)*16+d,t)
 |_=>none
def z6 (c:UInt8):Option UInt8:=
 if c=34 then some 34 else if c=92 then some 92 else if c=47 then some 47 else if c=98 then some 8 else if c=102 then some 12 else if c=110 then some 10 else if c=114 then some 13 else if c=116 then some 9 else none
def jY (s:Bytes):Option (UInt8×Bytes):=
 match s with
 | []=>none
 |c::t=>
  match z6 c with
  |some m=>some (m,t)
  |none=>if c=117 then(yf t).bind fun p=>if p.1<128 then some (UInt8.ofNat p.1,p.2) else none else none
def gw:Nat->Bytes->Bytes->Option (Bytes×Bytes)
 |0,_,_=>none
 |_+1, [],_=>none
 |f+1,c::t,b=>
  if c.toNat<32\/127<=c.toNat\/60<b.length then none
  else if c=34 then some (b,t)
  else if c=92 then(jY t).bind fun p=>gw f p.2 (b++ [p.1])
  else gw f t (b++ [c])
def gy (c:UInt8):Bool:=decide (48<=c.toNat)&&decide (c.toNat<=57)
def kC (s:Bytes):Nat:=match s with
 |45::t=>(t.takeWhile gy).length+1
 |s=>(s.takeWhile gy).length
def ej (s:Bytes):Option (Int×Bytes):=
 if 17<kC s then none else
 match Lib.atoiAll (s.take (kC s)) with
 | .ok k=>if Lib.itoa k=s.take (kC s)/\ -9007199254740992<=k/\k<=9007199254740992 then some (k,s.drop (kC s)) else none
 |_=>none
def iT (val:Bytes->Option (V×Bytes)):Nat->Bytes->List V->Option (List V×Bytes)
 |0,_,_=>none
 |g+1,s,l=>
  match dG s with
  | []=>none
  |c::t=>
   if c=93 then some (l,t)
   else(if l= [] then some (c::t) else if c=44 then some t else none).bind fun s1=>(val s1).bind fun p=>iT val g p.2 (l++ [p.1])
def jZ (val:Bytes->Option (V×Bytes)) (s:Bytes):Option ((ah×V)×Bytes):=
 match dG s with
 | []=>none
 |c::t=>
  if c=34 then
   (gw (t.length+1) t []).bind fun p=>
   match dG p.2 with
   | []=>none
   |c::t=>if c=58 then(val t).map fun q=>((⟨p.1.toArray⟩,q.1),q.2) else none
  else none
def j3 (val:Bytes->Option (V×Bytes)):Nat->Bytes->List ah->List V->Option ((List ah×List V)×Bytes)
 |0,_,_,_=>none
 |g+1,s,ks,l=>
  match dG s with
  | []=>none
  |c::t=>
   if c=125 then some ((ks,l),t)
   else(if l= [] then some (c::t) else if c=44 then some t else none).bind fun s1=>(jZ val s1).bind fun p=>
    if hasB ks p.1.1=true then none
    else j3 val g p.2 (ks.take (posOf ks p.1.1)++p.1.1::ks.drop (posOf ks p.1.1)) (l.take (posOf ks p.1.1)++p.1.2::l.drop (posOf ks p.1.1))
abbrev yg:V:= .mk 1 1 ⟨#[]⟩ [] []
abbrev yh:V:= .mk 1 0 ⟨#[]⟩ [] []
def cg:Nat->Bytes->Option (V×Bytes)
 |0,_=>none
 |f+1,s=>
  match dG s with
  | []=>none
  |c::t=>
   if c=110 then(if [117,108,108].isPrefixOf t=true then some (V.zero,t.drop 3) else none)
   else if c=116 then(if [114,117,101].isPrefixOf t=true then some (yg,t.drop 3) else none)
   else if c=102 then(if [97,108,115,101].isPrefixOf t=true then some (yh,t.drop 4) else none)
   else if c=34 then(gw (t.length+1) t []).map fun p=>(.mk 3 0 ⟨p.1.toArray⟩ [] [],p.2)
   else if c=45\/gy c=true then(ej (c::t)).map fun p=>(.mk 2 p.1 ⟨#[]⟩ [] [],p.2)
   else if c=91 then(iT (cg f) (t.length+1) t []).map fun p=>(.mk 4 0 ⟨#[]⟩ [] p.1,p.2)
   else if c=123 then(j3 (cg f) (t.length+1) t [] []).map fun p=>(.mk 5 0 ⟨#[]⟩ p.1.1 p.1.2,p.2)
   else none
def Ci (s:Bytes):Option V:=(cg 12 s).bind fun p=>if dG p.2= []/\p.1.fine=true then some p.1 else none
def ek (s:Bytes):V×Int:=if 2000<s.length then(V.zero,2) else match Ci s with|some v=>(v,0)|none=>(V.zero,1)
def kS (x:V):Bytes×Int:=if x.fine=false then([],1) else if 2000<x.text.length then([],2) else(x.text,0)
theorem YD {s:Bytes} {v:V} (h:Ci s=some v):v.fine=true:=by
 unfold Ci at h
 cases hv:cg 12 s with
 |none=>rw [hv] at h;cases h
 |some p=>
  rw [hv] at h;simp only [Option.bind_some] at h
  split at h
  ·rename_i hc;cases h;exact hc.2
  ·cases h
theorem mE (s:Bytes):(dG s).length<=s.length:=(List.dropWhile_sublist _).length_le
theorem EY {s:Bytes} {p:UInt8×Bytes} (h:jY s=some p):p.2.length<s.length:=by
 unfold jY at h
 split at h
 ·cases h
 ·split at h
  ·cases h;simp
  ·split at h
   ·unfold yf at h
    split at h
    ·rename_i a b c d t'
     cases ha:gK a with
     |none=>rw [ha] at h;cases h
     |some a=>cases hb:gK b with
      |none=>rw [ha,hb] at h;cases h
      |some b=>cases hc:gK c with
       |none=>rw [ha,hb,hc] at h;cases h
       |some c=>cases hd:gK d with
        |none=>rw [ha,hb,hc,hd] at h;cases h
        |some d=>
         rw [ha,hb,hc,hd] at h;simp only [Option.bind_some] at h
         split at h
         ·cases h;simp;omega
         ·cases h
    ·cases h
   ·cases h
theorem Cj:∀(f:Nat) (s b:Bytes) (p:Bytes×Bytes),gw f s b=some p->p.2.length<s.length
 |0,_,_,_,h=>by cases h
 |_+1, [],_,_,h=>by cases h
 |f+1,c::t,b,p,h=>by
  rw [gw] at h
  split at h
  ·cases h
  ·split at h
   ·cases h;simp
   ·split at h
    ·cases he:jY t with
     |none=>rw [he] at h;cases h
     |some q=>
      rw [he] at h;have h1:=EY he;have h2:=Cj f _ _ _ h;simp only [List.length_cons];omega
    ·have h2:=Cj f _ _ _ h
     simp only [List.length_cons];omega
theorem Po {s:Bytes} {p:Int×Bytes} (h:ej s=some p):p.2.length<=s.length/\ (0<kC s->s≠ []->p.2.length<s.length):=by
 unfold ej at h
 split at h
 ·cases h
 ·split at h
  ·split at h
   ·cases h
    refine⟨by simp,fun h0 h1=> ?_⟩;have:=List.length_pos_iff.2 h1;simp;omega
   ·cases h
  ·cases h
theorem JD {val:Bytes->Option (V×Bytes)} (hv:∀s p,val s=some p->p.2.length<s.length):∀(g:Nat) (s:Bytes) (l:List V) (p:List V×Bytes),iT val g s l=some p->p.2.length<s.length
 |0,_,_,_,h=>by cases h
 |g+1,s,l,p,h=>by
  rw [iT] at h;have hs:=mE s
  split at h
  ·cases h
  ·rename_i c t he
   rw [he] at hs;simp only [List.length_cons] at hs
   split at h
   ·cases h;simp only;omega
   ·split at h
    ·simp only [Option.bind_some] at h
     cases hq:val (c::t) with
     |none=>rw [hq] at h;cases h
     |some q=>
      rw [hq] at h;have h1:=hv _ _ hq;have h2:=JD hv g _ _ _ h;simp only [List.length_cons] at h1;omega
    ·split at h
     ·simp only [Option.bind_some] at h
      cases hq:val t with
      |none=>rw [hq] at h;cases h
      |some q=>
       rw [hq] at h;have h1:=hv _ _ hq;have h2:=JD hv g _ _ _ h;omega
     ·cases h
theorem JE {val:Bytes->Option (V×Bytes)} (hv:∀s p,val s=some p->p.2.length<s.length) {s:Bytes} {p:(ah×V)×Bytes} (h:jZ val s=some p):p.2.length<s.length:=by
 unfold jZ at h;have hs:=mE s
 split at h
 ·cases h
 ·rename_i c t he
  rw [he] at hs;simp only [List.length_cons] at hs
  split at h
  ·cases hq:gw (t.length+1) t [] with
   |none=>rw [hq] at h;cases h
   |some q=>
    rw [hq] at h;simp only [Option.bind_some] at h;have h1:=Cj _ _ _ _ hq;have h2:=mE q.2
    split at h
    ·cases h
    ·rename_i c' t' he'
     rw [he'] at h2;simp only [List.length_cons] at h2
     split at h
     ·cases hr:val t' with
      |none=>rw [hr] at h;cases h
      |some r=>
       rw [hr] at h;have h3:=hv _ _ hr
       cases h
       simp only;omega
     ·cases h
  ·cases h
theorem Pp {val:Bytes->Option (V×Bytes)} (hv:∀s p,val s=some p->p.2.length<s.length):∀(g:Nat) (s:Bytes) (ks:List ah) (l:List V) (p:(List ah×List V)×Bytes),j3 val g s ks l=some p->p.2.length<s.length
 |0,_,_,_,_,h=>by cases h
 |g+1,s,ks,l,p,h=>by
  rw [j3] at h;have hs:=mE s
  split at h
  ·cases h
  ·rename_i c t he
   rw [he] at hs;simp only [List.length_cons] at hs
   split at h
   ·cases h;simp only;omega
   ·have aux:∀s1:Bytes,s1.length<=t.length+1-> ((jZ val s1).bind fun p=>if hasB ks p.1.1=true then none else j3 val g p.2 (ks.take (posOf ks p.1.1)++p.1.1::ks.drop (posOf ks p.1.1)) (l.take (posOf ks p.1.1)++p.1.2::l.drop (posOf ks p.1.1)))=some p->p.2.length<s.length:=by
     intro s1 h1 h
     cases hq:jZ val s1 with
     |none=>rw [hq] at h;cases h
     |some q=>
      rw [hq] at h;simp only [Option.bind_some] at h
      split at h
      ·cases h
      ·have h2:=JE hv hq
       have h3:=Pp hv g _ _ _ _ h;omega
    split at h
    ·exact aux _ (by simp) h
    ·split at h
     ·exact aux _ (by omega) h
     ·cases h
theorem Pq {c:UInt8} {t:Bytes} (h:c=45\/gy c=true):0<kC (c::t):=by
 unfold kC
 split
 ·omega
 ·rename_i hne
  rcases h with rfl|h
  ·exact absurd rfl (hne t)
  ·rw [List.takeWhile_cons,if_pos h];simp
theorem z7:∀(f:Nat) (s:Bytes) (p:V×Bytes),cg f s=some p->p.2.length<s.length
 |0,_,_,h=>by cases h
 |f+1,s,p,h=>by
  rw [cg] at h;have hs:=mE s
  split at h
  ·cases h
  ·rename_i c t he
   rw [he] at hs;simp only [List.length_cons] at hs
   repeat (split at h;rotate_left)
   all_goals first
    |(cases h;done)
    |(split at h;(first|(cases h;simp only [List.length_drop];omega)|cases h);(first|(cases h;done)|skip))
    |skip
   ·simp only [Option.map_eq_some_iff] at h
    obtain⟨q,hq,rfl⟩:=h;have:=Cj _ _ _ _ hq;simp only;omega
   ·rename_i hd
    simp only [Option.map_eq_some_iff] at h;obtain⟨q,hq,rfl⟩:=h;have:=(Po hq).2 (Pq hd) (by simp);simp only [List.length_cons] at this⊢;omega
   ·simp only [Option.map_eq_some_iff] at h
    obtain⟨q,hq,rfl⟩:=h;have:=JD (z7 f) _ _ _ _ hq;simp only;omega
   ·simp only [Option.map_eq_some_iff] at h
    obtain⟨q,hq,rfl⟩:=h;have:=Pp (z7 f) _ _ _ _ _ hq;simp only;omega
example:(ek [32,123,34,98,34,58,32,91,49,44,32,110,117,108,108,93,125]).2=0:=by decide+kernel
theorem JF:∀(k u:Nat),u<10^ (k+1)->Lib.nDigits u<=k+1
 |0,u,h=>by rw [Lib.nDigits_small (by simpa using h)];omega
 |k+1,u,h=>by
  by_cases hu:u<10
  ·rw [Lib.nDigits_small hu];omega
  ·rw [Lib.nDigits_big hu]
   have:=JF k (u/10) (by rw [Nat.pow_succ] at h;omega);omega
theorem YE {c:UInt8}:gy c=true↔48<=c.toNat/\c.toNat<=57:=by simp [gy]
def Stop (s:Bytes):Prop:=∀c t,s=c::t->gy c=false
theorem YF {n:Int} (h0: -9007199254740992<=n) (h1:n<=9007199254740992):(Lib.itoa n).length<=17:=by
 unfold Lib.itoa
 split
 ·rw [List.length_cons,Lib.decDigits_length]
  have:=JF 15 n.natAbs (by omega);omega
 ·rw [Lib.decDigits_length]
  have:=JF 15 n.toNat (by omega);omega
theorem JG (c:UInt8):UInt8.ofNat c.toNat=c:=by apply UInt8.toNat_inj.1;simp
theorem Pr {s:ah} (h:fD s=true):(∀c∈s.data.toList,c.toNat<128)/\s.data.toList.length<=60:=by
 simp only [fD,Bool.and_eq_true,List.all_eq_true,decide_eq_true_eq] at h;refine⟨fun c hc=>by have:=h.1 c hc;omega,?_⟩;have e:s.data.toList.length=s.size:=Array.length_toList;omega
theorem YG {c:UInt8} (h:c=45\/gy c=true):isSp c=false/\c≠93/\c≠125/\c≠44/\c≠110/\c≠116/\c≠102/\c≠34:=by
 rcases h with rfl|h
 ·decide
 ·rw [YE] at h
  have hn:∀d:UInt8,(d.toNat<48\/57<d.toNat)->c≠d:=fun d hd e=>by subst e;omega
  have e1:=hn 32 (by decide);have e2:=hn 9 (by decide);have e3:=hn 10 (by decide);have e4:=hn 13 (by decide);exact⟨by simp [isSp,e1,e2,e3,e4],hn _ (by decide),hn _ (by decide),hn _ (by decide),hn _ (by decide),hn _ (by decide),hn _ (by decide),hn _ (by decide)⟩
theorem yi (x:V):x.text=if x.k=0 then [110,117,108,108] else if x.k=1 then(if x.n=1 then [116,114,117,101] else [102,97,108,115,101]) else if x.k=2 then Lib.itoa x.n else if x.k=3 then nB x.s.data.toList
 else if x.k=5 then 123::(V.text.go true true x.keys x.l++ [125]) else 91::(V.text.go false true x.keys x.l++ [93]):=by
 cases x with|mk k n s ks l=>rw [V.text];rfl
theorem JH (o first:Bool) (ks:List ah):V.text.go o first ks []= []:=by cases o<;>cases first<;>rfl
theorem Ps (o first:Bool) (ks:List ah) (x:V) (r:List V):V.text.go o first ks (x::r)=(if first then [] else [44])++((if o then nB (ks.headD ⟨#[]⟩).data.toList++ [58] else [])++(x.text++V.text.go o false ks.tail r)):=by rw [V.text.go]
theorem JI:∀(f f':Nat) (s b:Bytes),s.length<f->s.length<f'->gw f s b=gw f' s b
 |0,_,_,_,h,_=>absurd h (Nat.not_lt_zero _)
 |_,0,_,_,_,h=>absurd h (Nat.not_lt_zero _)
 |f+1,f'+1, [],b,_,_=>rfl
 |f+1,f'+1,c::t,b,h,h'=>by
  simp only [List.length_cons] at h h';rw [gw,gw]
  split
  ·rfl
  ·split
   ·rfl
   ·split
    ·cases he:jY t with
     |none=>rfl
     |some p=>
      have:=EY he;simp only [Option.bind_some];exact JI f f' _ _ (by omega) (by omega)
    ·exact JI f f' _ _ (by omega) (by omega)
def Pt (val:Bytes->Option (V×Bytes)):Prop:=∀s p,val s=some p->p.2.length<s.length
theorem Pv {val:Bytes->Option (V×Bytes)} (hv:Pt val):∀(f f':Nat) (s:Bytes) (l:List V),s.length<f->s.length<f'->iT val f s l=iT val f' s l
 |0,_,_,_,h,_=>absurd h (Nat.not_lt_zero _)
 |_,0,_,_,_,h=>absurd h (Nat.not_lt_zero _)
 |f+1,f'+1,s,l,h,h'=>by
  rw [iT,iT];have hs:=mE s
  split
  ·rfl
  ·rename_i c t he
   rw [he] at hs;simp only [List.length_cons] at hs
   split
   ·rfl
   ·have aux:∀s1:Bytes,s1.length<=t.length+1-> ((val s1).bind fun p=>iT val f p.2 (l++ [p.1]))=((val s1).bind fun p=>iT val f' p.2 (l++ [p.1])):=by
     intro s1 h1
     cases hq:val s1 with
     |none=>rfl
     |some q=>
      have h2:=hv _ _ hq;simp only [Option.bind_some];exact Pv hv f f' _ _ (by omega) (by omega)
    split
    ·exact aux _ (by simp)
    ·split
     ·exact aux _ (by omega)
     ·rfl
theorem Pw {val:Bytes->Option (V×Bytes)} (hv:Pt val):∀(f f':Nat) (s:Bytes) (ks:List ah) (l:List V),s.length<f->s.length<f'->j3 val f s ks l=j3 val f' s ks l
 |0,_,_,_,_,h,_=>absurd h (Nat.not_lt_zero _)
 |_,0,_,_,_,_,h=>absurd h (Nat.not_lt_zero _)
 |f+1,f'+1,s,ks,l,h,h'=>by
  rw [j3,j3];have hs:=mE s
  split
  ·rfl
  ·rename_i c t he
   rw [he] at hs;simp only [List.length_cons] at hs
   split
   ·rfl
   ·have aux:∀s1:Bytes,s1.length<=t.length+1-> ((jZ val s1).bind fun p=>if hasB ks p.1.1=true then none else j3 val f p.2 (ks.take (posOf ks p.1.1)++p.1.1::ks.drop (posOf ks p.1.1)) (l.take (posOf ks p.1.1)++p.1.2::l.drop (posOf ks p.1.1)))=((jZ val s1).bind fun p=>if hasB ks p.1.1=true then none else j3 val f' p.2 (ks.take (posOf ks p.1.1)++p.1.1::ks.drop (posOf ks p.1.1)) (l.take (posOf ks p.1.1)++p.1.2::l.drop (posOf ks p.1.1))):=by
     intro s1 h1
     cases hq:jZ val s1 with
     |none=>rfl
     |some q=>
      have h2:=JE hv hq;simp only [Option.bind_some]
      split
      ·rfl
      ·exact Pw hv f f' _ _ _ (by omega) (by omega)
    split
    ·exact aux _ (by simp)
    ·split
     ·exact aux _ (by omega)
     ·rfl
theorem EZ:∀(f:Nat) (s b:Bytes) (p:Bytes×Bytes),gw f s b=some p->p.1.length+p.2.length+1<=s.length+b.length
 |0,_,_,_,h=>by cases h
 |_+1, [],_,_,h=>by cases h
 |f+1,c::t,b,p,h=>by
  rw [gw] at h
  split at h
  ·cases h
  ·split at h
   ·cases h;simp;omega
   ·split at h
    ·cases he:jY t with
     |none=>rw [he] at h;cases h
     |some q=>
      rw [he] at h;have h1:=EY he;have h2:=EZ f _ _ _ h;simp only [List.length_cons,List.length_append,List.length_nil] at*;omega
    ·have h2:=EZ f _ _ _ h
     simp only [List.length_cons,List.length_append,List.length_nil] at*;omega
def E0 (val:Bytes->Option (V×Bytes)):Prop:=∀s p,val s=some p->p.1.size+p.2.length<=s.length
theorem Px {val:Bytes->Option (V×Bytes)} (hv:E0 val):∀(g:Nat) (s:Bytes) (l:List V) (p:List V×Bytes),iT val g s l=some p-> (p.1.map V.size).sum+p.2.length+1<=s.length+(l.map V.size).sum
 |0,_,_,_,h=>by cases h
 |g+1,s,l,p,h=>by
  rw [iT] at h;have hs:=mE s
  split at h
  ·cases h
  ·rename_i c t he
   rw [he] at hs;simp only [List.length_cons] at hs
   split at h
   ·cases h;simp only;omega
   ·have aux:∀s1:Bytes,s1.length<=t.length+1-> ((val s1).bind fun p=>iT val g p.2 (l++ [p.1]))=some p-> (p.1.map V.size).sum+p.2.length+1<=s.length+(l.map V.size).sum:=by
     intro s1 h1 h
     cases hq:val s1 with
     |none=>rw [hq] at h;cases h
     |some q=>
      rw [hq] at h;have h2:=hv _ _ hq;have h3:=Px hv g _ _ _ h;simp only [List.map_append,List.sum_append,List.map_cons,List.map_nil,List.sum_cons,List.sum_nil] at h3;omega
    split at h
    ·exact aux _ (by simp) h
    ·split at h
     ·exact aux _ (by omega) h
     ·cases h
theorem YH {val:Bytes->Option (V×Bytes)} (hv:E0 val) {s:Bytes} {p:(ah×V)×Bytes} (h:jZ val s=some p):p.1.1.size+1+p.1.2.size+p.2.length<=s.length:=by
 unfold jZ at h;have hs:=mE s
 split at h
 ·cases h
 ·rename_i c t he
  rw [he] at hs;simp only [List.length_cons] at hs
  split at h
  ·cases hq:gw (t.length+1) t [] with
   |none=>rw [hq] at h;cases h
   |some q=>
    rw [hq] at h;simp only [Option.bind_some] at h;have h1:=EZ _ _ _ _ hq;have h2:=mE q.2
    split at h
    ·cases h
    ·rename_i c' t' he'
     rw [he'] at h2;simp only [List.length_cons,List.length_nil] at h1 h2
     split at h
     ·cases hr:val t' with
      |none=>rw [hr] at h;cases h
      |some r=>
       rw [hr] at h;have h3:=hv _ _ hr
       cases h
       simp only [ByteArray.size,List.size_toArray];omega
     ·cases h
  ·cases h
theorem Py {α:Type} (f:α->Nat) (l:List α) (k:Nat) (x:α):((l.take k++x::l.drop k).map f).sum=(l.map f).sum+f x:=by
 have h:(l.map f).sum=((l.take k).map f).sum+((l.drop k).map f).sum:=by rw [<-List.sum_append,<-List.map_append,List.take_append_drop]
 simp only [List.map_append,List.map_cons,List.sum_append,List.sum_cons];omega
theorem Pz {val:Bytes->Option (V×Bytes)} (hv:E0 val):∀(g:Nat) (s:Bytes) (ks:List ah) (l:List V) (p:(List ah×List V)×Bytes),j3 val g s ks l=some p->eY p.1.1+(p.1.2.map V.size).sum+p.2.length+1<=s.length+eY ks+(l.map V.size).sum
 |0,_,_,_,_,h=>by cases h
 |g+1,s,ks,l,p,h=>by
  rw [j3] at h;have hs:=mE s
  split at h
  ·cases h
  ·rename_i c t he
   rw [he] at hs;simp only [List.length_cons] at hs
   split at h
   ·cases h;simp only;omega
   ·have aux:∀s1:Bytes,s1.length<=t.length+1-> ((jZ val s1).bind fun p=>if hasB ks p.1.1=true then none else j3 val g p.2 (ks.take (posOf ks p.1.1)++p.1.1::ks.drop (posOf ks p.1.1)) (l.take (posOf ks p.1.1)++p.1.2::l.drop (posOf ks p.1.1)))=some p->eY p.1.1+(p.1.2.map V.size).sum+p.2.length+1<=s.length+eY ks+(l.map V.size).sum:=by
     intro s1 h1 h
     cases hq:jZ val s1 with
     |none=>rw [hq] at h;cases h
     |some q=>
      rw [hq] at h;simp only [Option.bind_some] at h
      split at h
      ·cases h
      ·have h2:=YH hv hq
       have h3:=Pz hv g _ _ _ _ h;unfold eY at*;rw [Py,Py] at h3;omega
    split at h
    ·exact aux _ (by simp) h
    ·split at h
     ·exact aux _ (by omega) h
     ·cases h
theorem JJ:∀(f:Nat),E0 (cg f)
 |0,_,_,h=>by cases h
 |f+1,s,p,h=>by
  rw [cg] at h;have hs:=mE s
  split at h
  ·cases h
  ·rename_i c t he
   rw [he] at hs;simp only [List.length_cons] at hs;have hz:V.zero.size=1:=by rw [V.size_eq];rfl
   have ht:yg.size=1:=by rw [V.size_eq];rfl
   have hf:yh.size=1:=by rw [V.size_eq];rfl
   repeat (split at h;rotate_left)
   all_goals first
    |(cases h;done)
    |(split at h;(first|(cases h;simp only [List.length_drop,hz,ht,hf];omega)|cases h);(first|(cases h;done)|skip))
    |skip
   ·simp only [Option.map_eq_some_iff] at h
    obtain⟨q,hq,rfl⟩:=h;have:=EZ _ _ _ _ hq;rw [V.size_eq];simp only [V.ki,V.fT,V.dV,ByteArray.size,List.size_toArray,eY,List.map_nil,List.sum_nil,List.length_nil] at*;omega
   ·rename_i hd
    simp only [Option.map_eq_some_iff] at h;obtain⟨q,hq,rfl⟩:=h;have:=(Po hq).2 (Pq hd) (by simp);rw [V.size_eq];simp only [V.ki,V.fT,V.dV,eY,List.map_nil,List.sum_nil,List.length_cons,show (⟨#[]⟩:ah).size=0 from rfl] at*;omega
   ·simp only [Option.map_eq_some_iff] at h
    obtain⟨q,hq,rfl⟩:=h;have:=Px (JJ f) _ _ _ _ hq;rw [V.size_eq];simp only [V.ki,V.fT,V.dV,eY,List.map_nil,List.sum_nil,show (⟨#[]⟩:ah).size=0 from rfl] at*;omega
   ·simp only [Option.map_eq_some_iff] at h
    obtain⟨q,hq,rfl⟩:=h;have:=Pz (JJ f) _ _ _ _ _ hq;rw [V.size_eq];simp only [V.ki,V.fT,V.dV,eY,List.map_nil,List.sum_nil,show (⟨#[]⟩:ah).size=0 from rfl] at*;omega
end Go.Proofs.YtlcebdaghmdkeabGreatDoor
