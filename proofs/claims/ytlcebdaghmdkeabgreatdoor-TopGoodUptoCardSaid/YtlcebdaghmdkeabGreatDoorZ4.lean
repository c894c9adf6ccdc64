import Derived.Test.YtlcebdaghmdkeabGreatDoorZ3
set_option linter.all false
set_option maxRecDepth 100000
set_option maxHeartbeats 64000000
namespace Go.Proofs.YtlcebdaghmdkeabGreatDoor
open Go.Proofs.Tryz
open Go.RowKit
theorem aao (base g m cap k:Nat) (cur:Array Value) (w:World) (hb:base<=g) (hg:w.heap[g]? =some (.cells cur 9 (0,0))) (hnc:m<cap) (hm:cap<=maxLen) (hcs:cur.size=cap*1)
 (hk:k<=m) (h1c:∀u∈cur.toList.take (m+1),u.oneCell'=true):
 Calls prog 211 #[.slice (some ⟨g,0,none⟩) (m+1) cap, .int .i64 k, .int .i64 ((k:Int)+1)] w fun e w'=>e= .returned (.slice (some ⟨g,0,none⟩) m cap)/\
  w'.ownsRow base 9 1 (.slice (some ⟨g,0,none⟩) m cap) m ((cur.toList.take (m+1)).take (k)++(cur.toList.take (m+1)).drop (k+1))/\w.grownBy w' (some g):=by
 obtain⟨i0,hi,hz0,hz1,hz2⟩:=info_parts Tryz.xe;have hm2:cap<=9223372036854775807:=hm;have Ak:(m+1)*1<=cap*1:=Nat.mul_le_mul_right _ hnc;obtain⟨cs,bY⟩:∃cs,cs=(cur.toList.take (m+1)).drop (k+1):=⟨_,rfl⟩;have hcl:cs.length=(m-k)*1:=by rw [bY];simp;omega
 have hdel:=Jc cur.toList ([Value.string ⟨#[]⟩]:List Value) (k) 1 (m+1) (by omega) (by rw [Array.length_toList,hcs];omega) rfl cs (by rw [bY];first|done|(congr 1<;>omega));simp only at hdel;rw [show m+1-1=m by omega] at hdel;obtain⟨ay,hl2,aR⟩:=hdel;obtain⟨c1,hc1⟩:∃c1,c1=cur.toList.take (k)++cs++cur.toList.drop (k+cs.length):=⟨_,rfl⟩;rw [<-hc1] at ay hl2 aR;obtain⟨W1,hW1⟩:∃W1,W1=w.drew.setRow g c1.toArray:=⟨_,rfl⟩;have hg1:W1.heap[g]? =some (.cells c1.toArray 9 (0,0)):=by rw [hW1];exact setRow_heap w.drew g cur _ 9 _ hg
 have hap:∀(ad:Addr) ty,(cap=k+1\/ad=⟨g,k+1,none⟩)-> (Builtin.append_ #[33,33] ty #[.slice (some ⟨g,0,none⟩) k cap, .slice (some ad) (m+1-(k+1)) (cap-(k+1))]).run prog w.drew= .ok (.slice (some ⟨g,0,none⟩) m cap) W1:=fun ad ty had=>by
  have hsrc:∀j u,cs[j]? =some u->w.drew.cell? (ad.add j)=some u:=by
   rcases had with h|rfl
   ·have h0:m-k=0:=by omega
    have:cs.length=0:=by rw [hcl,h0,Nat.zero_mul]
    obtain rfl:=List.eq_nil_of_length_eq_zero this;intro j u hj;simp at hj
   ·intro j v hj
    rw [Addr.add_lit,bY,List.getElem?_drop,List.getElem?_take] at*
    split at hj
    ·show w.cell? _=_
     rw [cell_of_row w g _ cur _ _ hg];simpa using hj
    ·cases hj
  have h:=run_append_room (P:=prog) w.drew 33 ty 9 i0 underlying33 hi g k cap cur hg ad (m+1-(k+1)) (cap-(k+1)) cs (by rw [hz1,hcl];first|done|(congr 1;omega)) hsrc (fun u hu=>h1c u (List.mem_of_mem_drop (by rw [<-bY];exact hu))) (by omega) (by rw [hz1,hcl,hcs];omega);rw [h,hW1,hc1,hz1];rw [show k+(m+1-(k+1))=m by omega]
  first|done|simp only [Nat.mul_one]
 obtain⟨W2,hW2⟩:∃W2,W2=W1.setRow g (c1.take (m)++([Value.string ⟨#[]⟩]:List Value)++c1.drop (m+1)).toArray:=⟨_,rfl⟩;have hsz1:c1.toArray.size=cap*1:=by rw [List.size_toArray,aR,Array.length_toList,hcs]
 have Ce:∀ty,(Builtin.clear_ #[33] ty #[.slice (some ⟨g,m,none⟩) 1 (cap-m)]).run prog W1= .ok (.tuple #[]) W2:=fun ty=>by have hz:(Value.string ⟨#[]⟩:Value).cells.size=1:=rfl;have h:=Jd (P:=prog) W1 33 9 ty (Value.string ⟨#[]⟩) underlying33 (fun w=>by simp [Go.zeroValue,typeInfo,hi,hz0]) (by decide) g (m) (cap-m) c1.toArray 9 hg1 (by rw [hsz1,hz];omega);rw [h,hW2];rfl
 have iW:W2.ownsRow base 9 1 (.slice (some ⟨g,0,none⟩) m cap) m ((cur.toList.take (m+1)).take (k)++(cur.toList.take (m+1)).drop (k+1)):=by
  rw [hW2];refine rH hb (setRow_heap W1 g _ _ 9 _ hg1) (by omega) hm ?_ ?_
  ·rw [List.size_toArray,hl2,Array.length_toList,hcs]
  ·rw [show m*1=m by omega]
   rw [List.toList_toArray,ay]
   try(congr 2<;>omega)
 have iX:w.grownBy W2 (some g):=by rw [hW2,hW1];exact rI (nI (jE w.drew g _)) (jE _ g _)
 have mixed:prog.follows Departure.mixedOrders=true:=by kernel_rfl
 have hz3:¬((k:Int)=(k:Int)+1):=by omega
 have hb1:(0:Int)<= (k:Int)+1:=by omega
 have htn:((k:Int)+1).toNat=k+1:=by omega
 have hin:k<=cap:=by omega
 have bN:k+1<=cap:=by omega
 have bf:k<=k+1:=by omega
 have cU:k+1<=m+1:=by omega
 have ej:m+1<=cap:=by omega
 have cn:m<=m+1:=by omega
 have hb3:((k:Int)+1)<= ((m:Int)+1):=by omega
 have hcm:¬(cap=m):=by omega
 have hcm2:m+1-m=1:=by omega
 have mI:=ae iW;have jF:=ae iX;clear iW iX hW2 hsz1 hW1 hg1 ay hl2 aR hc1 bY hcl hg h1c hcs hi hz0 hz1 hz2;by_cases wD:cap=k+1
 ·obtain rfl:m=k:=by omega
  subst wD;have rJ:=fun ty=>hap ⟨g,0,none⟩ ty (.inl rfl);clear hap;have Je:(m:Int)<= (m:Int)+1:=by omega
  rw [show m+1-m=1 by omega] at Ce;go_enter func211,ntmps211;go_wp2_with fail
  go_region_law_o (refine Al rfl _ _ 33 33 rfl _ _ (by simp [Act.eval,Act.put]) (by simp [Act.eval,Act.put]) (rJ _) ?_)
  go_wp2;go_ret;exact⟨rfl,mI.out,jF.out⟩
 ·have rJ:=fun ty=>hap ⟨g,k+1,none⟩ ty (.inr rfl)
  clear hap;go_enter func211,ntmps211;go_wp2_with fail
  go_region_law_o (refine Al rfl _ _ 33 33 rfl _ _ (by simp [Act.eval,Act.put]) (by simp [Act.eval,Act.put,wD]) (rJ _) ?_)
  go_wp2;go_ret;exact⟨rfl,mI.out,jF.out⟩
theorem aap (base g m cap k:Nat) (cur:Array Value) (w:World) (hb:base<=g) (hg:w.heap[g]? =some (.cells cur 36 (0,0))) (hnc:m<cap) (hm:cap<=maxLen) (hcs:cur.size=cap*5)
 (hk:k<=m) (h1c:∀u∈cur.toList.take ((m+1)*5),u.oneCell'=true):
 Calls prog 212 #[.slice (some ⟨g,0,none⟩) (m+1) cap, .int .i64 k, .int .i64 ((k:Int)+1)] w fun e w'=>e= .returned (.slice (some ⟨g,0,none⟩) m cap)/\
  w'.ownsRow base 36 5 (.slice (some ⟨g,0,none⟩) m cap) m ((cur.toList.take ((m+1)*5)).take (k*5)++(cur.toList.take ((m+1)*5)).drop ((k+1)*5))/\w.grownBy w' (some g):=by
 obtain⟨i0,hi,hz0,hz1,hz2⟩:=info_parts Tryz.zh;have hm2:cap<=9223372036854775807:=hm;have Ak:(m+1)*5<=cap*5:=Nat.mul_le_mul_right _ hnc;obtain⟨cs,bY⟩:∃cs,cs=(cur.toList.take ((m+1)*5)).drop ((k+1)*5):=⟨_,rfl⟩;have hcl:cs.length=(m-k)*5:=by rw [bY];simp;omega
 have hdel:=Jc cur.toList ([Value.int .i64 0, .int .i64 0, .string ⟨#[]⟩, .slice none 0 0, .slice none 0 0]:List Value) (k*5) 5 ((m+1)*5) (by omega) (by rw [Array.length_toList,hcs];omega) rfl cs (by rw [bY];first|done|(congr 1<;>omega));simp only at hdel;rw [show (m+1)*5-5=m*5 by omega] at hdel;obtain⟨ay,hl2,aR⟩:=hdel;obtain⟨c1,hc1⟩:∃c1,c1=cur.toList.take (k*5)++cs++cur.toList.drop (k*5+cs.length):=⟨_,rfl⟩;rw [<-hc1] at ay hl2 aR;obtain⟨W1,hW1⟩:∃W1,W1=w.drew.setRow g c1.toArray:=⟨_,rfl⟩;have hg1:W1.heap[g]? =some (.cells c1.toArray 36 (0,0)):=by rw [hW1];exact setRow_heap w.drew g cur _ 36 _ hg
 have hap:∀(ad:Addr) ty,(cap=k+1\/ad=⟨g,(k+1)*5,none⟩)-> (Builtin.append_ #[34,34] ty #[.slice (some ⟨g,0,none⟩) k cap, .slice (some ad) (m+1-(k+1)) (cap-(k+1))]).run prog w.drew= .ok (.slice (some ⟨g,0,none⟩) m cap) W1:=fun ad ty had=>by
  have hsrc:∀j u,cs[j]? =some u->w.drew.cell? (ad.add j)=some u:=by
   rcases had with h|rfl
   ·have h0:m-k=0:=by omega
    have:cs.length=0:=by rw [hcl,h0,Nat.zero_mul]
    obtain rfl:=List.eq_nil_of_length_eq_zero this;intro j u hj;simp at hj
   ·intro j v hj
    rw [Addr.add_lit,bY,List.getElem?_drop,List.getElem?_take] at*
    split at hj
    ·show w.cell? _=_
     rw [cell_of_row w g _ cur _ _ hg];simpa using hj
    ·cases hj
  have h:=run_append_room (P:=prog) w.drew 34 ty 36 i0 underlying34 hi g k cap cur hg ad (m+1-(k+1)) (cap-(k+1)) cs (by rw [hz1,hcl];first|done|(congr 1;omega)) hsrc (fun u hu=>h1c u (List.mem_of_mem_drop (by rw [<-bY];exact hu))) (by omega) (by rw [hz1,hcl,hcs];omega);rw [h,hW1,hc1,hz1];rw [show k+(m+1-(k+1))=m by omega]
  first|done|simp only [Nat.mul_one]
 obtain⟨W2,hW2⟩:∃W2,W2=W1.setRow g (c1.take (m*5)++([Value.int .i64 0, .int .i64 0, .string ⟨#[]⟩, .slice none 0 0, .slice none 0 0]:List Value)++c1.drop (m*5+5)).toArray:=⟨_,rfl⟩;have hsz1:c1.toArray.size=cap*5:=by rw [List.size_toArray,aR,Array.length_toList,hcs]
 have Ce:∀ty,(Builtin.clear_ #[34] ty #[.slice (some ⟨g,m*5,none⟩) 1 (cap-m)]).run prog W1= .ok (.tuple #[]) W2:=fun ty=>by have hz:(.agg #[.int .i64 0, .int .i64 0, .string ⟨#[]⟩, .slice none 0 0, .slice none 0 0]:Value).cells.size=5:=rfl;have h:=Jd (P:=prog) W1 34 36 ty (.agg #[.int .i64 0, .int .i64 0, .string ⟨#[]⟩, .slice none 0 0, .slice none 0 0]) underlying34 (fun w=>by simp [Go.zeroValue,typeInfo,hi,hz0]) (by decide) g (m*5) (cap-m) c1.toArray 36 hg1 (by rw [hsz1,hz];omega);rw [h,hW2];rfl
 have iW:W2.ownsRow base 36 5 (.slice (some ⟨g,0,none⟩) m cap) m ((cur.toList.take ((m+1)*5)).take (k*5)++(cur.toList.take ((m+1)*5)).drop ((k+1)*5)):=by
  rw [hW2];refine rH hb (setRow_heap W1 g _ _ 36 _ hg1) (by omega) hm ?_ ?_
  ·rw [List.size_toArray,hl2,Array.length_toList,hcs]
  ·rw [show m*5=m*5 by omega]
   rw [List.toList_toArray,ay]
   try(congr 2<;>omega)
 have iX:w.grownBy W2 (some g):=by rw [hW2,hW1];exact rI (nI (jE w.drew g _)) (jE _ g _)
 have mixed:prog.follows Departure.mixedOrders=true:=by kernel_rfl
 have hz3:¬((k:Int)=(k:Int)+1):=by omega
 have hb1:(0:Int)<= (k:Int)+1:=by omega
 have htn:((k:Int)+1).toNat=k+1:=by omega
 have hin:k<=cap:=by omega
 have bN:k+1<=cap:=by omega
 have bf:k<=k+1:=by omega
 have cU:k+1<=m+1:=by omega
 have ej:m+1<=cap:=by omega
 have cn:m<=m+1:=by omega
 have hb3:((k:Int)+1)<= ((m:Int)+1):=by omega
 have hcm:¬(cap=m):=by omega
 have hcm2:m+1-m=1:=by omega
 have mI:=ae iW;have jF:=ae iX;clear iW iX hW2 hsz1 hW1 hg1 ay hl2 aR hc1 bY hcl hg h1c hcs hi hz0 hz1 hz2;by_cases wD:cap=k+1
 ·obtain rfl:m=k:=by omega
  subst wD;have rJ:=fun ty=>hap ⟨g,0,none⟩ ty (.inl rfl);clear hap;have Je:(m:Int)<= (m:Int)+1:=by omega
  rw [show m+1-m=1 by omega] at Ce;go_enter func212,ntmps212;go_wp2_with fail
  go_region_law_o (refine Al rfl _ _ 34 34 rfl _ _ (by simp [Act.eval,Act.put]) (by simp [Act.eval,Act.put]) (rJ _) ?_)
  go_wp2;go_ret;exact⟨rfl,mI.out,jF.out⟩
 ·have rJ:=fun ty=>hap ⟨g,(k+1)*5,none⟩ ty (.inr rfl)
  clear hap;go_enter func212,ntmps212;go_wp2_with fail
  go_region_law_o (refine Al rfl _ _ 34 34 rfl _ _ (by simp [Act.eval,Act.put]) (by simp [Act.eval,Act.put,wD]) (rJ _) ?_)
  go_wp2;go_ret;exact⟨rfl,mI.out,jF.out⟩
theorem ad6 (base g n cap k vb vc:Nat) (cur:Array Value) (new:List Value) (w:World) (TB:TypeId) (hb:base<=g) (hg:w.heap[g]? =some (.cells cur 36 (0,0))) (hnc:n<cap) (hm:cap<=maxLen) (hcs:cur.size=cap*5)
 (hk:k<n) (hB:af w vb new.toArray TB) (hvb:vb≠g) (hnew:new.length=5) (h1c:∀u∈cur.toList.take (n*5),u.oneCell'=true) (h1:∀u∈new,u.oneCell'=true):
 Calls prog 105 #[.slice (some ⟨g,0,none⟩) n cap, .int .i64 k, .slice (some ⟨vb,0,none⟩) 1 vc] w fun e w'=>e= .returned (.slice (some ⟨g,0,none⟩) (n+1) cap)/\
  w'.ownsRow base 36 5 (.slice (some ⟨g,0,none⟩) (n+1) cap) (n+1) ((cur.toList.take (n*5)).take (k*5)++new++(cur.toList.take (n*5)).drop (k*5))/\w.grownBy w' (some g):=by
 obtain⟨i0,hi,hz0,hz1,hz2⟩:=info_parts Tryz.zh;have hsz:(prog.info? 36).map (·.size)=some 5:=by rw [hi];simp [hz1]
 have hm2:cap<=9223372036854775807:=hm;have Ak:(n+1)*5<=cap*5:=Nat.mul_le_mul_right _ hnc;have hB':w.heap[vb]? =some (.cells new.toArray TB (0,0)):=hB;have hov:∀lb cb,(callFunc 163 #[.slice (some ⟨vb,0,none⟩) 1 vc, .slice (some ⟨g,(k+1)*5,none⟩) lb cb]).run prog w= .ok (.value (.bool false)) w:=fun lb cb=>by
  rw [run_callFunc_extern func163 (by kernel_rfl) (by kernel_rfl) (by kernel_rfl) (e:=Extern.SlicesOverlaps.overlaps #[34,34] #[4]) (by kernel_rfl),
   Lib.run_overlaps_apart w 34 4 36 underlying34 5 (by intro w;simp [Go.sizeOf,typeInfo,hi,hz1]) ⟨vb,0,none⟩ ⟨g,(k+1)*5,none⟩ 1 vc lb cb hvb TB 36 new.length cur.size (by simp [World.shape?,hB']) (by simp [World.shape?,hg]) (by rw [hcs];omega) (hB.free 0) (hB.free new.length)]
  rfl
 obtain⟨cs,bY⟩:∃cs,cs=(cur.toList.take (n*5)).drop (k*5):=⟨_,rfl⟩;have hcl:cs.length=(n-k)*5:=by rw [bY];simp;omega
 have hcell:∀j v,cs[j]? =some v->w.drew.cell? ((⟨g,k*5,none⟩:Addr).add j)=some v:=fun j v hj=>by
  rw [Addr.add_lit,bY,List.getElem?_drop,List.getElem?_take] at*
  split at hj
  ·show w.cell? _=_
   rw [cell_of_row w g _ cur _ _ hg];simpa using hj
  ·cases hj
 have hlist:=Gj cur.toList new (k*5) (n*5) (by omega) (by rw [hnew,Array.length_toList,hcs];omega) cs bY;simp only at hlist;obtain⟨ay,hl2,aR⟩:=hlist;have oD:∀ty,(Builtin.copy_ #[34,34] ty #[.slice (some ⟨g,(k+1)*5,none⟩) (n-k) (cap-(k+1)), .slice (some ⟨g,k*5,none⟩) (n+1-k) (cap-k)]).run prog w.drew= .ok (goInt (n-k:Nat)) (w.drew.setRow g (cur.toList.take ((k+1)*5)++cs++cur.toList.drop ((k+1)*5+cs.length)).toArray):=fun ty=>
  ni w.drew _ _ ty 36 5 g ((k+1)*5) _ _ ⟨g,k*5,none⟩ _ _ cur 36 cs (n-k) underlying34 hsz (by simp only [Nat.min_def];split<;>omega) hg hcl hcell (by rw [hcl,hcs];omega) (fun v hv=>h1c v (List.mem_of_mem_drop (by rw [<-bY];exact hv)))
 have fM:(k+1)*5=k*5+new.length:=by omega
 obtain⟨c1,hc1⟩:∃c1,c1=cur.toList.take ((k+1)*5)++cs++cur.toList.drop ((k+1)*5+cs.length):=⟨_,rfl⟩;rw [<-hc1] at oD;rw [<-fM,<-hc1] at ay hl2 aR;obtain⟨W1,hW1⟩:∃W1,W1=w.drew.setRow g c1.toArray:=⟨_,rfl⟩;rw [<-hW1] at oD;have hg1:W1.heap[g]? =some (.cells c1.toArray 36 (0,0)):=by rw [hW1];exact setRow_heap w.drew g cur _ 36 _ hg
 have lH:∀ty,(Builtin.copy_ #[34,34] ty #[.slice (some ⟨g,k*5,none⟩) (n+1-k) (cap-k), .slice (some ⟨vb,0,none⟩) 1 vc]).run prog W1= .ok (goInt (1:Nat)) (W1.setRow g (c1.toArray.toList.take (k*5)++new++c1.toArray.toList.drop (k*5+new.length)).toArray):=fun ty=>
  ni W1 _ _ ty 36 5 g (k*5) _ _ ⟨vb,0,none⟩ _ _ c1.toArray 36 new 1 underlying34 hsz (by simp only [Nat.min_def];split<;>omega) hg1 (by omega) (fun j v hj=>by
   rw [Addr.add_lit,hW1,cell_setRow_other _ _ _ _ (by exact hvb)];show w.cell? _=_
   rw [cell_of_row w vb _ _ _ _ hB'];first|done|simpa using hj) (by simp only [List.size_toArray,aR,Array.length_toList,hcs,hnew];omega) h1
 rw [<-fM] at lH;simp only [List.toList_toArray] at lH;have mixed:prog.follows Departure.mixedOrders=true:=by kernel_rfl
 have hw1:IntKind.i64.wrap ((k:Int)+1)=(k:Int)+1:=by rw [IntKind.wrap_i64];omega
 have hz3:¬((k:Int)=(n:Int)):=by omega
 have hb1:(0:Int)<= (k:Int)+1:=by omega
 have htn:((k:Int)+1).toNat=k+1:=by omega
 have hb2:¬(cap=k+1):=by omega
 have hb3:(k:Int)<= (n:Int)+1:=by omega
 have hin:k<=n:=by omega
 have hb4:¬(cap=k):=by omega
 have iW:(W1.setRow g (c1.take (k*5)++new++c1.drop ((k+1)*5)).toArray).ownsRow base 36 5 (.slice (some ⟨g,0,none⟩) (n+1) cap) (n+1) ((cur.toList.take (n*5)).take (k*5)++new++(cur.toList.take (n*5)).drop (k*5)):=by
  refine rH hb (setRow_heap W1 g _ _ 36 _ hg1) hnc hm ?_ ?_
  ·rw [List.size_toArray,hl2,Array.length_toList,hcs]
  ·rw [<-ay,hnew]
   rw [show (n+1)*5=n*5+5 from by omega]
 have iX:w.grownBy (W1.setRow g (c1.take (k*5)++new++c1.drop ((k+1)*5)).toArray) (some g):=by rw [hW1];exact rI (nI (jE w.drew g _)) (jE _ g _)
 obtain⟨W2,hW2⟩:∃W2,W2=W1.setRow g (c1.take (k*5)++new++c1.drop ((k+1)*5)).toArray:=⟨_,rfl⟩;rw [<-hW2] at lH iW iX;have mI:=ae iW;have jF:=ae iX;clear iW iX fM hW2 hW1 hg1 ay hl2 aR hc1 hcell bY hcl hg h1c h1 hcs hB hB';go_enter func105,ntmps105;go_wp2_with (simp only [hov])
 go_region_law_o (refine step_copy_runI rfl _ _ 34 34 rfl _ _ (by simp [Act.eval,Act.put]) (by simp [Act.eval,Act.put]) (oD _) ?_)
 go_wp2_with (at_builtin;refine wpList_copy_runI _ rfl _ _ 34 34 rfl _ _ rfl rfl (lH _) ?_);go_ret;exact⟨rfl,mI.out,jF.out⟩
theorem ad7 (base g n cap k vb vc:Nat) (cur:Array Value) (new:List Value) (w:World) (TB:TypeId) (fB:base<=w.heap.size) (hg:w.heap[g]? =some (.cells cur 36 (0,0))) (hnc:n<=cap) (hfull:cap<n+1) (dw:n<=1073741824) (hcs:cur.size=cap*5)
 (hk:k<n) (hB:af w vb new.toArray TB) (hnew:new.length=5) (h1c:∀u∈cur.toList.take (n*5),u.oneCell'=true) (h1:∀u∈new,u.oneCell'=true):
 Calls prog 105 #[.slice (some ⟨g,0,none⟩) n cap, .int .i64 k, .slice (some ⟨vb,0,none⟩) 1 vc] w fun e w'=>∃G,e= .returned (.slice (some ⟨w.heap.size,0,none⟩) (n+1) G)/\
  w'.ownsRow base 36 5 (.slice (some ⟨w.heap.size,0,none⟩) (n+1) G) (n+1) ((cur.toList.take (n*5)).take (k*5)++new++(cur.toList.take (n*5)).drop (k*5))/\Ext w w':=by
 obtain⟨i0,hi,hz0,hz1,hz2⟩:=info_parts Tryz.zh;have hsz:(prog.info? 36).map (·.size)=some 5:=by rw [hi];simp [hz1]
 obtain⟨cs,bY⟩:∃cs,cs=cur.toList.take (n*5):=⟨_,rfl⟩;rw [<-bY] at h1c⊢;have rh:n*5<=cap*5:=Nat.mul_le_mul_right _ hnc;have hcl:cs.length=n*5:=by rw [bY];simp;omega
 have vR:g<w.heap.size:=lt_of_block hg;have MT:vb<w.heap.size:=hB.lt;have hB':w.heap[vb]? =some (.cells new.toArray TB (0,0)):=hB;have hcell:∀j v,cs[j]? =some v->w.cell? ⟨g,j,none⟩=some v:=fun j v hj=>by
  rw [cell_of_row w g j cur _ _ hg];rw [bY,List.getElem?_take] at hj
  split at hj
  ·simpa using hj
  ·cases hj
 have hold:(Builtin.firstCells i0.size k (.slice (some ⟨g,0,none⟩) k cap)).run prog w.drew= .ok (cs.take (k*5)).toArray w.drew:=by
  rw [hz1]
  exact run_firstCells_some w.drew 5 k ⟨g,0,none⟩ k cap (cs.take (k*5)) (by rw [List.length_take];omega) (fun j v hj=>by
   rw [Addr.add_lit];rw [List.getElem?_take] at hj
   split at hj
   ·rw [Nat.zero_add];exact hcell j v hj
   ·cases hj)
 have hkk:(n:Int)+1-(k:Int)=((n+1-k:Nat):Int):=by omega
 have hik:k+(n+1-k)=n+1:=by omega
 have lG:∀ty,(Builtin.append_ #[34,3] ty #[.slice (some ⟨g,0,none⟩) k cap, .int .i64 ((n:Int)+1-(k:Int))]).run prog w=
  .ok (.slice (some ⟨w.heap.size,0,none⟩) (n+1) (grownCap w (n+1) cap 36)) (w.drew.alloc (.cells ((cs.take (k*5)).toArray++Builtin.zeroCells (Value.cells (.agg #[.int .i64 0, .int .i64 0, .string ⟨#[]⟩, .slice none 0 0, .slice none 0 0])) (n+1-k)++Builtin.zeroCells (Value.cells (.agg #[.int .i64 0, .int .i64 0, .string ⟨#[]⟩, .slice none 0 0, .slice none 0 0])) (grownCap w (n+1) cap 36-(n+1))) 36)):=fun ty=>by
  have h:=Lib.run_append_grow_zeros w 34 3 ty 36 i0 _ .i64 .i64 underlying34 underlying3 hi hz0 (some ⟨g,0,none⟩) k cap (cs.take (k*5)) hold (n+1-k) (by omega) (by omega) (by omega) (by omega) (by rw [hz2];omega) (by rw [hz2,hik];exact growslice_fits (by omega) (by omega));rw [hik] at h;rw [hkk];exact h
 obtain⟨G,hG⟩:∃G,G=grownCap w (n+1) cap 36:=⟨_,rfl⟩;have zK:n+1<=G:=by rw [hG];exact grownCap_ge w _ _ _
 have sV:G<=maxLen:=by rw [hG];exact grownCap_le_maxLen w (n+1) cap 36 (by unfold maxLen;omega)
 have MU:G<=9223372036854775807:=sV;rw [<-hG] at lG;obtain⟨z1,oF⟩:∃z1,z1=(Builtin.zeroCells (Value.cells (.agg #[.int .i64 0, .int .i64 0, .string ⟨#[]⟩, .slice none 0 0, .slice none 0 0])) (n+1-k)).toList:=⟨_,rfl⟩;obtain⟨z2,oG⟩:∃z2,z2=(Builtin.zeroCells (Value.cells (.agg #[.int .i64 0, .int .i64 0, .string ⟨#[]⟩, .slice none 0 0, .slice none 0 0])) (G-(n+1))).toList:=⟨_,rfl⟩;have oH:z1.length=(n+1-k)*5:=by rw [oF,Array.length_toList,size_zeroCells];simp [Value.cells]
 have sW:z2.length=(G-(n+1))*5:=by rw [oG,Array.length_toList,size_zeroCells];simp [Value.cells]
 obtain⟨c0,hc0⟩:∃c0:List Value,c0=cs.take (k*5)++z1++z2:=⟨_,rfl⟩;have hrow:(cs.take (k*5)).toArray++Builtin.zeroCells (Value.cells (.agg #[.int .i64 0, .int .i64 0, .string ⟨#[]⟩, .slice none 0 0, .slice none 0 0])) (n+1-k)++Builtin.zeroCells (Value.cells (.agg #[.int .i64 0, .int .i64 0, .string ⟨#[]⟩, .slice none 0 0, .slice none 0 0])) (G-(n+1))=c0.toArray:=by apply Array.toList_inj.1;rw [hc0,oF,oG];simp
 rw [hrow] at lG;have hlist:=Gk cs new z1 z2 (k*5) (by omega) (by rw [oH,hnew,hcl];omega);simp only at hlist;rw [<-hc0] at hlist;obtain⟨ay,hl2,aR⟩:=hlist;have hl0:c0.length=G*5:=by rw [hc0,List.length_append,List.length_append,oH,sW,List.length_take,hcl];omega
 obtain⟨c1,hc1⟩:∃c1,c1=c0.take (k*5)++new++c0.drop (k*5+new.length):=⟨_,rfl⟩;rw [<-hc1] at ay hl2 aR;have fM:k*5+new.length=(k+1)*5:=by omega
 have oI:∀W:World,(∀b,W.heap[b]? =(w.drew.alloc (.cells c0.toArray 36)).heap[b]?)->W.heap[w.heap.size]? =some (.cells c0.toArray 36 (0,0)):=fun W h=>by rw [h];show (w.heap.push _)[w.heap.size]? =_;simp
 have zL:∀(W:World),(∀b,W.heap[b]? =(w.drew.alloc (.cells c0.toArray 36)).heap[b]?)->∀ty dc,(Builtin.copy_ #[34,34] ty #[.slice (some ⟨w.heap.size,k*5,none⟩) (n+1-k) dc, .slice (some ⟨vb,0,none⟩) 1 vc]).run prog W= .ok (goInt (1:Nat)) (W.setRow w.heap.size c1.toArray):=fun W hW ty dc=>by
  have h:=ni W 34 34 ty 36 5 w.heap.size (k*5) (n+1-k) dc ⟨vb,0,none⟩ 1 vc c0.toArray 36 new 1 underlying34 hsz (by simp only [Nat.min_def];split<;>omega) (oI W hW) (by omega) (fun j v hj=>by
   have zM:W.heap[vb]? =some (.cells new.toArray TB (0,0)):=by rw [hW];show (w.heap.push _)[vb]? =_;rw [Array.getElem?_push,if_neg (by omega)];exact hB'
   rw [Addr.add_lit,cell_of_row W vb _ _ _ _ zM];simpa using hj) (by rw [List.size_toArray,hl0,hnew];omega) h1
  simp only [List.toList_toArray] at h;rw [<-hc1] at h;exact h
 have MV:g≠w.heap.size:=by omega
 have oJ:∀(W:World),W.heap[w.heap.size]? =some (.cells c1.toArray 36 (0,0))-> (∀b,b<w.heap.size->W.heap[b]? =w.heap[b]?)->∀ty dc sc,(Builtin.copy_ #[34,34] ty #[.slice (some ⟨w.heap.size,(k+1)*5,none⟩) (n-k) dc, .slice (some ⟨g,k*5,none⟩) (n-k) sc]).run prog W= .ok (goInt (n-k:Nat)) (W.setRow w.heap.size (c1.take (k*5+new.length)++cs.drop (k*5)++c1.drop (k*5+new.length+(cs.drop (k*5)).length)).toArray):=fun W hW hO ty dc sc=>by
  have h:=ni W 34 34 ty 36 5 w.heap.size ((k+1)*5) (n-k) dc ⟨g,k*5,none⟩ (n-k) sc c1.toArray 36 (cs.drop (k*5)) (n-k) underlying34 hsz (by simp) hW (by rw [List.length_drop,hcl];omega) (fun j v hj=>by
   have hbg:W.heap[g]? =some (.cells cur 36 (0,0)):=by rw [hO g vR];exact hg
   rw [List.getElem?_drop] at hj;rw [Addr.add_lit,cell_of_row W g _ _ _ _ hbg,<-cell_of_row w g _ _ _ _ hg]
   exact hcell _ v hj) (by rw [List.size_toArray,aR,hl0,List.length_drop,hcl];omega) (fun v hv=>h1c v (List.mem_of_mem_drop hv))
  simp only [List.toList_toArray] at h;rw [fM];exact h
 obtain⟨c2,hc2⟩:∃c2,c2=c1.take (k*5+new.length)++cs.drop (k*5)++c1.drop (k*5+new.length+(cs.drop (k*5)).length):=⟨_,rfl⟩;rw [<-hc2] at oJ ay hl2;have hfin:∀W:World,W.heap[w.heap.size]? =some (.cells c1.toArray 36 (0,0))-> (W.setRow w.heap.size c2.toArray).ownsRow base 36 5 (.slice (some ⟨w.heap.size,0,none⟩) (n+1) G) (n+1) (cs.take (k*5)++new++cs.drop (k*5)):=fun W hW=>by
  refine rH fB (setRow_heap W w.heap.size _ _ 36 _ hW) zK sV ?_ ?_
  ·rw [List.size_toArray,hl2,hl0]
  ·rw [<-ay,hcl,hnew]
   rw [show (n+1)*5=n*5+5 from by omega]
 have sX:∀W:World,W.heap[w.heap.size]? =some (.cells c0.toArray 36 (0,0))-> (W.setRow w.heap.size c1.toArray).heap[w.heap.size]? =some (.cells c1.toArray 36 (0,0)):=fun W hW=>setRow_heap W w.heap.size _ _ 36 _ hW;have mixed:prog.follows Departure.mixedOrders=true:=by kernel_rfl
 have hw1:IntKind.i64.wrap ((k:Int)+1)=(k:Int)+1:=by rw [IntKind.wrap_i64];omega
 have hz3:¬((k:Int)=(n:Int)):=by omega
 have gJ:(cap:Int)<(n:Int)+1:=by omega
 have hb1:(0:Int)<= (k:Int)+1:=by omega
 have hin:k<=n:=by omega
 have htn:((k:Int)+1).toNat=k+1:=by omega
 have hb3:(k:Int)<= (n:Int):=by omega
 have MW:¬(G=k):=by omega
 have MX:¬(G=k+1):=by omega
 have lQ:¬(cap=k):=by omega
 have hE:∀b:Nat,((w.alloc (.cells c0.toArray 36)).drew).heap[b]? =(w.drew.alloc (.cells c0.toArray 36)).heap[b]? :=fun _=>rfl;have oK:(((w.alloc (.cells c0.toArray 36)).drew.setRow w.heap.size c1.toArray).drew).heap[w.heap.size]? =some (.cells c1.toArray 36 (0,0)):=sX _ (oI _ hE);have sY:∀b,b<w.heap.size-> (((w.alloc (.cells c0.toArray 36)).drew.setRow w.heap.size c1.toArray).drew).heap[b]? =w.heap[b]? :=fun b hb=>by show ((w.drew.alloc (.cells c0.toArray 36)).setRow w.heap.size c1.toArray).heap[b]? =_;rw [setRow_other _ _ _ _ (by omega)];show (w.heap.push _)[b]? =_;rw [Array.getElem?_push,if_neg (by omega)]
 have aV:=oJ _ oK sY;have sZ:=hfin _ oK;have td:Ext w ((((w.alloc (.cells c0.toArray 36)).drew.setRow w.heap.size c1.toArray).drew).setRow w.heap.size c2.toArray):=by refine Ext.grown (row:=some w.heap.size) (b:=w.alloc (.cells c0.toArray 36)) ((Ext.refl w).alloc _) ?_ (by simp);exact rI (b:=(w.alloc (.cells c0.toArray 36)).drew.setRow w.heap.size c1.toArray) (nI (jE (w.alloc (.cells c0.toArray 36)).drew w.heap.size c1.toArray)) (nI (jE (((w.alloc (.cells c0.toArray 36)).drew.setRow w.heap.size c1.toArray).drew) w.heap.size c2.toArray))
 have pE:=ae sZ;have zN:=ae td;clear hfin sZ td oJ oK sY ay hl2 aR hc1 hc2 hcell bY hcl hg h1c h1 hcs hB hB' fM hold hkk hik oF oG oH sW hc0 hrow hl0 hG rh oI sX hi hz0 hz1 hz2 hsz;go_enter func105,ntmps105
 go_wp2_with (first
  |(at_builtin;refine Lib.wpList_append_run _ rfl _ _ _ _ rfl _ _ rfl rfl _ _ (lG _) ?_)
  |(at_builtin;refine wpList_copy_runI _ rfl _ _ 34 34 rfl _ _ rfl rfl (zL _ hE _ _) ?_))
 go_region_law_o (refine step_copy_runI rfl _ _ 34 34 rfl (.slice (some ⟨w.heap.size,(k+1)*5,none⟩) (n-k) (G-(k+1))) (.slice (some ⟨g,k*5,none⟩) (n-k) (cap-k)) (by simp [Act.eval,Act.put]) (by simp [Act.eval,Act.put]) (aV _ _ _) ?_)
 go_wp2;go_ret;exact⟨G,rfl,pE.out,zN.out⟩
theorem ad8 (base n vb vc:Nat) (v:Value) (xs new:List Value) (w:World) (TB:TypeId) (fB:base<=w.heap.size) (hown:w.ownsRow base 36 5 v n xs) (dw:n<=1073741824)
 (hB:af w vb new.toArray TB) (hnew:new.length=5) (h1:∀u∈new,u.oneCell'=true):
 Calls prog 105 #[v, .int .i64 n, .slice (some ⟨vb,0,none⟩) 1 vc] w fun e w'=>∃g cap,e= .returned (.slice (some ⟨g,0,none⟩) (n+1) cap)/\
  w'.ownsRow base 36 5 (.slice (some ⟨g,0,none⟩) (n+1) cap) (n+1) (xs++new)/\w.grownBy w' v.ownBlock/\ (v.ownBlock=some g\/g=w.heap.size):=by
 obtain⟨i0,hi,hz0,hz1,hz2⟩:=info_parts Tryz.zh;obtain⟨a,c,rfl,hok⟩:=fT hown;have hB':w.heap[vb]? =some (.cells new.toArray TB (0,0)):=hB;have hsl:(a=none/\n=0/\c=0)\/∃g,a=some ⟨g,0,none⟩:=by
  rcases hown.2 with⟨h,h0⟩|⟨g,cap,cur,h,-⟩
  ·simp only [Value.slice.injEq] at h;exact .inl ⟨h.1,h.2.1,h.2.2⟩
  ·simp only [Value.slice.injEq] at h;exact .inr ⟨g,h.1⟩
 have hcell:∀(j:Nat) (u:Value),new[j]? =some u->w.cell? ((⟨vb,0,none⟩:Addr).add j)=some u:=fun j u hj=>by rw [Addr.add_lit,cell_of_row w vb _ _ _ _ hB'];simpa using hj
 have tj:=ae hcell;have cg:=ae hown;have hnc:=hok.1;have MZ:c<=9223372036854775807:=hok.2.1;have hsk:(1:Nat)*5=new.length:=by omega
 clear hcell hown hB' hB hok;rcases hsl with⟨rfl,rfl,rfl⟩|⟨g0,rfl⟩
 ·go_enter func105,ntmps105
  go_wp2_with ((at_builtin;refine wpList_append_lies _ (by rfl) _ _ 34 (by rfl) base 36 i0 _ 5 80 underlying34 hi hz0 hz1 hz2 rfl (by decide) _ _ xs (by rfl) cg.out ⟨vb,0,none⟩ 1 vc new (by rfl) hsk.symm tj.out h1 (by omega) (by unfold maxLen;omega) (by omega) fB _ rfl ?_;intro g6 bA w6 bF aY ck ug;have gY:=ae bF;have iM:=ae aY;have fC:=ae ck;clear bF aY ck));go_ret;exact⟨g6,bA,rfl,gY.out,iM.out,fC.out⟩
 ·go_enter func105,ntmps105
  go_wp2_with ((at_builtin;refine wpList_append_lies _ (by rfl) _ _ 34 (by rfl) base 36 i0 _ 5 80 underlying34 hi hz0 hz1 hz2 rfl (by decide) _ _ xs (by rfl) cg.out ⟨vb,0,none⟩ 1 vc new (by rfl) hsk.symm tj.out h1 (by omega) (by unfold maxLen;omega) (by omega) fB _ rfl ?_;intro g6 bA w6 bF aY ck ug;have gY:=ae bF;have iM:=ae aY;have fC:=ae ck;clear bF aY ck))
  all_goals (go_ret;exact⟨g6,bA,rfl,gY.out,iM.out,fC.out⟩)
theorem rG (base n k vb vc:Nat) (v:Value) (xs new:List Value) (w:World) (TB:TypeId) (fB:base<=w.heap.size) (hown:w.ownsRow base 36 5 v n xs) (dw:n<=1073741824) (hk:k<=n)
 (hB:af w vb new.toArray TB) (hvb:v.ownBlock≠some vb) (hnew:new.length=5) (h1c:∀u∈xs,u.oneCell'=true) (h1:∀u∈new,u.oneCell'=true):
 Calls prog 105 #[v, .int .i64 k, .slice (some ⟨vb,0,none⟩) 1 vc] w fun e w'=>∃g cap,e= .returned (.slice (some ⟨g,0,none⟩) (n+1) cap)/\
  w'.ownsRow base 36 5 (.slice (some ⟨g,0,none⟩) (n+1) cap) (n+1) (xs.take (k*5)++new++xs.drop (k*5))/\w.grownBy w' v.ownBlock/\ (v.ownBlock=some g\/g=w.heap.size):=by
 by_cases hkn:k=n
 ·subst hkn
  have hl:=hown.1;refine(ad8 base k vb vc v xs new w TB fB hown dw hB hnew h1).mono ?_;rintro e w' ⟨g,cap,he,h2,h3,h4⟩;refine⟨g,cap,he,?_,h3,h4⟩;rw [List.take_of_length_le (by omega),List.drop_of_length_le (by omega),List.append_nil];exact h2
 ·obtain⟨g,cap,cur,rfl,hb,hg,hnc,hm,hcs,ht⟩:=uh hown (by omega)
  have ht':cur.toList.take (n*5)=xs:=by simpa using ht
  by_cases hroom:n<cap
  ·refine(ad6 base g n cap k vb vc cur new w TB hb hg hroom hm hcs (by omega) hB (fun e=>hvb (by rw [e];rfl)) hnew (by rw [ht'];exact h1c) h1).mono ?_
   rintro e w' ⟨he,h2,h3⟩;rw [ht'] at h2;exact⟨g,cap,he,h2,h3, .inl rfl⟩
  ·refine(ad7 base g n cap k vb vc cur new w TB fB hg hnc (by omega) dw hcs (by omega) hB hnew (by rw [ht'];exact h1c) h1).mono ?_
   rintro e w' ⟨G,he,h2,h3⟩;rw [ht'] at h2;exact⟨w.heap.size,G,he,h2,⟨h3.os,h3.tape,h3.output,h3.size,fun k hk _=>h3.block k hk⟩, .inr rfl⟩
end Go.Proofs.YtlcebdaghmdkeabGreatDoor
