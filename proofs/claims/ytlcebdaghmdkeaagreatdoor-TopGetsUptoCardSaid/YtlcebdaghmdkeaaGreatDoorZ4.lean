import Derived.Test.YtlcebdaghmdkeaaGreatDoorZ3
set_option linter.all false
set_option maxRecDepth 100000
set_option maxHeartbeats 64000000
namespace Go.Proofs.YtlcebdaghmdkeaaGreatDoor
open Go.Proofs.Tryz
open Go.RowKit
theorem aao (base g m cap k:Nat) (cur:Array Value) (w:World) (hb:base<=g) (hg:w.heap[g]? =some (.cells cur 9 (0,0))) (hnc:m<cap) (hm:cap<=maxLen) (hcs:cur.size=cap*1)
 (hk:k<=m) (h1c:∀u∈cur.toList.take (m+1),u.oneCell'=true):
 Calls prog 153 #[.slice (some ⟨g,0,none⟩) (m+1) cap, .int .i64 k, .int .i64 ((k:Int)+1)] w fun e w'=>e= .returned (.slice (some ⟨g,0,none⟩) m cap)/\
  w'.ownsRow base 9 1 (.slice (some ⟨g,0,none⟩) m cap) m ((cur.toList.take (m+1)).take (k)++(cur.toList.take (m+1)).drop (k+1))/\w.grownBy w' (some g):=by
 obtain⟨i0,hi,hz0,hz1,hz2⟩:=info_parts Tryz.wU;have hm2:cap<=9223372036854775807:=hm;have zZ:(m+1)*1<=cap*1:=Nat.mul_le_mul_right _ hnc;obtain⟨cs,cg⟩:∃cs,cs=(cur.toList.take (m+1)).drop (k+1):=⟨_,rfl⟩;have hcl:cs.length=(m-k)*1:=by rw [cg];simp;omega
 have hdel:=Jh cur.toList ([Value.string ⟨#[]⟩]:List Value) (k) 1 (m+1) (by omega) (by rw [Array.length_toList,hcs];omega) rfl cs (by rw [cg];first|done|(congr 1<;>omega));simp only at hdel;rw [show m+1-1=m by omega] at hdel;obtain⟨az,hl2,aS⟩:=hdel;obtain⟨c1,hc1⟩:∃c1,c1=cur.toList.take (k)++cs++cur.toList.drop (k+cs.length):=⟨_,rfl⟩;rw [<-hc1] at az hl2 aS;obtain⟨W1,hW1⟩:∃W1,W1=w.drew.setRow g c1.toArray:=⟨_,rfl⟩;have hg1:W1.heap[g]? =some (.cells c1.toArray 9 (0,0)):=by rw [hW1];exact setRow_heap w.drew g cur _ 9 _ hg
 have hap:∀(ad:Addr) ty,(cap=k+1\/ad=⟨g,k+1,none⟩)-> (Builtin.append_ #[38,38] ty #[.slice (some ⟨g,0,none⟩) k cap, .slice (some ad) (m+1-(k+1)) (cap-(k+1))]).run prog w.drew= .ok (.slice (some ⟨g,0,none⟩) m cap) W1:=fun ad ty had=>by
  have hsrc:∀j u,cs[j]? =some u->w.drew.cell? (ad.add j)=some u:=by
   rcases had with h|rfl
   ·have h0:m-k=0:=by omega
    have:cs.length=0:=by rw [hcl,h0,Nat.zero_mul]
    obtain rfl:=List.eq_nil_of_length_eq_zero this;intro j u hj;simp at hj
   ·intro j v hj
    rw [Addr.add_lit,cg,List.getElem?_drop,List.getElem?_take] at*
    split at hj
    ·show w.cell? _=_
     rw [cell_of_row w g _ cur _ _ hg];simpa using hj
    ·cases hj
  have h:=run_append_room (P:=prog) w.drew 38 ty 9 i0 underlying38 hi g k cap cur hg ad (m+1-(k+1)) (cap-(k+1)) cs (by rw [hz1,hcl];first|done|(congr 1;omega)) hsrc (fun u hu=>h1c u (List.mem_of_mem_drop (by rw [<-cg];exact hu))) (by omega) (by rw [hz1,hcl,hcs];omega);rw [h,hW1,hc1,hz1];rw [show k+(m+1-(k+1))=m by omega]
  first|done|simp only [Nat.mul_one]
 obtain⟨W2,hW2⟩:∃W2,W2=W1.setRow g (c1.take (m)++([Value.string ⟨#[]⟩]:List Value)++c1.drop (m+1)).toArray:=⟨_,rfl⟩;have hsz1:c1.toArray.size=cap*1:=by rw [List.size_toArray,aS,Array.length_toList,hcs]
 have BZ:∀ty,(Builtin.clear_ #[38] ty #[.slice (some ⟨g,m,none⟩) 1 (cap-m)]).run prog W1= .ok (.tuple #[]) W2:=fun ty=>by have hz:(Value.string ⟨#[]⟩:Value).cells.size=1:=rfl;have h:=Ji (P:=prog) W1 38 9 ty (Value.string ⟨#[]⟩) underlying38 (fun w=>by simp [Go.zeroValue,typeInfo,hi,hz0]) (by decide) g (m) (cap-m) c1.toArray 9 hg1 (by rw [hsz1,hz];omega);rw [h,hW2];rfl
 have ja:W2.ownsRow base 9 1 (.slice (some ⟨g,0,none⟩) m cap) m ((cur.toList.take (m+1)).take (k)++(cur.toList.take (m+1)).drop (k+1)):=by
  rw [hW2];refine rh hb (setRow_heap W1 g _ _ 9 _ hg1) (by omega) hm ?_ ?_
  ·rw [List.size_toArray,hl2,Array.length_toList,hcs]
  ·rw [show m*1=m by omega]
   rw [List.toList_toArray,az]
   try(congr 2<;>omega)
 have jb:w.grownBy W2 (some g):=by rw [hW2,hW1];exact rq (nV (jH w.drew g _)) (jH _ g _)
 have mixed:prog.follows Departure.mixedOrders=true:=by kernel_rfl
 have hz3:¬((k:Int)=(k:Int)+1):=by omega
 have hb1:(0:Int)<= (k:Int)+1:=by omega
 have htn:((k:Int)+1).toNat=k+1:=by omega
 have hin:k<=cap:=by omega
 have bZ:k+1<=cap:=by omega
 have bj:k<=k+1:=by omega
 have dm:k+1<=m+1:=by omega
 have fV:m+1<=cap:=by omega
 have ct:m<=m+1:=by omega
 have hb3:((k:Int)+1)<= ((m:Int)+1):=by omega
 have hcm:¬(cap=m):=by omega
 have hcm2:m+1-m=1:=by omega
 have mS:=ae ja;have jI:=ae jb;clear ja jb hW2 hsz1 hW1 hg1 az hl2 aS hc1 cg hcl hg h1c hcs hi hz0 hz1 hz2;by_cases vT:cap=k+1
 ·obtain rfl:m=k:=by omega
  subst vT;have ru:=fun ty=>hap ⟨g,0,none⟩ ty (.inl rfl);clear hap;have Jj:(m:Int)<= (m:Int)+1:=by omega
  rw [show m+1-m=1 by omega] at BZ;go_enter func153,ntmps153;go_wp2_with fail
  go_region_law_o (refine z6 rfl _ _ 38 38 rfl _ _ (by simp [Act.eval,Act.put]) (by simp [Act.eval,Act.put]) (ru _) ?_)
  go_wp2;go_ret;exact⟨rfl,mS.out,jI.out⟩
 ·have ru:=fun ty=>hap ⟨g,k+1,none⟩ ty (.inr rfl)
  clear hap;go_enter func153,ntmps153;go_wp2_with fail
  go_region_law_o (refine z6 rfl _ _ 38 38 rfl _ _ (by simp [Act.eval,Act.put]) (by simp [Act.eval,Act.put,vT]) (ru _) ?_)
  go_wp2;go_ret;exact⟨rfl,mS.out,jI.out⟩
theorem aap (base g m cap k:Nat) (cur:Array Value) (w:World) (hb:base<=g) (hg:w.heap[g]? =some (.cells cur 41 (0,0))) (hnc:m<cap) (hm:cap<=maxLen) (hcs:cur.size=cap*5)
 (hk:k<=m) (h1c:∀u∈cur.toList.take ((m+1)*5),u.oneCell'=true):
 Calls prog 154 #[.slice (some ⟨g,0,none⟩) (m+1) cap, .int .i64 k, .int .i64 ((k:Int)+1)] w fun e w'=>e= .returned (.slice (some ⟨g,0,none⟩) m cap)/\
  w'.ownsRow base 41 5 (.slice (some ⟨g,0,none⟩) m cap) m ((cur.toList.take ((m+1)*5)).take (k*5)++(cur.toList.take ((m+1)*5)).drop ((k+1)*5))/\w.grownBy w' (some g):=by
 obtain⟨i0,hi,hz0,hz1,hz2⟩:=info_parts Tryz.yS;have hm2:cap<=9223372036854775807:=hm;have zZ:(m+1)*5<=cap*5:=Nat.mul_le_mul_right _ hnc;obtain⟨cs,cg⟩:∃cs,cs=(cur.toList.take ((m+1)*5)).drop ((k+1)*5):=⟨_,rfl⟩;have hcl:cs.length=(m-k)*5:=by rw [cg];simp;omega
 have hdel:=Jh cur.toList ([Value.int .i64 0, .int .i64 0, .string ⟨#[]⟩, .slice none 0 0, .slice none 0 0]:List Value) (k*5) 5 ((m+1)*5) (by omega) (by rw [Array.length_toList,hcs];omega) rfl cs (by rw [cg];first|done|(congr 1<;>omega));simp only at hdel;rw [show (m+1)*5-5=m*5 by omega] at hdel;obtain⟨az,hl2,aS⟩:=hdel;obtain⟨c1,hc1⟩:∃c1,c1=cur.toList.take (k*5)++cs++cur.toList.drop (k*5+cs.length):=⟨_,rfl⟩;rw [<-hc1] at az hl2 aS;obtain⟨W1,hW1⟩:∃W1,W1=w.drew.setRow g c1.toArray:=⟨_,rfl⟩;have hg1:W1.heap[g]? =some (.cells c1.toArray 41 (0,0)):=by rw [hW1];exact setRow_heap w.drew g cur _ 41 _ hg
 have hap:∀(ad:Addr) ty,(cap=k+1\/ad=⟨g,(k+1)*5,none⟩)-> (Builtin.append_ #[39,39] ty #[.slice (some ⟨g,0,none⟩) k cap, .slice (some ad) (m+1-(k+1)) (cap-(k+1))]).run prog w.drew= .ok (.slice (some ⟨g,0,none⟩) m cap) W1:=fun ad ty had=>by
  have hsrc:∀j u,cs[j]? =some u->w.drew.cell? (ad.add j)=some u:=by
   rcases had with h|rfl
   ·have h0:m-k=0:=by omega
    have:cs.length=0:=by rw [hcl,h0,Nat.zero_mul]
    obtain rfl:=List.eq_nil_of_length_eq_zero this;intro j u hj;simp at hj
   ·intro j v hj
    rw [Addr.add_lit,cg,List.getElem?_drop,List.getElem?_take] at*
    split at hj
    ·show w.cell? _=_
     rw [cell_of_row w g _ cur _ _ hg];simpa using hj
    ·cases hj
  have h:=run_append_room (P:=prog) w.drew 39 ty 41 i0 underlying39 hi g k cap cur hg ad (m+1-(k+1)) (cap-(k+1)) cs (by rw [hz1,hcl];first|done|(congr 1;omega)) hsrc (fun u hu=>h1c u (List.mem_of_mem_drop (by rw [<-cg];exact hu))) (by omega) (by rw [hz1,hcl,hcs];omega);rw [h,hW1,hc1,hz1];rw [show k+(m+1-(k+1))=m by omega]
  first|done|simp only [Nat.mul_one]
 obtain⟨W2,hW2⟩:∃W2,W2=W1.setRow g (c1.take (m*5)++([Value.int .i64 0, .int .i64 0, .string ⟨#[]⟩, .slice none 0 0, .slice none 0 0]:List Value)++c1.drop (m*5+5)).toArray:=⟨_,rfl⟩;have hsz1:c1.toArray.size=cap*5:=by rw [List.size_toArray,aS,Array.length_toList,hcs]
 have BZ:∀ty,(Builtin.clear_ #[39] ty #[.slice (some ⟨g,m*5,none⟩) 1 (cap-m)]).run prog W1= .ok (.tuple #[]) W2:=fun ty=>by have hz:(.agg #[.int .i64 0, .int .i64 0, .string ⟨#[]⟩, .slice none 0 0, .slice none 0 0]:Value).cells.size=5:=rfl;have h:=Ji (P:=prog) W1 39 41 ty (.agg #[.int .i64 0, .int .i64 0, .string ⟨#[]⟩, .slice none 0 0, .slice none 0 0]) underlying39 (fun w=>by simp [Go.zeroValue,typeInfo,hi,hz0]) (by decide) g (m*5) (cap-m) c1.toArray 41 hg1 (by rw [hsz1,hz];omega);rw [h,hW2];rfl
 have ja:W2.ownsRow base 41 5 (.slice (some ⟨g,0,none⟩) m cap) m ((cur.toList.take ((m+1)*5)).take (k*5)++(cur.toList.take ((m+1)*5)).drop ((k+1)*5)):=by
  rw [hW2];refine rh hb (setRow_heap W1 g _ _ 41 _ hg1) (by omega) hm ?_ ?_
  ·rw [List.size_toArray,hl2,Array.length_toList,hcs]
  ·rw [show m*5=m*5 by omega]
   rw [List.toList_toArray,az]
   try(congr 2<;>omega)
 have jb:w.grownBy W2 (some g):=by rw [hW2,hW1];exact rq (nV (jH w.drew g _)) (jH _ g _)
 have mixed:prog.follows Departure.mixedOrders=true:=by kernel_rfl
 have hz3:¬((k:Int)=(k:Int)+1):=by omega
 have hb1:(0:Int)<= (k:Int)+1:=by omega
 have htn:((k:Int)+1).toNat=k+1:=by omega
 have hin:k<=cap:=by omega
 have bZ:k+1<=cap:=by omega
 have bj:k<=k+1:=by omega
 have dm:k+1<=m+1:=by omega
 have fV:m+1<=cap:=by omega
 have ct:m<=m+1:=by omega
 have hb3:((k:Int)+1)<= ((m:Int)+1):=by omega
 have hcm:¬(cap=m):=by omega
 have hcm2:m+1-m=1:=by omega
 have mS:=ae ja;have jI:=ae jb;clear ja jb hW2 hsz1 hW1 hg1 az hl2 aS hc1 cg hcl hg h1c hcs hi hz0 hz1 hz2;by_cases vT:cap=k+1
 ·obtain rfl:m=k:=by omega
  subst vT;have ru:=fun ty=>hap ⟨g,0,none⟩ ty (.inl rfl);clear hap;have Jj:(m:Int)<= (m:Int)+1:=by omega
  rw [show m+1-m=1 by omega] at BZ;go_enter func154,ntmps154;go_wp2_with fail
  go_region_law_o (refine z6 rfl _ _ 39 39 rfl _ _ (by simp [Act.eval,Act.put]) (by simp [Act.eval,Act.put]) (ru _) ?_)
  go_wp2;go_ret;exact⟨rfl,mS.out,jI.out⟩
 ·have ru:=fun ty=>hap ⟨g,(k+1)*5,none⟩ ty (.inr rfl)
  clear hap;go_enter func154,ntmps154;go_wp2_with fail
  go_region_law_o (refine z6 rfl _ _ 39 39 rfl _ _ (by simp [Act.eval,Act.put]) (by simp [Act.eval,Act.put,vT]) (ru _) ?_)
  go_wp2;go_ret;exact⟨rfl,mS.out,jI.out⟩
end Go.Proofs.YtlcebdaghmdkeaaGreatDoor
