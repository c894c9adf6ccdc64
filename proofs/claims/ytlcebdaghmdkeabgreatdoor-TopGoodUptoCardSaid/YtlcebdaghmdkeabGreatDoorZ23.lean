import Derived.Test.YtlcebdaghmdkeabGreatDoorZ15
import Derived.Test.YtlcebdaghmdkeabGreatDoorZ16
import Derived.Test.YtlcebdaghmdkeabGreatDoorZ22
set_option linter.all false
set_option maxRecDepth 100000
set_option maxHeartbeats 64000000
namespace Go.Proofs.YtlcebdaghmdkeabGreatDoor
open Go.Proofs.Tryz
open Go.RowKit
attribute [local go_sem↓] Go.wp_at_zero Go.wp_at_succ
theorem Yv (ks:List ah) (p:ah):(ks.any fun y=>p.toList==y.toList)=yO ks p:=by
 unfold yO;congr 1;funext q;by_cases h:p=q
 ·rw [decide_eq_true h];exact qL h
 ·rw [decide_eq_false h];exact qM h
theorem Yw (ks:List ah) (p:ah) (a:au) (n c:Nat) (S:az) (w:World) (hn:ks.length=n) (hbig:n<=1073741824) (hst:bR w S a ks):
 Calls prog 132 #[.slice a n c, .string p] w fun e w'=>e= .returned (.bool (yO ks p))/\w=w':=by
 subst hn;rcases hst with h|⟨b,o,rfl,-,hc⟩
 ·subst h
  refine(Tryz.slices_Contains_empty (α:=ah) a c (.string p) w).mono ?_;rintro e w' ⟨rfl,rfl⟩;exact⟨rfl,rfl⟩
 ·refine(Tryz.slices_Contains Value.string (fun x y=>x.toList==y.toList) (EqlAt.string _ _) b o ks.length c ks p w (Nat.le_refl _) (by omega) (fun j hj=>by rw [hc j hj,getElem!_pos ks j hj])).mono ?_
  rintro e w' ⟨rfl,rfl⟩;rw [List.take_length,Yv];exact⟨rfl,rfl⟩
theorem dF.take {w:World} {T:az}:∀ {l:List Ow} {xs:List Value} (k:Nat),dF w T l xs->dF w T (l.take k) (xs.take (k*2))
 | [],xs,k,h=>by have:xs= []:=h;subst this;simp [dF]
 |x::r,xs,0,h=>by simp [dF]
 |x::r,xs,k+1,h=>by obtain⟨pa,pc,t,rfl,h1,h2⟩:=h;rw [show (k+1)*2=k*2+1+1 by omega];exact⟨pa,pc,t.take (k*2),by simp,h1,dF.take k h2⟩
theorem dF.drop {w:World} {T:az}:∀ {l:List Ow} {xs:List Value} (k:Nat),dF w T l xs->dF w T (l.drop k) (xs.drop (k*2))
 | [],xs,k,h=>by have:xs= []:=h;subst this;simp [dF]
 |x::r,xs,0,h=>by simpa using h
 |x::r,xs,k+1,h=>by obtain⟨pa,pc,t,rfl,h1,h2⟩:=h;rw [show (k+1)*2=k*2+1+1 by omega];simp only [List.drop_succ_cons];exact dF.drop k h2
theorem Yx (v want:V) (who:ah) (l:List Ow) {k:Nat} (h:k<l.length):ez v want who (l.take (k+1))=ez v want who (l.take k)++(if l[k].name=who then [] else match jc (fun q=> !eA v want q) l[k] with|some x=> [x]|none=> []):=by
 unfold ez;rw [List.take_succ_eq_append_getElem h,List.filter_append,List.filterMap_append];congr 1;by_cases hn:l[k].name=who
 ·rw [if_pos hn,List.filter_eq_nil_iff.2 (by simp [hn])];rfl
 ·rw [if_neg hn,List.filter_eq_self.2 (by simp [hn])]
  cases hf:jc (fun q=> !eA v want q) l[k]<;>simp [hf]
theorem Yy (who:ah) (l:List Ow) {k:Nat} (h:k<l.length):lS who (l.take (k+1))=if l[k].name=who then l[k].paths else lS who (l.take k):=by
 unfold lS;rw [List.take_succ_eq_append_getElem h,List.foldl_append];rfl
theorem wT {v want:V} {who:ah} {l:List Ow} {o:Ow} (h:o∈ez v want who l):∃o'∈l,o'.name=o.name/\o.name≠who/\ (∀p∈o.paths,p∈o'.paths/\eA v want p=false)/\o.paths≠ []/\o.paths=o'.paths.filter fun q=> !eA v want q:=by
 unfold ez at h;obtain⟨o',ho',hk⟩:=List.mem_filterMap.1 h;obtain⟨h1,h2⟩:=List.mem_filter.1 ho';unfold jc at hk
 split at hk
 ·cases hk
 ·rename_i hne
  simp only [Option.some.injEq] at hk;subst hk
  exact⟨o',h1,rfl,by simpa using h2,fun p hp=>by
   have:=List.mem_filter.1 hp
   exact⟨this.1,by simpa using this.2⟩,hne,rfl⟩
theorem FE (f:ah->Bool) (ps:List ah):ft (ps.filter f)<=ft ps:=by
 induction ps with
 |nil=>simp
 |cons p r ih=>
  unfold ft at ih⊢;rw [List.filter_cons]
  split
  ·simp only [List.map_cons,List.sum_cons];omega
  ·simp only [List.map_cons,List.sum_cons];omega
theorem Yz {v want:V} {who:ah} {l:List Ow} {o:Ow} (h:o∈ez v want who l):o.size<=cw l:=by
 obtain⟨o',h1,h2,-,-,-,h3⟩:=wT h;have h4:=qG h1;have h5:=FE (fun q=> !eA v want q) o'.paths;rw [<-h3] at h5;unfold Ow.size at h4⊢;rw [<-h2];omega
theorem YA (v want:V) (who:ah) (l:List Ow):(ez v want who l).length<=l.length:=by
 unfold ez;have h1:=List.length_filterMap_le (jc fun q=> !eA v want q) (l.filter fun o=>decide (o.name≠who));have h2:=List.length_filter_le (fun o:Ow=>decide (o.name≠who)) l;omega
theorem JK {l:List Ow} (h:gU l=true):cz (l.map Ow.name):=by
 unfold gU at h;rw [Bool.and_eq_true,decide_eq_true_eq] at h;have key:∀(l:List Ow),(∀i,(h:i<l.length)->0<i->bC (l[i-1]'(by omega)).name l[i].name=true)->cz (l.map Ow.name):=by
  intro l hl;refine List.pairwise_iff_getElem.2 fun i j hi hj hij=> ?_;simp only [List.getElem_map];simp only [List.length_map] at hi hj;obtain⟨d,rfl⟩:∃d,j=i+1+d:=⟨j-i-1,by omega⟩;clear hij
  induction d with
  |zero=>have:=hl (i+1) hj (by omega);simpa using this
  |succ d ih=>
   have h1:=ih (by omega) (by omega);have h2:=hl (i+1+(d+1)) hj (by omega);exact tS h1 h2
 exact key l fun i hi h0=>(h.1 i hi).2.1 h0
theorem PN {a b:List ah} (h:a.Sublist b) (hb:cz b):cz a:=hb.sublist h
theorem PI {v want:V} {who:ah} {l:List Ow} (h:cz (l.map Ow.name)):cz ((ez v want who l).map Ow.name):=by
 refine PN ?_ h;unfold ez;have h1:((l.filter fun o=>decide (o.name≠who)).map Ow.name).Sublist (l.map Ow.name):=(List.filter_sublist).map _;refine List.Sublist.trans ?_ h1;generalize (l.filter fun o=>decide (o.name≠who))=m
 induction m with
 |nil=>simp
 |cons o r ih=>
  rw [List.filterMap_cons];unfold jc at ih⊢;by_cases hk:(o.paths.filter fun q=> !eA v want q)= []
  ·simp only [hk,if_true]
   exact ih.trans (List.sublist_cons_self _ _)
  ·simp only [hk,if_false,List.map_cons]
   exact ih.cons_cons _
theorem PO {α β:Type} (f:α->β->α) (a:α) (l:List β) {k:Nat} (h:k<l.length):(l.take (k+1)).foldl f a=f ((l.take k).foldl f a) l[k]:=by
 rw [List.take_succ_eq_append_getElem h,List.foldl_append];rfl
theorem YB {v:V} (hv:v.fine=true) (paths:List ah) (out:List Ow) (ps:List ah):(ps.foldl (iK paths out) v).sound/\ (ps.foldl (iK paths out) v).count<=120:=by
 obtain⟨h1,h2⟩:=AQ paths out ps (gq hv);have:=uM hv;exact⟨h1,by omega⟩
theorem YC {nx want:V} (h1:nx.sound) (h2:nx.count<=120) (k:Nat):((want.leaves.take k).foldl (iJ want) nx).sound/\ ((want.leaves.take k).foldl (iJ want) nx).count<=20000:=by
 obtain⟨h3,h4⟩:=PQ want (want.leaves.take k) (fun p hp=>List.mem_of_mem_take hp) h1;have h5:(want.leaves.take k).length<=120:=by rw [List.length_take];have:=AU want;omega
 refine⟨h3,?_⟩;have h6:(want.leaves.take k).length*131<=120*131:=Nat.mul_le_mul_right _ h5;omega
theorem YD (l:List Ow) (who:ah) (ps:List ah):(fK l who ps).length=if ps= [] then l.length else l.length+1:=by
 unfold fK
 split
 ·rfl
 ·have h:=tW (l.map Ow.name) who
  simp only [List.length_map] at h;simp only [List.length_append,List.length_cons,List.length_take,List.length_drop];unfold mS;omega
theorem YE {w w':World} {S T:az} {cs:List Cf} {p:au} (h:rS w S cs p) (hk:Kept S w w') (hT:∀b,S b->T b):rS w' T cs p:=by
 rcases h with h|⟨b,o,rfl,hS,hc⟩
 ·exact .inl h
 ·exact .inr ⟨b,o,rfl,hT b hS,fun i h=>⟨hk.cell (p:=⟨b,_,none⟩) hS (hc i h).1,hk.cell (p:=⟨b,_,none⟩) hS (hc i h).2⟩⟩
def Fp (S:az) (r:V×List Ow×List Cf×Int) (w:World) (e:Ending) (w':World):Prop:=
 ∃(ka:au) (kc:Nat) (la:au) (lc:Nat) (a:au) (c:Nat) (a2:au) (c2:Nat),e= .returned (.tuple #[r.1.val ka kc la lc, .slice a r.2.1.length c, .slice a2 r.2.2.1.length c2, .int .i64 r.2.2.2])/\
  r.1.In w' (aW S w) ka kc la lc/\aM a r.2.1.length c/\cx w' (aW S w) r.2.1 a/\aM a2 r.2.2.1.length c2/\rS w' (aW S w) r.2.2.1 a2/\Ext w w'
end Go.Proofs.YtlcebdaghmdkeabGreatDoor
