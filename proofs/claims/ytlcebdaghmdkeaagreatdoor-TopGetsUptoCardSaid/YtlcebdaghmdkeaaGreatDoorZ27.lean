import Derived.Test.YtlcebdaghmdkeaaGreatDoorZ21
import Derived.Test.YtlcebdaghmdkeaaGreatDoorZ24
import Derived.Test.YtlcebdaghmdkeaaGreatDoorZ25
import Derived.Test.YtlcebdaghmdkeaaGreatDoorZ26
set_option linter.all false
set_option maxRecDepth 100000
set_option maxHeartbeats 64000000
namespace Go.Proofs.YtlcebdaghmdkeaaGreatDoor
open Go.Proofs.Tryz
open Go.RowKit
attribute [local go_sem↓] Go.wp_at_zero Go.wp_at_succ
theorem Yj (ks:List ah) (p:ah):(ks.any fun y=>p.toList==y.toList)=yz ks p:=by
 unfold yz;congr 1;funext q;by_cases h:p=q
 ·rw [decide_eq_true h];exact qA h
 ·rw [decide_eq_false h];exact tP h
theorem Yk (ks:List ah) (p:ah) (a:aq) (n c:Nat) (S:aA) (w:World) (hn:ks.length=n) (hbig:n<=1073741824) (hst:bT w S a ks):
 Calls prog 78 #[.slice a n c, .string p] w fun e w'=>e= .returned (.bool (yz ks p))/\w=w':=by
 subst hn;rcases hst with h|⟨b,o,rfl,-,hc⟩
 ·subst h
  refine(Tryz.slices_Contains_empty (α:=ah) a c (.string p) w).mono ?_;rintro e w' ⟨rfl,rfl⟩;exact⟨rfl,rfl⟩
 ·refine(Tryz.slices_Contains Value.string (fun x y=>x.toList==y.toList) (EqlAt.string _ _) b o ks.length c ks p w (Nat.le_refl _) (by omega) (fun j hj=>by rw [hc j hj,getElem!_pos ks j hj])).mono ?_
  rintro e w' ⟨rfl,rfl⟩;rw [List.take_length,Yj];exact⟨rfl,rfl⟩
theorem dI.take {w:World} {T:aA}:∀ {l:List Ow} {xs:List Value} (k:Nat),dI w T l xs->dI w T (l.take k) (xs.take (k*2))
 | [],xs,k,h=>by have:xs= []:=h;subst this;simp [dI]
 |x::r,xs,0,h=>by simp [dI]
 |x::r,xs,k+1,h=>by obtain⟨pa,pc,t,rfl,h1,h2⟩:=h;rw [show (k+1)*2=k*2+1+1 by omega];exact⟨pa,pc,t.take (k*2),by simp,h1,dI.take k h2⟩
theorem dI.drop {w:World} {T:aA}:∀ {l:List Ow} {xs:List Value} (k:Nat),dI w T l xs->dI w T (l.drop k) (xs.drop (k*2))
 | [],xs,k,h=>by have:xs= []:=h;subst this;simp [dI]
 |x::r,xs,0,h=>by simpa using h
 |x::r,xs,k+1,h=>by obtain⟨pa,pc,t,rfl,h1,h2⟩:=h;rw [show (k+1)*2=k*2+1+1 by omega];simp only [List.drop_succ_cons];exact dI.drop k h2
theorem Yl (v want:V) (who:ah) (l:List Ow) {k:Nat} (h:k<l.length):ft v want who (l.take (k+1))=ft v want who (l.take k)++(if l[k].name=who then [] else match jt (fun q=> !fu v want q) l[k] with|some x=> [x]|none=> []):=by
 unfold ft;rw [List.take_succ_eq_append_getElem h,List.filter_append,List.filterMap_append];congr 1;by_cases hn:l[k].name=who
 ·rw [if_pos hn,List.filter_eq_nil_iff.2 (by simp [hn])];rfl
 ·rw [if_neg hn,List.filter_eq_self.2 (by simp [hn])]
  cases hf:jt (fun q=> !fu v want q) l[k]<;>simp [hf]
theorem Ym (who:ah) (l:List Ow) {k:Nat} (h:k<l.length):mq who (l.take (k+1))=if l[k].name=who then l[k].paths else mq who (l.take k):=by
 unfold mq;rw [List.take_succ_eq_append_getElem h,List.foldl_append];rfl
theorem wG {v want:V} {who:ah} {l:List Ow} {o:Ow} (h:o∈ft v want who l):∃o'∈l,o'.name=o.name/\o.name≠who/\ (∀p∈o.paths,p∈o'.paths/\fu v want p=false)/\o.paths≠ []/\o.paths=o'.paths.filter fun q=> !fu v want q:=by
 unfold ft at h;obtain⟨o',ho',hk⟩:=List.mem_filterMap.1 h;obtain⟨h1,h2⟩:=List.mem_filter.1 ho';unfold jt at hk
 split at hk
 ·cases hk
 ·rename_i hne
  simp only [Option.some.injEq] at hk;subst hk
  exact⟨o',h1,rfl,by simpa using h2,fun p hp=>by
   have:=List.mem_filter.1 hp
   exact⟨this.1,by simpa using this.2⟩,hne,rfl⟩
theorem FK (f:ah->Bool) (ps:List ah):fw (ps.filter f)<=fw ps:=by
 induction ps with
 |nil=>simp
 |cons p r ih=>
  unfold fw at ih⊢;rw [List.filter_cons]
  split
  ·simp only [List.map_cons,List.sum_cons];omega
  ·simp only [List.map_cons,List.sum_cons];omega
theorem Yn {v want:V} {who:ah} {l:List Ow} {o:Ow} (h:o∈ft v want who l):o.size<=cN l:=by
 obtain⟨o',h1,h2,-,-,-,h3⟩:=wG h;have h4:=tK h1;have h5:=FK (fun q=> !fu v want q) o'.paths;rw [<-h3] at h5;unfold Ow.size at h4⊢;rw [<-h2];omega
theorem Yo (v want:V) (who:ah) (l:List Ow):(ft v want who l).length<=l.length:=by
 unfold ft;have h1:=List.length_filterMap_le (jt fun q=> !fu v want q) (l.filter fun o=>decide (o.name≠who));have h2:=List.length_filter_le (fun o:Ow=>decide (o.name≠who)) l;omega
theorem JR {l:List Ow} (h:iK l=true):cn (l.map Ow.name):=by
 unfold iK at h;rw [Bool.and_eq_true,decide_eq_true_eq] at h;have key:∀(l:List Ow),(∀i,(h:i<l.length)->0<i->bB (l[i-1]'(by omega)).name l[i].name=true)->cn (l.map Ow.name):=by
  intro l hl;refine List.pairwise_iff_getElem.2 fun i j hi hj hij=> ?_;simp only [List.getElem_map];simp only [List.length_map] at hi hj;obtain⟨d,rfl⟩:∃d,j=i+1+d:=⟨j-i-1,by omega⟩;clear hij
  induction d with
  |zero=>have:=hl (i+1) hj (by omega);simpa using this
  |succ d ih=>
   have h1:=ih (by omega) (by omega);have h2:=hl (i+1+(d+1)) hj (by omega);exact uU h1 h2
 exact key l fun i hi h0=>(h.1 i hi).2.1 h0
theorem Pz {a b:List ah} (h:a.Sublist b) (hb:cn b):cn a:=hb.sublist h
theorem Pv {v want:V} {who:ah} {l:List Ow} (h:cn (l.map Ow.name)):cn ((ft v want who l).map Ow.name):=by
 refine Pz ?_ h;unfold ft;have h1:((l.filter fun o=>decide (o.name≠who)).map Ow.name).Sublist (l.map Ow.name):=(List.filter_sublist).map _;refine List.Sublist.trans ?_ h1;generalize (l.filter fun o=>decide (o.name≠who))=m
 induction m with
 |nil=>simp
 |cons o r ih=>
  rw [List.filterMap_cons];unfold jt at ih⊢;by_cases hk:(o.paths.filter fun q=> !fu v want q)= []
  ·simp only [hk,if_true]
   exact ih.trans (List.sublist_cons_self _ _)
  ·simp only [hk,if_false,List.map_cons]
   exact ih.cons_cons _
theorem PA {α β:Type} (f:α->β->α) (a:α) (l:List β) {k:Nat} (h:k<l.length):(l.take (k+1)).foldl f a=f ((l.take k).foldl f a) l[k]:=by
 rw [List.take_succ_eq_append_getElem h,List.foldl_append];rfl
theorem Yp {v:V} (hv:v.fine=true) (paths:List ah) (out:List Ow) (ps:List ah):(ps.foldl (iL paths out) v).sound/\ (ps.foldl (iL paths out) v).count<=120:=by
 obtain⟨h1,h2⟩:=CJ paths out ps (gV hv);have:=uI hv;exact⟨h1,by omega⟩
theorem Yq {nx want:V} (h1:nx.sound) (h2:nx.count<=120) (k:Nat):((want.leaves.take k).foldl (jh want) nx).sound/\ ((want.leaves.take k).foldl (jh want) nx).count<=20000:=by
 obtain⟨h3,h4⟩:=PB want (want.leaves.take k) (fun p hp=>List.mem_of_mem_take hp) h1;have h5:(want.leaves.take k).length<=120:=by rw [List.length_take];have:=CL want;omega
 refine⟨h3,?_⟩;have h6:(want.leaves.take k).length*131<=120*131:=Nat.mul_le_mul_right _ h5;omega
theorem Yr (l:List Ow) (who:ah) (ps:List ah):(fY l who ps).length=if ps= [] then l.length else l.length+1:=by
 unfold fY
 split
 ·rfl
 ·have h:=tR (l.map Ow.name) who
  simp only [List.length_map] at h;simp only [List.length_append,List.length_cons,List.length_take,List.length_drop];unfold nj;omega
theorem Yt {w w':World} {S T:aA} {cs:List Cf} {p:aq} (h:rK w S cs p) (hk:Kept S w w') (hT:∀b,S b->T b):rK w' T cs p:=by
 rcases h with h|⟨b,o,rfl,hS,hc⟩
 ·exact .inl h
 ·exact .inr ⟨b,o,rfl,hT b hS,fun i h=>⟨hk.cell (p:=⟨b,_,none⟩) hS (hc i h).1,hk.cell (p:=⟨b,_,none⟩) hS (hc i h).2⟩⟩
def Fu (S:aA) (r:V×List Ow×List Cf×Int) (w:World) (e:Ending) (w':World):Prop:=
 ∃(ka:aq) (kc:Nat) (la:aq) (lc:Nat) (a:aq) (c:Nat) (a2:aq) (c2:Nat),e= .returned (.tuple #[r.1.val ka kc la lc, .slice a r.2.1.length c, .slice a2 r.2.2.1.length c2, .int .i64 r.2.2.2])/\
  r.1.In w' (aW S w) ka kc la lc/\aO a r.2.1.length c/\cz w' (aW S w) r.2.1 a/\aO a2 r.2.2.1.length c2/\rK w' (aW S w) r.2.2.1 a2/\Ext w w'
theorem XH (v:V) (ka:aq) (kc:Nat) (la:aq) (lc:Nat) (l:List Ow) (a:aq) (c:Nat) (who:ah) (want:V) (kb:aq) (kd:Nat) (lb:aq) (ld:Nat) (force:Bool) (S:aA) (w:World)
 (kP:v.size<=1000000000) (hwz:want.size<=1000000000) (cx:cN l<=2097152) (uR:who.size<=1073741824) (hok:aO a l.length c) (hin:v.In w S ka kc la lc) (hjn:cz w S l a) (hkn:want.In w S kb kd lb ld) (hm:fW w) (hb:pV v l who want=false):
 Calls prog 49 #[v.val ka kc la lc, .slice a l.length c, .string who,want.val kb kd lb ld, .bool force] w (Fu S (v,l, [],1) w):=by
 have aJ:=ae (hin.mono (T:=fun b=>S b/\b<w.heap.size) (fun b h hl=>⟨h,hl⟩));have aV:=ae (hjn.mono (T:=fun b=>S b/\b<w.heap.size) (fun b h hl=>⟨h,hl⟩));have kx:=ae (hkn.mono (T:=fun b=>S b/\b<w.heap.size) (fun b h hl=>⟨h,hl⟩));have dv:=ae hok;clear hin hjn hkn hok;have dF:v.fine=false\/ (v.fine=true/\want.fine=false)\/ (v.fine=true/\want.fine=true/\v.k≠5)\/ (v.fine=true/\want.fine=true/\v.k=5/\want.k≠5)\/ (v.fine=true/\want.fine=true/\v.k=5/\want.k=5/\iK l=false)\/ (v.fine=true/\want.fine=true/\v.k=5/\want.k=5/\iK l=true/\fe who=false):=by
  unfold pV at hb
  cases h1:v.fine<;>cases h2:want.fine<;>cases h5:iK l<;>cases h6:fe who<;>by_cases h3:v.k=5<;>by_cases h4:want.k=5<;>simp_all
 clear hb;rcases dF with hf|⟨hf,hg⟩|⟨hf,hg,h3⟩|⟨hf,hg,h3,h4⟩|⟨hf,hg,h3,h4,hl⟩|⟨hf,hg,h3,h4,hl,hw⟩
 ·skip
  have Hf:=ae hf;clear hf;go_enter func49,ntmps49;go_upto_region 1 with fail
  refine aI (R:=fun wx=>aD wx w.heap.size v ka kc la lc/\aD wx (w.heap.size+1) want kb kd lb ld/\aN wx (w.heap.size+2)/\Ext w wx) ⟨aj,aj,aj,Xt⟩ ?_;rintro wa ⟨ag,ai,ak,aF⟩;have mo:=ak.lt;obtain⟨hc0,aw,hl0⟩:=ag.see;obtain⟨hc1,aB,az⟩:=ai.see;go_wp2_with fail;(refine(df v ka kc la lc _ _ (by omega) (aJ.out.ext Xt)).mono ?_);rw [Hf.out];rintro e w1 ⟨rfl,om⟩;have ag:=af.ext (w':=w1) Xt ag;have ai:=af.ext (w':=w1) Xt ai;have ak:=af.ext (w':=w1) Xt ak;have np:Ext w w1:=Xt;clear om aF hc0 aw hl0 hc1 aB az;obtain⟨hc0,aw,hl0⟩:=ag.see;obtain⟨hc1,aB,az⟩:=ai.see;obtain⟨hc2,hf2,hl2⟩:=ak.see;go_wp2_with fail;refine aG (h:= ?_);exact⟨ka,kc,la,lc,a,c,none,0,rfl,V.In.keep (S:=fun b=>S b/\b<w.heap.size) (aJ.out.ext np) (Held.kept (a:=w1) (T:=fun b=>S b/\b<w.heap.size) aC) (fun b h _=> .inl h.1),dv.out,cz.keep (S:=fun b=>S b/\b<w.heap.size) (aV.out.ext np) (Held.kept (a:=w1) (T:=fun b=>S b/\b<w.heap.size) aC) (fun b h _=> .inl h.1),aO.nil, .inl rfl,Xt⟩
 ·skip
  have Hf:=ae hf;clear hf;have Hg:=ae hg;clear hg;go_enter func49,ntmps49;go_upto_region 1 with fail
  refine aI (R:=fun wx=>aD wx w.heap.size v ka kc la lc/\aD wx (w.heap.size+1) want kb kd lb ld/\aN wx (w.heap.size+2)/\Ext w wx) ⟨aj,aj,aj,Xt⟩ ?_;rintro wa ⟨ag,ai,ak,aF⟩;have mo:=ak.lt;obtain⟨hc0,aw,hl0⟩:=ag.see;obtain⟨hc1,aB,az⟩:=ai.see;go_wp2_with fail;(refine(df v ka kc la lc _ _ (by omega) (aJ.out.ext Xt)).mono ?_);rw [Hf.out];rintro e w1 ⟨rfl,om⟩;have ag:=af.ext (w':=w1) Xt ag;have ai:=af.ext (w':=w1) Xt ai;have ak:=af.ext (w':=w1) Xt ak;have np:Ext w w1:=Xt;clear om aF hc0 aw hl0 hc1 aB az;obtain⟨hc0,aw,hl0⟩:=ag.see;obtain⟨hc1,aB,az⟩:=ai.see;go_wp2_with fail;(refine(df want kb kd lb ld _ _ (by omega) (kx.out.ext Xt)).mono ?_);rw [Hg.out];rintro e w2 ⟨rfl,pW⟩;have ag:=af.ext (w':=w2) Xt ag;have ai:=af.ext (w':=w2) Xt ai;have ak:=af.ext (w':=w2) Xt ak;have nr:Ext w w2:=Xt;clear pW np hc0 aw hl0 hc1 aB az;obtain⟨hc0,aw,hl0⟩:=ag.see;obtain⟨hc1,aB,az⟩:=ai.see;obtain⟨hc2,hf2,hl2⟩:=ak.see;go_wp2_with fail;refine aG (h:= ?_);exact⟨ka,kc,la,lc,a,c,none,0,rfl,V.In.keep (S:=fun b=>S b/\b<w.heap.size) (aJ.out.ext nr) (Held.kept (a:=w2) (T:=fun b=>S b/\b<w.heap.size) aC) (fun b h _=> .inl h.1),dv.out,cz.keep (S:=fun b=>S b/\b<w.heap.size) (aV.out.ext nr) (Held.kept (a:=w2) (T:=fun b=>S b/\b<w.heap.size) aC) (fun b h _=> .inl h.1),aO.nil, .inl rfl,Xt⟩
 ·skip
  have Hf:=ae hf;clear hf;have Hg:=ae hg;clear hg;have CO:(v.k !=5)=true:=by simpa using h3
  clear h3;go_enter func49,ntmps49;go_upto_region 1 with fail
  refine aI (R:=fun wx=>aD wx w.heap.size v ka kc la lc/\aD wx (w.heap.size+1) want kb kd lb ld/\aN wx (w.heap.size+2)/\Ext w wx) ⟨aj,aj,aj,Xt⟩ ?_;rintro wa ⟨ag,ai,ak,aF⟩;have mo:=ak.lt;obtain⟨hc0,aw,hl0⟩:=ag.see;obtain⟨hc1,aB,az⟩:=ai.see;go_wp2_with fail;(refine(df v ka kc la lc _ _ (by omega) (aJ.out.ext Xt)).mono ?_);rw [Hf.out];rintro e w1 ⟨rfl,om⟩;have ag:=af.ext (w':=w1) Xt ag;have ai:=af.ext (w':=w1) Xt ai;have ak:=af.ext (w':=w1) Xt ak;have np:Ext w w1:=Xt;clear om aF hc0 aw hl0 hc1 aB az;obtain⟨hc0,aw,hl0⟩:=ag.see;obtain⟨hc1,aB,az⟩:=ai.see;go_wp2_with fail;(refine(df want kb kd lb ld _ _ (by omega) (kx.out.ext Xt)).mono ?_);rw [Hg.out];rintro e w2 ⟨rfl,pW⟩;have ag:=af.ext (w':=w2) Xt ag;have ai:=af.ext (w':=w2) Xt ai;have ak:=af.ext (w':=w2) Xt ak;have nr:Ext w w2:=Xt;clear pW np hc0 aw hl0 hc1 aB az;obtain⟨hc0,aw,hl0⟩:=ag.see;obtain⟨hc1,aB,az⟩:=ai.see;obtain⟨hc2,hf2,hl2⟩:=ak.see;go_wp2_with fail;refine aG (h:= ?_);exact⟨ka,kc,la,lc,a,c,none,0,rfl,V.In.keep (S:=fun b=>S b/\b<w.heap.size) (aJ.out.ext nr) (Held.kept (a:=w2) (T:=fun b=>S b/\b<w.heap.size) aC) (fun b h _=> .inl h.1),dv.out,cz.keep (S:=fun b=>S b/\b<w.heap.size) (aV.out.ext nr) (Held.kept (a:=w2) (T:=fun b=>S b/\b<w.heap.size) aC) (fun b h _=> .inl h.1),aO.nil, .inl rfl,Xt⟩
 ·skip
  have Hf:=ae hf;clear hf;have Hg:=ae hg;clear hg;have CO:(v.k !=5)=false:=by simpa using h3
  have FN:(want.k !=5)=true:=by simpa using h4
  clear h3 h4;go_enter func49,ntmps49;go_upto_region 1 with fail
  refine aI (R:=fun wx=>aD wx w.heap.size v ka kc la lc/\aD wx (w.heap.size+1) want kb kd lb ld/\aN wx (w.heap.size+2)/\Ext w wx) ⟨aj,aj,aj,Xt⟩ ?_;rintro wa ⟨ag,ai,ak,aF⟩;have mo:=ak.lt;obtain⟨hc0,aw,hl0⟩:=ag.see;obtain⟨hc1,aB,az⟩:=ai.see;go_wp2_with fail;(refine(df v ka kc la lc _ _ (by omega) (aJ.out.ext Xt)).mono ?_);rw [Hf.out];rintro e w1 ⟨rfl,om⟩;have ag:=af.ext (w':=w1) Xt ag;have ai:=af.ext (w':=w1) Xt ai;have ak:=af.ext (w':=w1) Xt ak;have np:Ext w w1:=Xt;clear om aF hc0 aw hl0 hc1 aB az;obtain⟨hc0,aw,hl0⟩:=ag.see;obtain⟨hc1,aB,az⟩:=ai.see;go_wp2_with fail;(refine(df want kb kd lb ld _ _ (by omega) (kx.out.ext Xt)).mono ?_);rw [Hg.out];rintro e w2 ⟨rfl,pW⟩;have ag:=af.ext (w':=w2) Xt ag;have ai:=af.ext (w':=w2) Xt ai;have ak:=af.ext (w':=w2) Xt ak;have nr:Ext w w2:=Xt;clear pW np hc0 aw hl0 hc1 aB az;obtain⟨hc0,aw,hl0⟩:=ag.see;obtain⟨hc1,aB,az⟩:=ai.see;obtain⟨hc2,hf2,hl2⟩:=ak.see;go_wp2_with fail;refine aG (h:= ?_);exact⟨ka,kc,la,lc,a,c,none,0,rfl,V.In.keep (S:=fun b=>S b/\b<w.heap.size) (aJ.out.ext nr) (Held.kept (a:=w2) (T:=fun b=>S b/\b<w.heap.size) aC) (fun b h _=> .inl h.1),dv.out,cz.keep (S:=fun b=>S b/\b<w.heap.size) (aV.out.ext nr) (Held.kept (a:=w2) (T:=fun b=>S b/\b<w.heap.size) aC) (fun b h _=> .inl h.1),aO.nil, .inl rfl,Xt⟩
 ·skip
  have Hf:=ae hf;clear hf;have Hg:=ae hg;clear hg;have Hl:=ae hl;clear hl;have CO:(v.k !=5)=false:=by simpa using h3
  have FN:(want.k !=5)=false:=by simpa using h4
  clear h3 h4;go_enter func49,ntmps49;go_upto_region 1 with fail
  refine aI (R:=fun wx=>aD wx w.heap.size v ka kc la lc/\aD wx (w.heap.size+1) want kb kd lb ld/\aN wx (w.heap.size+2)/\Ext w wx) ⟨aj,aj,aj,Xt⟩ ?_;rintro wa ⟨ag,ai,ak,aF⟩;have mo:=ak.lt;obtain⟨hc0,aw,hl0⟩:=ag.see;obtain⟨hc1,aB,az⟩:=ai.see;go_wp2_with fail;(refine(df v ka kc la lc _ _ (by omega) (aJ.out.ext Xt)).mono ?_);rw [Hf.out];rintro e w1 ⟨rfl,om⟩;have ag:=af.ext (w':=w1) Xt ag;have ai:=af.ext (w':=w1) Xt ai;have ak:=af.ext (w':=w1) Xt ak;have np:Ext w w1:=Xt;clear om aF hc0 aw hl0 hc1 aB az;obtain⟨hc0,aw,hl0⟩:=ag.see;obtain⟨hc1,aB,az⟩:=ai.see;go_wp2_with fail;(refine(df want kb kd lb ld _ _ (by omega) (kx.out.ext Xt)).mono ?_);rw [Hg.out];rintro e w2 ⟨rfl,pW⟩;have ag:=af.ext (w':=w2) Xt ag;have ai:=af.ext (w':=w2) Xt ai;have ak:=af.ext (w':=w2) Xt ak;have nr:Ext w w2:=Xt;clear pW np hc0 aw hl0 hc1 aB az;obtain⟨hc0,aw,hl0⟩:=ag.see;obtain⟨hc1,aB,az⟩:=ai.see;go_wp2_with fail;(refine(Fq l a c _ _ cx (aV.out.ext Xt) (hm.ext Xt)).mono ?_);rw [Hl.out];rintro e w3 ⟨rfl,yF⟩;have ag:=af.ext (w':=w3) Xt ag;have ai:=af.ext (w':=w3) Xt ai;have ak:=af.ext (w':=w3) Xt ak;have uW:Ext w w3:=Xt;clear yF nr hc0 aw hl0 hc1 aB az;obtain⟨hc0,aw,hl0⟩:=ag.see;obtain⟨hc1,aB,az⟩:=ai.see;obtain⟨hc2,hf2,hl2⟩:=ak.see;go_wp2_with fail;refine aG (h:= ?_);exact⟨ka,kc,la,lc,a,c,none,0,rfl,V.In.keep (S:=fun b=>S b/\b<w.heap.size) (aJ.out.ext uW) (Held.kept (a:=w3) (T:=fun b=>S b/\b<w.heap.size) aC) (fun b h _=> .inl h.1),dv.out,cz.keep (S:=fun b=>S b/\b<w.heap.size) (aV.out.ext uW) (Held.kept (a:=w3) (T:=fun b=>S b/\b<w.heap.size) aC) (fun b h _=> .inl h.1),aO.nil, .inl rfl,Xt⟩
 ·skip
  have Hf:=ae hf;clear hf;have Hg:=ae hg;clear hg;have Hl:=ae hl;clear hl;have Hw:=ae hw;clear hw;have CO:(v.k !=5)=false:=by simpa using h3
  have FN:(want.k !=5)=false:=by simpa using h4
  clear h3 h4;go_enter func49,ntmps49;go_upto_region 1 with fail
  refine aI (R:=fun wx=>aD wx w.heap.size v ka kc la lc/\aD wx (w.heap.size+1) want kb kd lb ld/\aN wx (w.heap.size+2)/\Ext w wx) ⟨aj,aj,aj,Xt⟩ ?_;rintro wa ⟨ag,ai,ak,aF⟩;have mo:=ak.lt;obtain⟨hc0,aw,hl0⟩:=ag.see;obtain⟨hc1,aB,az⟩:=ai.see;go_wp2_with fail;(refine(df v ka kc la lc _ _ (by omega) (aJ.out.ext Xt)).mono ?_);rw [Hf.out];rintro e w1 ⟨rfl,om⟩;have ag:=af.ext (w':=w1) Xt ag;have ai:=af.ext (w':=w1) Xt ai;have ak:=af.ext (w':=w1) Xt ak;have np:Ext w w1:=Xt;clear om aF hc0 aw hl0 hc1 aB az;obtain⟨hc0,aw,hl0⟩:=ag.see;obtain⟨hc1,aB,az⟩:=ai.see;go_wp2_with fail;(refine(df want kb kd lb ld _ _ (by omega) (kx.out.ext Xt)).mono ?_);rw [Hg.out];rintro e w2 ⟨rfl,pW⟩;have ag:=af.ext (w':=w2) Xt ag;have ai:=af.ext (w':=w2) Xt ai;have ak:=af.ext (w':=w2) Xt ak;have nr:Ext w w2:=Xt;clear pW np hc0 aw hl0 hc1 aB az;obtain⟨hc0,aw,hl0⟩:=ag.see;obtain⟨hc1,aB,az⟩:=ai.see;go_wp2_with fail;(refine(Fq l a c _ _ cx (aV.out.ext Xt) (hm.ext Xt)).mono ?_);rw [Hl.out];rintro e w3 ⟨rfl,yF⟩;have ag:=af.ext (w':=w3) Xt ag;have ai:=af.ext (w':=w3) Xt ai;have ak:=af.ext (w':=w3) Xt ak;have uW:Ext w w3:=Xt;clear yF nr hc0 aw hl0 hc1 aB az;obtain⟨hc0,aw,hl0⟩:=ag.see;obtain⟨hc1,aB,az⟩:=ai.see;go_wp2_with fail;(refine(qy who _ uR).mono ?_);rw [Hw.out];rintro e wn ⟨rfl,rfl⟩;clear hc0 aw hl0 hc1 aB az;obtain⟨hc0,aw,hl0⟩:=ag.see;obtain⟨hc1,aB,az⟩:=ai.see;obtain⟨hc2,hf2,hl2⟩:=ak.see;go_wp2_with fail;refine aG (h:= ?_);exact⟨ka,kc,la,lc,a,c,none,0,rfl,V.In.keep (S:=fun b=>S b/\b<w.heap.size) (aJ.out.ext uW) (Held.kept (a:=w3) (T:=fun b=>S b/\b<w.heap.size) aC) (fun b h _=> .inl h.1),dv.out,cz.keep (S:=fun b=>S b/\b<w.heap.size) (aV.out.ext uW) (Held.kept (a:=w3) (T:=fun b=>S b/\b<w.heap.size) aC) (fun b h _=> .inl h.1),aO.nil, .inl rfl,Xt⟩
theorem XI (v:V) (ka:aq) (kc:Nat) (la:aq) (lc:Nat) (l:List Ow) (a:aq) (c:Nat) (who:ah) (want:V) (kb:aq) (kd:Nat) (lb:aq) (ld:Nat) (force:Bool) (S:aA) (w:World)
 (kP:v.size<=1000000000) (hwz:want.size<=1000000000) (cx:cN l<=2097152) (uR:who.size<=1073741824) (hok:aO a l.length c) (hin:v.In w S ka kc la lc) (hjn:cz w S l a) (hkn:want.In w S kb kd lb ld) (hm:fW w) (hb:pV v l who want=true) (hc:jN v l who want≠ []) (hfo:force=false):
 Calls prog 49 #[v.val ka kc la lc, .slice a l.length c, .string who,want.val kb kd lb ld, .bool force] w (Fu S (v,l,jN v l who want,5) w):=by
 have aJ:=ae (hin.mono (T:=fun b=>S b/\b<w.heap.size) (fun b h hl=>⟨h,hl⟩));have aV:=ae (hjn.mono (T:=fun b=>S b/\b<w.heap.size) (fun b h hl=>⟨h,hl⟩));have kx:=ae (hkn.mono (T:=fun b=>S b/\b<w.heap.size) (fun b h hl=>⟨h,hl⟩));have dv:=ae hok;clear hin hjn hkn hok;unfold pV at hb;simp only [Bool.and_eq_true,decide_eq_true_eq] at hb;obtain⟨⟨⟨⟨⟨hf,hg⟩,h3⟩,h4⟩,hl⟩,hw⟩:=hb;have Hf:=ae hf;have Hg:=ae hg;have Hl:=ae hl;have Hw:=ae hw;clear hf hg hl hw;have CO:(v.k !=5)=false:=by simpa using h3
 have FN:(want.k !=5)=false:=by simpa using h4
 clear h3 h4;subst hfo;obtain⟨cs,hcs⟩:∃cs,jN v l who want=cs:=⟨_,rfl⟩;rw [hcs] at hc⊢;have wK:=ae hcs;have hcl:(0:Int)<(cs.length:Int):=by have:=List.length_pos_iff.2 hc;omega
 clear hc hcs;go_enter func49,ntmps49;go_upto_region 1 with fail
 refine aI (R:=fun wx=>aD wx w.heap.size v ka kc la lc/\aD wx (w.heap.size+1) want kb kd lb ld/\aN wx (w.heap.size+2)/\Ext w wx) ⟨aj,aj,aj,Xt⟩ ?_;rintro wa ⟨ag,ai,ak,aF⟩;have mo:=ak.lt;obtain⟨hc0,aw,hl0⟩:=ag.see;obtain⟨hc1,aB,az⟩:=ai.see;go_wp2_with fail;(refine(df v ka kc la lc _ _ (by omega) (aJ.out.ext Xt)).mono ?_);rw [Hf.out];rintro e w1 ⟨rfl,om⟩;have ag:=af.ext (w':=w1) Xt ag;have ai:=af.ext (w':=w1) Xt ai;have ak:=af.ext (w':=w1) Xt ak;have np:Ext w w1:=Xt;clear om aF hc0 aw hl0 hc1 aB az;obtain⟨hc0,aw,hl0⟩:=ag.see;obtain⟨hc1,aB,az⟩:=ai.see;go_wp2_with fail;(refine(df want kb kd lb ld _ _ (by omega) (kx.out.ext Xt)).mono ?_);rw [Hg.out];rintro e w2 ⟨rfl,pW⟩;have ag:=af.ext (w':=w2) Xt ag;have ai:=af.ext (w':=w2) Xt ai;have ak:=af.ext (w':=w2) Xt ak;have nr:Ext w w2:=Xt;clear pW np hc0 aw hl0 hc1 aB az;obtain⟨hc0,aw,hl0⟩:=ag.see;obtain⟨hc1,aB,az⟩:=ai.see;go_wp2_with fail;(refine(Fq l a c _ _ cx (aV.out.ext Xt) (hm.ext Xt)).mono ?_);rw [Hl.out];rintro e w3 ⟨rfl,yF⟩;have ag:=af.ext (w':=w3) Xt ag;have ai:=af.ext (w':=w3) Xt ai;have ak:=af.ext (w':=w3) Xt ak;have uW:Ext w w3:=Xt;clear yF nr hc0 aw hl0 hc1 aB az;obtain⟨hc0,aw,hl0⟩:=ag.see;obtain⟨hc1,aB,az⟩:=ai.see;go_wp2_with fail;(refine(qy who _ uR).mono ?_);rw [Hw.out];rintro e wn ⟨rfl,rfl⟩;clear hc0 aw hl0 hc1 aB az;obtain⟨hc0,aw,hl0⟩:=ag.see;obtain⟨hc1,aB,az⟩:=ai.see;have hz2:=ak.lt;go_wp2_with fail;(refine(PD v ka kc la lc _ l a c _ who want kb kd lb ld _ _ kP hwz cx (aJ.out.ext Xt) (aV.out.ext Xt) (kx.out.ext Xt) (hm.ext Xt)).mono ?_);rw [wK.out];rintro e w9 ⟨a9,c9,rfl,rL,FO,h9⟩;have ag:=af.ext (w':=w9) Xt ag;have ak:=af.ext (w':=w9) Xt ak;have gY:Ext w w9:=Xt;have Yu:=ae (FO.mono (T:=fun b=>w.heap.size+3<=b) (fun b hb=>by(try simp at hb);omega));clear h9 uW hc0 aw hl0 hc1 aB az FO;obtain⟨hc0,aw,hl0⟩:=ag.see;obtain⟨hc2,hf2,hl2⟩:=ak.see;go_wp2_with fail;refine aG (h:= ?_);exact⟨ka,kc,la,lc,a,c,a9,c9,rfl,V.In.keep (S:=fun b=>S b/\b<w.heap.size) (aJ.out.ext gY) (Held.kept (a:=w9) (T:=fun b=>S b/\b<w.heap.size) aC) (fun b h _=> .inl h.1),dv.out,cz.keep (S:=fun b=>S b/\b<w.heap.size) (aV.out.ext gY) (Held.kept (a:=w9) (T:=fun b=>S b/\b<w.heap.size) aC) (fun b h _=> .inl h.1),rL,Yt Yu.out (Held.kept (a:=w9) (T:=fun b=>w.heap.size+3<=b) aC) (fun b h=> .inr (by omega)),Xt⟩
theorem J3 {w w':World} {n:Nat} {vs:Array Value} {T:TypeId} (h:w'.heap[n]? =w.heap[n]?) (hb:af w n vs T):af w' n vs T:=by unfold af at*;rw [h];exact hb
theorem XJ (v:V) (ka:aq) (kc:Nat) (la:aq) (lc:Nat) (l:List Ow) (a:aq) (c:Nat) (who:ah) (want:V) (kb:aq) (kd:Nat) (lb:aq) (ld:Nat) (force:Bool) (S:aA) (w:World)
 (kP:v.size<=1000000000) (hwz:want.size<=1000000000) (cx:cN l<=2097152) (uR:who.size<=1073741824) (hok:aO a l.length c) (hin:v.In w S ka kc la lc) (hjn:cz w S l a) (hkn:want.In w S kb kd lb ld) (hm:fW w) (hb:pV v l who want=true) (hnc:¬(jN v l who want≠ []/\force=false)):
 Calls prog 49 #[v.val ka kc la lc, .slice a l.length c, .string who,want.val kb kd lb ld, .bool force] w
  (Fu S (if(fg v l who want).fine=false\/6<(fZ v l who want).length then(v,l, [],2) else(fg v l who want,fZ v l who want, [],0)) w):=by
 have uO:∀(fn:Fn) (first cap:Array Value) (w:World),(Instr.makeFunc fn first cap).run prog w= .ok (.func fn first cap) w:=fun _ _ _ _=>rfl;obtain⟨r0,J4⟩:∃r0,(if(fg v l who want).fine=false\/6<(fZ v l who want).length then(v,l, [],2) else(fg v l who want,fZ v l who want, [],0):V×List Ow×List Cf×Int)=r0:=⟨_,rfl⟩;rw [J4];have FP:=ae J4;clear J4;have aJ:=ae (hin.mono (T:=fun b=>S b/\b<w.heap.size) (fun b h hl=>⟨h,hl⟩));have aV:=ae (hjn.mono (T:=fun b=>S b/\b<w.heap.size) (fun b h hl=>⟨h,hl⟩));have kx:=ae (hkn.mono (T:=fun b=>S b/\b<w.heap.size) (fun b h hl=>⟨h,hl⟩));have dv:=ae hok;clear hin hjn hkn hok;unfold pV at hb;simp only [Bool.and_eq_true,decide_eq_true_eq] at hb;obtain⟨⟨⟨⟨⟨hf,hg⟩,h3⟩,h4⟩,hl⟩,hw⟩:=hb;have hlen:=ym l;have hll:=CL want;have PE:=ae hl;have FQ:=ae hf;have Hf:=ae hf;have Hg:=ae hg;have Hl:=ae hl;have Hw:=ae hw;clear hf hg hl hw;have CO:(v.k !=5)=false:=by simpa using h3
 have FN:(want.k !=5)=false:=by simpa using h4
 clear h3 h4;obtain⟨cs,hcs⟩:∃cs,jN v l who want=cs:=⟨_,rfl⟩;rw [hcs] at hnc;have wK:=ae hcs;have dF:(¬(0:Int)<(cs.length:Int))\/ ((0:Int)<(cs.length:Int)/\force=true):=by
  by_cases h:cs= []
  ·exact .inl (by rw [h];simp)
  ·exact .inr ⟨by have:=List.length_pos_iff.2 h;omega,by cases force;exact absurd ⟨h,rfl⟩ hnc;rfl⟩
 have gJ:=ae dF;clear hnc hcs dF;go_enter func49,ntmps49;go_upto_region 1 with fail
 refine aI (R:=fun wx=>aD wx w.heap.size v ka kc la lc/\aD wx (w.heap.size+1) want kb kd lb ld/\aN wx (w.heap.size+2)/\Ext w wx) ⟨aj,aj,aj,Xt⟩ ?_;rintro wa ⟨ag,ai,ak,aF⟩;have mo:=ak.lt;obtain⟨hc0,aw,hl0⟩:=ag.see;obtain⟨hc1,aB,az⟩:=ai.see;go_wp2_with fail;(refine(df v ka kc la lc _ _ (by omega) (aJ.out.ext Xt)).mono ?_);rw [Hf.out];rintro e w1 ⟨rfl,om⟩;have ag:=af.ext (w':=w1) Xt ag;have ai:=af.ext (w':=w1) Xt ai;have ak:=af.ext (w':=w1) Xt ak;have np:Ext w w1:=Xt;clear om aF hc0 aw hl0 hc1 aB az;obtain⟨hc0,aw,hl0⟩:=ag.see;obtain⟨hc1,aB,az⟩:=ai.see;go_wp2_with fail;(refine(df want kb kd lb ld _ _ (by omega) (kx.out.ext Xt)).mono ?_);rw [Hg.out];rintro e w2 ⟨rfl,pW⟩;have ag:=af.ext (w':=w2) Xt ag;have ai:=af.ext (w':=w2) Xt ai;have ak:=af.ext (w':=w2) Xt ak;have nr:Ext w w2:=Xt;clear pW np hc0 aw hl0 hc1 aB az;obtain⟨hc0,aw,hl0⟩:=ag.see;obtain⟨hc1,aB,az⟩:=ai.see;go_wp2_with fail;(refine(Fq l a c _ _ cx (aV.out.ext Xt) (hm.ext Xt)).mono ?_);rw [Hl.out];rintro e w3 ⟨rfl,yF⟩;have ag:=af.ext (w':=w3) Xt ag;have ai:=af.ext (w':=w3) Xt ai;have ak:=af.ext (w':=w3) Xt ak;have uW:Ext w w3:=Xt;clear yF nr hc0 aw hl0 hc1 aB az;obtain⟨hc0,aw,hl0⟩:=ag.see;obtain⟨hc1,aB,az⟩:=ai.see;go_wp2_with fail;(refine(qy who _ uR).mono ?_);rw [Hw.out];rintro e wn ⟨rfl,rfl⟩;clear hc0 aw hl0 hc1 aB az;obtain⟨hc0,aw,hl0⟩:=ag.see;obtain⟨hc1,aB,az⟩:=ai.see;have hz2:=ak.lt;go_wp2_with fail;(refine(PD v ka kc la lc _ l a c _ who want kb kd lb ld _ _ kP hwz cx (aJ.out.ext Xt) (aV.out.ext Xt) (kx.out.ext Xt) (hm.ext Xt)).mono ?_);rw [wK.out];rintro e w9 ⟨a9,c9,rfl,rL,FO,h9⟩;have ag:=af.ext (w':=w9) Xt ag;have ai:=af.ext (w':=w9) Xt ai;have ak:=af.ext (w':=w9) Xt ak;have gY:Ext w w9:=Xt;clear h9 uW hc0 aw hl0 hc1 aB az FO rL hz2;go_upto_region 4 with fail
 go_cut [74] (fun s wx=>s= .bool false/\w9=wx)
 case first=>
  rcases gJ.out with h|⟨h,h'⟩
  ·go_wp2_with fail
   go_meet
   exact⟨rfl,rfl⟩
  ·subst h'
   go_wp2_with fail
   go_meet
   exact⟨rfl,rfl⟩
 case rest=>
  obtain⟨hs,rfl⟩:=hcut;subst hs;clear gJ;have Yv:=ak.lt;obtain⟨hc1,aB,az⟩:=ai.see;go_wp2_with fail;(refine(PF want kb kd lb ld _ _ (by omega) (kx.out.ext Xt) (hm.ext Xt)).mono ?_);rintro e yG ⟨pa,pc,rfl,CP,CQ,h10⟩;have ag:=af.ext (w':=yG) Xt ag;have ai:=af.ext (w':=yG) Xt ai;have ak:=af.ext (w':=yG) Xt ak;have yH:Ext w yG:=Xt;have CR:=ae (CQ.keep (T:=fun b=>w.heap.size+3<=b) (fun _ _ _=>rfl) (fun b h _=>by have:=Yv;(try simp at h);omega));clear h10 gY hc1 aB az CQ;go_upto_region 9 with fail
  refine aI (R:=fun wx=>aD wx w.heap.size v ka kc la lc/\aD wx (w.heap.size+1) want kb kd lb ld/\aN wx (w.heap.size+2)/\Ext yG wx) ⟨aj,aj,aj,Xt⟩ ?_;clear ag ai ak;rintro wb ⟨ag,ai,ak,aP⟩;have cX:Ext w wb:=yH.trans aP;have CR:=ae (CR.out.ext aP);have hzb:=ak.lt;have hmb:=hm.ext cX;clear yH aP;go_wp2_with fail
  go_loopg [16,17,82] l.length (fun g J5 Yw i wr=>∃(k:Nat) (a':aq) (c':Nat) (os:List Ow) (ao:aq) (co:Nat) (ol:List ah),k<=l.length/\i= .int .i64 k/\g=l.length-k/\J5= .slice a' os.length c'/\Yw= .slice ao ol.length co/\
   os=ft v want who (l.take k)/\ol=mq who (l.take k)/\kz wr wb.heap.size (fun _=>False) (.slice a' os.length c') os.length os/\aO ao ol.length co/\bT wb (fun b=>S b/\b<w.heap.size) ao ol/\Ext wb wr)
  case atStart=>exact⟨0,none,0, [],none,0, [],Nat.zero_le _,rfl,rfl,rfl,rfl,rfl,rfl,kz.nil _ _ _,aO.nil, .inl rfl,Xt⟩
  case round=>
   obtain⟨wo,rfl⟩:∃x,x=wr:=⟨_,rfl⟩;obtain⟨k,a',c',os,ao,co,ol,hk,rfl,rfl,rfl,rfl,hos,hol,hO,hao,PG,hx⟩:=hrel;have agN:os.length<=l.length:=by rw [hos];have:=Yo v want who (l.take k);simp at this;omega
   have kM:=ae hos;have AA:=ae hol;have HO:=ae hO;have J6:=ae PG;have J7:=hx.size;have AB:Ext w wo:=cX.trans hx;clear hos hol hO PG;by_cases hlt:k<l.length
   ·obtain⟨b,o,rfl,tS,qa,qc,d0,d1,hsl,hst⟩:=(aV.out.ext cX).item hlt
    have d0:=hx.cell d0;have d1:=hx.cell d1;have ji:=tK (List.getElem_mem hlt);have hpl:=Ow.tL l[k];have rG:=ae (fun(x:ah) (h:x∈ (l[k]).paths)=>show x.size<=2097152 from by have:=Ow.Am h;omega);have nt:=ae (Yl v want who l hlt);have AE:=ae (Ym who l hlt);obtain⟨ow,how⟩:∃ow,l[k]=ow:=⟨_,rfl⟩;rw [how] at d0 d1 hsl hst hpl rG nt AE ji;have aQ:=ae hst;clear how hst;by_cases nu:ow.name=who
    ·have hnb:=qA nu
     have cY:=ae (show os=ft v want who (l.take (k+1)) by rw [nt.out,if_pos nu,kM.out,List.append_nil]);have FR:=ae (show ow.paths=mq who (l.take (k+1)) by rw [AE.out,if_pos nu]);clear nu;go_wp2_with fail;go_roundg (l.length-(k+1))
     case measure=>omega
     case rel=>exact⟨k+1,a',c',os,qa,qc,ow.paths,by omega,by go_num,rfl,rfl,rfl,cY.out,FR.out,HO.out.ext Xt,hsl,aQ.out,Xt⟩
    ·have hnb:=tP nu
     have FR:=ae (show ol=mq who (l.take (k+1)) by rw [AE.out,if_neg nu,AA.out]);rw [if_neg nu] at nt;clear nu;go_upto_region 14 with fail
     refine aI (R:=fun wx=>af wx wo.heap.size #[.string ow.name, .slice qa ow.paths.length qc] 69/\Ext wo wx) ⟨aj,Xt⟩ ?_;rintro wq ⟨dJ,aP⟩;have J8:Ext wb wq:=hx.trans aP;have J9:Ext w wq:=cX.trans J8;have rM:=af.ext J8 ag;have hBw:=af.ext J8 ai;have hzq:=aP.size;have PH:=dJ.lt;obtain⟨fh,fP,fQ⟩:=dJ.see;go_wp2_with fail;(refine(AG ow.paths qa _ qc _ _ rfl hsl (by omega) (aQ.out.ext Xt)).mono ?_);rintro e w3 ⟨a3,c3,rfl,gK,jJ,h3⟩;have jJ:ek w3 wq.heap.size (.slice a3 ow.paths.length c3) ow.paths.length ow.paths:=by simpa using jJ
     have hx3:Ext wq w3:=Xt;have uX:=af.ext hx3 dJ
     have yC:uV 76 #[.pointer (some ⟨w.heap.size,0,none⟩), .pointer (some ⟨w.heap.size+1,0,none⟩)] (fu v want) ow.paths wq:=
      ⟨enters_of func76 (by kernel_rfl) rfl,fun W x hx e=>Yc v ka kc la lc _ want kb kd lb ld _ w.heap.size (w.heap.size+1) x W kP hwz (af.ext e rM) (af.ext e hBw) (aJ.out.ext (J9.trans e)) (kx.out.ext (J9.trans e)) (by have:=rG.out x hx;omega) (hm.ext (J9.trans e))⟩
     clear fh fP fQ h3;obtain⟨fh,fP,fQ⟩:=uX.see;go_wp2_with fail;(refine(PI ow.paths a3 _ c3 76 _ _ wq _ (jJ.ext Xt) (by omega) (by exact Xt) yC).mono ?_);obtain⟨ps,hps⟩:∃ps,(ow.paths.filter fun x=> !fu v want x)=ps:=⟨_,rfl⟩;have nz:=ae hps;have Yx:ps.length<=ow.paths.length:=by rw [<-hps];exact List.length_filter_le _ _
     rw [hps];rintro e w4 ⟨rfl,bL,h4⟩;have CS:=af.ext h4 dJ;have ij:=h4.size;have bX:Ext wo w4:=aP.trans h4;have yI:=ae bL;clear fh fP fQ yC jJ uX hx3 hps bL;obtain⟨fh,fP,fQ⟩:=CS.see;go_upto_region 15 with fail
     refine aI (R:=fun wx=>af wx wo.heap.size #[.string ow.name, .slice a3 ps.length c3] 69/\ek wx wq.heap.size (.slice a3 ps.length c3) ps.length ps/\Ext wo wx) ⟨aj,yI.out.keep (fun b hb he=>Below.heap_setCell _ _ _ _ (by have:=(yI.out.lt b he).1;simp;omega)),Xt⟩ ?_;clear CS dJ fh fP fQ yI bX h4;rintro wc ⟨dJ,bP,fC⟩;have bP:=ae bP;have PJ:Ext wb wc:=hx.trans fC;have rN:=fC.size;obtain⟨fh,fP,fQ⟩:=dJ.see;by_cases hpe:ps= []
     ·have hp0:¬(0:Int)<(ps.length:Int):=by rw [hpe];simp
      have cY:=ae (show os=ft v want who (l.take (k+1)) by
       rw [nt.out,kM.out];unfold jt;rw [nz.out,if_pos hpe]
       exact(List.append_nil _).symm)
      clear hpe;go_wp2_with fail;go_roundg (l.length-(k+1))
      case measure=>omega
      case rel=>exact⟨k+1,a',c',os,ao,co,ol,by omega,by go_num,rfl,rfl,rfl,cY.out,FR.out,HO.out.ext Xt,hao,J6.out,Xt⟩
     ·have hp0:(0:Int)<(ps.length:Int):=by have:=List.length_pos_iff.2 hpe;omega
      have cY:=ae (show os++ [⟨ow.name,ps⟩]=ft v want who (l.take (k+1)) by
       rw [nt.out,kM.out];unfold jt
       rw [nz.out,if_neg hpe])
      have hlo:=HO.out.2;have hown:∀q,(Value.slice a' os.length c').ownBlock=some q->q<wo.heap.size:=by obtain⟨xs,h1,-⟩:=hlo;exact fun q hq=>(h1.lt q hq).2
      clear hpe hlo;obtain⟨a5,c5,ju,ik,-,pX⟩:=bP.out.strs;simp only [Value.slice.injEq,true_and] at ju;obtain⟨rfl,rfl⟩:=ju;have Ka:=ae (pX.keep (T:=fR wb.heap.size (fun _=>False) (.slice a' os.length c')) (fun _ _ _=>rfl) (fun q hq _=> .inr ⟨by omega,fun e=>by have:=hown q e;omega⟩));clear pX bP;go_wp2_with (at_builtin;refine PK (x:=⟨ow.name,ps⟩) (by rfl) wc.heap.size (by rfl) (by rfl) (by rfl) (HO.out.ext Xt) ik (Ka.out.ext Xt) aj (by omega) (by simp;omega) ?_;intro g6 bA w6 wL gL CT;have mr:=ae wL;clear wL);have bS:Ext wb w6:=Ext.grown (b:=wc.alloc _) Xt gL CT;go_roundg (l.length-(k+1))
      case measure=>omega
      case rel=>exact⟨k+1,_,_,os++ [⟨ow.name,ps⟩],ao,co,ol,by omega,by go_num,rfl,by rw [List.length_append];rfl,rfl,cY.out,FR.out,by rw [List.length_append];exact mr.out.ext Xt,hao,J6.out,Xt⟩
   ·have kM:=ae (show os=ft v want who l by rw [kM.out,List.take_of_length_le (by omega)])
    have AA:=ae (show ol=mq who l by rw [AA.out,List.take_of_length_le (by omega)]);have Yy:=ae (fun(p:ah) (h:p∈ol)=>PL (who:=who) (l:=l) (by rw [<-AA.out];exact h));have ji:∀o∈os,o.size<=2097152:=fun o ho=>by have:=Yn (v:=v) (want:=want) (who:=who) (l:=l) (by rw [<-kM.out];exact ho);omega
    have CM:=ae ji;obtain⟨ar,cr,her,Yz,-,FI⟩:=HO.out.rows;simp only [Value.slice.injEq,true_and] at her;obtain⟨rfl,rfl⟩:=her;have Kc:=ae (FI.mono (T:=fun b=>wb.heap.size<=b) (fun b h _=>by rcases h with h|h;exact h.2.elim;exact h));have agO:ol.length<=2097152:=by
     by_cases h:ol= []
     ·rw [h];simp
     ·obtain⟨p,hp⟩:=List.exists_mem_of_ne_nil _ h
      have:∀(l:List Ow) (x:List ah),x.length<=2097152->cN l<=2097152-> (l.foldl (fun old o=>if o.name=who then o.paths else old) x).length<=2097152:=by
       intro l
       induction l with
       |nil=>intro x hx _;exact hx
       |cons o r ih=>
        intro x hx hz;have h1:o.size<=cN (o::r):=tK (by simp);have h2:=o.tL;have h3:cN r<=cN (o::r):=by unfold cN;simp
        rw [List.foldl_cons];refine ih _ ?_ (by omega)
        split
        ·omega
        ·exact hx
      rw [AA.out];exact this l [] (by simp) cx
    have ag:=af.ext hx ag;have ai:=af.ext hx ai;have ak:=af.ext hx ak;clear ji FI;obtain⟨hc0,aw,hl0⟩:=ag.see;go_upto_region 19 with fail
    refine aI (R:=fun wx=>aD wx wo.heap.size v ka kc la lc/\Ext wo wx) ⟨aj,Xt⟩ ?_;clear hc0 aw hl0;rintro wd ⟨lA,iM⟩;have Ke:=ae (show v.In wd (fun b=>(S b/\b<w.heap.size)\/wo.heap.size<b) ka kc la lc from((aJ.out.ext AB).mono (fun b h _=> .inl h)).ext iM);have YA:Ext wb wd:=hx.trans iM;go_wp2_with fail
    go_loopg [110] ol.length (fun g i wr=>∃(j:Nat) (nx:V) (k5:aq) (c5:Nat) (l5:aq) (d5:Nat),j<=ol.length/\i= .int .i64 j/\g=ol.length-j/\nx=(ol.take j).foldl (iL want.leaves os) v/\aD wr wo.heap.size nx k5 c5 l5 d5/\nx.In wr (fun b=>(S b/\b<w.heap.size)\/wo.heap.size<b) k5 c5 l5 d5/\Ext wo wr)
    case atStart=>exact⟨0,v,ka,kc,la,lc,Nat.zero_le _,rfl,rfl,rfl,aj,Ke.out.ext Xt,Xt⟩
    case round=>
     obtain⟨wi,rfl⟩:∃x,x=wr:=⟨_,rfl⟩;clear lA Ke iM YA;obtain⟨j,nx,k5,c5,l5,d5,hj,rfl,rfl,hnx,lA,PN,jr⟩:=hrel;have uY:=Yp FQ.out want.leaves os (ol.take j);rw [<-hnx] at uY;obtain⟨hns,YB⟩:=uY;have hnz:=PO hns (by omega);have PQ:=ae hns;have rO:=ae hnx;have pY:=ae PN;have Kf:Ext wb wi:=hx.trans jr;have YC:Ext w wi:=cX.trans Kf;have hzi:=lA.lt;clear hnx PN hns;by_cases dH:j<ol.length
     ·obtain⟨b2,o2,rfl,uP,PR⟩:=(J6.out.ext Kf).resolve_left (by intro h;rw [h] at dH;simp at dH)
      have e0:=PR j dH;have uZ:=ae (Yy.out _ (List.getElem_mem dH));have yJ:=ae (PA (iL want.leaves os) v ol dH);obtain⟨p,hp⟩:∃p,ol[j]=p:=⟨_,rfl⟩;rw [hp] at e0 uZ yJ;have yK:p.size<=2097152:=by obtain⟨o',ho',hp'⟩:=uZ.out;have:=tK ho';have:=Ow.Am hp';omega
      clear hp PR;go_upto_region 22 with fail
      refine aI (R:=fun wx=>af wx wi.heap.size #[.string p] 9/\Ext wi wx) ⟨aj,Xt⟩ ?_;rintro we ⟨FT,jO⟩;have lA:=af.ext jO lA;have pY:=ae (V.In.ext pY.out jO);have YD:Ext wb we:=Kf.trans jO;have YE:Ext wo we:=jr.trans jO;obtain⟨FU,FV,FW⟩:=FT.see;go_wp2_with fail;(refine(Yk want.leaves p pa _ pc _ _ rfl (by omega) (CR.out.ext (w':=we) YD|>.ext Xt)).mono ?_)
      cases hcn:yz want.leaves p with
      |true=>
       have cY:=ae (show nx=(ol.take (j+1)).foldl (iL want.leaves os) v by
        rw [yJ.out,<-rO.out];unfold iL;rw [if_neg (by rw [hcn];simp)])
       rintro e w2 ⟨rfl,rfl⟩;go_wp2_with fail;go_roundg (ol.length-(j+1))
       case measure=>omega
       case rel=>exact⟨j+1,nx,k5,c5,l5,d5,by omega,by go_num,rfl,cY.out,aj,pY.out.ext Xt,Xt⟩
      |false=>
       have YF:=ae hcn;rintro e w2 ⟨rfl,rfl⟩;clear hcn;go_wp2_with fail;(refine(Yg os p a' _ c' wi.heap.size _ _ rfl (by omega) CM.out ((Kc.out.ext YE).ext Xt) (af.ext (w:=we) Xt FT) (by omega)).mono ?_)
       cases Kg:qB os p with
       |true=>
        have cY:=ae (show nx=(ol.take (j+1)).foldl (iL want.leaves os) v by
         rw [yJ.out,<-rO.out];unfold iL;rw [if_neg (by rw [Kg];simp)])
        rintro e w2 ⟨rfl,h2⟩;have Kh:=af.ext (w':=w2) Xt lA;have PS:Ext wo w2:=Xt;have pY:=ae (V.In.ext (w':=w2) pY.out Xt);clear h2 FU FV FW;go_wp2_with fail;go_roundg (ol.length-(j+1))
        case measure=>omega
        case rel=>exact⟨j+1,nx,k5,c5,l5,d5,by omega,by go_num,rfl,cY.out,aj,pY.out.ext Xt,Xt⟩
       |false=>
        have cY:=ae (show eJ (bQ p) nx=(ol.take (j+1)).foldl (iL want.leaves os) v by
         rw [yJ.out,<-rO.out];unfold iL;rw [if_pos ⟨YF.out,Kg⟩])
        rintro e w2 ⟨rfl,h2⟩;have Kh:=af.ext (w':=w2) Xt lA;have PT:=af.ext (w':=w2) Xt FT;have PS:Ext wo w2:=Xt;have pY:=ae (V.In.ext (w':=w2) pY.out Xt);have agP:Ext w w2:=AB.trans PS;clear h2 FU FV FW Kg lA FT;obtain⟨FU,FV,FW⟩:=PT.see;go_wp2_with fail;(refine(Ct p _ (by omega) (hm.ext Xt)).mono ?_);obtain⟨er,her⟩:∃er:Int,(if(cM p).isSome=true then(0:Int) else 1)=er:=⟨_,rfl⟩;rintro e w3 ⟨na,nc,rfl,wD,pn,h3⟩;rw [her];have hne:bQ p≠ []:=by obtain⟨o',ho',hp'⟩:=uZ.out;obtain⟨r,hr,hr2⟩:=Ki PE.out ho' hp';unfold bQ;rw [hr];exact hr2
        have hnn:=(Fs p).1;obtain⟨nb,no,rfl,YG,CU⟩:=pn.resolve_left hne;have wM:=af.ext (w':=w3) Xt Kh;have Kj:Ext wo w3:=Xt;have pY:=ae (V.In.ext (w':=w3) pY.out Xt);have dW:=ae hne;have Kk:=ae CU;have hz3:=wM.lt;clear h3 FU FV FW Kh PT her pn hne CU;obtain⟨tT,tU,rP⟩:=wM.see;go_wp2_with fail;(refine(Xw (bQ p) nx k5 c5 l5 d5 nb no _ nc (fun b=>(S b/\b<w.heap.size)\/wo.heap.size<b) _ dW.out rfl PQ.out (by omega) (by omega) wD.1 wD.2.1 (fun i h=>Ext.cell (a:=w3) Xt (Kk.out i h)) (pY.out.ext Xt)).mono ?_);rintro e w4 ⟨k6,c6,l6,d6,rfl,ct,h4⟩;have CV:=af.ext (w':=w4) Xt wM;have PU:Ext wo w4:=Xt;have wA:=AB.size;have aX:=ae (V.In.mono (T:=(fun b=>(S b/\b<w.heap.size)\/wo.heap.size<b)) ct (fun b h _=>by rcases h with h|h;exact h;(try simp at h);exact .inr (by omega)));clear h4 tT tU rP wM ct;obtain⟨tT,tU,rP⟩:=CV.see;go_wp2_with fail;go_roundg (ol.length-(j+1))
        case measure=>omega
        case rel=>exact⟨j+1,_,k6,c6,l6,d6,by omega,by go_num,rfl,cY.out,aj,V.In.keep (S:=(fun b=>(S b/\b<w.heap.size)\/wo.heap.size<b)) aX.out (Held.kept (a:=w4) (T:=(fun b=>(S b/\b<w.heap.size)\/wo.heap.size<b)) aC) (fun b h _=>h),Xt⟩
     ·have PV:=ae (show nx=ol.foldl (iL want.leaves os) v by rw [rO.out,List.take_of_length_le (by omega)])
      obtain⟨n0,hn0⟩:∃n0,nx=n0:=⟨_,rfl⟩;go_wp2_with fail
      go_loopg [135] want.leaves.length (fun g i wr=>∃(j:Nat) (ny:V) (k5:aq) (c5:Nat) (l5:aq) (d5:Nat),j<=want.leaves.length/\i= .int .i64 j/\g=want.leaves.length-j/\ny=(want.leaves.take j).foldl (jh want) nx/\aD wr wo.heap.size ny k5 c5 l5 d5/\ny.In wr (fun b=>(S b/\b<w.heap.size)\/wo.heap.size<b) k5 c5 l5 d5/\Ext wo wr)
      case atStart=>exact⟨0,nx,k5,c5,l5,d5,Nat.zero_le _,rfl,rfl,rfl,aj,pY.out.ext Xt,Xt⟩
      case round=>
       obtain⟨ws,rfl⟩:∃x,x=wr:=⟨_,rfl⟩;clear lA pY;obtain⟨q,ny,k7,c7,l7,d7,hq,rfl,rfl,Kl,lA,CW,hxs⟩:=hrel;have uY:=Yq (want:=want) PQ.out YB q;rw [<-Kl] at uY;obtain⟨hys,YH⟩:=uY;have hyz:=PO hys YH;have YI:=ae hys;have FX:=ae Kl;have pq:=ae CW;have PW:Ext wb ws:=hx.trans hxs;have agQ:Ext w ws:=cX.trans PW;have hzs:=lA.lt;have wA:=AB.size;have Km:=af.ext hxs ai;clear Kl CW hys;by_cases tV:q<want.leaves.length
       ·obtain⟨b3,o3,rfl,Kn,PX⟩:=(CR.out.ext PW).resolve_left (by intro h;rw [h] at tV;simp at tV)
        have e0:=PX q tV;have uZ:=ae (List.getElem_mem tV);have yJ:=ae (PA (jh want) nx want.leaves tV);obtain⟨p,hp⟩:∃p,want.leaves[q]=p:=⟨_,rfl⟩;rw [hp] at e0 uZ yJ;have yK:=FL uZ.out;have Ko:=ae (PY uZ.out);have cY:=ae (show gX (bQ p) ny ((bI want p).getD V.zero)=(want.leaves.take (q+1)).foldl (jh want) nx by rw [yJ.out,<-FX.out];rfl);have br:((bI want p).getD V.zero).size<=1073741824:=by have:=Kp (x:=want) (p:=p);omega
        obtain⟨xv,hxv⟩:∃xv,(bI want p).getD V.zero=xv:=⟨_,rfl⟩;obtain⟨xb,aP⟩:∃xb,(bI want p).isSome=xb:=⟨_,rfl⟩;rw [hxv] at br cY;have FY:=ae hxv;have FZ:=ae aP;clear hp PX hxv aP;go_wp2_with fail;(refine(Ct p _ (by omega) (hm.ext Xt)).mono ?_);obtain⟨er,her⟩:∃er:Int,(if(cM p).isSome=true then(0:Int) else 1)=er:=⟨_,rfl⟩;rintro e w3 ⟨na,nc,rfl,wD,pn,h3⟩;rw [her];obtain⟨nb,no,rfl,YG,CU⟩:=pn.resolve_left Ko.out.1;have hnn:=Ko.out.2.1;have wM:=af.ext (w':=w3) Xt lA;have nA:=af.ext (w':=w3) Xt Km;have Kj:Ext wo w3:=Xt;have agR:Ext w w3:=AB.trans Kj;have pq:=ae (V.In.ext (w':=w3) pq.out Xt);have Kk:=ae CU;clear h3 her pn CU lA Km;obtain⟨hc1,aB,az⟩:=nA.see;have agS:=wM.lt;go_wp2_with fail;(refine(CX want kb kd lb ld _ p _ (by omega) (kx.out.ext Xt) (by omega) (hm.ext Xt)).mono ?_);rw [FY.out,FZ.out];rintro e w4 ⟨k8,c8,l8,d8,rfl,CY,h4⟩;have CV:=af.ext (w':=w4) Xt wM;have PZ:Ext w3 w4:=Xt;have PU:Ext wo w4:=Kj.trans PZ;have rQ:=ae (V.In.mono (T:=(fun b=>(S b/\b<w.heap.size)\/wo.heap.size<b)) CY (fun b h _=>by rcases h with h|h;exact .inl h;(try simp at h);exact .inr (by omega)));have pq:=ae (V.In.ext (w':=w4) pq.out Xt);have ij:=CV.lt;clear h4 hc1 aB az wM nA CY;go_upto_region 31 with fail
        refine aI (R:=fun wx=>aD wx w4.heap.size xv k8 c8 l8 d8/\Ext w4 wx) ⟨aj,Xt⟩ ?_;rintro w5 ⟨YJ,AH⟩;have F3:=af.ext AH CV;have rQ:=ae (V.In.ext rQ.out AH);have pq:=ae (V.In.ext pq.out AH);have YK:Ext w3 w5:=PZ.trans AH;have agT:Ext wo w5:=PU.trans AH;have fX:=F3.lt;clear CV AH;obtain⟨YL,YM,YN⟩:=YJ.see;obtain⟨tT,tU,rP⟩:=F3.see;go_wp2_with fail;(refine(XM (bQ p) ny xv k7 c7 l7 d7 k8 c8 l8 d8 nb no _ nc (fun b=>(S b/\b<w.heap.size)\/wo.heap.size<b) _ Ko.out.1 rfl YI.out (by omega) br (by omega) wD.1 wD.2.1 (fun i h=>Ext.cell (a:=w3) (YK.trans Xt) (Kk.out i h)) (pq.out.ext Xt) (rQ.out.ext Xt)).mono ?_);rintro e w6 ⟨k6,c6,l6,d6,rfl,ct,h6⟩;have YO:=af.ext (w':=w6) Xt F3;have agU:Ext wo w6:=Xt;have aX:=ae (V.In.mono (T:=(fun b=>(S b/\b<w.heap.size)\/wo.heap.size<b)) ct (fun b h _=>by rcases h with h|h;exact h;(try simp at h);exact .inr (by omega)));clear h6 tT tU rP YL YM YN F3 ct;obtain⟨tT,tU,rP⟩:=YO.see;go_wp2_with fail;go_roundg (want.leaves.length-(q+1))
        case measure=>omega
        case rel=>exact⟨q+1,_,k6,c6,l6,d6,by omega,by go_num,rfl,cY.out,aj,V.In.keep (S:=(fun b=>(S b/\b<w.heap.size)\/wo.heap.size<b)) aX.out (Held.kept (a:=w6) (T:=(fun b=>(S b/\b<w.heap.size)\/wo.heap.size<b)) aC) (fun b h _=>h),Xt⟩
       ·have FX:=ae (show ny=fg v l who want by
         rw [FX.out,List.take_of_length_le (by omega),PV.out,AA.out,kM.out];rfl)
        have Ab:=ae (show fZ v l who want=fY os who want.leaves by unfold fZ;rw [<-kM.out]);rw [<-FX.out,Ab.out] at FP;have hrs:cn (os.map Ow.name):=by rw [kM.out];exact Pv (JR PE.out)
        have Kq:=ae hrs;have P5:=af.ext hxs ag;have P6:=af.ext hxs ak;clear hrs Km;go_upto_if 157 with fail
        go_cut [16] (fun J5 wx=>∃(a6:aq) (c6:Nat),J5= .slice a6 (fY os who want.leaves).length c6/\aO a6 (fY os who want.leaves).length c6/\cz wx (fun b=>w.heap.size<=b/\b≠w.heap.size+2) (fY os who want.leaves) a6/\aD wx wo.heap.size ny k7 c7 l7 d7/\ny.In wx (fun b=>(S b/\b<w.heap.size)\/wo.heap.size<b) k7 c7 l7 d7/\aD wx w.heap.size v ka kc la lc/\aN wx (w.heap.size+2)/\Ext wb wx)
        case first=>
         by_cases hpe:want.leaves= []
         ·have hp0:¬(0:Int)<(want.leaves.length:Int):=by rw [hpe];simp
          have CZ:=ae (show fY os who want.leaves=os by unfold fY;rw [if_pos hpe]);clear hpe;go_wp2_with fail
          go_meet
          exact⟨a',c',by rw [CZ.out],by rw [CZ.out];exact Yz,by rw [CZ.out];exact((Kc.out.mono (T:=fun b=>w.heap.size<=b/\b≠w.heap.size+2) (fun b h _=>by omega)).ext hxs).ext Xt,aj,pq.out.ext Xt,aj,aj,Xt⟩
         ·have hp0:(0:Int)<(want.leaves.length:Int):=by have:=List.length_pos_iff.2 hpe;omega
          have CZ:=ae (show fY os who want.leaves=os.take (nj os who)++⟨who,want.leaves⟩::os.drop (nj os who) by unfold fY;rw [if_neg hpe]);have hil:(fY os who want.leaves).length=os.length+1:=by rw [Yr,if_neg hpe]
          have hpo:nj os who<=os.length:=by have:=tR (os.map Ow.name) who;simpa [nj] using this
          clear hpe;go_wp2_with fail;(refine(Yh os who a' _ c' _ _ rfl (by omega) Kq.out ((Kc.out.ext hxs).ext Xt)).mono ?_);rintro e nB ⟨fb,rfl,h11⟩;have tW:Ext ws nB:=Xt;have F4:Ext wo nB:=hxs.trans tW;have F5:=ae (HO.out.ext F4);have P7:=F4.size;clear h11;obtain⟨hl0,xs,qC,wN⟩:=F5.out;have hown:∀q,(Value.slice a' os.length c').ownBlock=some q->wb.heap.size<=q/\q<nB.heap.size:=fun q hq=>qC.lt q hq;have P8:∀q,(Value.slice a' os.length c').ownBlock=some q->q<wo.heap.size:=by obtain⟨-,ys,hy1,-⟩:=HO.out;exact fun q hq=>(hy1.lt q hq).2
          have P9:=ae wN;have YP:=ae (V.In.ext pq.out tW);have Qa:=af.ext tW lA;have C0:=af.ext tW P5;have YQ:=af.ext tW P6;have agV:=F4.size;have agW:=Qa.lt;have Co:=AB.size;clear wN;go_wp2_with fail;(refine(YR wb.heap.size os.length (nj os who) nB.heap.size 1 (.slice a' os.length c') xs [.string who, .slice pa want.leaves.length pc] _ 69 (by simp;omega) (eT qC Xt) (by omega) hpo (show af _ nB.heap.size #[.string who, .slice pa want.leaves.length pc] 69 from aj) (fun e=>by have:=(hown _ e).2;omega) rfl P9.out.ones (by simp [Value.oneCell'])).mono ?_);rintro e wO ⟨g,cap,rfl,hrow,F6,Qb⟩;have YS:=ae F6;have px:=ae hrow;have YT:=ae Qb;have C2:Ext wb wO:=Ext.grown (b:=nB.alloc (.cells #[.string who, .slice pa want.leaves.length pc] 69)) ((hx.trans F4).alloc _) (by first|exact F6|simpa using F6) (fun q hq=>(hown q hq).1);have rE:∀b,b<nB.heap.size-> (Value.slice a' os.length c').ownBlock≠some b->wO.heap[b]? =nB.heap[b]? :=fun b hb hne=>by rw [YS.out.block b (by simp;omega) (fun e=>hne e.symm)];exact Below.heap_alloc _ _ _ hb
          have Qc:kz wO wb.heap.size (fun b=>w.heap.size<=b/\b≠w.heap.size+2) (.slice (some ⟨g,0,none⟩) (os.length+1) cap) (os.length+1) (os.take (nj os who)++⟨who,want.leaves⟩::os.drop (nj os who)):=by
           have hgo:∀b,b<nB.heap.size-> (Value.slice a' os.length c').ownBlock≠some b-> (Value.slice (some ⟨g,0,none⟩) (os.length+1) cap).ownBlock≠some b:=fun b hb hne e=>by
            have hge:g=b:=by simpa [Value.ownBlock] using e
            subst hge;rcases YT.out with h|h
            ·exact hne h
            ·simp at h;omega
           have Qd:dI wO (fR wb.heap.size (fun b=>w.heap.size<=b/\b≠w.heap.size+2) (.slice (some ⟨g,0,none⟩) (os.length+1) cap)) os xs:=P9.out.keep (fun b hb hl=>rE b hl (by rcases hb with h|h;exact h.2.elim;exact h.2)) (fun b hb hl=>by rcases hb with h|h;exact h.2.elim;exact .inr ⟨h.1,hgo b hl h.2⟩);refine⟨by simp only [List.length_append,List.length_cons,List.length_take,List.length_drop];omega,_,px.out,?_⟩;rw [List.append_assoc];refine(Qd.take _).app (dI.app (l:= [⟨who,want.leaves⟩]) (dI.one CP (CR.out.keep (C2.kept _) (fun b hb hl=> .inl ⟨hl,by omega⟩))) (Qd.drop _))
          have YU:=ae Qc;have agX:aD wO w.heap.size v ka kc la lc:=J3 (rE _ (by omega) (fun e=>by have:=(hown _ e).1;omega)) C0;have agY:aN wO (w.heap.size+2):=J3 (rE _ (by omega) (fun e=>by have:=(hown _ e).1;omega)) YQ;have agZ:aD wO wo.heap.size ny k7 c7 l7 d7:=J3 (rE _ (by omega) (fun e=>by have:=P8 _ e;omega)) Qa;have YV:=ae (V.In.keep (T:=(fun b=>(S b/\b<w.heap.size)\/wo.heap.size<b)) YP.out (fun b hb hl=>rE b hl (fun e=>by have:=(hown _ e).1;have:=P8 _ e;rcases hb with h|h;(have:=h.2;omega);omega)) (fun b h _=>h));clear Qc hrow F6 Qb rE;go_wp2_with fail
          go_meet
          obtain⟨a13,c13,Qe,YW,-,YX⟩:=YU.out.rows;simp only [Value.slice.injEq,true_and] at Qe;obtain⟨rfl,rfl⟩:=Qe;refine⟨some ⟨g,0,none⟩,cap,by rw [hil],by rw [hil];exact YW,?_,aj,YV.out.ext Xt,aj,aj,Xt⟩;rw [CZ.out];exact(YX.mono (T:=fun b=>w.heap.size<=b/\b≠w.heap.size+2) (fun b h _=>by rcases h with h|h;exact h.2;omega)).ext Xt
        case rest=>
         obtain⟨a6,c6,rfl,gT,ct,lA,CW,ag,ak,YY⟩:=hcut;have pq:=ae CW;have aX:=ae ct;have ag0:Ext w wc:=cX.trans YY;clear CW ct P5 P6;obtain⟨tT,tU,rP⟩:=lA.see;go_wp2_with fail;(refine(df ny k7 c7 l7 d7 _ _ (by omega) (pq.out.ext Xt)).mono ?_)
         cases jo:ny.fine with
         |false=>
          have C4:=ae (show r0=(v,l, [],2) by rw [<-FP.out,if_pos (.inl jo)]);rintro e lB ⟨rfl,C5⟩;have ag:=af.ext (w':=lB) Xt ag;have ak:=af.ext (w':=lB) Xt ak;have AJ:Ext w lB:=Xt;clear C5 jo tT tU rP;obtain⟨hc0,aw,hl0⟩:=ag.see;obtain⟨hc2,hf2,hl2⟩:=ak.see;go_wp2_with fail;refine aG (h:= ?_);rw [C4.out];exact⟨ka,kc,la,lc,a,c,none,0,rfl,V.In.keep (S:=fun b=>S b/\b<w.heap.size) (aJ.out.ext AJ) (Held.kept (a:=lB) (T:=fun b=>S b/\b<w.heap.size) aC) (fun b h _=> .inl h.1),dv.out,cz.keep (S:=fun b=>S b/\b<w.heap.size) (aV.out.ext AJ) (Held.kept (a:=lB) (T:=fun b=>S b/\b<w.heap.size) aC) (fun b h _=> .inl h.1),aO.nil, .inl rfl,Xt⟩
         |true=>
          by_cases h6:6<(fY os who want.leaves).length
          ·have YZ:(6:Int)<((fY os who want.leaves).length:Int):=by omega
           have C4:=ae (show r0=(v,l, [],2) by rw [<-FP.out,if_pos (.inr h6)]);rintro e lB ⟨rfl,C5⟩;have ag:=af.ext (w':=lB) Xt ag;have ak:=af.ext (w':=lB) Xt ak;have AJ:Ext w lB:=Xt;clear C5 jo tT tU rP;obtain⟨hc0,aw,hl0⟩:=ag.see;obtain⟨hc2,hf2,hl2⟩:=ak.see;go_wp2_with fail;refine aG (h:= ?_);rw [C4.out];exact⟨ka,kc,la,lc,a,c,none,0,rfl,V.In.keep (S:=fun b=>S b/\b<w.heap.size) (aJ.out.ext AJ) (Held.kept (a:=lB) (T:=fun b=>S b/\b<w.heap.size) aC) (fun b h _=> .inl h.1),dv.out,cz.keep (S:=fun b=>S b/\b<w.heap.size) (aV.out.ext AJ) (Held.kept (a:=lB) (T:=fun b=>S b/\b<w.heap.size) aC) (fun b h _=> .inl h.1),aO.nil, .inl rfl,Xt⟩
          ·have YZ:¬(6:Int)<((fY os who want.leaves).length:Int):=by omega
           have C4:=ae (show r0=(ny,fY os who want.leaves, [],0) by rw [<-FP.out,if_neg (by rw [jo];rintro(h|h);cases h;exact h6 h)]);rintro e lB ⟨rfl,C5⟩;have lA:=af.ext (w':=lB) Xt lA;have ak:=af.ext (w':=lB) Xt ak;have pq:=ae (V.In.ext (w':=lB) pq.out Xt);have aX:=ae (aX.out.ext (w':=lB) Xt);have AJ:Ext w lB:=Xt;have lN:w.heap.size+2<wb.heap.size:=hzb;have ag1:=hx.size;clear C5 jo tT tU rP;obtain⟨tT,tU,rP⟩:=lA.see;obtain⟨hc2,hf2,hl2⟩:=ak.see;go_wp2_with fail;refine aG (h:= ?_);rw [C4.out];exact⟨k7,c7,l7,d7,a6,c6,none,0,rfl,V.In.keep (S:=(fun b=>(S b/\b<w.heap.size)\/wo.heap.size<b)) pq.out (Held.kept (a:=lB) (T:=(fun b=>(S b/\b<w.heap.size)\/wo.heap.size<b)) aC) (fun b h _=>by rcases h with h|h;exact .inl h.1;exact .inr (by omega)),gT,cz.keep (S:=fun b=>w.heap.size<=b/\b≠w.heap.size+2) (aX.out) (Held.kept (a:=lB) (T:=fun b=>w.heap.size<=b/\b≠w.heap.size+2) aC) (fun b h _=> .inr h.1),aO.nil, .inl rfl,Xt⟩
end Go.Proofs.YtlcebdaghmdkeaaGreatDoor
