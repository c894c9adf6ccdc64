import Derived.Test.YtlcebdaghmdkeabGreatDoorM9
import Derived.Test.YtlcebdaghmdkeabGreatDoorM13
import Derived.Test.YtlcebdaghmdkeabGreatDoorM15
import Derived.Test.YtlcebdaghmdkeabGreatDoorM19
set_option linter.all false
set_option maxRecDepth 100000
set_option maxHeartbeats 64000000
namespace Go.Proofs.YtlcebdaghmdkeabGreatDoor
open Go.Proofs.Tryz
open Go.RowKit
attribute [local go_sem↓] Go.wp_at_zero Go.wp_at_succ
theorem W4 (ks:List ah) (p:ah):(ks.any fun y=>p.toList==y.toList)=xK ks p:=by
 unfold xK;congr 1;funext q;by_cases h:p=q
 ·rw [decide_eq_true h];exact vF h
 ·rw [decide_eq_false h];exact vG h
theorem W5 (ks:List ah) (p:ah) (a:aq) (n c:Nat) (S:aw) (w:World) (hn:ks.length=n) (hbig:n<=1073741824) (hst:bC w S a ks):
 Calls prog 132 #[.slice a n c, .string p] w fun e w'=>e= .returned (.bool (xK ks p))/\w=w':=by
 subst hn;rcases hst with h|⟨b,o,rfl,-,hc⟩
 ·subst h
  refine(Tryz.slices_Contains_empty (α:=ah) a c (.string p) w).mono ?_;rintro e w' ⟨rfl,rfl⟩;exact⟨rfl,rfl⟩
 ·refine(Tryz.slices_Contains Value.string (fun x y=>x.toList==y.toList) (EqlAt.string _ _) b o ks.length c ks p w (Nat.le_refl _) (by omega) (fun j hj=>by rw [hc j hj,getElem!_pos ks j hj])).mono ?_
  rintro e w' ⟨rfl,rfl⟩;rw [List.take_length,W4];exact⟨rfl,rfl⟩
theorem cY.take {w:World} {T:aw}:∀ {l:List Ow} {xs:List Value} (k:Nat),cY w T l xs->cY w T (l.take k) (xs.take (k*2))
 | [],xs,k,h=>by have:xs= []:=h;subst this;simp [cY]
 |x::r,xs,0,h=>by simp [cY]
 |x::r,xs,k+1,h=>by obtain⟨pa,pc,t,rfl,h1,h2⟩:=h;rw [show (k+1)*2=k*2+1+1 by omega];exact⟨pa,pc,t.take (k*2),by simp,h1,cY.take k h2⟩
theorem cY.drop {w:World} {T:aw}:∀ {l:List Ow} {xs:List Value} (k:Nat),cY w T l xs->cY w T (l.drop k) (xs.drop (k*2))
 | [],xs,k,h=>by have:xs= []:=h;subst this;simp [cY]
 |x::r,xs,0,h=>by simpa using h
 |x::r,xs,k+1,h=>by obtain⟨pa,pc,t,rfl,h1,h2⟩:=h;rw [show (k+1)*2=k*2+1+1 by omega];simp only [List.drop_succ_cons];exact cY.drop k h2
theorem W6 (v want:V) (who:ah) (l:List Ow) {k:Nat} (h:k<l.length):eW v want who (l.take (k+1))=eW v want who (l.take k)++(if l[k].name=who then [] else match jV (fun q=> !eX v want q) l[k] with|some x=> [x]|none=> []):=by
 unfold eW;rw [List.take_succ_eq_append_getElem h,List.filter_append,List.filterMap_append];congr 1;by_cases hn:l[k].name=who
 ·rw [if_pos hn,List.filter_eq_nil_iff.2 (by simp [hn])];rfl
 ·rw [if_neg hn,List.filter_eq_self.2 (by simp [hn])]
  cases hf:jV (fun q=> !eX v want q) l[k]<;>simp [hf]
theorem W7 (who:ah) (l:List Ow) {k:Nat} (h:k<l.length):lK who (l.take (k+1))=if l[k].name=who then l[k].paths else lK who (l.take k):=by
 unfold lK;rw [List.take_succ_eq_append_getElem h,List.foldl_append];rfl
theorem vD {v want:V} {who:ah} {l:List Ow} {o:Ow} (h:o∈eW v want who l):∃o'∈l,o'.name=o.name/\o.name≠who/\ (∀p∈o.paths,p∈o'.paths/\eX v want p=false)/\o.paths≠ []/\o.paths=o'.paths.filter fun q=> !eX v want q:=by
 unfold eW at h;obtain⟨o',ho',hk⟩:=List.mem_filterMap.1 h;obtain⟨h1,h2⟩:=List.mem_filter.1 ho';unfold jV at hk
 split at hk
 ·cases hk
 ·rename_i hne
  simp only [Option.some.injEq] at hk;subst hk
  exact⟨o',h1,rfl,by simpa using h2,fun p hp=>by
   have:=List.mem_filter.1 hp
   exact⟨this.1,by simpa using this.2⟩,hne,rfl⟩
theorem Ey (f:ah->Bool) (ps:List ah):eY (ps.filter f)<=eY ps:=by
 induction ps with
 |nil=>simp
 |cons p r ih=>
  unfold eY at ih⊢;rw [List.filter_cons]
  split
  ·simp only [List.map_cons,List.sum_cons];omega
  ·simp only [List.map_cons,List.sum_cons];omega
theorem W8 {v want:V} {who:ah} {l:List Ow} {o:Ow} (h:o∈eW v want who l):o.size<=cF l:=by
 obtain⟨o',h1,h2,-,-,-,h3⟩:=vD h;have h4:=qN h1;have h5:=Ey (fun q=> !eX v want q) o'.paths;rw [<-h3] at h5;unfold Ow.size at h4⊢;rw [<-h2];omega
theorem W9 (v want:V) (who:ah) (l:List Ow):(eW v want who l).length<=l.length:=by
 unfold eW;have h1:=List.length_filterMap_le (jV fun q=> !eX v want q) (l.filter fun o=>decide (o.name≠who));have h2:=List.length_filter_le (fun o:Ow=>decide (o.name≠who)) l;omega
theorem Iw {l:List Ow} (h:iZ l=true):cG (l.map Ow.name):=by
 unfold iZ at h;rw [Bool.and_eq_true,decide_eq_true_eq] at h;have key:∀(l:List Ow),(∀i,(h:i<l.length)->0<i->bA (l[i-1]'(by omega)).name l[i].name=true)->cG (l.map Ow.name):=by
  intro l hl;refine List.pairwise_iff_getElem.2 fun i j hi hj hij=> ?_;simp only [List.getElem_map];simp only [List.length_map] at hi hj;obtain⟨d,rfl⟩:∃d,j=i+1+d:=⟨j-i-1,by omega⟩;clear hij
  induction d with
  |zero=>have:=hl (i+1) hj (by omega);simpa using this
  |succ d ih=>
   have h1:=ih (by omega) (by omega);have h2:=hl (i+1+(d+1)) hj (by omega);exact uf h1 h2
 exact key l fun i hi h0=>(h.1 i hi).2.1 h0
theorem NV {a b:List ah} (h:a.Sublist b) (hb:cG b):cG a:=hb.sublist h
theorem NR {v want:V} {who:ah} {l:List Ow} (h:cG (l.map Ow.name)):cG ((eW v want who l).map Ow.name):=by
 refine NV ?_ h;unfold eW;have h1:((l.filter fun o=>decide (o.name≠who)).map Ow.name).Sublist (l.map Ow.name):=(List.filter_sublist).map _;refine List.Sublist.trans ?_ h1;generalize (l.filter fun o=>decide (o.name≠who))=m
 induction m with
 |nil=>simp
 |cons o r ih=>
  rw [List.filterMap_cons];unfold jV at ih⊢;by_cases hk:(o.paths.filter fun q=> !eX v want q)= []
  ·simp only [hk,if_true]
   exact ih.trans (List.sublist_cons_self _ _)
  ·simp only [hk,if_false,List.map_cons]
   exact ih.cons_cons _
theorem NW {α β:Type} (f:α->β->α) (a:α) (l:List β) {k:Nat} (h:k<l.length):(l.take (k+1)).foldl f a=f ((l.take k).foldl f a) l[k]:=by
 rw [List.take_succ_eq_append_getElem h,List.foldl_append];rfl
theorem Xa {v:V} (hv:v.fine=true) (paths:List ah) (out:List Ow) (ps:List ah):(ps.foldl (iy paths out) v).sound/\ (ps.foldl (iy paths out) v).count<=120:=by
 obtain⟨h1,h2⟩:=BA paths out ps (gG hv);have:=tR hv;exact⟨h1,by omega⟩
theorem Xb {nx want:V} (h1:nx.sound) (h2:nx.count<=120) (k:Nat):((want.leaves.take k).foldl (iQ want) nx).sound/\ ((want.leaves.take k).foldl (iQ want) nx).count<=20000:=by
 obtain⟨h3,h4⟩:=NY want (want.leaves.take k) (fun p hp=>List.mem_of_mem_take hp) h1;have h5:(want.leaves.take k).length<=120:=by rw [List.length_take];have:=BF want;omega
 refine⟨h3,?_⟩;have h6:(want.leaves.take k).length*131<=120*131:=Nat.mul_le_mul_right _ h5;omega
theorem Xc (l:List Ow) (who:ah) (ps:List ah):(fM l who ps).length=if ps= [] then l.length else l.length+1:=by
 unfold fM
 split
 ·rfl
 ·have h:=sK (l.map Ow.name) who
  simp only [List.length_map] at h;simp only [List.length_append,List.length_cons,List.length_take,List.length_drop];unfold mr;omega
theorem Xd {w w':World} {S T:aw} {cs:List Cf} {p:aq} (h:qV w S cs p) (hk:Kept S w w') (hT:∀b,S b->T b):qV w' T cs p:=by
 rcases h with h|⟨b,o,rfl,hS,hc⟩
 ·exact .inl h
 ·exact .inr ⟨b,o,rfl,hT b hS,fun i h=>⟨hk.cell (p:=⟨b,_,none⟩) hS (hc i h).1,hk.cell (p:=⟨b,_,none⟩) hS (hc i h).2⟩⟩
def Ei (S:aw) (r:V×List Ow×List Cf×Int) (w:World) (e:Ending) (w':World):Prop:=
 ∃(ka:aq) (kc:Nat) (la:aq) (lc:Nat) (a:aq) (c:Nat) (a2:aq) (c2:Nat),e= .returned (.tuple #[r.1.val ka kc la lc, .slice a r.2.1.length c, .slice a2 r.2.2.1.length c2, .int .i64 r.2.2.2])/\
  r.1.In w' (aU S w) ka kc la lc/\aM a r.2.1.length c/\cj w' (aU S w) r.2.1 a/\aM a2 r.2.2.1.length c2/\qV w' (aU S w) r.2.2.1 a2/\Ext w w'
theorem Tp:∀a b:List UInt8,Lib.compareBytes a b=0↔a=b
 | [], []=>by simp [Lib.compareBytes]
 | [],_::_=>by simp [Lib.compareBytes]
 |_::_, []=>by simp [Lib.compareBytes]
 |x::a,y::b=>by
  rw [Lib.compareBytes];have ih:=Tp a b;by_cases h1:x<y
  ·have h3:x≠y:=fun e=>by rw [e] at h1;exact absurd h1 (by simp)
   simp [h1,h3]
  ·by_cases h2:y<x
   ·have h3:x≠y:=fun e=>h1 (by rw [e] at h2⊢;exact h2)
    simp [h1,h2,h3]
   ·have h3:x=y:=UInt8.le_antisymm (UInt8.not_lt.1 h2) (UInt8.not_lt.1 h1)
    subst h3;simp [h1,ih]
theorem AP {w:World} {g o:Nat} {t:Th} {ka:aq} {kc:Nat} {la:aq} {lc:Nat} {oa:aq} {oc:Nat} (h:∀q u,(t.cells ka kc la lc oa oc)[q]? =some u->w.cell? ⟨g,o+q,none⟩=some u/\w.frozen? ⟨g,o+q,none⟩=false):
 w.cell? ⟨g,o,none⟩=some (.string t.name)/\w.cell? ⟨g,o+1,none⟩=some (.int .i64 t.v.k)/\w.cell? ⟨g,o+2,none⟩=some (.int .i64 t.v.n)/\w.cell? ⟨g,o+3,none⟩=some (.string t.v.s)/\w.cell? ⟨g,o+4,none⟩=some (.slice ka t.v.keys.length kc)/\
 w.cell? ⟨g,o+5,none⟩=some (.slice la t.v.l.length lc)/\w.cell? ⟨g,o+6,none⟩=some (.slice oa t.ows.length oc)/\w.cell? ⟨g,o+7,none⟩=some (.int .i64 t.ver)/\w.cell? ⟨g,o+8,none⟩=some (.int .i64 t.gen)/\w.cell? ⟨g,o+9,none⟩=some (.string t.st.sb)/\
 w.cell? ⟨g,o+10,none⟩=some (.string t.st.cm)/\w.cell? ⟨g,o+11,none⟩=some (.int .i64 t.st.ph)/\w.cell? ⟨g,o+12,none⟩=some (.int .i64 t.st.sp)/\w.cell? ⟨g,o+13,none⟩=some (.int .i64 t.st.wt)/\w.cell? ⟨g,o+14,none⟩=some (.int .i64 t.st.si):=
 ⟨(h 0 _ rfl).1,(h 1 _ rfl).1,(h 2 _ rfl).1,(h 3 _ rfl).1,(h 4 _ rfl).1,(h 5 _ rfl).1,(h 6 _ rfl).1,(h 7 _ rfl).1,(h 8 _ rfl).1,(h 9 _ rfl).1,(h 10 _ rfl).1,(h 11 _ rfl).1,(h 12 _ rfl).1,(h 13 _ rfl).1,(h 14 _ rfl).1⟩
theorem Md (t:Th) (ka:aq) (kc:Nat) (la:aq) (lc:Nat) (oa:aq) (oc:Nat) (name:ah) (w:World):
 Calls prog 81 #[.agg #[.string t.name, .int .i64 t.v.k, .int .i64 t.v.n, .string t.v.s, .slice ka t.v.keys.length kc, .slice la t.v.l.length lc, .slice oa t.ows.length oc, .int .i64 t.ver, .int .i64 t.gen, .string t.st.sb, .string t.st.cm, .int .i64 t.st.ph, .int .i64 t.st.sp, .int .i64 t.st.wt, .int .i64 t.st.si], .string name] w fun e w'=>e= .returned (.int .i64 (Lib.compareBytes t.name.data.toList name.data.toList))/\Ext w w':=by
 go_enter func81,ntmps81;go_wp2_with fail;(refine(Tryz.strings_Compare t.name name _).mono ?_);rintro e w1 ⟨rfl,rfl⟩;go_wp2_with fail;go_ret;exact⟨rfl,Xt⟩
theorem adV {l:List Th} {name:ah} (h:eU l name<l.length):gj l name=(Lib.compareBytes (l[eU l name]).name.data.toList name.data.toList==0):=by
 unfold gj hasB;rw [show posOf (l.map Th.name) name=eU l name from rfl,List.getElem?_eq_getElem (by simpa using h),List.getElem_map];have:=Tp (l[eU l name]).name.data.toList name.data.toList;rw [Bool.eq_iff_iff,beq_iff_eq,this];simp [ByteArray.toList_eq]
theorem Tb {l:List Th} {name:ah} (h:¬eU l name<l.length):gj l name=false:=by
 unfold gj hasB;rw [show posOf (l.map Th.name) name=eU l name from rfl,List.getElem?_eq_none (by simpa using h)]
theorem adW (P:aw) (r:Nat) (s:Sv) (v:Value) (xs:List Value) (name:ah) (w:World) (gi:dX w P r s v xs) (hbig:s.az.length<=1073741824) (hr:cG (s.az.map Th.name)):
 Calls prog 80 #[v, .string name, .func (.func 81) #[] #[]] w fun e w'=>e= .returned (.tuple #[.int .i64 (eU s.az name), .bool (gj s.az name)])/\Ext w w':=by
 have eV:=ae gi
 have zP:=ae (show∀i t (hi:i<s.az.length) (h:t<s.az.length) (hst:i<=t),bA (s.az[t]).name name=true->bA (s.az[i]).name name=true from fun i t hi h hst hl=>by
  by_cases e:i=t
  ·subst e;exact hl
  ·have:=zL hr (i:=i) (j:=t) (by simp;omega) (by simpa using h) (by omega)
   simp only [List.getElem_map] at this
   exact uf this hl)
 obtain⟨a,c,hv⟩:=fG gi.own;obtain⟨l,hl⟩:∃l,s.az=l:=⟨_,rfl⟩;have hv:=hv.1;clear gi hr;subst hv;rw [hl] at hbig⊢
 have kD:=ae (show∀w',Ext w w'->∀k (hk:k<l.length),∃g,a=some ⟨g,0,none⟩/\∃ka kc la lc oa oc,∀q u,((l[k]).cells ka kc la lc oa oc)[q]? =some u->w'.cell? ⟨g,k*15+q,none⟩=some u/\w'.frozen? ⟨g,k*15+q,none⟩=false from fun w' e k hk=>by
  subst hl;obtain⟨g,c2,ka,kc,la,lc,oa,oc,h1,-,-,-,-,h2,-⟩:=(eV.out.ext e).thing hk;simp only [Value.slice.injEq] at h1
  exact⟨g,h1.1,ka,kc,la,lc,oa,oc,h2⟩)
 rw [hl] at zP;clear eV hl;go_enter func80,ntmps80;go_wp2_with fail
 go_loopg [9,10] l.length (fun gg s9 BG wr=>∃lo hi:Nat,s9= .int .i64 lo/\BG= .int .i64 hi/\lo<=hi/\hi<=l.length/\hi-lo<=gg/\ (∀t (h:t<l.length),t<lo->bA (l[t]).name name=true)/\ (∀t (h:t<l.length),hi<=t->bA (l[t]).name name=false)/\Ext w wr)
 case atStart=>exact⟨0,l.length,rfl,rfl,Nat.zero_le _,Nat.le_refl _,by omega,fun t h h0=>absurd h0 (Nat.not_lt_zero _),fun t h h0=>by omega,Xt⟩
 case round=>
  obtain⟨lo,hi,rfl,rfl,II,hin,hgg,h1,h2,hx⟩:=hrel;have H1:=ae h1;have H2:=ae h2;clear h1 h2;by_cases hlt:lo<hi
  ·have hmid:(lo+hi)/2<l.length:=by omega
   obtain⟨g,rfl,ka,kc,la,lc,oa,oc,hcs⟩:=kD.out _ hx _ hmid;have hm0:(0:Int)<= ((lo:Int)+(hi:Int))/2:=by omega
   have Eh:((lo:Int)+(hi:Int))/2<(l.length:Int):=by omega
   have WZ:(((lo:Int)+(hi:Int))/2).toNat=(lo+hi)/2:=by omega
   have xP:=ae (show bA (l[(lo+hi)/2]).name name=true↔Lib.compareBytes (l[(lo+hi)/2]).name.data.toList name.data.toList<0 by unfold bA;rw [ByteArray.toList_eq,ByteArray.toList_eq];exact(IE _ _).symm);obtain⟨d0,d1,d2,d3,d4,d5,d6,d7,d8,d9,d10,d11,d12,d13,d14⟩:=AP hcs;clear hcs;by_cases hcm:Lib.compareBytes (l[(lo+hi)/2]).name.data.toList name.data.toList<0
   ·have Hl:=ae (xP.out.2 hcm)
    go_wp2_with fail;(refine(Md l[(lo+hi)/2] ka kc la lc oa oc name _).mono ?_);rintro e w2 ⟨rfl,h2⟩;go_wp2_with fail;go_roundg (hi-((lo+hi)/2+1))
    case measure=>omega
    case rel=>exact⟨(lo+hi)/2+1,hi,by go_num,rfl,by omega,hin,Nat.le_refl _,fun t h ht=>zP.out t _ h hmid (by omega) Hl.out,H2.out,Xt⟩
   ·have Hl:=ae (show bA (l[(lo+hi)/2]).name name=false by
     cases hb:bA (l[(lo+hi)/2]).name name with
     |false=>rfl
     |true=>exact absurd (xP.out.1 hb) hcm)
    go_wp2_with fail;(refine(Md l[(lo+hi)/2] ka kc la lc oa oc name _).mono ?_);rintro e w2 ⟨rfl,h2⟩;go_wp2_with fail;go_roundg ((lo+hi)/2-lo)
    case measure=>omega
    case rel=>exact⟨lo,(lo+hi)/2,rfl,by go_num,by omega,by omega,Nat.le_refl _,H1.out,(fun t h ht=>by
     cases hb:bA (l[t]).name name with
     |false=>rfl
     |true=>have:=zP.out _ t hmid h ht hb;rw [Hl.out] at this;cases this),Xt⟩
  ·obtain rfl:hi=lo:=by omega
   have hpos:hi=eU l name:=IJ (ks:=l.map Th.name) (by simpa using hin) (fun i h=>by simp only [List.getElem_map];exact H1.out i (by omega) h) (fun h=>by simp only [List.getElem_map];exact H2.out hi (by simpa using h) (Nat.le_refl _));have xQ:=ae hpos;clear hpos;by_cases hend:hi<l.length
   ·have IK:(hi:Int)<(l.length:Int):=by omega
    obtain⟨g,rfl,ka,kc,la,lc,oa,oc,hcs⟩:=kD.out _ hx _ hend
    have Hb:=ae (show gj l name=(Lib.compareBytes (l[hi]).name.data.toList name.data.toList==0) by
     have h1:=xQ.out;subst h1
     exact adV hend)
    obtain⟨d0,d1,d2,d3,d4,d5,d6,d7,d8,d9,d10,d11,d12,d13,d14⟩:=AP hcs;clear hcs;go_wp2_with fail;(refine(Md l[hi] ka kc la lc oa oc name _).mono ?_);rintro e w2 ⟨rfl,h2⟩;go_wp2_with fail;go_ret2;rw [<-xQ.out,Hb.out];exact⟨rfl,Xt⟩
   ·have IK:¬(hi:Int)<(l.length:Int):=by omega
    have Hb:=ae (show gj l name=false from Tb (by rw [<-xQ.out];exact hend));go_wp2_with fail;go_ret2;rw [<-xQ.out,Hb.out];exact⟨rfl,Xt⟩
theorem adP (P:aw) (r:Nat) (s:Sv) (name:ah) (w:World) (gi:Sat w P r s) (hbig:s.az.length<=1073741824) (hr:cG (s.az.map Th.name)):
 Calls prog 53 #[.pointer (some ⟨r,0,none⟩), .string name] w fun e w'=>e= .returned (.tuple #[.int .i64 (eU s.az name), .bool (gj s.az name)])/\Ext w w':=by
 have tX:∀(fn:Fn) (first cap:Array Value) (w:World),(Instr.makeFunc fn first cap).run prog w= .ok (.func fn first cap) w:=fun _ _ _ _=>rfl;obtain⟨v,xs,h⟩:=gi;have ag:=h.box;have eV:=ae h;have Hr:=ae hr;clear h hr;obtain⟨hc0,ax,hl0⟩:=ag.see;go_enter func53,ntmps53;go_wp2_with fail;(refine(adW P r s v xs name _ (eV.out.ext Xt) hbig Hr.out).mono ?_);rintro e w1 ⟨rfl,h1⟩;go_wp2_with fail;go_ret2;exact⟨rfl,Xt⟩
end Go.Proofs.YtlcebdaghmdkeabGreatDoor
