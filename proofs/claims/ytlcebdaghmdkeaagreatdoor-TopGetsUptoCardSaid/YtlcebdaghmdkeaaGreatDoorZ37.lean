import Derived.Stop.LaidErr
import Derived.Lib.LaidTab
import Derived.Test.YtlcebdaghmdkeaaGreatDoorZ23
import Derived.Test.YtlcebdaghmdkeaaGreatDoorZ36
set_option linter.all false
set_option maxRecDepth 100000
set_option maxHeartbeats 64000000
namespace Go.Proofs.YtlcebdaghmdkeaaGreatDoor
open Go.Proofs.Tryz
open Go.RowKit
theorem OD:prog.globalNamed "strconv.ErrSyntax" =some 3:=by kernel_rfl
theorem OE:prog.globalNamed "strconv.ErrRange" =some 4:=by kernel_rfl
theorem WY:prog.globalNamed "internal/strconv.uint64pow10" =some 2:=by kernel_rfl
theorem WZ:(prog.globals[3]?).map (·.type)=some 182:=by kernel_rfl
theorem W4:(prog.globals[4]?).map (·.type)=some 182:=by kernel_rfl
theorem W5:(prog.globals[2]?).map (·.type)=some 239:=by kernel_rfl
theorem OG:prog.cellsOf 281=1:=by kernel_rfl
theorem Jo:prog.cellsOf 9=1:=by kernel_rfl
theorem W6:prog.cellsOf 177=1:=by kernel_rfl
theorem W7:prog.cellsOf 239=20:=by kernel_rfl
theorem OH: "*" ++ "errors.errorString" = "*errors.errorString" :=by decide
theorem OI (u:TypeId) (h:prog.typeName? 3 u=some "*errors.errorString"):u=279:=
 typeName_ptr_named (nm:= "errors.errorString") (by rw [OH];kernel_rfl) (by kernel_rfl) (by decide) u (by rw [OH];exact h)
theorem W8 {W:World} (hsh:W.ShapedOpen prog) (E8:laidMetH prog Rows.topRefusedUptoRow.laid W):cZ W:=by
 have hL:laidMet prog Rows.topRefusedUptoRow.laid W:=E8;obtain⟨m,hm⟩:=Tryz.W9.s1_3 W hsh;obtain⟨a1,s1,hv1,-,-,-⟩:=laid_sentinel hL.tail.tail.tail.tail OE W4 underlying182 OI underlying279 underlying281 rfl rfl underlying9 OG Jo;obtain⟨a0,s0,hv0,-,-,-⟩:=laid_sentinel hL.tail.tail.tail.tail.tail OD WZ underlying182 OI underlying279 underlying281 rfl rfl underlying9 OG Jo;refine⟨⟨m,hm⟩,⟨_,by have h0:=World.var?_cell OD hv0 0;simpa using h0, .inr ⟨_,_,rfl⟩⟩,⟨_,by have h0:=World.var?_cell OE hv1 0;simpa using h0, .inr ⟨_,_,rfl⟩⟩,?_⟩;exact Lib.tabIs_of_head WY W5 underlying239 underlying177 W6 W7 hL.tail.tail
theorem OJ:prog.globalNamed "stairwell/patch.names" =some 1:=by kernel_rfl
theorem Xa:(prog.globals[1]?).map (·.type)=some 173:=by kernel_rfl
theorem Xb:prog.cellsOf 173=7:=by kernel_rfl
theorem Xc {H:Type} {enc:TypeId×Value->H} {P:Program} {w:World} {base:Nat} {sp:Nat->Bool} {held:Bool} {fuel:Nat} {t e:TypeId} {n:Nat} {cs:List Value} {zs:List (List UInt8)} {p:List MemPlace}
 (ht:P.underlying t=some (.array n e)) (he:P.underlying e=some .string) (hce:P.cellsOf e=1) (hct:P.cellsOf t=n)
 (h:DataW.trod enc P w base sp held fuel t cs=some (.agg (zs.map fun z=> .lit (.string z)),p)):cs=zs.map fun z=>Value.string ⟨z.toArray⟩:=by
 cases fuel with
 |zero=>simp [DataW.trod] at h
 |succ fuel=>
  simp only [DataW.trod,ht,hce,hct,Nat.mul_one] at h
  split at h
  ·rename_i hl
   obtain⟨xs,hm,hx⟩:=Option.map_eq_some_iff.1 h;have hxs:xs.map (·.1)=zs.map fun z=>(DataW.lit (.string z):DataW H):=by have:=congrArg Prod.fst hx;simpa using this
   have hxl:xs.length=n:=by simpa using Lib.mapM_length hm
   have hzl:zs.length=n:=by have:=congrArg List.length hxs;simp only [List.length_map] at this;omega
   apply List.ext_getElem?;intro i;by_cases hi:i<n
   ·obtain⟨b,hb,hf⟩:=Lib.mapM_at hm i i (by simp [hi])
    obtain⟨z,hc,rfl,_⟩:=DataW.trod_string he hf;have h1:cs[i]? =some (.string z):=by have:=congrArg (·[0]?) hc;simpa [List.getElem?_take,List.getElem?_drop] using this
    have h2:(xs.map (·.1))[i]? =some (DataW.lit (.string z.data.toList):DataW H):=by simp [hb]
    rw [hxs] at h2;simp only [List.getElem?_map,Option.map_eq_some_iff,DataW.lit.injEq,Lit.string.injEq] at h2;obtain⟨z',hz',hz2⟩:=h2;rw [h1,List.getElem?_map,hz',hz2];simp
   ·rw [List.getElem?_eq_none (by omega),List.getElem?_eq_none (by simp;omega)]
  ·cases h
theorem Xd {W:World} {rest:List (String×DataW Unit)} (h:laidMet prog (("stairwell/patch.names",Rows.laid_stairwell_patch_names)::rest) W):rC W:=by
 obtain⟨ps,⟨g',t',cs,fuel,p,q,hg',ht',hvar,hd,_,_⟩,_⟩:=h;obtain rfl:=Option.some.inj (OJ.symm.trans hg');obtain rfl:=Option.some.inj (Xa.symm.trans ht');have hc:=Xc (zs:= [[], [97,100,100], [114,101,109,111,118,101], [114,101,112,108,97,99,101], [109,111,118,101], [99,111,112,121], [116,101,115,116]]) underlying173 underlying9 Jo Xb hd;intro i hi;have h0:=World.var?_cell OJ hvar i;rw [show cs=cs.toList.toArray by simp,hc] at h0
 match i,hi with
 |0,_=>simpa [qj,vW] using h0
 |1,_=>simpa [qj,vW] using h0
 |2,_=>simpa [qj,vW] using h0
 |3,_=>simpa [qj,vW] using h0
 |4,_=>simpa [qj,vW] using h0
 |5,_=>simpa [qj,vW] using h0
 |6,_=>simpa [qj,vW] using h0
end Go.Proofs.YtlcebdaghmdkeaaGreatDoor
namespace Go.Proofs.YtlcebdaghmdkeaaGreatDoor
open Go.Proofs.Tryz
open Go.RowKit
attribute [local go_sem↓] Go.wp_at_zero Go.wp_at_succ
theorem U5 (w:World):Calls prog 23 #[] w fun e w'=>e= .returned (.pointer (some ⟨w.heap.size,0,none⟩))/\Sat w' (fun b=>w.heap.size<=b) w.heap.size cQ/\Ext w w':=by
 go_enter func23,ntmps23;go_wp2_with fail;go_ret;exact⟨rfl,⟨.slice none 0 0, [],aR,Nat.le_refl _,World.ownsRow_nil _ _ _ _,(fun _ h=>(by cases h)),rfl⟩,Xt⟩
theorem NJ (P:aA) (r:Nat) (s:Sv) (w:World) (h:Sat w P r s):Calls prog 12 #[.pointer (some ⟨r,0,none⟩)] w fun e w'=>e= .returned (.int .i64 s.time)/\w=w':=by
 obtain⟨v,xs,h⟩:=h;have ag:=h.box;clear h;obtain⟨hc0,aw,hl0⟩:=ag.see;go_enter func12,ntmps12;go_wp2_with fail;go_ret;exact⟨rfl,rfl⟩
end Go.Proofs.YtlcebdaghmdkeaaGreatDoor
namespace Go.Proofs.YtlcebdaghmdkeaaGreatDoor
open Go.RowKit
def zB:Ac:=⟨1,⟨#[97]⟩,⟨#[]⟩,⟨#[123,34,105,109,97,103,101,34,58,34,120,34,125]⟩,0,0,0,false⟩
def zC:Ac:=⟨3,⟨#[97]⟩,⟨#[]⟩,⟨#[123,34,105,109,97,103,101,34,58,34,121,34,44,34,115,116,101,112,115,34,58,91,49,48,44,123,34,112,97,117,115,101,34,58,48,125,93,125]⟩,0,0,0,false⟩
def Ev:Ac:=⟨7,⟨#[97]⟩,⟨#[]⟩,⟨#[]⟩,0,0,2,false⟩
def uw:Sv:=(bz cQ zB).1
def xA:Sv:=(bz uw zC).1
def Ew:Sv:=(bz xA Ev).1
theorem Bx:(bz cQ zB).2.c=0/\ (bz cQ zB).2.n=1/\ (bz uw zC).2.c=0/\ (bz uw zC).2.n=2/\ (bz xA Ev).2.n=1/\Ew.ay.length=1:=
 ⟨by kernel_rfl,by kernel_rfl,by kernel_rfl,by kernel_rfl,by kernel_rfl,by kernel_rfl⟩
def Ex (s:Sv):Bool:=s.ay.length==1&&decide (s.ay.map Th.name= [⟨#[97]⟩])&&s.ay.all (fun t=>decide (t.v.size<=14640)&&decide (cN t.ows<=1800000)&&decide (0<=t.gen)&&decide (t.gen<=1000000))&&decide (0<=s.last)&&decide (s.last<=1000000)&&decide (0<=s.time)&&decide (s.time<=1099511627776)&&decide (0<=s.acts)&&decide (s.acts<=1000000)
theorem Nq:Ex uw=true/\Ex xA=true/\Ex Ew=true:=⟨by kernel_rfl,by kernel_rfl,by kernel_rfl⟩
end Go.Proofs.YtlcebdaghmdkeaaGreatDoor
namespace Go.Proofs.YtlcebdaghmdkeaaGreatDoor
open Go.Proofs.Tryz
open Go.RowKit
attribute [local go_sem↓] Go.wp_at_zero Go.wp_at_succ
theorem iU.mono {P Q:aA} {w:World} (h:iU P w) (k:∀b,Q b->P b):iU Q w:=fun _ u=>h _ (u.mono fun b hb hq=>hb (k b hq))
theorem NB {s:Sv} (h:Ex s=true):Inv s:=by
 unfold Ex at h;simp only [Bool.and_eq_true,beq_iff_eq,decide_eq_true_eq,List.all_eq_true] at h;obtain⟨⟨⟨⟨⟨⟨⟨⟨h1,h2⟩,h3⟩,h4⟩,h5⟩,h6⟩,h7⟩,h8⟩,h9⟩:=h;exact⟨by omega,by rw [h2];simp [cn],fun t ht=>by obtain⟨⟨⟨a,b⟩,c⟩,d⟩:=h3 t ht;exact⟨a,b,c,d⟩,⟨h4,h5⟩,⟨h6,h7⟩,⟨h8,h9⟩⟩
theorem afb:Inv cQ:=⟨by simp [cQ],by simp [cQ,cn],fun _ h=>by simp [cQ] at h,by simp [cQ],by simp [cQ],by simp [cQ]⟩
theorem afc (w:World) (hl:iU (fun b=>w.heap.size<=b) w):Calls prog 22 #[] w fun e w'=>e= .returned (.bool true)/\Ext w w':=by
 have Hl:=ae hl;clear hl;go_enter func22,ntmps22;go_wp2_with fail;(refine(U5 _).mono ?_);rintro e w1 ⟨rfl,hs1,h1⟩;have hx1:Ext w w1:=Xt;have hz1:=hx1.size;have dZ:=ae (show Sat w1 (fun b=>w.heap.size<=b) w.heap.size cQ from hs1.mono fun b h=>by(try simp at h);omega);clear hs1 h1;go_wp2_with fail;(refine(sX (fun b=>w.heap.size<=b) w.heap.size cQ zB _ (dZ.out.ext Xt) afb (Hl.out.next ((show Ext w _ from Xt).upd _)) (by decide) (by decide) (by decide)).mono ?_);rintro e w2 ⟨rfl,hs2,hu2⟩;have hx2:Ext w w2:=aU.to (show Ext w _ from Xt) (hu2.mono fun b h h'=>by(try simp at h);omega);have hz2:=hx2.size;obtain⟨v2,NC,hs2⟩:=hs2;have jz:=ae (show Sat w2 (fun b=>w.heap.size<=b/\b<w2.heap.size) w.heap.size uw from⟨v2,NC,hs2.old.mono fun b h=>⟨by rcases h.1 with h|h;exact h;(try simp at h);omega,h.2⟩⟩);have hc2:(bz cQ zB).2.c=0:=Bx.1;have kO:(bz cQ zB).2.n=1:=Bx.2.1;obtain⟨p2,hp2⟩:∃p,(bz cQ zB).2=p:=⟨_,rfl⟩;rw [hp2] at hc2 kO⊢;clear hs2 hu2 hp2 hx1 dZ;have Hc2:=ae hc2;have vv:=ae kO;clear hc2 kO;go_upto_region 5 with fail
 refine aI (R:=fun wx=>af wx w2.heap.size #[.int .i64 p2.c, .int .i64 p2.n, .string p2.b] 34/\Sat wx (fun b=>w.heap.size<=b/\b<w2.heap.size) w.heap.size uw/\Ext w wx) ⟨aj,jz.out.ext Xt,Xt⟩ ?_;clear jz hx2 hz1;rintro wa ⟨ak,hs2,aF⟩;have jz:=ae hs2;have hl2:=ak.lt;clear hs2;go_wp2_with fail;(refine(sX (fun b=>w.heap.size<=b/\b<w2.heap.size) w.heap.size uw zC _ (jz.out.ext Xt) (NB Nq.1) ((Hl.out.next ((show Ext w _ from Xt).upd _)).mono fun _ h=>h.1) (by decide) (by decide) (by decide)).mono ?_);rintro e w3 ⟨rfl,hs3,hu3⟩;have bK:af w3 w2.heap.size #[.int .i64 p2.c, .int .i64 p2.n, .string p2.b] 34:=af.held (T:=fun b=>¬(w.heap.size<=b/\b<w2.heap.size)) ⟨hu3.size,fun b hb hl=>hu3.block b hb hl⟩ (show af _ _ _ _ from ak) (by omega);have hx3:Ext w w3:=aU.to (show Ext w _ from Xt) (hu3.mono fun b h h'=>by omega);have hz3:=hu3.size;obtain⟨v3,U6,hs3⟩:=hs3;have zD:=ae (show Sat w3 (fun b=>w.heap.size<=b/\b<w3.heap.size/\b≠w2.heap.size) w.heap.size xA from⟨v3,U6,hs3.old.mono fun b h=>by rcases h.1 with h1|h1<;> (try simp at h1)<;>exact⟨by omega,h.2,by omega⟩⟩);have hc3:(bz uw zC).2.c=0:=Bx.2.2.1;have yl:(bz uw zC).2.n=2:=Bx.2.2.2.1;obtain⟨p3,mI⟩:∃p,(bz uw zC).2=p:=⟨_,rfl⟩;rw [mI] at hc3 yl⊢;have Hc3:=ae hc3;have DM:=ae yl;have aS:=bK.lt;clear hs3 hu3 mI aF ak jz hc3 yl hl2;go_upto_region 6 with fail
 refine aI (R:=fun wx=>af wx w2.heap.size #[.int .i64 p2.c, .int .i64 p2.n, .string p2.b] 34/\af wx w3.heap.size #[.int .i64 p3.c, .int .i64 p3.n, .string p3.b] 34/\Sat wx (fun b=>w.heap.size<=b/\b<w3.heap.size/\b≠w2.heap.size) w.heap.size xA/\Ext w wx) ⟨aj,aj,zD.out.ext Xt,Xt⟩ ?_;clear zD hx3 aS bK;rintro wb ⟨ak,bK,hs3,aP⟩;have zD:=ae hs3;have hl2:=ak.lt;have aS:=bK.lt;clear hs3;go_wp2_with fail;(refine(sX (fun b=>w.heap.size<=b/\b<w3.heap.size/\b≠w2.heap.size) w.heap.size xA Ev _ (zD.out.ext Xt) (NB Nq.2.1) ((Hl.out.next ((show Ext w _ from Xt).upd _)).mono fun _ h=>h.1) (by decide) (by decide) (by decide)).mono ?_);rintro e w4 ⟨rfl,hs4,nQ⟩;have hB2':af w4 w2.heap.size #[.int .i64 p2.c, .int .i64 p2.n, .string p2.b] 34:=af.held (T:=fun b=>¬(w.heap.size<=b/\b<w3.heap.size/\b≠w2.heap.size)) ⟨nQ.size,fun b hb hl=>nQ.block b hb hl⟩ (show af _ _ _ _ from ak) (by omega);have afd:af w4 w3.heap.size #[.int .i64 p3.c, .int .i64 p3.n, .string p3.b] 34:=af.held (T:=fun b=>¬(w.heap.size<=b/\b<w3.heap.size/\b≠w2.heap.size)) ⟨nQ.size,fun b hb hl=>nQ.block b hb hl⟩ (show af _ _ _ _ from bK) (by omega);have bX:Ext w w4:=aU.to (show Ext w _ from Xt) (nQ.mono fun b h h'=>by omega);have ij:=nQ.size;obtain⟨v4,ND,hs4⟩:=hs4;have zq:=ae (show Sat w4 (fun b=>w.heap.size<=b/\b<w4.heap.size/\b≠w2.heap.size/\b≠w3.heap.size) w.heap.size Ew from⟨v4,ND,hs4.old.mono fun b h=>by rcases h.1 with h1|h1<;> (try simp at h1)<;>exact⟨by omega,h.2,by omega,by omega⟩⟩);have U7:=ae (show (bz xA Ev).2.n=1 from Bx.2.2.2.2.1);obtain⟨p4,U8⟩:∃p,(bz xA Ev).2=p:=⟨_,rfl⟩;rw [U8] at U7⊢;clear hs4 nQ U8 aP ak bK zD;go_upto_region 7 with fail
 refine aI (R:=fun wx=>af wx w2.heap.size #[.int .i64 p2.c, .int .i64 p2.n, .string p2.b] 34/\af wx w3.heap.size #[.int .i64 p3.c, .int .i64 p3.n, .string p3.b] 34/\af wx w4.heap.size #[.int .i64 p4.c, .int .i64 p4.n, .string p4.b] 34/\Sat wx (fun b=>w.heap.size<=b/\b<w4.heap.size/\b≠w2.heap.size/\b≠w3.heap.size) w.heap.size Ew/\Ext w wx) ⟨aj,aj,aj,zq.out.ext Xt,Xt⟩ ?_;clear zq bX ij hl2 aS hB2' afd hz3;rintro wc ⟨ak,bK,hB4,hs4,fC⟩;have zq:=ae hs4;clear hs4;obtain⟨hc2,hf2,hl2⟩:=ak.see;obtain⟨hc3,hf3,aS⟩:=bK.see;obtain⟨vp,AZ,hl4⟩:=hB4.see;have q1:(p2.c==0)=true:=by rw [Hc2.out];rfl
 have q2:(p2.n==1)=true:=by rw [vv.out];rfl
 have q3:(p3.c==0)=true:=by rw [Hc3.out];rfl
 have q4:(p3.n==2)=true:=by rw [DM.out];rfl
 have q5:(p4.n==1)=true:=by rw [U7.out];rfl
 have U9:=ae Bx.2.2.2.2.2;go_wp2_with fail;(refine(pK _ w.heap.size Ew _ (zq.out.ext Xt) (by rw [U9.out];decide) (fun t ht=>by have h:=(NB Nq.2.2).size t ht;exact⟨h.1,h.2.1⟩)).mono ?_);rintro e w5 ⟨a5,c5,rfl,-,-,h5⟩;rw [U9.out];go_wp2_with fail;go_ret;exact⟨rfl,Xt⟩
end Go.Proofs.YtlcebdaghmdkeaaGreatDoor
