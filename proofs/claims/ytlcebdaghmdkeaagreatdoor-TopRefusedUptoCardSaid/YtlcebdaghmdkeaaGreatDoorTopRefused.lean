/- TopRefused: for all acts and one more the law returns true (what is refused changes nothing); the arguments hold together at most 1048576 values and letters; the library's listed variables as its text lays them. -/
import Derived.HandedShaped
import Derived.SevenTiedAt
import Derived.Test.YtlcebdaghmdkeaaGreatDoorTopRefusedW
set_option linter.all false
set_option maxRecDepth 100000
set_option maxHeartbeats 64000000
namespace Go.Proofs.YtlcebdaghmdkeaaGreatDoor.lawTopRefused
open Go.Proofs.Tryz
open Go.ChangeShapes Go.WideShapes Go.ChangeAt Go.RowKit
open Go.ChangeMaps (open_string shut_string)
theorem walk (a:aq) (cap:Nat) (l:List Ac) (x:Ac) (w:World) (hl:iU (fun b=>w.heap.size<=b) w) (cx:iJ l<=1048576) (br:x.size<=1048576) (hin:jL w (Old w) l a):
 Calls prog 3 #[.slice a l.length cap, .agg #[.int .i64 x.k, .string x.name, .string x.who, .string x.body, .int .i64 x.ver, .int .i64 x.n, .int .i64 x.ord, .bool x.force]] w fun e w'=>e= .returned (.bool true)/\Ext w w':=afK a cap l x w hl cx br hin
theorem lifted (os:Os) (started:os.Started) (H:Type) (enc:TypeId×Value->H) (Fi:Stop.Interp):
 ReturnsInHanded {} Tryz.checked os 3 .any ((Rows.OpenSpec.upto Rows.topRefusedSpec).preRow enc prog Tryz.f3 Rows.topRefusedUptoRow.domain false Rows.topRefusedUptoRow.laid) (((Rows.OpenSpec.upto Rows.topRefusedSpec).at Fi).post enc prog Tryz.f3 false true false false):=by
 obtain⟨places,hx⟩:∃places,DataW.whole enc prog ((start.pA os).forCall (fun _ _=>0) ⟨#[], #[.slice none 0 0, .agg #[.int .i64 0, .string ⟨#[]⟩, .string ⟨#[]⟩, .string ⟨#[]⟩, .int .i64 0, .int .i64 0, .int .i64 0, .bool false]], []⟩).memory Tryz.f3.params.toList Rows.topRefusedSpec.vars false (#[.slice none 0 0, .agg #[.int .i64 0, .string ⟨#[]⟩, .string ⟨#[]⟩, .string ⟨#[]⟩, .int .i64 0, .int .i64 0, .int .i64 0, .bool false]]).toList 8=some ([.nil, .agg [.lit (.int .i64 0), .lit (.string []), .lit (.string []), .lit (.string []), .lit (.int .i64 0), .lit (.int .i64 0), .lit (.int .i64 0), .lit (.bool false)]], [],places):=⟨[],by kernel_rfl⟩
 refine returnsInHanded_of_row (C:=Tryz.checked) (s:=Rows.OpenSpec.upto Rows.topRefusedSpec) Tryz.own started (by kernel_rfl) func3
  (witness_row_atRef (enc:=enc) (C:=Tryz.checked) false (start.pA os) #[.slice none 0 0, .agg #[.int .i64 0, .string ⟨#[]⟩, .string ⟨#[]⟩, .string ⟨#[]⟩, .int .i64 0, .int .i64 0, .int .i64 0, .bool false]] rfl (by kernel_rfl) (by kernel_rfl) (by kernel_rfl)
   (OpenSpec.preRow_of_cond 8 hx (by kernel_rfl) (fun k hk=>by cases hk;kernel_rfl) (by kernel_rfl) (start.AW os _))) ?_
 intro W base args ds gs before mL hW _ hk _ hL hsh _;have hkb:=hk _ rfl;have hval:∀(j:Nat) t v,Tryz.f3.params[j]? =some t->args[j]? =some v->Value.okWide prog W .any base t v:=mL;have hW':=hW;obtain⟨p,q,mM,hV,rfl,hfz,hnd⟩:=hW;have hA:DataW.TrodAll enc prog W 0 (fun _=>true) true Tryz.f3.params.toList args.toList ds p:=mM;rw [Tryz.params3] at hA hval;obtain⟨v0,ED,d0,EE,p0,q0,hargs,rfl,rfl,h0,r0⟩:=trodAll_cons hA;obtain⟨v1,vs1,d1,ds1,p1,q1,rfl,rfl,rfl,h1,r1⟩:=trodAll_cons r0;obtain⟨rfl,rfl,rfl⟩:=trodAll_nil r1;obtain rfl:args= #[v0,v1]:=by cases args;simp_all
 obtain⟨rfl,rfl⟩:=trodVars_none hV;have td:Rows.uptoBulkAll [d0,d1]<=1048576:=by simpa [Rows.uptoSmall] using hkb
 have k0:=h0;have k1:=h1;have tj:∀x∈p0,x.block<W.heap.size:=by obtain⟨m,hm⟩:=k0;exact DataW.trod_lt m _ _ _ hm
 have EF:∀x∈p1,x.block<W.heap.size:=by obtain⟨m,hm⟩:=k1;exact DataW.trod_lt m _ _ _ hm
 have tq:=BI hsh hL;obtain⟨a0,EG,tu,rfl⟩:=okWide_slice underlying22 (hval 0 22 v0 rfl rfl);obtain⟨EH,aw⟩:=h0;obtain⟨EI,EJ,l0,hc0,hok0,ki,mN⟩:=Ak aw;simp only [Value.slice.injEq] at hc0;obtain⟨rfl,rfl,rfl⟩:=hc0;have mN:iJ l0+1<=Rows.uptoBulk d0:=mN;obtain⟨x1,rfl,afs⟩:=O5 (hval 1 24 v1 rfl rfl) h1;simp only [Rows.uptoBulkAll,Rows.uptoBulk] at td;clear mM mL;refine(walk a0 tu l0 x1 W tq (by omega) (by omega) ki).mono fun e W' ⟨he,kZ⟩=> ?_;subst he;exact⟨_,rfl,_,_,_, [],_, [],hW',trodAll_mk1 (shut_bool underlying4 _),(trodAll_cons_mk (Below.trod Tryz.laidOut (by kernel_rfl) (of_decide_eq_true (by kernel_rfl)) k0 kZ tj) (trodAll_cons_mk (Below.trod Tryz.laidOut (by kernel_rfl) (of_decide_eq_true (by kernel_rfl)) k1 kZ EF) trodAll_mk0)),rfl,Below.frame kZ _,fun h=>by cases h⟩
theorem cA:(Rows.topRefusedUptoRow.inPlace==Tryz.pinned.checked.prog.inPlace 3)=true:=by kernel_rfl
theorem cB:(Rows.topRefusedUptoRow.unfollowed==Tryz.pinned.checked.prog.unfollowed 3)=true:=by kernel_rfl
theorem cC:(Rows.topRefusedUptoRow.recurses==Tryz.pinned.checked.prog.recurses 3)=true:=by kernel_rfl
theorem cD:(Rows.topRefusedUptoRow.named==Tryz.pinned.checked.prog.varsNamed 3)=true:=by kernel_rfl
theorem closed:joinedFacts Tryz.pinned.checked.prog 3 Tryz.f3 (Rows.OpenSpec.upto Rows.topRefusedSpec).bare Rows.topRefusedUptoRow=true:=by
 unfold joinedFacts;rw [cA,cB,cC,cD]
 kernel_rfl
theorem said:Rows.TopRefusedUptoSaid:=
 OpenClaim.holds_of_cond 3 Tryz.f3 rfl rfl rfl rfl rfl rfl rfl ⟨rfl,rfl,rfl,rfl,rfl⟩ rfl rfl rfl rfl rfl (by kernel_rfl) func3 closed
  (of_decide_eq_true (by kernel_rfl)) (by unfold Func.isWrapper;first|(rw [if_pos (by decide+kernel)];kernel_rfl)|(rw [if_neg (by decide+kernel)];exact⟨rfl,rfl⟩))
  (fun os started H enc _ F=>by rw [OpenClaim.pre_eq_preRow];exact lifted os started H enc F)
theorem plain (f:FuncId) (fn:Func) (hf:Tryz.pinned.checked.prog.funcNamed "stairwell/stairwelltop.TopRefused" =some f) (hfn:Tryz.pinned.checked.prog.funcs[f]? =some fn):
 true=Tryz.pinned.checked.prog.looks []/\∀(j:Nat) t,fn.params[j]? =some t->Tryz.pinned.checked.prog.wantsStandIn t=false:=by
 obtain rfl:f=3:=Option.some.inj ((show prog.funcNamed "stairwell/stairwelltop.TopRefused" =some 3 by kernel_rfl).symm.trans hf)|>.symm;obtain rfl:fn=Tryz.f3:=(Option.some.inj (func3.symm.trans hfn)).symm;refine⟨by kernel_rfl,fun j t ht=> ?_⟩;rw [Tryz.params3] at ht;have h:t=22\/t=24:=by simpa using Array.mem_of_getElem? ht
 rcases h with rfl|rfl
 ·exact(show prog.wantsStandIn 22=false by kernel_rfl)
 ·exact(show prog.wantsStandIn 24=false by kernel_rfl)
theorem proved:Rows.TopRefusedUptoCardSaid:=
 Claim7.holds_tied_plain_at .later [] _ _ _ _ said (fun _ h=>by cases h) (by kernel_rfl) (fun _ h=>by cases h) topRefusedUpto_row_tie rfl ⟨rfl,rfl⟩ (by kernel_rfl) rfl plain (by kernel_rfl)
end Go.Proofs.YtlcebdaghmdkeaaGreatDoor.lawTopRefused
