/- TopOld: for all acts the law returns true (who names an elder version is refused and changes nothing; nobody else is refused for it); the arguments hold together at most 1048576 values and letters; the library's listed variables as its text lays them. -/
import Derived.HandedShaped
import Derived.SevenTiedAt
import Derived.Test.YtlcebdaghmdkeaaGreatDoorTopOldW
set_option linter.all false
set_option maxRecDepth 100000
set_option maxHeartbeats 64000000
namespace Go.Proofs.YtlcebdaghmdkeaaGreatDoor.lawTopOld
open Go.Proofs.Tryz
open Go.ChangeShapes Go.WideShapes Go.ChangeAt Go.RowKit
open Go.ChangeMaps (open_string shut_string)
theorem walk (a:aq) (cap:Nat) (l:List Ac) (w:World) (hl:iU (fun b=>w.heap.size<=b) w) (cx:iJ l<=1048576) (hin:jL w (Old w) l a):
 Calls prog 4 #[.slice a l.length cap] w fun e w'=>e= .returned (.bool true)/\Ext w w':=afB a cap l w hl cx hin
theorem lifted (os:Os) (started:os.Started) (H:Type) (enc:TypeId×Value->H) (Fi:Stop.Interp):
 ReturnsInHanded {} Tryz.checked os 4 .any ((Rows.OpenSpec.upto Rows.topOldSpec).preRow enc prog Tryz.f4 Rows.topOldUptoRow.domain false Rows.topOldUptoRow.laid) (((Rows.OpenSpec.upto Rows.topOldSpec).at Fi).post enc prog Tryz.f4 false true false false):=by
 obtain⟨places,hx⟩:∃places,DataW.whole enc prog ((start.pA os).forCall (fun _ _=>0) ⟨#[], #[.slice none 0 0], []⟩).memory Tryz.f4.params.toList Rows.topOldSpec.vars false (#[.slice none 0 0]).toList 8=some ([.nil], [],places):=⟨[],by kernel_rfl⟩
 refine returnsInHanded_of_row (C:=Tryz.checked) (s:=Rows.OpenSpec.upto Rows.topOldSpec) Tryz.own started (by kernel_rfl) func4
  (witness_row_atRef (enc:=enc) (C:=Tryz.checked) false (start.pA os) #[.slice none 0 0] rfl (by kernel_rfl) (by kernel_rfl) (by kernel_rfl)
   (OpenSpec.preRow_of_cond 8 hx (by kernel_rfl) (fun k hk=>by cases hk;kernel_rfl) (by kernel_rfl) (start.AW os _))) ?_
 intro W base args ds gs before mL hW _ hk _ hL hsh _;have hkb:=hk _ rfl;have hval:∀(j:Nat) t v,Tryz.f4.params[j]? =some t->args[j]? =some v->Value.okWide prog W .any base t v:=mL;have hW':=hW;obtain⟨p,q,mM,hV,rfl,hfz,hnd⟩:=hW;have hA:DataW.TrodAll enc prog W 0 (fun _=>true) true Tryz.f4.params.toList args.toList ds p:=mM;rw [Tryz.params4] at hA hval;obtain⟨v0,ED,d0,EE,p0,q0,hargs,rfl,rfl,h0,r0⟩:=trodAll_cons hA;obtain⟨rfl,rfl,rfl⟩:=trodAll_nil r0;obtain rfl:args= #[v0]:=by cases args;simp_all
 obtain⟨rfl,rfl⟩:=trodVars_none hV;have td:Rows.uptoBulkAll [d0]<=1048576:=by simpa [Rows.uptoSmall] using hkb
 have k0:=h0;have tj:∀x∈p0,x.block<W.heap.size:=by obtain⟨m,hm⟩:=k0;exact DataW.trod_lt m _ _ _ hm
 have tq:=BI hsh hL;obtain⟨a0,EG,tu,rfl⟩:=okWide_slice underlying22 (hval 0 22 v0 rfl rfl);obtain⟨EH,aw⟩:=h0;obtain⟨EI,EJ,l0,hc0,hok0,ki,mN⟩:=Ak aw;simp only [Value.slice.injEq] at hc0;obtain⟨rfl,rfl,rfl⟩:=hc0;have mN:iJ l0+1<=Rows.uptoBulk d0:=mN;simp only [Rows.uptoBulkAll,Rows.uptoBulk] at td;clear mM mL;refine(walk a0 tu l0 W tq (by omega) ki).mono fun e W' ⟨he,kZ⟩=> ?_;subst he;exact⟨_,rfl,_,_,_, [],_, [],hW',trodAll_mk1 (shut_bool underlying4 _),(trodAll_cons_mk (Below.trod Tryz.laidOut (by kernel_rfl) (of_decide_eq_true (by kernel_rfl)) k0 kZ tj) trodAll_mk0),rfl,Below.frame kZ _,fun h=>by cases h⟩
theorem cA:(Rows.topOldUptoRow.inPlace==Tryz.pinned.checked.prog.inPlace 4)=true:=by kernel_rfl
theorem cB:(Rows.topOldUptoRow.unfollowed==Tryz.pinned.checked.prog.unfollowed 4)=true:=by kernel_rfl
theorem cC:(Rows.topOldUptoRow.recurses==Tryz.pinned.checked.prog.recurses 4)=true:=by kernel_rfl
theorem cD:(Rows.topOldUptoRow.named==Tryz.pinned.checked.prog.varsNamed 4)=true:=by kernel_rfl
theorem closed:joinedFacts Tryz.pinned.checked.prog 4 Tryz.f4 (Rows.OpenSpec.upto Rows.topOldSpec).bare Rows.topOldUptoRow=true:=by
 unfold joinedFacts;rw [cA,cB,cC,cD]
 kernel_rfl
theorem said:Rows.TopOldUptoSaid:=
 OpenClaim.holds_of_cond 4 Tryz.f4 rfl rfl rfl rfl rfl rfl rfl ⟨rfl,rfl,rfl,rfl,rfl⟩ rfl rfl rfl rfl rfl (by kernel_rfl) func4 closed
  (of_decide_eq_true (by kernel_rfl)) (by unfold Func.isWrapper;first|(rw [if_pos (by decide+kernel)];kernel_rfl)|(rw [if_neg (by decide+kernel)];exact⟨rfl,rfl⟩))
  (fun os started H enc _ F=>by rw [OpenClaim.pre_eq_preRow];exact lifted os started H enc F)
theorem plain (f:FuncId) (fn:Func) (hf:Tryz.pinned.checked.prog.funcNamed "stairwell/stairwelltop.TopOld" =some f) (hfn:Tryz.pinned.checked.prog.funcs[f]? =some fn):
 true=Tryz.pinned.checked.prog.looks []/\∀(j:Nat) t,fn.params[j]? =some t->Tryz.pinned.checked.prog.wantsStandIn t=false:=by
 obtain rfl:f=4:=Option.some.inj ((show prog.funcNamed "stairwell/stairwelltop.TopOld" =some 4 by kernel_rfl).symm.trans hf)|>.symm;obtain rfl:fn=Tryz.f4:=(Option.some.inj (func4.symm.trans hfn)).symm;refine⟨by kernel_rfl,fun j t ht=> ?_⟩;rw [Tryz.params4] at ht;have h:t=22:=by simpa using Array.mem_of_getElem? ht
 rcases h with rfl
 ·exact(show prog.wantsStandIn 22=false by kernel_rfl)
theorem proved:Rows.TopOldUptoCardSaid:=
 Claim7.holds_tied_plain_at .later [] _ _ _ _ said (fun _ h=>by cases h) (by kernel_rfl) (fun _ h=>by cases h) topOldUpto_row_tie rfl ⟨rfl,rfl⟩ (by kernel_rfl) rfl plain (by kernel_rfl)
end Go.Proofs.YtlcebdaghmdkeaaGreatDoor.lawTopOld
