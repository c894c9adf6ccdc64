/- TopMemory: the law returns true (whatever is written over what a server has told, it answers as one does to which nothing is done); the arguments hold together at most 1048576 values and letters; the library's listed variables as its text lays them. -/
import Derived.HandedShaped
import Derived.SevenTiedAt
import Derived.Test.YtlcebdaghmdkeabGreatDoorM34
set_option linter.all false
set_option maxRecDepth 100000
set_option maxHeartbeats 64000000
namespace Go.Proofs.YtlcebdaghmdkeabGreatDoor.lawTopMemory
open Go.Proofs.Tryz
open Go.ChangeShapes Go.WideShapes Go.ChangeAt Go.RowKit
open Go.ChangeMaps (open_string shut_string)
theorem walk (a:aq) (cap:Nat) (l:List Ac) (w:World) (hl:nY (fun b=>w.heap.size<=b) w) (eJ:vp l<=1048576) (hin:sD w (Old w) l a):
 Calls prog 8 #[.slice a l.length cap] w fun e w'=>e= .returned (.bool true)/\Ext w w':=aej a cap l w hl eJ hin
theorem lifted (os:Os) (started:os.Started) (H:Type) (enc:TypeId×Value->H) (Fi:Stop.Interp):
 ReturnsInHanded {} Tryz.checked os 8 .any ((Rows.OpenSpec.upto Rows.topMemorySpec).preRow enc prog Tryz.f8 Rows.topMemoryUptoRow.domain false Rows.topMemoryUptoRow.laid) (((Rows.OpenSpec.upto Rows.topMemorySpec).at Fi).post enc prog Tryz.f8 false true false false):=by
 obtain⟨places,hx⟩:∃places,DataW.whole enc prog ((start.Fh os).forCall (fun _ _=>0) ⟨#[], #[.slice none 0 0], []⟩).memory Tryz.f8.params.toList Rows.topMemorySpec.vars false (#[.slice none 0 0]).toList 8=some ([.nil], [],places):=⟨[],by kernel_rfl⟩
 refine returnsInHanded_of_row (C:=Tryz.checked) (s:=Rows.OpenSpec.upto Rows.topMemorySpec) Tryz.own started (by kernel_rfl) func8
  (witness_row_atRef (enc:=enc) (C:=Tryz.checked) false (start.Fh os) #[.slice none 0 0] rfl (by kernel_rfl) (by kernel_rfl) (by kernel_rfl)
   (OpenSpec.preRow_of_cond 8 hx (by kernel_rfl) (fun k hk=>by cases hk;kernel_rfl) (by kernel_rfl) (start.Za os _))) ?_
 intro W base args ds gs before T6 hW _ hk _ hL hsh _;have hkb:=hk _ rfl;have hval:∀(j:Nat) t v,Tryz.f8.params[j]? =some t->args[j]? =some v->Value.okWide prog W .any base t v:=T6;have hW':=hW;obtain⟨p,q,T7,hV,rfl,hfz,hnd⟩:=hW;have hA:DataW.TrodAll enc prog W 0 (fun _=>true) true Tryz.f8.params.toList args.toList ds p:=T7;rw [Tryz.params8] at hA hval;obtain⟨v0,vs0,d0,ds0,p0,q0,hargs,rfl,rfl,h0,r0⟩:=trodAll_cons hA;obtain⟨rfl,rfl,rfl⟩:=trodAll_nil r0;obtain rfl:args= #[v0]:=by cases args;simp_all
 obtain⟨rfl,rfl⟩:=trodVars_none hV;have aek:Rows.uptoBulkAll [d0]<=1048576:=by simpa [Rows.uptoSmall] using hkb
 have k0:=h0;have lt0:∀x∈p0,x.block<W.heap.size:=by obtain⟨m,hm⟩:=k0;exact DataW.trod_lt m _ _ _ hm
 have ael:=aem hsh hL;obtain⟨a0,agq,aen,rfl⟩:=okWide_slice underlying22 (hval 0 22 v0 rfl rfl);obtain⟨agr,ax⟩:=h0;obtain⟨a0',ags,l0,hc0,hok0,pK,T8⟩:=V4 ax;simp only [Value.slice.injEq] at hc0;obtain⟨rfl,rfl,rfl⟩:=hc0;have T8:vp l0+1<=Rows.uptoBulk d0:=T8;simp only [Rows.uptoBulkAll,Rows.uptoBulk] at aek;clear T7 T6;refine(walk a0 aen l0 W ael (by omega) pK).mono fun e W' ⟨he,T9⟩=> ?_;subst he;exact⟨_,rfl,_,_,_, [],_, [],hW',trodAll_mk1 (shut_bool underlying4 _),(trodAll_cons_mk (Below.trod Tryz.laidOut (by kernel_rfl) (of_decide_eq_true (by kernel_rfl)) k0 T9 lt0) trodAll_mk0),rfl,Below.frame T9 _,fun h=>by cases h⟩
theorem cA:(Rows.topMemoryUptoRow.inPlace==Tryz.pinned.checked.prog.inPlace 8)=true:=by kernel_rfl
theorem cB:(Rows.topMemoryUptoRow.unfollowed==Tryz.pinned.checked.prog.unfollowed 8)=true:=by kernel_rfl
theorem cC:(Rows.topMemoryUptoRow.recurses==Tryz.pinned.checked.prog.recurses 8)=true:=by kernel_rfl
theorem cD:(Rows.topMemoryUptoRow.named==Tryz.pinned.checked.prog.varsNamed 8)=true:=by kernel_rfl
theorem closed:joinedFacts Tryz.pinned.checked.prog 8 Tryz.f8 (Rows.OpenSpec.upto Rows.topMemorySpec).bare Rows.topMemoryUptoRow=true:=by
 unfold joinedFacts;rw [cA,cB,cC,cD]
 kernel_rfl
theorem said:Rows.TopMemoryUptoSaid:=
 OpenClaim.holds_of_cond 8 Tryz.f8 rfl rfl rfl rfl rfl rfl rfl ⟨rfl,rfl,rfl,rfl,rfl⟩ rfl rfl rfl rfl rfl (by kernel_rfl) func8 closed
  (of_decide_eq_true (by kernel_rfl)) (by unfold Func.isWrapper;first|(rw [if_pos (by decide+kernel)];kernel_rfl)|(rw [if_neg (by decide+kernel)];exact⟨rfl,rfl⟩))
  (fun os started H enc _ F=>by rw [OpenClaim.pre_eq_preRow];exact lifted os started H enc F)
theorem plain (f:FuncId) (fn:Func) (hf:Tryz.pinned.checked.prog.funcNamed "stairwell/stairwelltop.TopMemory" =some f) (hfn:Tryz.pinned.checked.prog.funcs[f]? =some fn):
 true=Tryz.pinned.checked.prog.looks []/\∀(j:Nat) t,fn.params[j]? =some t->Tryz.pinned.checked.prog.wantsStandIn t=false:=by
 obtain rfl:f=8:=Option.some.inj ((show prog.funcNamed "stairwell/stairwelltop.TopMemory" =some 8 by kernel_rfl).symm.trans hf)|>.symm;obtain rfl:fn=Tryz.f8:=(Option.some.inj (func8.symm.trans hfn)).symm;refine⟨by kernel_rfl,fun j t ht=> ?_⟩;rw [Tryz.params8] at ht;have h:t=22:=by simpa using Array.mem_of_getElem? ht
 rcases h with rfl
 ·exact(show prog.wantsStandIn 22=false by kernel_rfl)
theorem proved:Rows.TopMemoryUptoCardSaid:=
 Claim7.holds_tied_plain_at .later [] _ _ _ _ said (fun _ h=>by cases h) (by kernel_rfl) (fun _ h=>by cases h) topMemoryUpto_row_tie rfl ⟨rfl,rfl⟩ (by kernel_rfl) rfl plain (by kernel_rfl)
end Go.Proofs.YtlcebdaghmdkeabGreatDoor.lawTopMemory
