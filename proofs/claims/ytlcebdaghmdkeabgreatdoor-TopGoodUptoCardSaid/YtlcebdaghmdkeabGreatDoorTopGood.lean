/- TopGood: the law returns true (all things are named and good); the arguments hold together at most 1048576 values and letters; the library's listed variables as its text lays them. -/
import Derived.HandedShaped
import Derived.SevenTiedAt
import Derived.Test.YtlcebdaghmdkeabGreatDoorTopGoodW
set_option linter.all false
set_option maxRecDepth 100000
set_option maxHeartbeats 64000000
namespace Go.Proofs.YtlcebdaghmdkeabGreatDoor.lawTopGood
open Go.Proofs.Tryz
open Go.ChangeShapes Go.WideShapes Go.ChangeAt Go.RowKit
open Go.ChangeMaps (open_string shut_string)
theorem walk (a:au) (cap:Nat) (l:List Ac) (w:World) (hl:jl (fun b=>w.heap.size<=b) w) (cX:j3 l<=1048576) (hin:gI w (Old w) l a):
 Calls prog 5 #[.slice a l.length cap] w fun e w'=>e= .returned (.bool true)/\Ext w w':=afB a cap l w hl cX hin
theorem lifted (os:Os) (started:os.Started) (H:Type) (enc:TypeId×Value->H) (Fi:Stop.Interp):
 ReturnsInHanded {} Tryz.checked os 5 .any ((Rows.OpenSpec.upto Rows.topGoodSpec).preRow enc prog Tryz.f5 Rows.topGoodUptoRow.domain false Rows.topGoodUptoRow.laid) (((Rows.OpenSpec.upto Rows.topGoodSpec).at Fi).post enc prog Tryz.f5 false true false false):=by
 obtain⟨places,hx⟩:∃places,DataW.whole enc prog ((start.qQ os).forCall (fun _ _=>0) ⟨#[], #[.slice none 0 0], []⟩).memory Tryz.f5.params.toList Rows.topGoodSpec.vars false (#[.slice none 0 0]).toList 8=some ([.nil], [],places):=⟨[],by kernel_rfl⟩
 refine returnsInHanded_of_row (C:=Tryz.checked) (s:=Rows.OpenSpec.upto Rows.topGoodSpec) Tryz.own started (by kernel_rfl) func5
  (witness_row_atRef (enc:=enc) (C:=Tryz.checked) false (start.qQ os) #[.slice none 0 0] rfl (by kernel_rfl) (by kernel_rfl) (by kernel_rfl)
   (OpenSpec.preRow_of_cond 8 hx (by kernel_rfl) (fun k hk=>by cases hk;kernel_rfl) (by kernel_rfl) (start.Dv os _))) ?_
 intro W base args ds gs before pN hW _ hk _ hL hsh _;have hkb:=hk _ rfl;have hval:∀(j:Nat) t v,Tryz.f5.params[j]? =some t->args[j]? =some v->Value.okWide prog W .any base t v:=pN;have hW':=hW;obtain⟨p,q,pO,hV,rfl,hfz,hnd⟩:=hW;have hA:DataW.TrodAll enc prog W 0 (fun _=>true) true Tryz.f5.params.toList args.toList ds p:=pO;rw [Tryz.params5] at hA hval;obtain⟨v0,Ix,d0,Iy,p0,q0,hargs,rfl,rfl,h0,r0⟩:=trodAll_cons hA;obtain⟨rfl,rfl,rfl⟩:=trodAll_nil r0;obtain rfl:args= #[v0]:=by cases args;simp_all
 obtain⟨rfl,rfl⟩:=trodVars_none hV;have wh:Rows.uptoBulkAll [d0]<=1048576:=by simpa [Rows.uptoSmall] using hkb
 have k0:=h0;have wk:∀x∈p0,x.block<W.heap.size:=by obtain⟨m,hm⟩:=k0;exact DataW.trod_lt m _ _ _ hm
 have wu:=ES hsh hL;obtain⟨a0,Iz,wA,rfl⟩:=okWide_slice underlying22 (hval 0 22 v0 rfl rfl);obtain⟨IA,aw⟩:=h0;obtain⟨IB,IC,l0,hc0,hok0,kU,pP⟩:=Cu aw;simp only [Value.slice.injEq] at hc0;obtain⟨rfl,rfl,rfl⟩:=hc0;have pP:j3 l0+1<=Rows.uptoBulk d0:=pP;simp only [Rows.uptoBulkAll,Rows.uptoBulk] at wh;clear pO pN;refine(walk a0 wA l0 W wu (by omega) kU).mono fun e W' ⟨he,oP⟩=> ?_;subst he;exact⟨_,rfl,_,_,_, [],_, [],hW',trodAll_mk1 (shut_bool underlying4 _),(trodAll_cons_mk (Below.trod Tryz.laidOut (by kernel_rfl) (of_decide_eq_true (by kernel_rfl)) k0 oP wk) trodAll_mk0),rfl,Below.frame oP _,fun h=>by cases h⟩
theorem cA:(Rows.topGoodUptoRow.inPlace==Tryz.pinned.checked.prog.inPlace 5)=true:=by kernel_rfl
theorem cB:(Rows.topGoodUptoRow.unfollowed==Tryz.pinned.checked.prog.unfollowed 5)=true:=by kernel_rfl
theorem cC:(Rows.topGoodUptoRow.recurses==Tryz.pinned.checked.prog.recurses 5)=true:=by kernel_rfl
theorem cD:(Rows.topGoodUptoRow.named==Tryz.pinned.checked.prog.varsNamed 5)=true:=by kernel_rfl
theorem closed:joinedFacts Tryz.pinned.checked.prog 5 Tryz.f5 (Rows.OpenSpec.upto Rows.topGoodSpec).bare Rows.topGoodUptoRow=true:=by
 unfold joinedFacts;rw [cA,cB,cC,cD]
 kernel_rfl
theorem said:Rows.TopGoodUptoSaid:=
 OpenClaim.holds_of_cond 5 Tryz.f5 rfl rfl rfl rfl rfl rfl rfl ⟨rfl,rfl,rfl,rfl,rfl⟩ rfl rfl rfl rfl rfl (by kernel_rfl) func5 closed
  (of_decide_eq_true (by kernel_rfl)) (by unfold Func.isWrapper;first|(rw [if_pos (by decide+kernel)];kernel_rfl)|(rw [if_neg (by decide+kernel)];exact⟨rfl,rfl⟩))
  (fun os started H enc _ F=>by rw [OpenClaim.pre_eq_preRow];exact lifted os started H enc F)
theorem plain (f:FuncId) (fn:Func) (hf:Tryz.pinned.checked.prog.funcNamed "stairwell/stairwelltop.TopGood" =some f) (hfn:Tryz.pinned.checked.prog.funcs[f]? =some fn):
 true=Tryz.pinned.checked.prog.looks []/\∀(j:Nat) t,fn.params[j]? =some t->Tryz.pinned.checked.prog.wantsStandIn t=false:=by
 obtain rfl:f=5:=Option.some.inj ((show prog.funcNamed "stairwell/stairwelltop.TopGood" =some 5 by kernel_rfl).symm.trans hf)|>.symm;obtain rfl:fn=Tryz.f5:=(Option.some.inj (func5.symm.trans hfn)).symm;refine⟨by kernel_rfl,fun j t ht=> ?_⟩;rw [Tryz.params5] at ht;have h:t=22:=by simpa using Array.mem_of_getElem? ht
 rcases h with rfl
 ·exact(show prog.wantsStandIn 22=false by kernel_rfl)
theorem proved:Rows.TopGoodUptoCardSaid:=
 Claim7.holds_tied_plain_at .later [] _ _ _ _ said (fun _ h=>by cases h) (by kernel_rfl) (fun _ h=>by cases h) topGoodUpto_row_tie rfl ⟨rfl,rfl⟩ (by kernel_rfl) rfl plain (by kernel_rfl)
end Go.Proofs.YtlcebdaghmdkeabGreatDoor.lawTopGood
