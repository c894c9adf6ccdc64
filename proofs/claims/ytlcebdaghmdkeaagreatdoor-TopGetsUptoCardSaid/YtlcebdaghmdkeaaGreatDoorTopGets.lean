/- TopGets: the law returns true (what is got may be put again); the arguments hold together at most 1048576 values and letters; the library's listed variables as its text lays them. -/
import Derived.HandedShaped
import Derived.SevenTiedAt
import Derived.Test.YtlcebdaghmdkeaaGreatDoorTopGetsW
set_option linter.all false
set_option maxRecDepth 100000
set_option maxHeartbeats 64000000
namespace Go.Proofs.YtlcebdaghmdkeaaGreatDoor.lawTopGets
open Go.Proofs.Tryz
open Go.ChangeShapes Go.WideShapes Go.ChangeAt Go.RowKit
open Go.ChangeMaps (open_string shut_string)
theorem walk (a:aq) (cap:Nat) (l:List Ac) (name:ah) (w:World) (hl:iU (fun b=>w.heap.size<=b) w) (cx:iJ l<=1048576) (hnz:name.size<=1048576) (hin:jL w (Old w) l a):
 Calls prog 8 #[.slice a l.length cap, .string name] w fun e w'=>e= .returned (.bool true)/\Ext w w':=afw a cap l name w hl cx hnz hin
theorem lifted (os:Os) (started:os.Started) (H:Type) (enc:TypeId×Value->H) (Fi:Stop.Interp):
 ReturnsInHanded {} Tryz.checked os 8 .any ((Rows.OpenSpec.upto Rows.topGetsSpec).preRow enc prog Tryz.f8 Rows.topGetsUptoRow.domain false Rows.topGetsUptoRow.laid) (((Rows.OpenSpec.upto Rows.topGetsSpec).at Fi).post enc prog Tryz.f8 false true false false):=by
 obtain⟨places,hx⟩:∃places,DataW.whole enc prog ((start.pA os).forCall (fun _ _=>0) ⟨#[], #[.slice none 0 0, .string ⟨#[]⟩], []⟩).memory Tryz.f8.params.toList Rows.topGetsSpec.vars false (#[.slice none 0 0, .string ⟨#[]⟩]).toList 8=some ([.nil, .lit (.string [])], [],places):=⟨[],by kernel_rfl⟩
 refine returnsInHanded_of_row (C:=Tryz.checked) (s:=Rows.OpenSpec.upto Rows.topGetsSpec) Tryz.own started (by kernel_rfl) func8
  (witness_row_atRef (enc:=enc) (C:=Tryz.checked) false (start.pA os) #[.slice none 0 0, .string ⟨#[]⟩] rfl (by kernel_rfl) (by kernel_rfl) (by kernel_rfl)
   (OpenSpec.preRow_of_cond 8 hx (by kernel_rfl) (fun k hk=>by cases hk;kernel_rfl) (by kernel_rfl) (start.AW os _))) ?_
 intro W base args ds gs before mL hW _ hk _ hL hsh _;have hkb:=hk _ rfl;have hval:∀(j:Nat) t v,Tryz.f8.params[j]? =some t->args[j]? =some v->Value.okWide prog W .any base t v:=mL;have hW':=hW;obtain⟨p,q,mM,hV,rfl,hfz,hnd⟩:=hW;have hA:DataW.TrodAll enc prog W 0 (fun _=>true) true Tryz.f8.params.toList args.toList ds p:=mM;rw [Tryz.params8] at hA hval;obtain⟨v0,ED,d0,EE,p0,q0,hargs,rfl,rfl,h0,r0⟩:=trodAll_cons hA;obtain⟨v1,vs1,d1,ds1,p1,q1,rfl,rfl,rfl,h1,r1⟩:=trodAll_cons r0;obtain⟨rfl,rfl,rfl⟩:=trodAll_nil r1;obtain rfl:args= #[v0,v1]:=by cases args;simp_all
 obtain⟨rfl,rfl⟩:=trodVars_none hV;have td:Rows.uptoBulkAll [d0,d1]<=1048576:=by simpa [Rows.uptoSmall] using hkb
 have k0:=h0;have k1:=h1;have tj:∀x∈p0,x.block<W.heap.size:=by obtain⟨m,hm⟩:=k0;exact DataW.trod_lt m _ _ _ hm
 have EF:∀x∈p1,x.block<W.heap.size:=by obtain⟨m,hm⟩:=k1;exact DataW.trod_lt m _ _ _ hm
 have tq:=BI hsh hL;obtain⟨a0,EG,tu,rfl⟩:=okWide_slice underlying22 (hval 0 22 v0 rfl rfl);obtain⟨EH,aw⟩:=h0;obtain⟨EI,EJ,l0,hc0,hok0,ki,mN⟩:=Ak aw;simp only [Value.slice.injEq] at hc0;obtain⟨rfl,rfl,rfl⟩:=hc0;have mN:iJ l0+1<=Rows.uptoBulk d0:=mN;obtain⟨s1,rfl,rfl,rfl,ws1⟩:=open_string underlying9 (hval 1 9 v1 rfl rfl) h1;simp only [Rows.uptoBulkAll,Rows.uptoBulk] at td;have A8:s1.data.toList.length=s1.size:=Array.length_toList;clear mM mL;refine(walk a0 tu l0 s1 W tq (by omega) (by omega) ki).mono fun e W' ⟨he,kZ⟩=> ?_;subst he;exact⟨_,rfl,_,_,_, [],_, [],hW',trodAll_mk1 (shut_bool underlying4 _),(trodAll_cons_mk (Below.trod Tryz.laidOut (by kernel_rfl) (of_decide_eq_true (by kernel_rfl)) k0 kZ tj) (trodAll_cons_mk (Below.trod Tryz.laidOut (by kernel_rfl) (of_decide_eq_true (by kernel_rfl)) k1 kZ EF) trodAll_mk0)),rfl,Below.frame kZ _,fun h=>by cases h⟩
theorem cA:(Rows.topGetsUptoRow.inPlace==Tryz.pinned.checked.prog.inPlace 8)=true:=by kernel_rfl
theorem cB:(Rows.topGetsUptoRow.unfollowed==Tryz.pinned.checked.prog.unfollowed 8)=true:=by kernel_rfl
theorem cC:(Rows.topGetsUptoRow.recurses==Tryz.pinned.checked.prog.recurses 8)=true:=by kernel_rfl
theorem cD:(Rows.topGetsUptoRow.named==Tryz.pinned.checked.prog.varsNamed 8)=true:=by kernel_rfl
theorem closed:joinedFacts Tryz.pinned.checked.prog 8 Tryz.f8 (Rows.OpenSpec.upto Rows.topGetsSpec).bare Rows.topGetsUptoRow=true:=by
 unfold joinedFacts;rw [cA,cB,cC,cD]
 kernel_rfl
theorem said:Rows.TopGetsUptoSaid:=
 OpenClaim.holds_of_cond 8 Tryz.f8 rfl rfl rfl rfl rfl rfl rfl ⟨rfl,rfl,rfl,rfl,rfl⟩ rfl rfl rfl rfl rfl (by kernel_rfl) func8 closed
  (of_decide_eq_true (by kernel_rfl)) (by unfold Func.isWrapper;first|(rw [if_pos (by decide+kernel)];kernel_rfl)|(rw [if_neg (by decide+kernel)];exact⟨rfl,rfl⟩))
  (fun os started H enc _ F=>by rw [OpenClaim.pre_eq_preRow];exact lifted os started H enc F)
theorem plain (f:FuncId) (fn:Func) (hf:Tryz.pinned.checked.prog.funcNamed "stairwell/stairwelltop.TopGets" =some f) (hfn:Tryz.pinned.checked.prog.funcs[f]? =some fn):
 true=Tryz.pinned.checked.prog.looks []/\∀(j:Nat) t,fn.params[j]? =some t->Tryz.pinned.checked.prog.wantsStandIn t=false:=by
 obtain rfl:f=8:=Option.some.inj ((show prog.funcNamed "stairwell/stairwelltop.TopGets" =some 8 by kernel_rfl).symm.trans hf)|>.symm;obtain rfl:fn=Tryz.f8:=(Option.some.inj (func8.symm.trans hfn)).symm;refine⟨by kernel_rfl,fun j t ht=> ?_⟩;rw [Tryz.params8] at ht;have h:t=22\/t=9:=by simpa using Array.mem_of_getElem? ht
 rcases h with rfl|rfl
 ·exact(show prog.wantsStandIn 22=false by kernel_rfl)
 ·exact(show prog.wantsStandIn 9=false by kernel_rfl)
theorem proved:Rows.TopGetsUptoCardSaid:=
 Claim7.holds_tied_plain_at .later [] _ _ _ _ said (fun _ h=>by cases h) (by kernel_rfl) (fun _ h=>by cases h) topGetsUpto_row_tie rfl ⟨rfl,rfl⟩ (by kernel_rfl) rfl plain (by kernel_rfl)
end Go.Proofs.YtlcebdaghmdkeaaGreatDoor.lawTopGets
