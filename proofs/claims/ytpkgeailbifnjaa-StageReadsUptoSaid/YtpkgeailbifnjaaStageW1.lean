/- The walks of package stage and of its reference, function by function. -/
import Derived.Test.YtpkgeailbifnjaaStageP
set_option linter.all false
namespace Go.Proofs.Ytpkgeailbifnjaa
open Go.RowKit

theorem done_any (s : ByteArray) (w : World) : Calls Try.prog 26 #[.string s] w fun e w' => e = .returned (.agg #[.string s, .string s, .int .i64 1, .int .i64 0, .int .i64 100, .int .i64 0]) ∧ Ext w w' := by
  go_enter Try.func26, Try.ntmps26
  go_wp2
  exact bodyPost_ret (v := .agg #[.string s, .string s, .int .i64 1, .int .i64 0, .int .i64 100, .int .i64 0]) (by simp [results, Try.results26, go_sem]) rfl ⟨rfl, (Ext.refl _).alloc _⟩

theorem healthy_any (s : ByteArray) (w : World) : Calls Try.prog 27 #[.string s] w fun e w' => e = .returned (.agg #[.string s, .string s, .int .i64 1, .int .i64 0, .int .i64 100, .int .i64 0]) ∧ Ext w w' := by
  go_enter Try.func27, Try.ntmps27
  go_wp2
  exact bodyPost_ret (v := .agg #[.string s, .string s, .int .i64 1, .int .i64 0, .int .i64 100, .int .i64 0]) (by simp [results, Try.results27, go_sem]) rfl ⟨rfl, (Ext.refl _).alloc _⟩

theorem goodStep_any (wt p : Int) (w : World) : Calls Try.prog 22 #[.agg #[.int .i64 wt, .int .i64 p]] w fun e w' => e = .returned (.bool (goodStepB wt p)) ∧ Ext w w' := by
  go_enter Try.func22, Try.ntmps22
  go_wp2
  all_goals go_ret
  all_goals refine ⟨ret_bool ?_, (Ext.refl _).alloc _⟩
  all_goals go_light
  all_goals unfold goodStepB
  all_goals grind

theorem isStep_any (wt p : Int) (w : World) : Calls Try.prog 23 #[.agg #[.int .i64 wt, .int .i64 p]] w fun e w' => e = .returned (.bool (goodStepB wt p)) ∧ Ext w w' := by
  go_enter Try.func23, Try.ntmps23
  go_wp2
  all_goals go_ret
  all_goals refine ⟨ret_bool ?_, (Ext.refl _).alloc _⟩
  all_goals go_light
  all_goals unfold goodStepB
  all_goals grind

set_option maxHeartbeats 2000000 in
theorem good_any (s : St) (w : World) : Calls Try.prog 14 #[.agg #[.string s.sb, .string s.cm, .int .i64 s.ph, .int .i64 s.sp, .int .i64 s.wt, .int .i64 s.si]] w fun e w' => e = .returned (.bool (goodStB s)) ∧ Ext w w' := by
  obtain ⟨sb, cm, ph, sp, wt, si⟩ := s
  go_enter Try.func14, Try.ntmps14
  go_wp2
  all_goals go_ret
  all_goals refine ⟨ret_bool ?_, (Ext.refl _).alloc _⟩
  all_goals go_light
  all_goals simp only [goodStB]
  all_goals grind

set_option maxHeartbeats 2000000 in
theorem isStatus_any (s : St) (w : World) : Calls Try.prog 25 #[.agg #[.string s.sb, .string s.cm, .int .i64 s.ph, .int .i64 s.sp, .int .i64 s.wt, .int .i64 s.si]] w fun e w' => e = .returned (.bool (goodStB s)) ∧ Ext w w' := by
  obtain ⟨sb, cm, ph, sp, wt, si⟩ := s
  go_enter Try.func25, Try.ntmps25
  go_wp2
  all_goals go_ret
  all_goals refine ⟨ret_bool ?_, (Ext.refl _).alloc _⟩
  all_goals go_light
  all_goals simp only [goodStB]
  all_goals grind

end Go.Proofs.Ytpkgeailbifnjaa
