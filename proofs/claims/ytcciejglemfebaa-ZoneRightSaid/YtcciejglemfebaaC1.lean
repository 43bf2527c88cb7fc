/- Package conf's May, each way through it. -/
import Derived.Test.YtcciejglemfebaaS1
import Derived.Test.YtcciejglemfebaaM0
namespace Go.Proofs.Ytcciejglemfebaa
open Go.RowKit

/-- A configuration's cells. -/
abbrev cells (v w l e c : Int) : Array Value := #[.int .u16 v, .int .u16 w, .int .u16 l, .int .i64 e, .int .i64 c]

theorem votes_calls (v wi l e c : Int) (w : World) :
    Calls Try.prog 64 #[.agg (cells v wi l e c)] w fun x w' => x = .returned (.int .u16 (union v wi)) ∧ w.alloc (.cells (cells v wi l e c) 33) = w' := by
  go_enter Try.func64, Try.ntmps64
  go_wp2
  go_ret
  exact ⟨rfl, rfl⟩

set_option maxHeartbeats 1600000 in
theorem cmay_calls (v wi l e c : Int) (w : World) :
    Calls Try.prog 22 #[.agg (cells v wi l e c)] w fun x w' => x = .returned (.bool (mayC ⟨v, wi, l, e, c⟩)) ∧ Below w.heap.size w w' := by
  have n0 := cnt_nonneg (union v wi)
  have n9 := cnt_le (union v wi)
  go_enter Try.func22, Try.ntmps22
  go_wp2_with (first | (go_at_call 63; refine (smay_calls _ _).mono ?_; rintro e w1 ⟨rfl, rfl⟩) | (go_at_call 64; refine (votes_calls _ _ _ _ _ _).mono ?_; rintro e w1 ⟨rfl, rfl⟩) | (go_at_call 16; refine (count_calls _ _).mono ?_; rintro e w1 ⟨rfl, m, rfl⟩))
  all_goals
    go_ret
    refine ⟨ret_bool ?_, by repeat (first | exact Below.refl _ _ | refine below_drewN ?_ _ | refine Below.alloc ?_ (by simp) _)⟩
    rw [Bool.eq_iff_iff, mayC_iff]
    simp only [decide_eq_true_eq, beq_iff_eq, beq_eq_false_iff_ne, ne_eq] at *
    first | (simp [*]; done) | (simp [*]; intros; omega)
end Go.Proofs.Ytcciejglemfebaa
