/- antipodelaw10.begun answers true; memory that was there is as it was. -/
import Derived.Test.YtcciejglemfebaaC3
namespace Go.Proofs.Ytcciejglemfebaa
open Go.RowKit

theorem b10_change (w : World) : Calls Try.prog 24 #[.agg (jcells 6 8 0 2 2 0 0 0 0 0 false), .agg (cells 6 8 0 3 1)] w fun x w' =>
    x = .returned (.tuple #[.agg (jcells 6 8 0 2 2 6 8 0 3 1 true), .int .i64 0]) ∧ Below w.heap.size w w' := by
  have h : changeJ ⟨⟨6, 8, 0, 2, 2⟩, ⟨0, 0, 0, 0, 0⟩, false⟩ ⟨6, 8, 0, 3, 1⟩ = (⟨⟨6, 8, 0, 2, 2⟩, ⟨6, 8, 0, 3, 1⟩, true⟩, 0) := by decide +kernel
  have c := change_calls 6 8 0 2 2 0 0 0 0 0 false 6 8 0 3 1 w
  rw [h] at c
  exact c
theorem b10_may (w : World) : Calls Try.prog 22 #[.agg (cells 6 8 0 2 2)] w fun x w' => x = .returned (.bool true) ∧ Below w.heap.size w w' := by
  have c := cmay_calls 6 8 0 2 2 w
  rw [show mayC ⟨6, 8, 0, 2, 2⟩ = true from by decide +kernel] at c
  exact c
theorem b10_elects (w : World) : Calls Try.prog 41 #[.agg (jcells 6 8 0 2 2 0 0 0 0 0 false), .int .u16 10] w fun x w' => x = .returned (.bool true) ∧ Below w.heap.size w w' := by
  have c := elects_calls 6 8 0 2 2 0 0 0 0 0 false 10 w
  rw [show electsJ ⟨⟨6, 8, 0, 2, 2⟩, ⟨0, 0, 0, 0, 0⟩, false⟩ 10 = true from by decide +kernel] at c
  exact c
theorem b10_elects2 (w : World) : Calls Try.prog 41 #[.agg (jcells 6 8 0 2 2 6 8 0 3 1 true), .int .u16 10] w fun x w' => x = .returned (.bool false) ∧ Below w.heap.size w w' := by
  have c := elects_calls 6 8 0 2 2 6 8 0 3 1 true 10 w
  rw [show electsJ ⟨⟨6, 8, 0, 2, 2⟩, ⟨6, 8, 0, 3, 1⟩, true⟩ 10 = false from by decide +kernel] at c
  exact c
theorem b10_commits (w : World) : Calls Try.prog 42 #[.agg (jcells 6 8 0 2 2 6 8 0 3 1 true), .int .u16 10] w fun x w' => x = .returned (.bool true) ∧ Below w.heap.size w w' := by
  have c := commits_calls 6 8 0 2 2 6 8 0 3 1 true 10 w
  rw [show commitsJ ⟨⟨6, 8, 0, 2, 2⟩, ⟨6, 8, 0, 3, 1⟩, true⟩ 10 = true from by decide +kernel] at c
  exact c

set_option maxHeartbeats 3200000 in
theorem begun10 (w : World) : Calls Try.prog 19 #[] w fun x w' => x = .returned (.bool true) ∧ Below w.heap.size w w' := by
  go_enter Try.func19, Try.ntmps19
  go_wp2_with fail
  refine (b10_change _).mono ?_
  rintro x w1 ⟨rfl, h1⟩
  have z1 : w.heap.size < w1.heap.size := by have := h1.size; simp only [World.size_alloc] at this; omega
  obtain ⟨c1, f1⟩ := bcell h1
  go_wp2_with fail
  refine (b10_may _).mono ?_
  rintro x w2 ⟨rfl, h2⟩
  have z2 : w.heap.size < w2.heap.size := by have := h2.size; simp only [World.size_alloc] at this; omega
  have y2 : w1.heap.size < w2.heap.size := by have := h2.size; simp only [World.size_alloc] at this; omega
  obtain ⟨c2, f2⟩ := bcell h2
  go_wp2_with fail
  refine (b10_elects _).mono ?_
  rintro x w3 ⟨rfl, h3⟩
  have z3 : w.heap.size < w3.heap.size := by have := h3.size; omega
  have y3 : w1.heap.size < w3.heap.size := by have := h3.size; omega
  obtain ⟨c3, f3⟩ := bcell h3
  go_wp2_with fail
  refine (b10_elects2 _).mono ?_
  rintro x w4 ⟨rfl, h4⟩
  have z4 : w.heap.size < w4.heap.size := by have := h4.size; omega
  have y4 : w1.heap.size < w4.heap.size := by have := h4.size; omega
  obtain ⟨c4, f4⟩ := bcell h4
  go_wp2_with fail
  refine (b10_commits _).mono ?_
  rintro x w5 ⟨rfl, h5⟩
  go_wp2_with fail
  go_ret
  refine ⟨rfl, ?_⟩
  have g1 : Below w.heap.size w w1 := ((Below.refl _ _).alloc (Nat.le_refl _) _).trans (h1.mono (by simp only [World.size_alloc]; omega))
  have g2 : Below w.heap.size w w2 := (g1.alloc (by omega) _).trans (h2.mono (by simp only [World.size_alloc]; omega))
  exact ((g2.trans (h3.mono (by omega))).trans (h4.mono (by omega))).trans (h5.mono (by omega))
end Go.Proofs.Ytcciejglemfebaa
