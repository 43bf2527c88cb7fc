/- What antipodelaw9.begun and antipodelaw9.SetsParts answer: true; memory that was there is as it was. -/
import Derived.Test.YtcciejglemfebaaDoorS3
namespace Go.Proofs.YtcciejglemfebaaDoor
open Go.RowKit

theorem of_31 (b : Nat) (c : Nat) (w : World) (h0 : w.cell? ⟨b, 0, none⟩ = some (.int .i64 3)) (h1 : w.cell? ⟨b, 1, none⟩ = some (.int .i64 1)) :
    Calls Tryd.prog 6 #[.slice (some ⟨b, 0, none⟩) 2 c] w fun e w' => e = .returned (.tuple #[.int .u16 10, .int .i64 0]) ∧ w = w' := by
  have h : Ints w (b + 1) (some ⟨b, 0, none⟩) [3, 1] := fun _ => ⟨b, 0, rfl, by omega, fun k hk => by
    have : k = 0 ∨ k = 1 := by simp at hk; omega
    rcases this with rfl | rfl
    · exact h0
    · exact h1⟩
  have e : ofGo 0 [3, 1] = (10, 0) := by decide +kernel
  have c := of_calls (some ⟨b, 0, none⟩) c [3, 1] (b + 1) w (by simp) h
  rw [e] at c
  exact c

theorem count_10 (w : World) : Calls Tryd.prog 10 #[.int .u16 10] w fun e w' => e = .returned (.int .i64 2) ∧ Drawn w w' := by
  have c := count_calls 10 w
  rw [show cnt 10 = 2 from by decide +kernel] at c
  exact c

theorem has_10_3 (w : World) : Calls Tryd.prog 11 #[.int .u16 10, .int .i64 3] w fun e w' => e = .returned (.bool true) ∧ w = w' := by
  have c := has_calls 10 3 w
  rw [show hasB 10 3 = true from by decide +kernel] at c
  exact c

theorem subsets_10 (b : Nat) (w : World) (hB : Block w b 38 #[.int .i64 0, .int .i64 (-1), .int .i64 (-1), .bool true, .int .u16 10]) :
    Calls Tryd.prog 19 #[.int .u16 10, .func (Fn.func 20) #[.pointer (some ⟨b, 0, none⟩)] #[]] w fun e w' => e = .returned (.tuple #[]) ∧
      w'.cell? ⟨b, 0, none⟩ = some (.int .i64 4) ∧ Below b w w' := by
  refine (subsets_calls 10 10 (by decide +kernel) (by decide) 4 (by decide +kernel) (by decide) b (-1) w hB).mono ?_
  rintro e w' ⟨rfl, ⟨last, h⟩, hb⟩
  exact ⟨rfl, h.cell 0, hb⟩

set_option maxHeartbeats 800000 in
theorem begun9 (w : World) : Calls Tryd.prog 5 #[] w fun e w' => e = .returned (.bool true) ∧ Below w.heap.size w w' := by
  go_enter Tryd.func5, Tryd.ntmps5
  go_wp2_with fail
  refine (of_31 _ _ _ ?_ ?_).mono ?_
  · simp [go_sem]
  · simp [go_sem]
  rintro e w' ⟨rfl, rfl⟩
  go_wp2_with fail
  refine (subsets_10 _ _ ?_).mono ?_
  · exact Block.mk_new _ _ _ (by simp)
  rintro e w1 ⟨rfl, hc, hb⟩
  go_wp2_with (first | (go_at_call 10; refine (count_10 _).mono ?_; rintro e w2 ⟨rfl, m, rfl⟩) | (go_at_call 11; refine (has_10_3 _).mono ?_; rintro e w3 ⟨rfl, rfl⟩))
  go_ret
  exact ⟨rfl, below_drewN ((((Below.refl _ _).alloc (Nat.le_refl _) _).alloc (by simp) _).trans (hb.mono (by simp))) _⟩

end Go.Proofs.YtcciejglemfebaaDoor
