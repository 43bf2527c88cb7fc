/- antipodelaw11.begun answers true; Light, by a contract. -/
import Derived.Test.YtcciejglemfebaaZ13
namespace Go.Proofs.Ytcciejglemfebaa
open Go.RowKit

theorem begun_check_val : checkP [0, 0, 1, 1, 2] [] ⟨[1, 1], [0, 0, 1], [], 0, 0, 2⟩ = (⟨10, 32, 0, 2, 2⟩, 0) := by decide +kernel
theorem begun_surv_val : survP [0, 1] ⟨6, 0, 0, 2, 2⟩ 2 = (false, 0) := by decide +kernel

theorem begun_check (g : Nat) (w : World) (hg : g + 1 + 1 < w.heap.size)
    (a0 : w.cell? ⟨g, 0, none⟩ = some (.int .i64 0)) (a1 : w.cell? ⟨g, 1, none⟩ = some (.int .i64 0)) (a2 : w.cell? ⟨g, 2, none⟩ = some (.int .i64 1)) (a3 : w.cell? ⟨g, 3, none⟩ = some (.int .i64 1)) (a4 : w.cell? ⟨g, 4, none⟩ = some (.int .i64 2))
    (b0 : w.cell? ⟨g + 1, 0, none⟩ = some (.int .i64 1)) (b1 : w.cell? ⟨g + 1, 1, none⟩ = some (.int .i64 1))
    (c0 : w.cell? ⟨g + 1 + 1, 0, none⟩ = some (.int .i64 0)) (c1 : w.cell? ⟨g + 1 + 1, 1, none⟩ = some (.int .i64 0)) (c2 : w.cell? ⟨g + 1 + 1, 2, none⟩ = some (.int .i64 1)) :
    Calls Try.prog 30 #[.slice (some ⟨g, 0, none⟩) 5 5, .agg #[.slice (some ⟨g + 1, 0, none⟩) 2 2, .slice (some ⟨g + 1 + 1, 0, none⟩) 3 3, .slice none 0 0, .int .i64 0, .int .i64 0, .int .i64 2], .slice none 0 0] w fun x w' =>
      x = .returned (.tuple #[.agg (cells 10 32 0 2 2), .int .i64 0]) ∧ Below w.heap.size w w' := by
  have hA : Ints w w.heap.size (some ⟨g, 0, none⟩) [0, 0, 1, 1, 2] := fun _ => ⟨g, 0, rfl, by omega, fun k hk => by
    match k, hk with
    | 0, _ => exact a0
    | 1, _ => exact a1
    | 2, _ => exact a2
    | 3, _ => exact a3
    | 4, _ => exact a4
    | k + 5, hk => simp at hk; omega⟩
  have hB : Ints w w.heap.size (some ⟨g + 1, 0, none⟩) [1, 1] := fun _ => ⟨g + 1, 0, rfl, by omega, fun k hk => by
    match k, hk with
    | 0, _ => exact b0
    | 1, _ => exact b1
    | k + 2, hk => simp at hk; omega⟩
  have hC : Ints w w.heap.size (some ⟨g + 1 + 1, 0, none⟩) [0, 0, 1] := fun _ => ⟨g + 1 + 1, 0, rfl, by omega, fun k hk => by
    match k, hk with
    | 0, _ => exact c0
    | 1, _ => exact c1
    | 2, _ => exact c2
    | k + 3, hk => simp at hk; omega⟩
  have e := check_calls (some ⟨g, 0, none⟩) 5 [0, 0, 1, 1, 2] (some ⟨g + 1, 0, none⟩) [1, 1] 2 (some ⟨g + 1 + 1, 0, none⟩) [0, 0, 1] 3 none [] 0 0 0 2 none 0 [] w hA hB hC Ints.nil_ Ints.nil_ (by simp) (by simp) (by simp) (by simp) (by simp)
  rw [begun_check_val] at e
  exact e

theorem begun_surv (g : Nat) (w : World) (hg : g < w.heap.size) (a0 : w.cell? ⟨g, 0, none⟩ = some (.int .i64 0)) (a1 : w.cell? ⟨g, 1, none⟩ = some (.int .i64 1)) :
    Calls Try.prog 55 #[.slice (some ⟨g, 0, none⟩) 2 2, .agg (cells 6 0 0 2 2), .int .i64 2] w fun x w' =>
      x = .returned (.tuple #[.bool false, .int .i64 0]) ∧ Below w.heap.size w w' := by
  have hA : Ints w w.heap.size (some ⟨g, 0, none⟩) [0, 1] := fun _ => ⟨g, 0, rfl, by omega, fun k hk => by
    match k, hk with
    | 0, _ => exact a0
    | 1, _ => exact a1
    | k + 2, hk => simp at hk; omega⟩
  have e := surv_calls (some ⟨g, 0, none⟩) 2 [0, 1] 6 0 0 2 2 2 w (by simp) hA
  rw [begun_surv_val] at e
  exact e

set_option maxHeartbeats 1600000 in
theorem begun11 (w : World) : Calls Try.prog 28 #[] w fun x w' => x = .returned (.bool true) ∧ Below w.heap.size w w' := by
  go_enter Try.func28, Try.ntmps28
  go_wp2_with fail
  refine (begun_check w.heap.size _ ?_ ?_ ?_ ?_ ?_ ?_ ?_ ?_ ?_ ?_ ?_).mono ?_
  · simp
  any_goals (simp [go_sem]; done)
  rintro x w1 ⟨rfl, hb1⟩
  have hB1 : Below w.heap.size w w1 := below_3 hb1
  have hz : w.heap.size < w1.heap.size := by have := hb1.size; simp at this; omega
  clear hb1
  go_wp2_with fail
  refine (begun_surv _ _ ?_ ?_ ?_).mono ?_
  rotate_right
  · rintro x w2 ⟨rfl, hb2⟩
    have k1 : Block ((w1.alloc (.cells (cells 10 32 0 2 2) 33)).alloc (.cells #[.int .i64 0, .int .i64 1] 3)) w1.heap.size 33 (cells 10 32 0 2 2) := (Block.mk_new _ _ _ rfl).alloc _
    have k2 := k1.below hb2 k1.lt
    have x0 := k2.cell 0
    have x1 := k2.cell 1
    simp at x0 x1
    have hB2 := Lib.hid (hB1.trans ((below_2 hb2).mono hB1.size))
    clear hb2 k1 k2
    go_wp2_with fail
    go_ret
    exact ⟨rfl, hB2.out⟩
  · simp
  all_goals (simp [go_sem]; done)

/-- Are the lists not too long? -/
def lightB (regs l0 l1 l2 load : List Int) : Bool := decide (regs.length ≤ 30) && decide (l0.length ≤ 30) && decide (l1.length ≤ 30) && decide (l2.length ≤ 30) && decide (load.length ≤ 30)

set_option maxHeartbeats 1600000 in
theorem light_calls (A : Option Addr) (C : Nat) (regs : List Int) (a0 : Option Addr) (l0 : List Int) (c0 : Nat) (a1 : Option Addr) (l1 : List Int) (c1 : Nat) (a2 : Option Addr) (l2 : List Int) (c2 : Nat) (ze zc zs : Int) (A' : Option Addr) (C' : Nat) (load : List Int) (w : World)
    (n : regs.length ≤ 9223372036854775807) (n0 : l0.length ≤ 9223372036854775807) (n1 : l1.length ≤ 9223372036854775807) (n2 : l2.length ≤ 9223372036854775807) (n' : load.length ≤ 9223372036854775807) :
    Calls Try.prog 29 #[.slice A regs.length C, .agg (zcells a0 l0 c0 a1 l1 c1 a2 l2 c2 ze zc zs), .slice A' load.length C'] w fun x w' =>
      x = .returned (.bool (lightB regs l0 l1 l2 load)) ∧ Below w.heap.size w w' := by
  have HB : Hid (Below w.heap.size w (w.alloc (.cells (zcells a0 l0 c0 a1 l1 c1 a2 l2 c2 ze zc zs) 47))) := (Below.refl _ _).alloc (Nat.le_refl _) _
  by_cases h : regs.length ≤ 30
  · by_cases h0 : l0.length ≤ 30
    · by_cases h1 : l1.length ≤ 30
      · by_cases h2 : l2.length ≤ 30
        · by_cases h' : load.length ≤ 30
          all_goals
            have HF : Hid (lightB regs l0 l1 l2 load = decide (load.length ≤ 30)) := by show _ = _; simp [lightB, h, h0, h1, h2]
            go_enter Try.func29, Try.ntmps29
            go_wp2_with fail
            go_ret
            rw [HF.out]
            exact ⟨ret_bool (by simp; try omega), HB.out⟩
        · have HF : Hid (lightB regs l0 l1 l2 load = false) := by show _ = _; simp [lightB, h2]
          go_enter Try.func29, Try.ntmps29
          go_wp2_with fail
          go_ret
          rw [HF.out]
          exact ⟨rfl, HB.out⟩
      · have HF : Hid (lightB regs l0 l1 l2 load = false) := by show _ = _; simp [lightB, h1]
        go_enter Try.func29, Try.ntmps29
        go_wp2_with fail
        go_ret
        rw [HF.out]
        exact ⟨rfl, HB.out⟩
    · have HF : Hid (lightB regs l0 l1 l2 load = false) := by show _ = _; simp [lightB, h0]
      go_enter Try.func29, Try.ntmps29
      go_wp2_with fail
      go_ret
      rw [HF.out]
      exact ⟨rfl, HB.out⟩
  · have HF : Hid (lightB regs l0 l1 l2 load = false) := by show _ = _; simp [lightB, h]
    go_enter Try.func29, Try.ntmps29
    go_wp2_with fail
    go_ret
    rw [HF.out]
    exact ⟨rfl, HB.out⟩
end Go.Proofs.Ytcciejglemfebaa
