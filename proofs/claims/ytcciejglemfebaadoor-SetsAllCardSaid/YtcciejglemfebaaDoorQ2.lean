/- Plain: a set is that of its list; what is put in is in, what is taken out is not, and nothing else is turned. -/
import Derived.Test.YtcciejglemfebaaDoorQ1
import Derived.Test.YtcciejglemfebaaDoorP1
namespace Go.Proofs.YtcciejglemfebaaDoor
open Go

theorem back_all : (List.range 1024).all (fun n => n % 2 == 1 || ofGo 0 (listOf (n : Int)) == ((n : Int), 0)) = true := by decide +kernel
theorem back {n : Nat} (h : n < 1024) (he : n % 2 = 0) : ofGo 0 (listOf (n : Int)) = ((n : Int), 0) := by
  have := List.all_eq_true.1 back_all n (List.mem_range.2 h)
  simp only [Bool.or_eq_true, beq_iff_eq] at this
  rcases this with h1 | h1
  · omega
  · exact h1

theorem has_with (s n : Int) : hasB (union s (one n)) n = (decide (1 ≤ n) && decide (n ≤ 9)) := by
  unfold hasB
  rw [show tb (union s (one n)) n.toNat = (tb s n.toNat || tb (one n) n.toNat) from tb_or _ _ _, tb_one]
  by_cases h1 : 1 ≤ n <;> by_cases h2 : n ≤ 9 <;> simp [h1, h2]
  omega
theorem has_less (s n : Int) : hasB (diff s (one n)) n = false := by
  unfold hasB
  rw [show tb (diff s (one n)) n.toNat = (tb s n.toNat && !tb (one n) n.toNat) from tb_diff _ _ _, tb_one]
  by_cases h1 : 1 ≤ n <;> by_cases h2 : n ≤ 9 <;> simp [h1, h2]
  intro _
  omega
theorem has_with_other {s n m : Int} (h : m ≠ n) : hasB (union s (one n)) m = hasB s m := by
  unfold hasB
  rw [show tb (union s (one n)) m.toNat = (tb s m.toNat || tb (one n) m.toNat) from tb_or _ _ _, tb_one]
  by_cases h1 : 1 ≤ m <;> by_cases h2 : m ≤ 9 <;> simp [h1, h2]
  intro _ _ h3
  omega
theorem has_less_other {s n m : Int} (h : m ≠ n) : hasB (diff s (one n)) m = hasB s m := by
  unfold hasB
  rw [show tb (diff s (one n)) m.toNat = (tb s m.toNat && !tb (one n) m.toNat) from tb_diff _ _ _, tb_one]
  by_cases h1 : 1 ≤ m <;> by_cases h2 : m ≤ 9 <;> simp [h1, h2]
  omega

theorem may_of {s : Int} (h : ∀ i, i < 16 → tb s i = true → 1 ≤ i ∧ i ≤ 9) : mayB s = true := by
  unfold mayB
  rw [beq_iff_eq]
  refine tb_ext (bits_u _ _ _) ⟨by decide, by decide⟩ fun i hi => ?_
  show tb (bits .andNot .u16 s 1022) i = _
  rw [tb_diff, tb_1022, tb_zero]
  cases ht : tb s i with
  | false => rfl
  | true =>
    have := h i hi ht
    simp [this.1, this.2]
theorem msk_bit {s : Int} {i : Nat} (h : tb (msk s) i = true) : 1 ≤ i ∧ i ≤ 9 := by
  have e : tb (msk s) i = (tb s i && (decide (1 ≤ i) && decide (i ≤ 9))) := by
    show tb (bits .and .u16 s 1022) i = _
    rw [tb_and, tb_1022]
  rw [e] at h
  simp at h
  exact h.2
theorem may_with (s n : Int) : mayB (union (msk s) (one n)) = true := may_of fun i _ h => by
  rw [show tb (union (msk s) (one n)) i = (tb (msk s) i || tb (one n) i) from tb_or _ _ _, Bool.or_eq_true] at h
  rcases h with h | h
  · exact msk_bit h
  · rw [tb_one] at h
    simp at h
    omega
theorem may_less (s n : Int) : mayB (diff (msk s) (one n)) = true := may_of fun i _ h => by
  rw [show tb (diff (msk s) (one n)) i = (tb (msk s) i && !tb (one n) i) from tb_diff _ _ _, Bool.and_eq_true] at h
  exact msk_bit h.1
end Go.Proofs.YtcciejglemfebaaDoor
