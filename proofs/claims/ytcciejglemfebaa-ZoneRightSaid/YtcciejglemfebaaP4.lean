/- Plain: sets by powers and quotients: what the document's answer reckons is what the bits say. -/
import Derived.Test.YtcciejglemfebaaP0
namespace Go.Proofs.Ytcciejglemfebaa
open Go

theorem one_pos {n : Int} (h : 1 ≤ n ∧ n ≤ 9) : one n = 2 ^ n.toNat := by unfold one; rw [if_pos h]
theorem one_none {n : Int} (h : ¬ (1 ≤ n ∧ n ≤ 9)) : one n = 0 := by unfold one; rw [if_neg h]
theorem hasB_none {s n : Int} (h : ¬ (1 ≤ n ∧ n ≤ 9)) : hasB s n = false := by
  unfold hasB
  by_cases h1 : 1 ≤ n <;> by_cases h2 : n ≤ 9 <;> simp [h1, h2]
  exact absurd ⟨h1, h2⟩ h
theorem hasB_node {s : Int} {n : Nat} (h : 1 ≤ n) (h9 : n ≤ 9) : hasB s n = tb s n := by
  unfold hasB
  have a : (1 : Int) ≤ n := by omega
  have b : (n : Int) ≤ 9 := by omega
  simp [a, b]

/-- A power by doubling. -/
theorem pow_step (k : Nat) : (2 : Int) ^ k * 2 = 2 ^ (k + 1) := (Int.pow_succ 2 k).symm
theorem pow_bound {k : Nat} (h : k ≤ 9) : (2 : Int) ^ k ≤ 512 ∧ 1 ≤ (2 : Int) ^ k := by
  have : k = 0 ∨ k = 1 ∨ k = 2 ∨ k = 3 ∨ k = 4 ∨ k = 5 ∨ k = 6 ∨ k = 7 ∨ k = 8 ∨ k = 9 := by omega
  rcases this with h | h | h | h | h | h | h | h | h | h <;> subst h <;> decide

theorem one_bound {n : Int} (h : 1 ≤ n ∧ n ≤ 9) : one n ≤ 512 ∧ 1 ≤ one n := by
  rw [one_pos h]
  exact pow_bound (by omega)

/-- The bit, by a quotient. -/
theorem quo_has {s n : Int} (hs : U s) (h : 1 ≤ n ∧ n ≤ 9) : (s / one n % 2 == 1) = hasB s n := by
  obtain ⟨a, ha, rfl⟩ : ∃ a : Nat, a < 65536 ∧ s = (a : Int) := ⟨s.toNat, by have := hs.2; omega, by have := hs.1; omega⟩
  obtain ⟨k, rfl⟩ : ∃ k : Nat, n = (k : Int) := ⟨n.toNat, by omega⟩
  rw [one_pos h, hasB_node (by omega) (by omega), tb_nat a ha, Int.toNat_natCast]
  have e : (a : Int) / 2 ^ k % 2 = ((a / 2 ^ k % 2 : Nat) : Int) := by simp
  rw [e, Nat.testBit_eq_decide_div_mod_eq, Bool.eq_iff_iff]
  simp only [beq_iff_eq, decide_eq_true_eq]
  omega

/-- A node that is not in: to add is to join. -/
theorem add_one {s n : Int} (h : hasB s n = false) : IntKind.u16.wrap (s + one n) = union s (one n) := by
  have h0 : BitVec.ofInt 16 s &&& BitVec.ofInt 16 (one n) = 0#16 := by
    apply BitVec.eq_of_getLsbD_eq
    intro i hi
    rw [BitVec.getLsbD_and]
    show (tb s i && tb (one n) i) = _
    rw [tb_one]
    unfold hasB at h
    by_cases h1 : 1 ≤ n <;> by_cases h2 : n ≤ 9 <;> by_cases h3 : (i : Int) = n <;> simp [h1, h2, h3]
    subst h3
    simpa [h1, h2] using h
  have e := BitVec.add_eq_or_of_and_eq_zero _ _ h0
  show _ = bits .or .u16 s (one n)
  unfold bits
  show _ = IntKind.u16.wrap ((BitVec.ofInt 16 s ||| BitVec.ofInt 16 (one n)).toNat : Int)
  rw [← e, ← BitVec.ofInt_add, wrap_toNat, BitVec.toNat_ofInt, IntKind.wrap_u16]
  omega

/-- A node that is in: to join it changes nothing. -/
theorem union_has {s n : Int} (hs : U s) (h : hasB s n = true) : union s (one n) = s := by
  refine tb_ext (bits_u _ _ _) hs fun i _ => ?_
  show tb (bits .or .u16 s (one n)) i = _
  rw [tb_or, tb_one]
  unfold hasB at h
  simp only [Bool.and_eq_true, decide_eq_true_eq] at h
  by_cases h3 : (i : Int) = n
  · have : n.toNat = i := by omega
    rw [← this, h.2]
    simp
  · simp [h3]

/-- The nodes up to k of which p is so. -/
def collect (p : Nat → Bool) : Nat → Int
  | 0 => 0
  | k + 1 => if p (k + 1) then union (collect p k) (one ((k : Int) + 1)) else collect p k

theorem collect_u (p : Nat → Bool) : ∀ k, U (collect p k)
  | 0 => show U 0 from ⟨by decide, by decide⟩
  | k + 1 => by
    unfold collect
    split
    · exact bits_u _ _ _
    · exact collect_u p k

theorem tb_collect (p : Nat → Bool) : ∀ k, k ≤ 9 → ∀ i, tb (collect p k) i = (decide (1 ≤ i) && decide (i ≤ k) && p i)
  | 0, _, i => by
    unfold collect
    rw [tb_zero]
    by_cases h : 1 ≤ i
    · have : ¬ i ≤ 0 := by omega
      simp [this]
    · simp [h]
  | k + 1, hk, i => by
    have ih := tb_collect p k (by omega) i
    unfold collect
    cases hp : p (k + 1) with
    | true =>
      rw [if_pos rfl]
      show tb (bits .or .u16 _ _) i = _
      rw [tb_or, ih, tb_one]
      by_cases h : i = k + 1
      · subst h
        have a : (1 : Int) ≤ (k : Int) + 1 := by omega
        have b : (k : Int) + 1 ≤ 9 := by omega
        simp [hp, a, b]
      · have c : ¬ (i : Int) = (k : Int) + 1 := by omega
        have d : (i ≤ k + 1) ↔ (i ≤ k) := by omega
        simp [c, d]
    | false =>
      rw [if_neg (by simp)]
      rw [ih]
      by_cases h : i = k + 1
      · subst h
        simp [hp]
      · have d : (i ≤ k + 1) ↔ (i ≤ k) := by omega
        simp [d]

def msk (a : Int) : Int := bits .and .u16 a 1022

theorem collect_meet (a b : Int) : collect (fun i => hasB a i && hasB b i) 9 = msk (inter a b) := by
  refine tb_ext (collect_u _ _) (bits_u _ _ _) fun i _ => ?_
  rw [tb_collect _ 9 (by omega)]
  show _ = tb (bits .and .u16 _ 1022) i
  rw [tb_and, tb_1022, tb_and]
  by_cases h1 : 1 ≤ i
  · by_cases h2 : i ≤ 9
    · rw [hasB_node h1 h2, hasB_node h1 h2]
      simp [h1, h2]
    · simp [h2]
  · simp [h1]

theorem collect_join (a b : Int) : collect (fun i => hasB a i || hasB b i) 9 = msk (union a b) := by
  refine tb_ext (collect_u _ _) (bits_u _ _ _) fun i _ => ?_
  rw [tb_collect _ 9 (by omega)]
  show _ = tb (bits .and .u16 _ 1022) i
  rw [tb_and, tb_1022, tb_or]
  by_cases h1 : 1 ≤ i
  · by_cases h2 : i ≤ 9
    · rw [hasB_node h1 h2, hasB_node h1 h2]
      simp [h1, h2]
    · simp [h2]
  · simp [h1]

theorem collect_on {p : Nat → Bool} {k : Nat} (h : p (k + 1) = true) : collect p (k + 1) = union (collect p k) (one ((k : Int) + 1)) := by
  rw [collect, if_pos h]
theorem collect_off {p : Nat → Bool} {k : Nat} (h : p (k + 1) = false) : collect p (k + 1) = collect p k := by
  rw [collect, if_neg (by simp [h])]

end Go.Proofs.Ytcciejglemfebaa
