/- Plain: a node taken out; the lowest node of a set, and the list made by taking it out again and again. -/
import Derived.Test.YtcciejglemfebaaDoorP5
namespace Go.Proofs.YtcciejglemfebaaDoor
open Go

theorem less_none {s n : Int} (hs : U s) (h : hasB s n = false) : diff s (one n) = s := by
  refine tb_ext (bits_u _ _ _) hs fun i hi => ?_
  show tb (bits .andNot .u16 s (one n)) i = _
  rw [tb_diff, tb_one]
  by_cases hn : 1 ≤ n ∧ n ≤ 9
  · by_cases hin : (i : Int) = n
    · have e : tb s i = false := by
        have := hasB_node (s := s) (n := i) (by omega) (by omega)
        rw [← this, hin]; exact h
      rw [e]; rfl
    · simp [hin]
  · have : (decide (1 ≤ n) && decide (n ≤ 9)) = false := by
      rw [← Bool.decide_and]; exact decide_eq_false hn
    rw [this]; simp

theorem less_has {s n : Int} (hs : U s) (h : hasB s n = true) : IntKind.u16.wrap (s - one n) = diff s (one n) := by
  have hn : 1 ≤ n ∧ n ≤ 9 := Decidable.byContradiction fun hc => by rw [hasB_none hc] at h; cases h
  obtain ⟨m, rfl⟩ : ∃ m : Nat, n = (m : Int) := ⟨n.toNat, by omega⟩
  have hm := hasB_node (s := s) (n := m) (by omega) (by omega)
  have hd : hasB (diff s (one m)) m = false := by
    rw [hasB_node (by omega) (by omega)]
    show tb (bits .andNot .u16 s (one m)) m = false
    rw [tb_diff, tb_one]
    simp [hn.1, hn.2]
  have e := add_one hd
  have hu : union (diff s (one (m : Int))) (one m) = s := by
    refine tb_ext (bits_u _ _ _) hs fun i hi => ?_
    show tb (bits .or .u16 (bits .andNot .u16 s (one m)) (one m)) i = _
    rw [tb_or, tb_diff, tb_one]
    by_cases him : i = m
    · subst him
      rw [show tb s i = true from hm.symm.trans h]
      simp [hn.1, hn.2]
    · have : ¬ ((i : Int) = m) := by omega
      simp [this]
  rw [hu, IntKind.wrap_u16] at e
  have h1 := bits_u .andNot s (one m)
  have h2 := one_u (m : Int)
  change U (diff s (one m)) at h1
  unfold U at h1 h2 hs
  rw [IntKind.wrap_u16]
  omega

/-- The lowest node. -/
def tz (n : Nat) : Nat := ([1, 2, 3, 4, 5, 6, 7, 8, 9].find? n.testBit).getD 0
def lst : Nat → Nat → List Int
  | 0, _ => []
  | f + 1, n => if n = 0 then [] else (tz n : Int) :: lst f (n &&& (n - 1))

theorem low_all : (List.range 1024).all (fun n => n % 2 == 1 || n == 0 ||
    (decide (1 ≤ tz n ∧ tz n ≤ 9) && (bits .and .u16 (n : Int) (IntKind.u16.wrap (-(n : Int))) == ((2 ^ tz n : Nat) : Int)) && (bits .and .u16 (n : Int) (IntKind.u16.wrap ((n : Int) - 1)) == ((n &&& (n - 1) : Nat) : Int)) &&
      decide ((n &&& (n - 1)) < n) && ((n &&& (n - 1)) % 2 == 0) && (lst 10 n == (tz n : Int) :: lst 10 (n &&& (n - 1))))) = true := by decide +kernel

theorem low {n : Nat} (h : n < 1024) (he : n % 2 = 0) (h0 : n ≠ 0) :
    (1 ≤ tz n ∧ tz n ≤ 9) ∧ bits .and .u16 (n : Int) (IntKind.u16.wrap (-(n : Int))) = ((2 ^ tz n : Nat) : Int) ∧ bits .and .u16 (n : Int) (IntKind.u16.wrap ((n : Int) - 1)) = ((n &&& (n - 1) : Nat) : Int) ∧
      (n &&& (n - 1)) < n ∧ (n &&& (n - 1)) % 2 = 0 ∧ lst 10 n = (tz n : Int) :: lst 10 (n &&& (n - 1)) := by
  have := List.all_eq_true.1 low_all n (List.mem_range.2 h)
  simp only [Bool.or_eq_true, Bool.and_eq_true, beq_iff_eq, decide_eq_true_eq] at this
  rcases this with (h1 | h1) | ⟨⟨⟨⟨⟨h1, h2⟩, h3⟩, h4⟩, h5⟩, h6⟩
  · omega
  · exact absurd h1 h0
  · exact ⟨h1, h2, h3, h4, h5, h6⟩

theorem lst_all : (List.range 1024).all (fun n => n % 2 == 1 || lst 10 n == listOf (n : Int)) = true := by decide +kernel
theorem lst_list {n : Nat} (h : n < 1024) (he : n % 2 = 0) : lst 10 n = listOf (n : Int) := by
  have := List.all_eq_true.1 lst_all n (List.mem_range.2 h)
  simp only [Bool.or_eq_true, beq_iff_eq] at this
  rcases this with h1 | h1
  · omega
  · exact h1
theorem lst_zero : lst 10 0 = [] := rfl
end Go.Proofs.YtcciejglemfebaaDoor
