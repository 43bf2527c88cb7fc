/- Plain: the subsets of a set, one behind the other, by subtraction: rising, each within the set, as many as there are. -/
import Derived.Test.YtcciejglemfebaaDoorP0
namespace Go.Proofs.YtcciejglemfebaaDoor
open Go

/-- The number that comes behind x. -/
def nextN (s x : Nat) : Nat := ((x + 65536 - s) % 65536) &&& s

/-- From x on, x counted, there are just so many, rising, each within s; the last is s. -/
def okFrom (s : Nat) : Nat → Nat → Bool
  | 0, _ => false
  | 1, x => x == s && (x &&& s == x)
  | left + 2, x => x != s && (x &&& s == x) && decide (x < nextN s x) && okFrom s (left + 1) (nextN s x)

def cntN (s : Nat) : Nat := nodes.countP s.testBit

theorem okFrom_all : ∀ i, i < 512 → okFrom (2 * i) (2 ^ cntN (2 * i)) 0 = true := by decide +kernel

theorem okFrom_one {s x : Nat} (h : okFrom s 1 x = true) : x = s ∧ x &&& s = x := by
  simpa [okFrom] using h
theorem okFrom_more {s x left : Nat} (h : okFrom s (left + 2) x = true) : x ≠ s ∧ x &&& s = x ∧ x < nextN s x ∧ okFrom s (left + 1) (nextN s x) = true := by
  simpa [okFrom, and_assoc] using h

theorem mask_even (n : Nat) : ∃ i, i < 512 ∧ n &&& 1022 = 2 * i := by
  refine ⟨(n &&& 1022) / 2, ?_, ?_⟩
  · have : n &&& 1022 ≤ 1022 := Nat.and_le_right
    omega
  · have h : (n &&& 1022).testBit 0 = false := by rw [Nat.testBit_and]; simp [show Nat.testBit 1022 0 = false from rfl]
    rw [Nat.testBit_zero] at h
    simp only [decide_eq_false_iff_not] at h
    omega

theorem cntN_cnt (n : Nat) (h : n < 65536) : (cntN (n &&& 1022) : Int) = cnt (n : Int) := by
  unfold cntN cnt
  have : nodes.countP (n &&& 1022).testBit = nodes.countP (tb (n : Int)) := by
    apply List.countP_congr
    intro i hi
    rw [tb_nat n h, Nat.testBit_and]
    have : Nat.testBit 1022 i = true := by revert i; decide
    simp [this]
  rw [this]

theorem nextN_int (s x : Nat) (hs : s < 65536) (hx : x < 65536) : bits .and .u16 (IntKind.u16.wrap ((x : Int) - (s : Int))) (s : Int) = ((nextN s x : Nat) : Int) := by
  rw [IntKind.wrap_u16]
  have e : ((x : Int) - (s : Int)) % 65536 = (((x + 65536 - s) % 65536 : Nat) : Int) := by omega
  rw [e, u16_and_nat _ _ (by omega) hs]
  rfl

theorem inter_int (s x : Nat) (hs : s < 65536) (hx : x < 65536) (h : x &&& s = x) : (bits .and .u16 (x : Int) (s : Int) == (x : Int)) = true := by
  rw [u16_and_nat _ _ hx hs, h]
  simp

end Go.Proofs.YtcciejglemfebaaDoor
