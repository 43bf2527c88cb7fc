/- Plain: of the small configurations, which may be: just those whose quorums meet. -/
import Derived.Test.YtcciejglemfebaaP6
namespace Go.Proofs.Ytcciejglemfebaa
open Go

def witN : Nat → Int
  | 0 => 0
  | 1 => 0
  | k + 2 => union (witN (k + 1)) (one ((k : Int) + 2))

theorem witN_u : ∀ k, U (witN k)
  | 0 => show U 0 from ⟨by decide, by decide⟩
  | 1 => show U 0 from ⟨by decide, by decide⟩
  | k + 2 => show U (bits .or .u16 _ _) from bits_u _ _ _

def goodB (n : Nat) (e k : Int) : Bool :=
  decide (1 ≤ e) && (decide (1 ≤ k) && (decide (e ≤ n) && (decide (k ≤ n) && (meetR ⟨2, witN n, 0, e, k⟩ ⟨2, witN n, 0, e, k⟩ && meetR ⟨2, witN n, 0, e, k⟩ ⟨2, witN n, 0, e, e⟩))))

theorem good_1 : ∀ e : Nat, e < 4 → ∀ k : Nat, k < 4 → mayC ⟨2, witN 1, 0, (e : Int) - 1, (k : Int) - 1⟩ = goodB 1 ((e : Int) - 1) ((k : Int) - 1) := by decide +kernel
theorem good_2 : ∀ e : Nat, e < 5 → ∀ k : Nat, k < 5 → mayC ⟨2, witN 2, 0, (e : Int) - 1, (k : Int) - 1⟩ = goodB 2 ((e : Int) - 1) ((k : Int) - 1) := by decide +kernel
theorem good_3 : ∀ e : Nat, e < 6 → ∀ k : Nat, k < 6 → mayC ⟨2, witN 3, 0, (e : Int) - 1, (k : Int) - 1⟩ = goodB 3 ((e : Int) - 1) ((k : Int) - 1) := by decide +kernel

theorem good_all (n : Nat) (h1 : 1 ≤ n) (h3 : n ≤ 3) (e k : Int) (he : -1 ≤ e) (he2 : e ≤ n + 1) (hk : -1 ≤ k) (hk2 : k ≤ n + 1) : mayC ⟨2, witN n, 0, e, k⟩ = goodB n e k := by
  obtain ⟨a, rfl⟩ : ∃ a : Nat, e = (a : Int) - 1 := ⟨(e + 1).toNat, by omega⟩
  obtain ⟨b, rfl⟩ : ∃ b : Nat, k = (b : Int) - 1 := ⟨(k + 1).toNat, by omega⟩
  have : n = 1 ∨ n = 2 ∨ n = 3 := by omega
  rcases this with rfl | rfl | rfl
  · exact good_1 a (by omega) b (by omega)
  · exact good_2 a (by omega) b (by omega)
  · exact good_3 a (by omega) b (by omega)
end Go.Proofs.Ytcciejglemfebaa
