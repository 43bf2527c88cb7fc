/- Plain: the list of a set's nodes, rising; how many there are; whether their powers make up the set. -/
import Derived.Test.YtcciejglemfebaaP4
import Derived.Test.YtcciejglemfebaaP3
namespace Go.Proofs.Ytcciejglemfebaa
open Go

/-- The nodes up to k. -/
def listUp (s : Int) : Nat → List Int
  | 0 => []
  | k + 1 => if hasB s ((k : Int) + 1) then listUp s k ++ [(k : Int) + 1] else listUp s k

theorem listUp_len (s : Int) : ∀ k, (listUp s k).length ≤ k
  | 0 => Nat.le_refl _
  | k + 1 => by
    have := listUp_len s k
    unfold listUp
    split
    · rw [List.length_append]; simp; omega
    · omega
theorem listUp_on {s : Int} {k : Nat} (h : hasB s ((k : Int) + 1) = true) : listUp s (k + 1) = listUp s k ++ [(k : Int) + 1] := by
  rw [listUp, if_pos h]
theorem listUp_off {s : Int} {k : Nat} (h : hasB s ((k : Int) + 1) = false) : listUp s (k + 1) = listUp s k := by
  rw [listUp, if_neg (by simp [h])]

theorem listUp_nodes (s : Int) : ∀ k, k ≤ 9 → listUp s k = ((List.range' 1 k).filter (tb s)).map (fun n : Nat => (n : Int))
  | 0, _ => rfl
  | k + 1, hk => by
    have ih := listUp_nodes s k (by omega)
    have e : hasB s ((k : Int) + 1) = tb s (k + 1) := hasB_node (s := s) (n := k + 1) (by omega) hk
    rw [List.range'_concat, List.filter_append, List.map_append, ← ih]
    cases h : tb s (k + 1) with
    | true =>
      rw [listUp_on (by rw [e, h])]
      rw [show 1 + 1 * k = k + 1 from by omega]
      simp [h]
    | false =>
      rw [listUp_off (by rw [e, h])]
      rw [show 1 + 1 * k = k + 1 from by omega]
      simp [h]

def listOf (s : Int) : List Int := listUp s 9

theorem listOf_eq (s : Int) : listOf s = (nodes.filter (tb s)).map (fun n : Nat => (n : Int)) := listUp_nodes s 9 (by omega)
theorem listOf_len (s : Int) : (((listOf s).length : Nat) : Int) = cnt s := by
  rw [listOf_eq, List.length_map, ← List.countP_eq_length_filter]
  rfl
theorem listOf_le (s : Int) : (listOf s).length ≤ 9 := listUp_len s 9
theorem listOf_node {s n : Int} (h : n ∈ listOf s) : 1 ≤ n ∧ n ≤ 9 := by
  rw [listOf_eq, List.mem_map] at h
  obtain ⟨m, hm, rfl⟩ := h
  have := (List.mem_filter.1 hm).1
  clear hm
  unfold nodes at this
  have : 1 ≤ m ∧ m ≤ 9 := by revert this; revert m; decide
  omega

/-- The powers of a list, together. -/
def powers (l : List Int) : Int := (l.map one).foldl (· + ·) 0

theorem foldl_add (l : List Int) : ∀ a : Int, l.foldl (· + ·) a = a + l.foldl (· + ·) 0 := by
  induction l with
  | nil => intro a; simp
  | cons x l ih =>
    intro a
    rw [List.foldl_cons, List.foldl_cons, ih (a + x), ih (0 + x)]
    omega
theorem powers_snoc (l : List Int) (n : Int) : powers (l ++ [n]) = powers l + one n := by
  unfold powers
  rw [List.map_append, List.foldl_append]
  rfl
theorem powers_bound : ∀ l : List Int, (∀ n ∈ l, 1 ≤ n ∧ n ≤ 9) → 0 ≤ powers l ∧ powers l ≤ 512 * l.length
  | [], _ => ⟨by decide, by decide⟩
  | n :: l, h => by
    have ih := powers_bound l fun m hm => h m (List.mem_cons_of_mem _ hm)
    have hb := one_bound (h n List.mem_cons_self)
    have e : powers (n :: l) = one n + powers l := by
      unfold powers
      rw [List.map_cons, List.foldl_cons, foldl_add]
      omega
    rw [e, List.length_cons]
    omega

/-- The powers of the nodes up to k are the set's bits 1 to k. -/
theorem powers_mask : ∀ a : Nat, a < 1024 → powers (listOf (a : Int)) = ((a &&& 1022 : Nat) : Int) := by decide +kernel
theorem listOf_msk (s : Int) : listOf (msk s) = listOf s := by
  rw [listOf_eq, listOf_eq]
  congr 1
  apply List.filter_congr
  intro i hi
  show tb (bits .and .u16 s 1022) i = tb s i
  rw [tb_and, tb_1022]
  have : 1 ≤ i ∧ i ≤ 9 := by unfold nodes at hi; revert hi; revert i; decide
  simp [this.1, this.2]
theorem msk_nat {s : Int} (hs : U s) : ∃ a : Nat, a < 1024 ∧ msk s = (a : Int) ∧ a &&& 1022 = a := by
  obtain ⟨n, hn, rfl⟩ : ∃ n : Nat, n < 65536 ∧ s = (n : Int) := ⟨s.toNat, by have := hs.2; omega, by have := hs.1; omega⟩
  refine ⟨n &&& 1022, ?_, ?_, ?_⟩
  · have : n &&& 1022 ≤ 1022 := Nat.and_le_right
    omega
  · exact u16_and_nat n 1022 hn (by decide)
  · rw [Nat.and_assoc, Nat.and_self]

theorem powers_listOf {s : Int} (hs : U s) : powers (listOf s) = msk s := by
  obtain ⟨a, ha, e, h⟩ := msk_nat hs
  rw [← listOf_msk, e, powers_mask a ha, h]

/-- The powers make up the set just where it has no other bits. -/
theorem powers_may {s : Int} (hs : U s) : (powers (listOf s) == s) = mayB s := by
  rw [powers_listOf hs]
  unfold mayB
  rw [Bool.eq_iff_iff, beq_iff_eq, beq_iff_eq]
  constructor
  · intro h
    refine eq_zero_of_tb (bits_u _ _ _) fun i _ => ?_
    rw [tb_diff, ← h]
    show (tb (bits .and .u16 s 1022) i && _) = _
    rw [tb_and]
    cases tb s i <;> cases tb 1022 i <;> rfl
  · intro h
    refine tb_ext (bits_u _ _ _) hs fun i _ => ?_
    have := congrArg (tb · i) h
    rw [tb_diff, tb_zero] at this
    show tb (bits .and .u16 s 1022) i = _
    rw [tb_and]
    revert this
    cases tb s i <;> cases tb 1022 i <;> simp
end Go.Proofs.Ytcciejglemfebaa
