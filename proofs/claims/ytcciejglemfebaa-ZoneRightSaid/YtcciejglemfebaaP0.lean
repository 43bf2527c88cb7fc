/- Plain facts about sets of nodes as numbers of sixteen bits: no program, no memory. -/
import Derived.Laws.BitsAllLaws
namespace Go.Proofs.Ytcciejglemfebaa
open Go

/-- A number of sixteen bits. -/
def U (a : Int) : Prop := 0 ≤ a ∧ a < 65536

/-- Is bit i set? -/
def tb (s : Int) (i : Nat) : Bool := (BitVec.ofInt 16 s).getLsbD i

/-- The set of one node; of none: nothing. -/
def one (n : Int) : Int := if 1 ≤ n ∧ n ≤ 9 then 2 ^ n.toNat else 0

/-- Is a node in? -/
def hasB (s n : Int) : Bool := decide (1 ≤ n) && decide (n ≤ 9) && tb s n.toNat

def nodes : List Nat := [1, 2, 3, 4, 5, 6, 7, 8, 9]

/-- How many nodes there are. -/
def cnt (s : Int) : Int := (nodes.countP (tb s) : Int)

abbrev inter (a b : Int) : Int := bits .and .u16 a b
abbrev union (a b : Int) : Int := bits .or .u16 a b
abbrev diff (a b : Int) : Int := bits .andNot .u16 a b

theorem bits_u (op : BinOp) (a b : Int) : U (bits op .u16 a b) := by
  unfold bits U
  rw [IntKind.wrap_u16]
  omega

theorem wrap_toNat (v : BitVec 16) : IntKind.u16.wrap (v.toNat : Int) = (v.toNat : Int) := by
  rw [IntKind.wrap_u16]
  have := v.isLt
  omega

theorem ofInt_toNat (v : BitVec 16) : BitVec.ofInt 16 (v.toNat : Int) = v := by
  apply BitVec.eq_of_toNat_eq
  rw [ofInt_u16 _ v.isLt]

theorem tb_and (a b : Int) (i : Nat) : tb (bits .and .u16 a b) i = (tb a i && tb b i) := by
  unfold tb bits
  show (BitVec.ofInt 16 (IntKind.u16.wrap ((BitVec.ofInt 16 a &&& BitVec.ofInt 16 b).toNat : Int))).getLsbD i = _
  rw [wrap_toNat, ofInt_toNat, BitVec.getLsbD_and]

theorem tb_or (a b : Int) (i : Nat) : tb (bits .or .u16 a b) i = (tb a i || tb b i) := by
  unfold tb bits
  show (BitVec.ofInt 16 (IntKind.u16.wrap ((BitVec.ofInt 16 a ||| BitVec.ofInt 16 b).toNat : Int))).getLsbD i = _
  rw [wrap_toNat, ofInt_toNat, BitVec.getLsbD_or]

theorem tb_lt (a : Int) (i : Nat) (h : 16 ≤ i) : tb a i = false := by
  unfold tb
  exact BitVec.getLsbD_of_ge _ _ h

theorem tb_diff (a b : Int) (i : Nat) : tb (bits .andNot .u16 a b) i = (tb a i && !tb b i) := by
  by_cases hi : i < 16
  · unfold tb bits
    show (BitVec.ofInt 16 (IntKind.u16.wrap ((BitVec.ofInt 16 a &&& ~~~ (BitVec.ofInt 16 b)).toNat : Int))).getLsbD i = _
    rw [wrap_toNat, ofInt_toNat, BitVec.getLsbD_and, BitVec.getLsbD_not]
    simp [hi]
  · rw [tb_lt _ _ (by omega), tb_lt a _ (by omega)]
    rfl

theorem tb_ext {a b : Int} (ha : U a) (hb : U b) (h : ∀ i, i < 16 → tb a i = tb b i) : a = b := by
  unfold U at ha hb
  have e : BitVec.ofInt 16 a = BitVec.ofInt 16 b := by
    apply BitVec.eq_of_getLsbD_eq
    intro i hi
    exact h i hi
  have e2 := congrArg BitVec.toNat e
  rw [show a = ((a.toNat : Nat) : Int) from by omega, show b = ((b.toNat : Nat) : Int) from by omega, ofInt_u16 _ (by omega), ofInt_u16 _ (by omega)] at e2
  omega

theorem tb_zero (i : Nat) : tb 0 i = false := by
  unfold tb
  simp

theorem eq_zero_of_tb {a : Int} (ha : U a) (h : ∀ i, i < 16 → tb a i = false) : a = 0 :=
  tb_ext ha ⟨by omega, by omega⟩ fun i hi => by rw [h i hi, tb_zero]

theorem tb_nat (n : Nat) (h : n < 65536) (i : Nat) : tb (n : Int) i = n.testBit i := by
  unfold tb
  rw [BitVec.getLsbD, ofInt_u16 n h]

theorem tb_1022 : ∀ i, tb 1022 i = (decide (1 ≤ i) && decide (i ≤ 9)) := by
  intro i
  by_cases hi : i < 16
  · revert i
    decide +kernel
  · rw [tb_lt _ _ (by omega)]
    simp
    omega

theorem one_u (n : Int) : U (one n) := by
  unfold one U
  split
  · rename_i h
    have : n.toNat = 1 ∨ n.toNat = 2 ∨ n.toNat = 3 ∨ n.toNat = 4 ∨ n.toNat = 5 ∨ n.toNat = 6 ∨ n.toNat = 7 ∨ n.toNat = 8 ∨ n.toNat = 9 := by omega
    rcases this with h | h | h | h | h | h | h | h | h <;> rw [h] <;> decide
  · omega

theorem node_cases {n : Int} (h : 1 ≤ n ∧ n ≤ 9) : n = 1 ∨ n = 2 ∨ n = 3 ∨ n = 4 ∨ n = 5 ∨ n = 6 ∨ n = 7 ∨ n = 8 ∨ n = 9 := by omega

theorem tb_one (n : Int) (i : Nat) : tb (one n) i = (decide (1 ≤ n) && decide (n ≤ 9) && decide ((i : Int) = n)) := by
  by_cases h : 1 ≤ n ∧ n ≤ 9
  · by_cases hi : i < 16
    · rcases node_cases h with rfl | rfl | rfl | rfl | rfl | rfl | rfl | rfl | rfl <;> revert i <;> decide +kernel
    · rw [tb_lt _ _ (by omega)]
      simp
      omega
  · unfold one
    rw [if_neg h, tb_zero]
    simp
    omega

theorem ne_zero_iff {a : Int} (ha : U a) : (a != 0) = (List.range 16).any (tb a) := by
  by_cases h : a = 0
  · subst h
    decide +kernel
  · have h1 : (a != 0) = true := by simpa using h
    rw [h1]
    symm
    rw [List.any_eq_true]
    apply Classical.byContradiction
    intro hn
    apply h
    apply eq_zero_of_tb ha
    intro i hi
    cases hb : tb a i with
    | false => rfl
    | true => exact absurd ⟨i, List.mem_range.2 hi, hb⟩ hn

theorem hasB_eq (s n : Int) : (bits .and .u16 s (one n) != 0) = hasB s n := by
  rw [ne_zero_iff (bits_u _ _ _), Bool.eq_iff_iff, List.any_eq_true]
  unfold hasB
  constructor
  · rintro ⟨i, hi, h⟩
    rw [tb_and, tb_one] at h
    simp only [Bool.and_eq_true, decide_eq_true_eq] at h ⊢
    obtain ⟨h1, ⟨h2, h3⟩, h4⟩ := h
    refine ⟨⟨h2, h3⟩, ?_⟩
    rw [← h4]
    exact h1
  · intro h
    simp only [Bool.and_eq_true, decide_eq_true_eq] at h
    refine ⟨n.toNat, List.mem_range.2 (by omega), ?_⟩
    rw [tb_and, tb_one, h.2]
    simp only [Bool.and_eq_true, decide_eq_true_eq]
    exact ⟨trivial, h.1, by omega⟩

/-! ### how many bits are set -/
def pc8 (k : Nat) : Nat := [0, 1, 2, 3, 4, 5, 6, 7].countP k.testBit

def pop8tab : List UInt8 :=
  [0, 1, 1, 2, 1, 2, 2, 3, 1, 2, 2, 3, 2, 3, 3, 4, 1, 2, 2, 3, 2, 3, 3, 4, 2, 3, 3, 4, 3, 4, 4, 5, 1, 2, 2, 3, 2, 3, 3, 4, 2, 3, 3, 4, 3, 4, 4, 5, 2, 3, 3, 4, 3, 4, 4, 5, 3, 4, 4, 5, 4, 5, 5, 6,
   1, 2, 2, 3, 2, 3, 3, 4, 2, 3, 3, 4, 3, 4, 4, 5, 2, 3, 3, 4, 3, 4, 4, 5, 3, 4, 4, 5, 4, 5, 5, 6, 2, 3, 3, 4, 3, 4, 4, 5, 3, 4, 4, 5, 4, 5, 5, 6, 3, 4, 4, 5, 4, 5, 5, 6, 4, 5, 5, 6, 5, 6, 6, 7,
   1, 2, 2, 3, 2, 3, 3, 4, 2, 3, 3, 4, 3, 4, 4, 5, 2, 3, 3, 4, 3, 4, 4, 5, 3, 4, 4, 5, 4, 5, 5, 6, 2, 3, 3, 4, 3, 4, 4, 5, 3, 4, 4, 5, 4, 5, 5, 6, 3, 4, 4, 5, 4, 5, 5, 6, 4, 5, 5, 6, 5, 6, 6, 7,
   2, 3, 3, 4, 3, 4, 4, 5, 3, 4, 4, 5, 4, 5, 5, 6, 3, 4, 4, 5, 4, 5, 5, 6, 4, 5, 5, 6, 5, 6, 6, 7, 3, 4, 4, 5, 4, 5, 5, 6, 4, 5, 5, 6, 5, 6, 6, 7, 4, 5, 5, 6, 5, 6, 6, 7, 5, 6, 6, 7, 6, 7, 7, 8]

theorem pop8tab_size : pop8tab.length = 256 := by decide +kernel

theorem pop8tab_pc : ∀ k, k < 256 → (pop8tab[k]?.getD 0).toNat = pc8 k := by decide +kernel

/-- The bits of two halves, together: those of the whole. -/
theorem pc16 (x : Nat) (h : x < 65536) : pc8 (x / 256) + pc8 (x % 256) = [0, 1, 2, 3, 4, 5, 6, 7, 8, 9, 10, 11, 12, 13, 14, 15].countP (tb (x : Int)) := by
  have e : [0, 1, 2, 3, 4, 5, 6, 7, 8, 9, 10, 11, 12, 13, 14, 15] = [0, 1, 2, 3, 4, 5, 6, 7] ++ [0, 1, 2, 3, 4, 5, 6, 7].map (· + 8) := rfl
  have e2 : tb (x : Int) = x.testBit := funext (tb_nat x h)
  rw [e, List.countP_append, List.countP_map, e2]
  unfold pc8
  have a : [0, 1, 2, 3, 4, 5, 6, 7].countP (x % 256).testBit = [0, 1, 2, 3, 4, 5, 6, 7].countP x.testBit := by
    apply List.countP_congr
    intro i hi
    rw [show (256 : Nat) = 2 ^ 8 from rfl, Nat.testBit_mod_two_pow]
    have : i < 8 := by revert i; decide
    simp [this]
  have b : (x / 256).testBit = x.testBit ∘ (· + 8) := by
    funext i
    rw [show (256 : Nat) = 2 ^ 8 from rfl, Nat.testBit_div_two_pow]
    rfl
  rw [a, b]
  omega

/-- Of the bits 1 to 9 alone. -/
theorem cnt_mask (s : Int) : ([0, 1, 2, 3, 4, 5, 6, 7, 8, 9, 10, 11, 12, 13, 14, 15].countP (tb (bits .and .u16 s 1022)) : Int) = cnt s := by
  unfold cnt nodes
  have e : [0, 1, 2, 3, 4, 5, 6, 7, 8, 9, 10, 11, 12, 13, 14, 15] = [0] ++ ([1, 2, 3, 4, 5, 6, 7, 8, 9] ++ [10, 11, 12, 13, 14, 15]) := rfl
  rw [e, List.countP_append, List.countP_append]
  have a : [0].countP (tb (bits .and .u16 s 1022)) = 0 := by
    rw [List.countP_eq_zero]
    intro i hi
    rw [tb_and, tb_1022]
    have : i = 0 := by simpa using hi
    subst this
    simp
  have b : [10, 11, 12, 13, 14, 15].countP (tb (bits .and .u16 s 1022)) = 0 := by
    rw [List.countP_eq_zero]
    intro i hi
    rw [tb_and, tb_1022]
    have : ¬ i ≤ 9 := by revert i; decide
    simp [this]
  have c : [1, 2, 3, 4, 5, 6, 7, 8, 9].countP (tb (bits .and .u16 s 1022)) = [1, 2, 3, 4, 5, 6, 7, 8, 9].countP (tb s) := by
    apply List.countP_congr
    intro i hi
    rw [tb_and, tb_1022]
    have : 1 ≤ i ∧ i ≤ 9 := by revert i; decide
    simp [this.1, this.2]
  rw [a, b, c]
  omega
end Go.Proofs.Ytcciejglemfebaa
