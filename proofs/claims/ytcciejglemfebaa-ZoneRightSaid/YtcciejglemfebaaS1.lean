/- The small functions of package sets, each by a contract: one, Has, With, May, Count (and math/bits.OnesCount16). -/
import Derived.Test.YtcciejglemfebaaProg
import Derived.Test.YtcciejglemfebaaP0
import Derived.Test.YtcciejglemfebaaP3
import Derived.WalkKit
import Derived.KernelRfl
import Derived.BigQuiet
import Derived.Deep.QuietTactic
import Derived.WalkLawsBesides
import Derived.Lib.Hide
namespace Go.Proofs.Ytcciejglemfebaa
open Go.RowKit

theorem ret_int {k : IntKind} {a b : Int} (h : a = b) : Ending.returned (.int k a) = .returned (.int k b) := by rw [h]
theorem ret_bool {a b : Bool} (h : a = b) : Ending.returned (.bool a) = .returned (.bool b) := by rw [h]

/-- What a call that draws, and does nothing else, leaves. -/
def Drawn (w w' : World) : Prop := ∃ n, w' = w.drewN n

theorem pow_small {n : Int} (h : 1 ≤ n ∧ n ≤ 9) : IntKind.u16.wrap (2 ^ n.toNat) = 2 ^ n.toNat := by
  have : n.toNat = 1 ∨ n.toNat = 2 ∨ n.toNat = 3 ∨ n.toNat = 4 ∨ n.toNat = 5 ∨ n.toNat = 6 ∨ n.toNat = 7 ∨ n.toNat = 8 ∨ n.toNat = 9 := by omega
  rcases this with h | h | h | h | h | h | h | h | h <;> rw [h] <;> decide

theorem one_calls (n : Int) (w : World) :
    Calls Try.prog 83 #[.int .i64 n] w fun e w' => e = .returned (.int .u16 (one n)) ∧ w = w' := by
  by_cases h1 : n < 1
  · have e : one n = 0 := by unfold one; rw [if_neg (by omega)]
    rw [e]
    go_enter Try.func83, Try.ntmps83
    go_wp2
    go_ret
    exact ⟨rfl, rfl⟩
  · by_cases h9 : 9 < n
    · have e : one n = 0 := by unfold one; rw [if_neg (by omega)]
      rw [e]
      go_enter Try.func83, Try.ntmps83
      go_wp2
      go_ret
      exact ⟨rfl, rfl⟩
    · have e : one n = IntKind.u16.wrap (2 ^ n.toNat) := by unfold one; rw [if_pos (by omega), pow_small (by omega)]
      rw [e]
      have g1 : 1 ≤ n := by omega
      have g9 : n ≤ 9 := by omega
      clear e h1 h9
      go_enter Try.func83, Try.ntmps83
      go_wp2
      go_ret
      exact ⟨rfl, rfl⟩

theorem has_calls (s n : Int) (w : World) :
    Calls Try.prog 58 #[.int .u16 s, .int .i64 n] w fun e w' => e = .returned (.bool (hasB s n)) ∧ w = w' := by
  rw [← hasB_eq]
  go_enter Try.func58, Try.ntmps58
  go_wp2_with (go_at_call 83; refine (one_calls _ _).mono ?_; rintro e w' ⟨rfl, rfl⟩)
  go_ret
  exact ⟨rfl, rfl⟩

theorem with_calls (s n : Int) (w : World) :
    Calls Try.prog 81 #[.int .u16 s, .int .i64 n] w fun e w' => e = .returned (.int .u16 (union s (one n))) ∧ w = w' := by
  go_enter Try.func81, Try.ntmps81
  go_wp2_with (go_at_call 83; refine (one_calls _ _).mono ?_; rintro e w' ⟨rfl, rfl⟩)
  go_ret
  exact ⟨rfl, rfl⟩

theorem smay_calls (s : Int) (w : World) :
    Calls Try.prog 63 #[.int .u16 s] w fun e w' => e = .returned (.bool (mayB s)) ∧ w = w' := by
  unfold mayB
  go_enter Try.func63, Try.ntmps63
  go_wp2
  go_ret
  exact ⟨rfl, rfl⟩

/-! ### math/bits.OnesCount16 -/
theorem size_4 (a b c d : List UInt8) (S : ByteArray) (h : ByteArray.mk (List.toArray (List.append (List.append a b) (List.append c d))) = S) (hn : List.append (List.append a b) (List.append c d) = pop8tab) : S.size = 256 := by
  subst h
  rw [hn]
  show (List.toArray _).size = 256
  rw [List.size_toArray, pop8tab_size]

theorem get_4 (a b c d : List UInt8) (S : ByteArray) (h : ByteArray.mk (List.toArray (List.append (List.append a b) (List.append c d))) = S) (hn : List.append (List.append a b) (List.append c d) = pop8tab) (k : Nat) (hk : k < S.size) : S[k].toNat = pc8 k := by
  have hs := size_4 a b c d S h hn
  subst h
  rw [← pop8tab_pc k (by omega), ← hn]
  rw [hs] at hk
  have hl : k < (List.append (List.append a b) (List.append c d)).length := by rw [hn, pop8tab_size]; exact hk
  rw [List.getElem?_eq_getElem hl]
  rfl

theorem low_u8 (x : Int) (h : 0 ≤ x) (h9 : x < 65536) : bits .and .u16 x 255 = ((x.toNat % 256 : Nat) : Int) := by
  rw [u16_and x 255 h h9 (by decide) (by decide)]
  show ((x.toNat &&& 255 : Nat) : Int) = _
  rw [nat_mask8]

theorem pc8_le (k : Nat) : pc8 k ≤ 8 := List.countP_le_length

def ones16 (x : Int) : Int := (([0, 1, 2, 3, 4, 5, 6, 7, 8, 9, 10, 11, 12, 13, 14, 15].countP (tb x) : Nat) : Int)

theorem ones16_eq (x : Int) (h : 0 ≤ x) (h9 : x < 65536) : ((pc8 (x / 256).toNat : Int) + (pc8 (x.toNat % 256) : Int)) % 256 = ones16 x := by
  have e := pc16 x.toNat (by omega)
  have e2 : ((x.toNat : Nat) : Int) = x := by omega
  have e3 : (x / 256).toNat = x.toNat / 256 := by omega
  rw [e2] at e
  unfold ones16
  rw [← e, e3]
  have a := pc8_le (x.toNat / 256)
  have b := pc8_le (x.toNat % 256)
  omega

set_option maxHeartbeats 400000 in
set_option maxRecDepth 10000 in
theorem ones_calls (x : Int) (w : World) (h1 : 0 ≤ x) (h9 : x < 65536) :
    Calls Try.prog 59 #[.int .u16 x] w fun e w' => e = .returned (.int .i64 (ones16 x)) ∧ Drawn w w' := by
  go_enter Try.func59, Try.ntmps59
  go_wp2
  generalize hS : (ByteArray.mk (List.toArray (List.append (List.append _ _) (List.append _ _)))) = S
  have hsz : S.size = 256 := size_4 _ _ _ _ S hS (by decide +kernel)
  have hget : ∀ k (hk : k < S.size), S[k].toNat = pc8 k := get_4 _ _ _ _ S hS (by decide +kernel)
  clear hS
  have g1 : x / 256 < (S.size : Int) := by omega
  have g2 : 0 ≤ x / 256 := by omega
  have g3 : bits .and .u16 x 255 < (S.size : Int) := by rw [hsz, low_u8 x h1 h9]; omega
  have g4 : 0 ≤ bits .and .u16 x 255 := by rw [low_u8 x h1 h9]; omega
  have HG := Lib.hid hget
  clear hsz hget
  go_quiet (fail)
  go_wp2
  go_ret
  refine ⟨?_, nq, rfl⟩
  refine ret_int ?_
  rw [HG.out, HG.out, low_u8 x h1 h9, Int.toNat_natCast]
  exact ones16_eq x h1 h9

theorem count_calls (s : Int) (w : World) :
    Calls Try.prog 16 #[.int .u16 s] w fun e w' => e = .returned (.int .i64 (cnt s)) ∧ Drawn w w' := by
  have e : ones16 (bits .and .u16 s 1022) = cnt s := cnt_mask s
  rw [← e]
  have H := bits_u .and s 1022
  clear e
  go_enter Try.func16, Try.ntmps16
  go_wp2_with (go_at_call 59; refine (ones_calls _ _ H.1 H.2).mono ?_; rintro e w' ⟨rfl, n, rfl⟩)
  go_ret
  exact ⟨rfl, _, rfl⟩

end Go.Proofs.Ytcciejglemfebaa
