/- The document's answer to sets (bit, Has, With, Meet, Join), each by a contract. -/
import Derived.Test.YtcciejglemfebaaDoorS1
import Derived.Test.YtcciejglemfebaaDoorP4
namespace Go.Proofs.YtcciejglemfebaaDoor
open Go.RowKit

set_option maxHeartbeats 400000 in
theorem bit_calls (n : Int) (w : World) :
    Calls Tryd.prog 22 #[.int .i64 n] w fun e w' => e = .returned (.int .i64 (one n)) ∧ w = w' := by
  by_cases h1 : n < 1
  · rw [one_none (by omega)]
    go_enter Tryd.func22, Tryd.ntmps22
    go_wp2
    go_ret
    exact ⟨rfl, rfl⟩
  · by_cases h9 : 9 < n
    · rw [one_none (by omega)]
      go_enter Tryd.func22, Tryd.ntmps22
      go_wp2
      go_ret
      exact ⟨rfl, rfl⟩
    · obtain ⟨m, rfl⟩ : ∃ m : Nat, n = (m : Int) := ⟨n.toNat, by omega⟩
      rw [one_pos (by omega), Int.toNat_natCast]
      have g1 : 1 ≤ (m : Int) := by omega
      have g9 : (m : Int) ≤ 9 := by omega
      clear h1 h9
      go_enter Tryd.func22, Tryd.ntmps22
      go_wp2
      go_loop [3, 4] (fun v i => ∃ (k : Nat) (x : Int), k ≤ m ∧ i = .int .i64 k ∧ v = .int .i64 x ∧ Hid (x = 2 ^ k)) (fun _ i => m - (intOf i).toNat)
      case atStart => exact ⟨0, 1, Nat.zero_le _, rfl, rfl, rfl⟩
      case round =>
        obtain ⟨k, x, hk, rfl, rfl, HX⟩ := hrel
        have hb : x ≤ 512 ∧ 1 ≤ x := by rw [HX.out]; exact pow_bound (by omega)
        have x1 := hb.1
        have x2 := hb.2
        clear hb
        by_cases hlt : k < m
        · have HN : Hid (x * 2 = 2 ^ (k + 1)) := by show _ = _; rw [HX.out]; exact pow_step k
          clear HX
          go_wp2
          go_round
          case rel => exact ⟨k + 1, x * 2, by omega, by go_num, by go_num, HN⟩
          case measure => simp [intOf]; omega
        · obtain rfl : k = m := by omega
          go_wp2
          go_ret
          exact ⟨ret_int HX.out, rfl⟩

set_option maxHeartbeats 400000 in
theorem rhas_calls (s n : Int) (w : World) (hs : U s) :
    Calls Tryd.prog 12 #[.int .u16 s, .int .i64 n] w fun e w' => e = .returned (.bool (hasB s n)) ∧ w = w' := by
  by_cases h : 1 ≤ n ∧ n ≤ 9
  · have HQ := Lib.hid (quo_has hs h)
    have hb := one_bound h
    have hbit := bit_calls n
    generalize one n = b at *
    have b1 := hb.1
    have b2 := hb.2
    have b3 : ¬ b = 0 := by omega
    have s1 := hs.1
    have s2 := hs.2
    have HB := Lib.hid hbit
    clear hb hs h hbit
    go_enter Tryd.func12, Tryd.ntmps12
    go_wp2_with (go_at_call 22; refine (HB.out _).mono ?_; rintro e w' ⟨rfl, rfl⟩)
    go_ret
    exact ⟨ret_bool (by rw [Int.tmod_eq_emod_of_nonneg (Int.ediv_nonneg s1 (by omega))]; exact HQ.out), rfl⟩
  · rw [hasB_none h]
    have hbit := bit_calls n
    rw [one_none h] at hbit
    go_enter Tryd.func12, Tryd.ntmps12
    go_wp2_with (go_at_call 22; refine (hbit _).mono ?_; rintro e w' ⟨rfl, rfl⟩)
    go_ret
    exact ⟨rfl, rfl⟩
set_option maxHeartbeats 400000 in
theorem rwith_calls (s n : Int) (w : World) (hs : U s) :
    Calls Tryd.prog 14 #[.int .u16 s, .int .i64 n] w fun e w' => e = .returned (.int .u16 (union s (one n))) ∧ w = w' := by
  have HS := Lib.hid hs
  have s1 := hs.1
  have s2 := hs.2
  cases hh : hasB s n with
  | true =>
    rw [union_has hs hh]
    clear hs
    go_enter Tryd.func14, Tryd.ntmps14
    go_wp2_with (go_at_call 12; refine (rhas_calls _ _ _ HS.out).mono ?_; rintro e w' ⟨rfl, rfl⟩)
    go_ret
    exact ⟨rfl, rfl⟩
  | false =>
    have HA := Lib.hid (add_one hh)
    have hu := one_u n
    have hbit := bit_calls n
    generalize one n = b at *
    have b1 := hu.1
    have b2 := hu.2
    have HB := Lib.hid hbit
    clear hs hu hbit
    go_enter Tryd.func14, Tryd.ntmps14
    go_wp2_with (first | (go_at_call 12; refine (rhas_calls _ _ _ HS.out).mono ?_; rintro e w' ⟨rfl, rfl⟩) | (go_at_call 22; refine (HB.out _).mono ?_; rintro e w' ⟨rfl, rfl⟩))
    go_ret
    refine ⟨ret_int ?_, rfl⟩
    rw [← HA.out, IntKind.wrap_u16]

end Go.Proofs.YtcciejglemfebaaDoor
