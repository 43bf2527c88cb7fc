/- The document's answer to sets (bit, Has, With, Meet, Join), each by a contract. -/
import Derived.Test.YtcciejglemfebaaS1
import Derived.Test.YtcciejglemfebaaP4
namespace Go.Proofs.Ytcciejglemfebaa
open Go.RowKit

set_option maxHeartbeats 400000 in
theorem bit_calls (n : Int) (w : World) :
    Calls Try.prog 60 #[.int .i64 n] w fun e w' => e = .returned (.int .i64 (one n)) ∧ w = w' := by
  by_cases h1 : n < 1
  · rw [one_none (by omega)]
    go_enter Try.func60, Try.ntmps60
    go_wp2
    go_ret
    exact ⟨rfl, rfl⟩
  · by_cases h9 : 9 < n
    · rw [one_none (by omega)]
      go_enter Try.func60, Try.ntmps60
      go_wp2
      go_ret
      exact ⟨rfl, rfl⟩
    · obtain ⟨m, rfl⟩ : ∃ m : Nat, n = (m : Int) := ⟨n.toNat, by omega⟩
      rw [one_pos (by omega), Int.toNat_natCast]
      have g1 : 1 ≤ (m : Int) := by omega
      have g9 : (m : Int) ≤ 9 := by omega
      clear h1 h9
      go_enter Try.func60, Try.ntmps60
      go_wp2
      go_loop [3, 4] (fun v i => ∃ (k : Nat) (x : Int), k ≤ m ∧ i = .int .i64 k ∧ v = .int .i64 x ∧ Hid (x = 2 ^ k)) (fun _ i => m - (intOf i).toNat)
      case atStart => exact ⟨0, 1, Nat.zero_le _, rfl, rfl, rfl⟩
      case round =>
        obtain ⟨k, x, hk, rfl, rfl, HX⟩ := hrel
        have hb : x ≤ 512 ∧ 1 ≤ x := by rw [HX.out]; exact pow_bound (by omega)
        have x1 := hb.1
        have x2 := hb.2
        clear hb
        by_cases hlt : k < m
        · have HN : Hid (x * 2 = 2 ^ (k + 1)) := by show _ = _; rw [HX.out]; exact pow_step k
          clear HX
          go_wp2
          go_round
          case rel => exact ⟨k + 1, x * 2, by omega, by go_num, by go_num, HN⟩
          case measure => simp [intOf]; omega
        · obtain rfl : k = m := by omega
          go_wp2
          go_ret
          exact ⟨ret_int HX.out, rfl⟩

set_option maxHeartbeats 400000 in
theorem rhas_calls (s n : Int) (w : World) (hs : U s) :
    Calls Try.prog 32 #[.int .u16 s, .int .i64 n] w fun e w' => e = .returned (.bool (hasB s n)) ∧ w = w' := by
  by_cases h : 1 ≤ n ∧ n ≤ 9
  · have HQ := Lib.hid (quo_has hs h)
    have hb := one_bound h
    have hbit := bit_calls n
    generalize one n = b at *
    have b1 := hb.1
    have b2 := hb.2
    have b3 : ¬ b = 0 := by omega
    have s1 := hs.1
    have s2 := hs.2
    have HB := Lib.hid hbit
    clear hb hs h hbit
    go_enter Try.func32, Try.ntmps32
    go_wp2_with (go_at_call 60; refine (HB.out _).mono ?_; rintro e w' ⟨rfl, rfl⟩)
    go_ret
    exact ⟨ret_bool (by rw [Int.tmod_eq_emod_of_nonneg (Int.ediv_nonneg s1 (by omega))]; exact HQ.out), rfl⟩
  · rw [hasB_none h]
    have hbit := bit_calls n
    rw [one_none h] at hbit
    go_enter Try.func32, Try.ntmps32
    go_wp2_with (go_at_call 60; refine (hbit _).mono ?_; rintro e w' ⟨rfl, rfl⟩)
    go_ret
    exact ⟨rfl, rfl⟩
set_option maxHeartbeats 400000 in
theorem rwith_calls (s n : Int) (w : World) (hs : U s) :
    Calls Try.prog 20 #[.int .u16 s, .int .i64 n] w fun e w' => e = .returned (.int .u16 (union s (one n))) ∧ w = w' := by
  have HS := Lib.hid hs
  have s1 := hs.1
  have s2 := hs.2
  cases hh : hasB s n with
  | true =>
    rw [union_has hs hh]
    clear hs
    go_enter Try.func20, Try.ntmps20
    go_wp2_with (go_at_call 32; refine (rhas_calls _ _ _ HS.out).mono ?_; rintro e w' ⟨rfl, rfl⟩)
    go_ret
    exact ⟨rfl, rfl⟩
  | false =>
    have HA := Lib.hid (add_one hh)
    have hu := one_u n
    have hbit := bit_calls n
    generalize one n = b at *
    have b1 := hu.1
    have b2 := hu.2
    have HB := Lib.hid hbit
    clear hs hu hbit
    go_enter Try.func20, Try.ntmps20
    go_wp2_with (first | (go_at_call 32; refine (rhas_calls _ _ _ HS.out).mono ?_; rintro e w' ⟨rfl, rfl⟩) | (go_at_call 60; refine (HB.out _).mono ?_; rintro e w' ⟨rfl, rfl⟩))
    go_ret
    refine ⟨ret_int ?_, rfl⟩
    rw [← HA.out, IntKind.wrap_u16]

set_option maxHeartbeats 800000 in
theorem rmeet_calls (a b : Int) (w : World) (ha : U a) (hb : U b) :
    Calls Try.prog 35 #[.int .u16 a, .int .u16 b] w fun e w' => e = .returned (.int .u16 (msk (inter a b))) ∧ w = w' := by
  rw [← collect_meet]
  have HA := Lib.hid ha
  have HB := Lib.hid hb
  clear ha hb
  generalize hp : (fun i : Nat => hasB a i && hasB b i) = p
  have HP : Hid (∀ i : Nat, p i = (hasB a i && hasB b i)) := fun i => by rw [← hp]
  clear hp
  go_enter Try.func35, Try.ntmps35
  go_wp2
  go_loop [5, 6] (fun s i => ∃ k : Nat, k ≤ 9 ∧ i = .int .i64 ((k : Int) + 1) ∧ s = .int .u16 (collect p k)) (fun _ i => 10 - (intOf i).toNat)
  case atStart => exact ⟨0, by omega, rfl, rfl⟩
  case round =>
    obtain ⟨k, hk, rfl, rfl⟩ := hrel
    by_cases hlt : k < 9
    · have HC := Lib.hid (collect_u p k)
      have hpk := HP.out (k + 1)
      have hq1 : hasB a ((k : Int) + 1) = hasB a ((k + 1 : Nat) : Int) := by congr 1
      have hq2 : hasB b ((k : Int) + 1) = hasB b ((k + 1 : Nat) : Int) := by congr 1
      rw [← hq1, ← hq2] at hpk
      clear hq1 hq2
      cases h1 : hasB a ((k : Int) + 1) with
      | false =>
        have HN : Hid (collect p (k + 1) = collect p k) := collect_off (by rw [hpk, h1]; rfl)
        clear hpk
        go_wp2_with (first | (go_at_call 32; refine (rhas_calls _ _ _ HA.out).mono ?_; rintro e w' ⟨rfl, rfl⟩))
        go_round
        case rel => exact ⟨k + 1, by omega, by go_num, by rw [HN.out]⟩
        case measure => simp [intOf]; omega
      | true =>
        cases h2 : hasB b ((k : Int) + 1) with
        | false =>
          have HN : Hid (collect p (k + 1) = collect p k) := collect_off (by rw [hpk, h1, h2]; rfl)
          clear hpk
          go_wp2_with fail
          refine (rhas_calls _ _ _ HA.out).mono ?_; rintro e w' ⟨rfl, rfl⟩
          go_wp2_with fail
          refine (rhas_calls _ _ _ HB.out).mono ?_; rintro e w' ⟨rfl, rfl⟩
          go_wp2_with fail
          go_round
          case rel => exact ⟨k + 1, by omega, by go_num, by rw [HN.out]⟩
          case measure => simp [intOf]; omega
        | true =>
          have HN : Hid (collect p (k + 1) = union (collect p k) (one ((k : Int) + 1))) := collect_on (by rw [hpk, h1, h2]; rfl)
          clear hpk
          go_wp2_with fail
          refine (rhas_calls _ _ _ HA.out).mono ?_; rintro e w' ⟨rfl, rfl⟩
          go_wp2_with fail
          refine (rhas_calls _ _ _ HB.out).mono ?_; rintro e w' ⟨rfl, rfl⟩
          go_wp2_with fail
          refine (rwith_calls _ _ _ HC.out).mono ?_; rintro e w' ⟨rfl, rfl⟩
          go_wp2_with fail
          go_round
          case rel => exact ⟨k + 1, by omega, by go_num, by rw [HN.out]⟩
          case measure => simp [intOf]; omega
    · obtain rfl : k = 9 := by omega
      go_wp2
      go_ret
      exact ⟨rfl, rfl⟩
set_option maxHeartbeats 800000 in
theorem rjoin_calls (a b : Int) (w : World) (ha : U a) (hb : U b) :
    Calls Try.prog 66 #[.int .u16 a, .int .u16 b] w fun e w' => e = .returned (.int .u16 (msk (union a b))) ∧ w = w' := by
  rw [← collect_join]
  have HA := Lib.hid ha
  have HB := Lib.hid hb
  clear ha hb
  generalize hp : (fun i : Nat => hasB a i || hasB b i) = p
  have HP : Hid (∀ i : Nat, p i = (hasB a i || hasB b i)) := fun i => by rw [← hp]
  clear hp
  go_enter Try.func66, Try.ntmps66
  go_wp2
  go_loop [5, 6] (fun s i => ∃ k : Nat, k ≤ 9 ∧ i = .int .i64 ((k : Int) + 1) ∧ s = .int .u16 (collect p k)) (fun _ i => 10 - (intOf i).toNat)
  case atStart => exact ⟨0, by omega, rfl, rfl⟩
  case round =>
    obtain ⟨k, hk, rfl, rfl⟩ := hrel
    by_cases hlt : k < 9
    · have HC := Lib.hid (collect_u p k)
      have hpk := HP.out (k + 1)
      have hq1 : hasB a ((k : Int) + 1) = hasB a ((k + 1 : Nat) : Int) := by congr 1
      have hq2 : hasB b ((k : Int) + 1) = hasB b ((k + 1 : Nat) : Int) := by congr 1
      rw [← hq1, ← hq2] at hpk
      clear hq1 hq2
      cases h1 : hasB a ((k : Int) + 1) with
      | true =>
        have HN : Hid (collect p (k + 1) = union (collect p k) (one ((k : Int) + 1))) := collect_on (by rw [hpk, h1]; rfl)
        clear hpk
        go_wp2_with fail
        refine (rhas_calls _ _ _ HA.out).mono ?_; rintro e w' ⟨rfl, rfl⟩
        go_wp2_with fail
        refine (rwith_calls _ _ _ HC.out).mono ?_; rintro e w' ⟨rfl, rfl⟩
        go_wp2_with fail
        go_round
        case rel => exact ⟨k + 1, by omega, by go_num, by rw [HN.out]⟩
        case measure => simp [intOf]; omega
      | false =>
        cases h2 : hasB b ((k : Int) + 1) with
        | true =>
          have HN : Hid (collect p (k + 1) = union (collect p k) (one ((k : Int) + 1))) := collect_on (by rw [hpk, h1, h2]; rfl)
          clear hpk
          go_wp2_with fail
          refine (rhas_calls _ _ _ HA.out).mono ?_; rintro e w' ⟨rfl, rfl⟩
          go_wp2_with fail
          refine (rhas_calls _ _ _ HB.out).mono ?_; rintro e w' ⟨rfl, rfl⟩
          go_wp2_with fail
          refine (rwith_calls _ _ _ HC.out).mono ?_; rintro e w' ⟨rfl, rfl⟩
          go_wp2_with fail
          go_round
          case rel => exact ⟨k + 1, by omega, by go_num, by rw [HN.out]⟩
          case measure => simp [intOf]; omega
        | false =>
          have HN : Hid (collect p (k + 1) = collect p k) := collect_off (by rw [hpk, h1, h2]; rfl)
          clear hpk
          go_wp2_with fail
          refine (rhas_calls _ _ _ HA.out).mono ?_; rintro e w' ⟨rfl, rfl⟩
          go_wp2_with fail
          refine (rhas_calls _ _ _ HB.out).mono ?_; rintro e w' ⟨rfl, rfl⟩
          go_wp2_with fail
          go_round
          case rel => exact ⟨k + 1, by omega, by go_num, by rw [HN.out]⟩
          case measure => simp [intOf]; omega
    · obtain rfl : k = 9 := by omega
      go_wp2
      go_ret
      exact ⟨rfl, rfl⟩
end Go.Proofs.Ytcciejglemfebaa
