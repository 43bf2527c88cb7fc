/- Package sets' Less and List, and the document's Less and Of, each by a contract. -/
import Derived.Test.YtcciejglemfebaaDoorR2
import Derived.Test.YtcciejglemfebaaDoorS2
import Derived.Test.YtcciejglemfebaaDoorQ1
namespace Go.Proofs.YtcciejglemfebaaDoor
open Go.RowKit

theorem less_calls (s n : Int) (w : World) :
    Calls Tryd.prog 15 #[.int .u16 s, .int .i64 n] w fun e w' => e = .returned (.int .u16 (diff s (one n))) ∧ w = w' := by
  go_enter Tryd.func15, Tryd.ntmps15
  go_wp2_with (go_at_call 21; refine (one_calls _ _).mono ?_; rintro e w' ⟨rfl, rfl⟩)
  go_ret
  exact ⟨rfl, rfl⟩

set_option maxHeartbeats 400000 in
theorem rless_calls (s n : Int) (w : World) (hs : U s) :
    Calls Tryd.prog 16 #[.int .u16 s, .int .i64 n] w fun e w' => e = .returned (.int .u16 (diff s (one n))) ∧ w = w' := by
  have HS := Lib.hid hs
  cases hh : hasB s n with
  | true =>
    have HA := Lib.hid (less_has hs hh)
    have hu := one_u n
    have hbit := bit_calls n
    have s1 := hs.1
    have s2 := hs.2
    have HH := Lib.hid (fun w => (by have := rhas_calls s n w hs; rw [hh] at this; exact this : Calls Tryd.prog 12 #[.int .u16 s, .int .i64 n] w fun e w' => e = .returned (.bool true) ∧ w = w'))
    generalize one n = b at *
    have b1 := hu.1
    have b2 := hu.2
    have HB := Lib.hid hbit
    clear hs hu hbit hh
    go_enter Tryd.func16, Tryd.ntmps16
    go_wp2_with (first | (go_at_call 12; refine (HH.out _).mono ?_; rintro e w' ⟨rfl, rfl⟩) | (go_at_call 22; refine (HB.out _).mono ?_; rintro e w' ⟨rfl, rfl⟩))
    go_ret
    refine ⟨ret_int ?_, rfl⟩
    rw [← HA.out, IntKind.wrap_u16]
  | false =>
    rw [less_none hs hh]
    have HH := Lib.hid (fun w => (by have := rhas_calls s n w hs; rw [hh] at this; exact this : Calls Tryd.prog 12 #[.int .u16 s, .int .i64 n] w fun e w' => e = .returned (.bool false) ∧ w = w'))
    clear hs hh
    go_enter Tryd.func16, Tryd.ntmps16
    go_wp2_with (first | (go_at_call 12; refine (HH.out _).mono ?_; rintro e w' ⟨rfl, rfl⟩))
    go_ret
    exact ⟨rfl, rfl⟩

set_option maxHeartbeats 800000 in
theorem rof_calls (A : Option Addr) (c : Nat) (l : List Int) (B : Nat) (w : World) (hl : l.length ≤ 9223372036854775807) (h : Ints w B A l) :
    Calls Tryd.prog 7 #[.slice A l.length c] w fun e w' => e = .returned (.tuple #[.int .u16 (ofGo 0 l).1, .int .i64 (ofGo 0 l).2]) ∧ w = w' := by
  go_enter Tryd.func7, Tryd.ntmps7
  go_wp2
  go_loop [4, 5] (fun s i => ∃ (k : Nat) (x : Int), k ≤ l.length ∧ i = .int .i64 k ∧ s = .int .u16 x ∧ Hid (U x) ∧ Hid (ofGo x (l.drop k) = ofGo 0 l)) (fun _ i => l.length - (intOf i).toNat)
  case atStart => exact ⟨0, 0, Nat.zero_le _, rfl, rfl, ⟨by decide, by decide⟩, rfl⟩
  case round =>
    obtain ⟨k, x, hk, rfl, rfl, HX, HR⟩ := hrel
    by_cases hlt : k < l.length
    · obtain ⟨b, o, rfl, hb, hc⟩ := h.at_ hlt
      have HD := Lib.hid (drop_getD l k hlt)
      generalize l.getD k 0 = n at *
      have hbit := bit_calls n
      by_cases h0 : one n = 0
      · have HF : Hid (ofGo 0 l = (0, 1)) := by rw [← HR.out, HD.out, ofGo_zero _ _ _ h0]; rfl
        rw [h0] at hbit
        have HB := Lib.hid hbit
        clear h0 HR HD h hbit
        go_wp2_with (go_at_call 22; refine (HB.out _).mono ?_; rintro e w' ⟨rfl, rfl⟩)
        go_ret2
        rw [HF.out]
        exact ⟨rfl, rfl⟩
      · have HN : Hid (ofGo (union x (one n)) (l.drop (k + 1)) = ofGo 0 l) := by show _ = _; rw [← HR.out, HD.out, ofGo_more _ _ _ h0]
        have hz : (one n == 0) = false := by simpa using h0
        have HW := Lib.hid fun w => rwith_calls x n w HX.out
        have HU : Hid (U (union x (one n))) := Lib.hid (bits_u _ _ _)
        generalize union x (one n) = y at *
        generalize one n = bn at *
        have HB := Lib.hid hbit
        clear h0 HR HD h hbit
        go_wp2_with (first | (go_at_call 22; refine (HB.out _).mono ?_; rintro e w' ⟨rfl, rfl⟩) | (go_at_call 14; refine (HW.out _).mono ?_; rintro e w' ⟨rfl, rfl⟩))
        go_round
        case rel => exact ⟨k + 1, _, by omega, by go_num, rfl, HU, HN⟩
        case measure => simp [intOf]; omega
    · have hd : l.drop k = [] := List.drop_eq_nil_of_le (by omega)
      have HF : Hid (ofGo 0 l = (x, 0)) := by rw [← HR.out, hd]; rfl
      clear hd HR
      go_wp2
      go_ret2
      rw [HF.out]
      exact ⟨rfl, rfl⟩
end Go.Proofs.YtcciejglemfebaaDoor
