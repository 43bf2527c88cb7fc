/- sets.Of by a contract. -/
import Derived.Test.YtcciejglemfebaaS1
import Derived.Test.YtcciejglemfebaaM0
import Derived.Test.YtcciejglemfebaaP1
import Derived.Outline
namespace Go.Proofs.Ytcciejglemfebaa
open Go.RowKit

set_option maxHeartbeats 400000 in
theorem of_calls (A : Option Addr) (c : Nat) (l : List Int) (B : Nat) (w : World) (hl : l.length ≤ 9223372036854775807) (h : Ints w B A l) :
    Calls Try.prog 57 #[.slice A l.length c] w fun e w' => e = .returned (.tuple #[.int .u16 (ofGo 0 l).1, .int .i64 (ofGo 0 l).2]) ∧ w = w' := by
  go_enter Try.func57, Try.ntmps57
  go_wp2
  go_loop [4, 9] (fun s i => ∃ (k : Nat) (x : Int), k ≤ l.length ∧ i = .int .i64 k ∧ s = .int .u16 x ∧ Hid (ofGo x (l.drop k) = ofGo 0 l)) (fun _ i => l.length - (intOf i).toNat)
  case atStart => exact ⟨0, 0, Nat.zero_le _, rfl, rfl, rfl⟩
  case round =>
    obtain ⟨k, x, hk, rfl, rfl, HR⟩ := hrel
    by_cases hlt : k < l.length
    · obtain ⟨b, o, rfl, hb, hc⟩ := h.at_ hlt
      have HD := Lib.hid (drop_getD l k hlt)
      generalize l.getD k 0 = n at *
      by_cases h0 : one n = 0
      · have HF : Hid (ofGo 0 l = (0, 1)) := by rw [← HR.out, HD.out, ofGo_zero _ _ _ h0]; rfl
        have hz : (one n == 0) = true := by simpa using h0
        clear h0 HR HD h
        go_wp2_with (go_at_call 83; refine (one_calls _ _).mono ?_; rintro e w' ⟨rfl, rfl⟩)
        go_ret2
        rw [HF.out]
        exact ⟨rfl, rfl⟩
      · have HN : Hid (ofGo (union x (one n)) (l.drop (k + 1)) = ofGo 0 l) := by show _ = _; rw [← HR.out, HD.out, ofGo_more _ _ _ h0]
        have hz : (one n == 0) = false := by simpa using h0
        clear h0 HR HD h
        go_wp2_with (go_at_call 83; refine (one_calls _ _).mono ?_; rintro e w' ⟨rfl, rfl⟩)
        go_round
        case rel => exact ⟨k + 1, _, by omega, by go_num, rfl, HN⟩
        case measure => simp [intOf]; omega
    · have hd : l.drop k = [] := List.drop_eq_nil_of_le (by omega)
      have HF : Hid (ofGo 0 l = (x, 0)) := by rw [← HR.out, hd]; rfl
      clear hd HR
      go_wp2
      go_ret2
      rw [HF.out]
      exact ⟨rfl, rfl⟩
end Go.Proofs.Ytcciejglemfebaa
