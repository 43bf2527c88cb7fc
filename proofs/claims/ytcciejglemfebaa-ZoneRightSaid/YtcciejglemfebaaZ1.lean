/- The small functions of package zone and of the document's answer (at, of, mayRegions, MayRegions), each by a contract. -/
import Derived.Test.YtcciejglemfebaaS2
import Derived.Test.YtcciejglemfebaaZ0
namespace Go.Proofs.Ytcciejglemfebaa
open Go.RowKit

def okR (r : Int) : Bool := decide (0 ≤ r) && decide (r < 4)
/-- May a list of regions be? -/
def mayRegsB (l : List Int) : Bool := l.all okR && (decide (1 ≤ l.length) && decide (l.length ≤ 9))

theorem at_calls (A : Option Addr) (c : Nat) (l : List Int) (i : Int) (B : Nat) (w : World) (_hl : l.length ≤ 9223372036854775807) (h : Ints w B A l) (h0 : 0 ≤ i) :
    Calls Try.prog 69 #[.slice A l.length c, .int .i64 i] w fun e w' => e = .returned (.int .i64 (l.getD i.toNat 0)) ∧ w = w' := by
  obtain ⟨k, rfl⟩ : ∃ k : Nat, i = (k : Int) := ⟨i.toNat, by omega⟩
  by_cases hk : k < l.length
  · obtain ⟨b, o, rfl, hb, hc⟩ := h.at_ hk
    have e : l.getD ((k : Nat) : Int).toNat 0 = l.getD k 0 := rfl
    rw [e]
    clear h e
    generalize l.getD k 0 = v at *
    go_enter Try.func69, Try.ntmps69
    go_wp2
    go_ret
    exact ⟨rfl, rfl⟩
  · have e : l.getD ((k : Nat) : Int).toNat 0 = 0 := by
      show l.getD k 0 = 0
      rw [List.getD_eq_getElem?_getD, List.getElem?_eq_none (by omega)]; rfl
    rw [e]
    clear h e
    go_enter Try.func69, Try.ntmps69
    go_wp2
    go_ret
    exact ⟨rfl, rfl⟩

theorem of11_calls (A : Option Addr) (c : Nat) (l : List Int) (i : Int) (B : Nat) (w : World) (hl : l.length ≤ 9223372036854775807) (h : Ints w B A l) (h0 : 1 ≤ i) :
    Calls Try.prog 85 #[.slice A l.length c, .int .i64 i] w fun e w' => e = .returned (.int .i64 (l.getD (i - 1).toNat 0)) ∧ w = w' := by
  obtain ⟨k, rfl⟩ : ∃ k : Nat, i = (k : Int) + 1 := ⟨(i - 1).toNat, by omega⟩
  by_cases hk : k < l.length
  · obtain ⟨b, o, rfl, hb, hc⟩ := h.at_ hk
    have e : l.getD ((k : Int) + 1 - 1).toNat 0 = l.getD k 0 := by rw [show ((k : Int) + 1 - 1).toNat = k from by omega]
    rw [e]
    clear h e
    generalize l.getD k 0 = v at *
    go_enter Try.func85, Try.ntmps85
    go_wp2
    go_ret
    exact ⟨rfl, rfl⟩
  · have e : l.getD ((k : Int) + 1 - 1).toNat 0 = 0 := by
      rw [show ((k : Int) + 1 - 1).toNat = k from by omega, List.getD_eq_getElem?_getD, List.getElem?_eq_none (by omega)]; rfl
    rw [e]
    clear h e
    go_enter Try.func85, Try.ntmps85
    go_wp2
    go_ret
    exact ⟨rfl, rfl⟩

theorem all_drop {l : List Int} {k : Nat} (h : k < l.length) (f : Int → Bool) : (l.drop k).all f = (f (l.getD k 0) && (l.drop (k + 1)).all f) := by
  rw [drop_getD l k h, List.all_cons]

set_option maxHeartbeats 400000 in
theorem mayregs_calls (A : Option Addr) (c : Nat) (l : List Int) (B : Nat) (w : World) (hl : l.length ≤ 9223372036854775807) (h : Ints w B A l) :
    Calls Try.prog 67 #[.slice A l.length c] w fun e w' => e = .returned (.bool (mayRegsB l)) ∧ w = w' := by
  go_enter Try.func67, Try.ntmps67
  go_wp2
  go_loop [7] (fun i => ∃ k : Nat, k ≤ l.length ∧ i = .int .i64 k ∧ Hid ((l.drop k).all okR = l.all okR)) (fun i => l.length - (intOf i).toNat)
  case atStart => exact ⟨0, Nat.zero_le _, rfl, rfl⟩
  case round =>
    obtain ⟨k, hk, rfl, HR⟩ := hrel
    by_cases hlt : k < l.length
    · obtain ⟨b, o, rfl, hb, hc⟩ := h.at_ hlt
      have HD := Lib.hid (all_drop hlt okR)
      generalize l.getD k 0 = n at *
      by_cases ok : 0 ≤ n ∧ n < 4
      · obtain ⟨h0, h4⟩ := ok
        have HN : Hid ((l.drop (k + 1)).all okR = l.all okR) := by
          show _ = _
          rw [← HR.out, HD.out, show okR n = true from by simp [okR, h0, h4], Bool.true_and]
        clear HR HD h
        go_wp2
        go_round
        case rel => exact ⟨k + 1, by omega, by go_num, HN⟩
        case measure => simp [intOf]; omega
      · have HF : Hid (mayRegsB l = false) := by
          show _ = _
          unfold mayRegsB
          rw [← HR.out, HD.out, show okR n = false from by simp [okR]; omega]
          rfl
        clear HR HD h
        by_cases h0 : n < 0
        · go_wp2
          go_ret
          rw [HF.out]; exact ⟨rfl, rfl⟩
        · have h4 : 4 ≤ n := by omega
          clear ok
          go_wp2
          go_ret
          rw [HF.out]; exact ⟨rfl, rfl⟩
    · have HF : Hid (mayRegsB l = (decide (1 ≤ l.length) && decide (l.length ≤ 9))) := by
        show _ = _
        unfold mayRegsB
        rw [← HR.out, List.drop_eq_nil_of_le (by omega)]
        rfl
      clear HR h
      by_cases h1 : 1 ≤ l.length
      · by_cases h9 : l.length ≤ 9
        all_goals
          go_wp2
          go_ret
          rw [HF.out]; exact ⟨by first | (simp [h1, h9]; done) | (simp [h1, h9]; omega), rfl⟩
      · go_wp2
        go_ret
        rw [HF.out]; exact ⟨by simp [h1], rfl⟩
end Go.Proofs.Ytcciejglemfebaa
