/- The counter's method next, and Subsets over it, each by a contract. -/
import Derived.Test.YtcciejglemfebaaDoorS2
import Derived.BigRegion
import Derived.Test.YtcciejglemfebaaDoorP2
namespace Go.Proofs.YtcciejglemfebaaDoor
open Go.RowKit

/-- A counter's fields. -/
def counterAt (n last stop : Int) (good : Bool) (all : Int) : Array Value := #[.int .i64 n, .int .i64 last, .int .i64 stop, .bool good, .int .u16 all]

theorem counter_put {w : World} {b : Nat} {n last stop : Int} {good : Bool} {all : Int} (h : Block w b 38 (counterAt n last stop good all)) (g : Bool) (m x : Int) (k : Nat) :
    Block ((((w.setCell ⟨b, 3, none⟩ (.bool g)).setCell ⟨b, 0, none⟩ (.int .i64 m)).setCell ⟨b, 1, none⟩ (.int .i64 x)).drewN k) b 38 (counterAt m x stop g all) ∧
      Below b w ((((w.setCell ⟨b, 3, none⟩ (.bool g)).setCell ⟨b, 0, none⟩ (.int .i64 m)).setCell ⟨b, 1, none⟩ (.int .i64 x)).drewN k) :=
  ⟨(((h.put 3 _).put 0 _).put 1 _).drewN k, below_drewN ((((Below.refl b w).setCell (Nat.le_refl _) _).setCell (Nat.le_refl _) _).setCell (Nat.le_refl _) _) k⟩

set_option maxHeartbeats 800000 in
theorem next_calls (b : Nat) (n last stop : Int) (good : Bool) (all x : Int) (w : World) (hB : Block w b 38 (counterAt n last stop good all)) (hn : 0 ≤ n) (hn2 : n ≤ 1000000) (hx : U x) :
    Calls Tryd.prog 20 #[.pointer (some ⟨b, 0, none⟩), .int .u16 x] w fun e w' => e = .returned (.bool (n + 1 != stop)) ∧
      Block w' b 38 (counterAt (n + 1) x stop (good && decide (last < x) && (inter x all == x)) all) ∧ Below b w w' := by
  have c0 := hB.cell 0
  have c1 := hB.cell 1
  have c2 := hB.cell 2
  have c3 := hB.cell 3
  have c4 := hB.cell 4
  have f0 := hB.frozen 0
  have f1 := hB.frozen 1
  have f3 := hB.frozen 3
  simp only [counterAt] at c0 c1 c2 c3 c4
  have HP := @counter_put _ _ _ _ _ _ _ hB
  have HB := Lib.hid HP
  clear hB HP
  have x0 := hx.1
  have x1 := hx.2
  clear hx
  cases good with
  | true =>
    by_cases hlt : last < x
    · rw [show (true && decide (last < x) && (inter x all == x)) = (inter x all == x) from by simp [hlt]]
      go_enter Tryd.func20, Tryd.ntmps20
      go_wp2
      go_quiet (fail)
      go_wp2
      go_ret
      exact ⟨rfl, HB.out _ _ _ _⟩
    · rw [show (true && decide (last < x) && (inter x all == x)) = false from by simp [hlt]]
      go_enter Tryd.func20, Tryd.ntmps20
      go_wp2
      go_quiet (fail)
      go_wp2
      go_ret
      exact ⟨rfl, HB.out _ _ _ _⟩
  | false =>
    rw [show (false && decide (last < x) && (inter x all == x)) = false from by simp]
    go_enter Tryd.func20, Tryd.ntmps20
    go_wp2
    go_quiet (fail)
    go_wp2
    go_ret
    exact ⟨rfl, HB.out _ _ _ _⟩

/-- How many subsets are told: till the function tells false. -/
def told (stop : Int) (N : Nat) : Int := if 1 ≤ stop ∧ stop ≤ N then stop else N

set_option maxHeartbeats 800000 in
theorem subsets_calls (S : Nat) (s : Int) (hs : inter s 1022 = (S : Int)) (hS : S ≤ 1022) (N : Nat) (hok : okFrom S N 0 = true) (hN : N ≤ 1000) (b : Nat) (stop : Int) (w : World)
    (hB : Block w b 38 (counterAt 0 (-1) stop true S)) :
    Calls Tryd.prog 19 #[.int .u16 s, .func (Fn.func 20) #[.pointer (some ⟨b, 0, none⟩)] #[]] w fun e w' => e = .returned (.tuple #[]) ∧
      (∃ last, Block w' b 38 (counterAt (told stop N) last stop true S)) ∧ Below b w w' := by
  have HB := Lib.hid hB
  have HO := Lib.hid hok
  clear hB hok
  have hq : ∀ w', Sem.run Tryd.prog (binOp .eql 33 (.func (Fn.func 20) #[.pointer (some ⟨b, 0, none⟩)] #[]) .nilFunc) w' = .ok (.bool false) w' := fun _ => by kernel_rfl
  go_enter Tryd.func19, Tryd.ntmps19
  go_wp2
  go_loopw [4] (fun v wr => ∃ (k x : Nat) (last : Int), v = .int .u16 x ∧ last < x ∧ x ≤ 1022 ∧ k < N ∧ Hid (okFrom S (N - k) x = true) ∧ Hid (Block wr b 38 (counterAt k last stop true S)) ∧ (stop < 1 ∨ (k : Int) < stop) ∧ Below b w wr) (fun v _ => S - (intOf v).toNat)
  case atStart =>
    refine ⟨0, 0, -1, rfl, by omega, by omega, ?_, HO, HB, by omega, Below.refl _ _⟩
    rcases Nat.eq_zero_or_pos N with h | h
    · have := HO.out
      rw [h] at this
      simp [okFrom] at this
    · exact h
  case round =>
    obtain ⟨k, x, last, rfl, hlt, hx, hkN, HO', HB', hstop, hbel⟩ := hrel
    have hin : x &&& S = x := by
      have := HO'.out
      rcases Nat.lt_or_ge (k + 1) N with h | h
      · rw [show N - k = (N - k - 2) + 2 from by omega] at this
        exact (okFrom_more this).2.1
      · rw [show N - k = 1 from by omega] at this
        exact (okFrom_one this).2
    have hc := next_calls b k last stop true S x wr HB'.out (by omega) (by omega) ⟨by omega, by omega⟩
    rw [show (true && decide (last < (x : Int)) && (inter (x : Int) (S : Int) == (x : Int))) = true from by rw [inter_int S x (by omega) (by omega) hin]; simp [hlt]] at hc
    have HC := Lib.hid hc
    clear hc hin HB HO HB'
    by_cases hs1 : (k : Int) + 1 = stop
    · have e1 : ((k : Int) + 1 != stop) = false := by simpa using hs1
      have HT : Hid (told stop N = (k : Int) + 1) := by show _ = _; unfold told; rw [if_pos (by omega)]; omega
      clear hs1 HO'
      go_wp2_with fail
      refine (HC.out).mono ?_
      rintro e w1 ⟨rfl, hb1, hbe1⟩
      have HB1 := Lib.hid hb1
      clear hb1 HC
      go_wp2_with fail
      go_end0
      exact ⟨rfl, ⟨_, by rw [HT.out]; exact HB1.out⟩, hbel.trans hbe1⟩
    · have e1 : ((k : Int) + 1 != stop) = true := by simpa using hs1
      by_cases hN1 : k + 1 = N
      · have hxS : x = S := by
          have := HO'.out
          rw [show N - k = 1 from by omega] at this
          exact (okFrom_one this).1
        have HT : Hid (told stop N = (k : Int) + 1) := by show _ = _; unfold told; rw [if_neg (by omega)]; omega
        have e2 : ((x : Int) == (S : Int)) = true := by rw [hxS]; simp
        clear hs1 HO' hN1 hxS
        go_wp2_with fail
        refine (HC.out).mono ?_
        rintro e w1 ⟨rfl, hb1, hbe1⟩
        have HB1 := Lib.hid hb1
        clear hb1 HC
        go_wp2_with fail
        refine bodyPost_ret (results_none rfl _ _ _) rfl ?_
        exact ⟨rfl, ⟨_, by rw [HT.out]; exact HB1.out⟩, hbel.trans hbe1⟩
      · obtain ⟨h1, h2, h3, h4⟩ : x ≠ S ∧ x &&& S = x ∧ x < nextN S x ∧ okFrom S (N - k - 2 + 1) (nextN S x) = true := by
          have := HO'.out
          rw [show N - k = (N - k - 2) + 2 from by omega] at this
          exact okFrom_more this
        have HN := Lib.hid (nextN_int S x (by omega) (by omega))
        have hle : nextN S x ≤ S := Nat.and_le_right
        rw [show N - k - 2 + 1 = N - (k + 1) from by omega] at h4
        have H4 := Lib.hid h4
        have e2 : ((x : Int) == (S : Int)) = false := by simp; omega
        clear h1 h2 h4 HO'
        generalize nextN S x = y at *
        go_wp2_with fail
        refine (HC.out).mono ?_
        rintro e w1 ⟨rfl, hb1, hbe1⟩
        have HB1 := Lib.hid hb1
        clear hb1 HC
        go_wp2_with fail
        go_roundw
        case rel => exact ⟨k + 1, y, x, by first | rfl | (rw [HN.out]), by omega, by omega, by omega, H4, HB1, by omega, hbel.trans hbe1⟩
        case measure => rw [HN.out]; simp [intOf]; omega
end Go.Proofs.YtcciejglemfebaaDoor
