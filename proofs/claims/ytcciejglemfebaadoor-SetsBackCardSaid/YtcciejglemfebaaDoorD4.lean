/- antipodelaw9.SetsBack answers true; memory that was there is as it was. -/
import Derived.Test.YtcciejglemfebaaDoorD3
import Derived.Test.YtcciejglemfebaaDoorS4
import Derived.Test.YtcciejglemfebaaDoorQ2
namespace Go.Proofs.YtcciejglemfebaaDoor
open Go.RowKit

set_option maxRecDepth 100000 in
set_option maxHeartbeats 25600000 in
theorem back_calls (s n m : Int) (w : World) (hs : U s) (hT : Hid (Tab w)) :
    Calls Tryd.prog 4 #[.int .u16 s, .int .i64 n, .int .i64 m] w fun e w' => e = .returned (.bool true) ∧ Below w.heap.size w w' := by
  obtain ⟨a, ha, hm, hand⟩ := msk_nat hs
  have he := even_of hand
  have hback := back ha he
  have hlen := listOf_le (a : Int)
  have hau : U (a : Int) := by unfold U; omega
  have w1 := may_with s n
  have w2 := may_less s n
  have h1 := has_with (a : Int) n
  have h2 := has_less (a : Int) n
  rw [hm] at w1 w2
  have hlist := fun (w : World) (h : Hid (Tab w)) => list_calls (a : Int) w hau h
  have HLI := Lib.hid hlist
  have HW := Lib.hid fun w => with_calls (a : Int) n w
  have HL := Lib.hid fun w => less_calls (a : Int) n w
  have m1 := fun w => smay_calls (union (a : Int) (one n)) w
  have m2 := fun w => smay_calls (diff (a : Int) (one n)) w
  have g1 := fun w => has_calls (union (a : Int) (one n)) n w
  have g2 := fun w => has_calls (diff (a : Int) (one n)) n w
  rw [w1] at m1
  rw [w2] at m2
  rw [h1] at g1
  rw [h2] at g2
  have M1 := Lib.hid m1
  have M2 := Lib.hid m2
  have H1 := Lib.hid g1
  have H2 := Lib.hid g2
  have hm' : bits .and .u16 s 1022 = (a : Int) := hm
  have HBK := Lib.hid hback
  have HLEN := Lib.hid hlen
  have g3 := fun w => has_calls (union (a : Int) (one n)) m w
  have g4 := fun w => has_calls (diff (a : Int) (one n)) m w
  have g5 := fun w => has_calls (a : Int) m w
  clear w1 w2 h1 h2 m1 m2 g1 g2 hlist hm hand hs hback hlen ha he hau
  by_cases hmn : m = n
  · subst hmn
    clear g3 g4 g5
    generalize union (a : Int) (one m) = x at *
    generalize diff (a : Int) (one m) = y at *
    have G1 := H1.out
    clear H1
    by_cases n1 : 1 ≤ m
    · by_cases n9 : m ≤ 9
      · rw [decide_eq_true n1, decide_eq_true n9] at G1
        have H1 := Lib.hid G1
        clear G1
        go_enter Tryd.func4, Tryd.ntmps4
        go_wp2_with fail
        ((with_reducible refine (begun9 _).mono ?_); rintro e w1 ⟨rfl, hb1⟩)
        have hT1 : Hid (Tab w1) := Lib.hid (hT.out.below hb1 hT.out.1)
        go_wp2_with fail
        ((with_reducible refine (HLI.out _ hT1).mono ?_); rintro e w2 ⟨v, rfl, hown, hb2⟩)
        obtain ⟨A, c, rfl, _, hint⟩ := ints_of_own hown
        have hb3 := Lib.hid (hb1.trans (hb2.mono hb1.size))
        clear hown hb1 hb2 hT1
        go_wp2_with fail
        ((with_reducible refine (of_calls A c _ _ _ (by have := HLEN.out; omega) hint).mono ?_); rintro e w3 ⟨rfl, rfl⟩)
        rw [HBK.out]
        clear hint
        go_wp2_with fail
        ((with_reducible refine (HW.out _).mono ?_); rintro e w3 ⟨rfl, rfl⟩)
        go_wp2_with fail
        ((with_reducible refine (HL.out _).mono ?_); rintro e w3 ⟨rfl, rfl⟩)
        go_wp2_with fail
        ((with_reducible refine (H1.out _).mono ?_); rintro e w3 ⟨rfl, rfl⟩)
        go_wp2_with fail
        ((with_reducible refine (H2.out _).mono ?_); rintro e w3 ⟨rfl, rfl⟩)
        go_wp2_with fail
        ((with_reducible refine (M1.out _).mono ?_); rintro e w3 ⟨rfl, rfl⟩)
        go_wp2_with fail
        ((with_reducible refine (M2.out _).mono ?_); rintro e w3 ⟨rfl, rfl⟩)
        go_wp2_with fail
        go_ret
        exact ⟨ret_bool (by first | rfl | (simp; done) | (simp; omega)), hb3.out⟩
      · rw [decide_eq_true n1, decide_eq_false n9] at G1
        have H1 := Lib.hid G1
        clear G1
        go_enter Tryd.func4, Tryd.ntmps4
        go_wp2_with fail
        ((with_reducible refine (begun9 _).mono ?_); rintro e w1 ⟨rfl, hb1⟩)
        have hT1 : Hid (Tab w1) := Lib.hid (hT.out.below hb1 hT.out.1)
        go_wp2_with fail
        ((with_reducible refine (HLI.out _ hT1).mono ?_); rintro e w2 ⟨v, rfl, hown, hb2⟩)
        obtain ⟨A, c, rfl, _, hint⟩ := ints_of_own hown
        have hb3 := Lib.hid (hb1.trans (hb2.mono hb1.size))
        clear hown hb1 hb2 hT1
        go_wp2_with fail
        ((with_reducible refine (of_calls A c _ _ _ (by have := HLEN.out; omega) hint).mono ?_); rintro e w3 ⟨rfl, rfl⟩)
        rw [HBK.out]
        clear hint
        go_wp2_with fail
        ((with_reducible refine (HW.out _).mono ?_); rintro e w3 ⟨rfl, rfl⟩)
        go_wp2_with fail
        ((with_reducible refine (HL.out _).mono ?_); rintro e w3 ⟨rfl, rfl⟩)
        go_wp2_with fail
        ((with_reducible refine (H1.out _).mono ?_); rintro e w3 ⟨rfl, rfl⟩)
        go_wp2_with fail
        ((with_reducible refine (H2.out _).mono ?_); rintro e w3 ⟨rfl, rfl⟩)
        go_wp2_with fail
        ((with_reducible refine (M1.out _).mono ?_); rintro e w3 ⟨rfl, rfl⟩)
        go_wp2_with fail
        ((with_reducible refine (M2.out _).mono ?_); rintro e w3 ⟨rfl, rfl⟩)
        go_wp2_with fail
        go_ret
        exact ⟨ret_bool (by first | rfl | (simp; done) | (simp; omega)), hb3.out⟩
    · rw [decide_eq_false n1] at G1
      have H1 := Lib.hid G1
      clear G1
      go_enter Tryd.func4, Tryd.ntmps4
      go_wp2_with fail
      ((with_reducible refine (begun9 _).mono ?_); rintro e w1 ⟨rfl, hb1⟩)
      have hT1 : Hid (Tab w1) := Lib.hid (hT.out.below hb1 hT.out.1)
      go_wp2_with fail
      ((with_reducible refine (HLI.out _ hT1).mono ?_); rintro e w2 ⟨v, rfl, hown, hb2⟩)
      obtain ⟨A, c, rfl, _, hint⟩ := ints_of_own hown
      have hb3 := Lib.hid (hb1.trans (hb2.mono hb1.size))
      clear hown hb1 hb2 hT1
      go_wp2_with fail
      ((with_reducible refine (of_calls A c _ _ _ (by have := HLEN.out; omega) hint).mono ?_); rintro e w3 ⟨rfl, rfl⟩)
      rw [HBK.out]
      clear hint
      go_wp2_with fail
      ((with_reducible refine (HW.out _).mono ?_); rintro e w3 ⟨rfl, rfl⟩)
      go_wp2_with fail
      ((with_reducible refine (HL.out _).mono ?_); rintro e w3 ⟨rfl, rfl⟩)
      go_wp2_with fail
      ((with_reducible refine (H1.out _).mono ?_); rintro e w3 ⟨rfl, rfl⟩)
      go_wp2_with fail
      ((with_reducible refine (H2.out _).mono ?_); rintro e w3 ⟨rfl, rfl⟩)
      go_wp2_with fail
      ((with_reducible refine (M1.out _).mono ?_); rintro e w3 ⟨rfl, rfl⟩)
      go_wp2_with fail
      ((with_reducible refine (M2.out _).mono ?_); rintro e w3 ⟨rfl, rfl⟩)
      go_wp2_with fail
      go_ret
      exact ⟨ret_bool (by first | rfl | (simp; done) | (simp; omega)), hb3.out⟩
  · rw [has_with_other hmn] at g3
    rw [has_less_other hmn] at g4
    have H3 := Lib.hid g3
    have H4 := Lib.hid g4
    have H5 := Lib.hid g5
    clear g3 g4 g5
    generalize hasB (a : Int) m = q at *
    generalize union (a : Int) (one n) = x at *
    generalize diff (a : Int) (one n) = y at *
    have hq : (m == n) = false := by simpa using hmn
    have G1 := H1.out
    clear H1
    by_cases n1 : 1 ≤ n
    · by_cases n9 : n ≤ 9
      · rw [decide_eq_true n1, decide_eq_true n9] at G1
        have H1 := Lib.hid G1
        clear G1
        go_enter Tryd.func4, Tryd.ntmps4
        go_wp2_with fail
        ((with_reducible refine (begun9 _).mono ?_); rintro e w1 ⟨rfl, hb1⟩)
        have hT1 : Hid (Tab w1) := Lib.hid (hT.out.below hb1 hT.out.1)
        go_wp2_with fail
        ((with_reducible refine (HLI.out _ hT1).mono ?_); rintro e w2 ⟨v, rfl, hown, hb2⟩)
        obtain ⟨A, c, rfl, _, hint⟩ := ints_of_own hown
        have hb3 := Lib.hid (hb1.trans (hb2.mono hb1.size))
        clear hown hb1 hb2 hT1
        go_wp2_with fail
        ((with_reducible refine (of_calls A c _ _ _ (by have := HLEN.out; omega) hint).mono ?_); rintro e w3 ⟨rfl, rfl⟩)
        rw [HBK.out]
        clear hint
        go_wp2_with fail
        ((with_reducible refine (HW.out _).mono ?_); rintro e w3 ⟨rfl, rfl⟩)
        go_wp2_with fail
        ((with_reducible refine (HL.out _).mono ?_); rintro e w3 ⟨rfl, rfl⟩)
        go_wp2_with fail
        ((with_reducible refine (H1.out _).mono ?_); rintro e w3 ⟨rfl, rfl⟩)
        go_wp2_with fail
        ((with_reducible refine (H2.out _).mono ?_); rintro e w3 ⟨rfl, rfl⟩)
        go_wp2_with fail
        ((with_reducible refine (H3.out _).mono ?_); rintro e w3 ⟨rfl, rfl⟩)
        go_wp2_with fail
        ((with_reducible refine (H5.out _).mono ?_); rintro e w3 ⟨rfl, rfl⟩)
        go_wp2_with fail
        ((with_reducible refine (H4.out _).mono ?_); rintro e w3 ⟨rfl, rfl⟩)
        go_wp2_with fail
        ((with_reducible refine (H5.out _).mono ?_); rintro e w3 ⟨rfl, rfl⟩)
        go_wp2_with fail
        ((with_reducible refine (M1.out _).mono ?_); rintro e w3 ⟨rfl, rfl⟩)
        go_wp2_with fail
        ((with_reducible refine (M2.out _).mono ?_); rintro e w3 ⟨rfl, rfl⟩)
        go_wp2_with fail
        go_ret
        exact ⟨ret_bool (by first | rfl | (simp; done) | (simp; omega)), hb3.out⟩
      · rw [decide_eq_true n1, decide_eq_false n9] at G1
        have H1 := Lib.hid G1
        clear G1
        go_enter Tryd.func4, Tryd.ntmps4
        go_wp2_with fail
        ((with_reducible refine (begun9 _).mono ?_); rintro e w1 ⟨rfl, hb1⟩)
        have hT1 : Hid (Tab w1) := Lib.hid (hT.out.below hb1 hT.out.1)
        go_wp2_with fail
        ((with_reducible refine (HLI.out _ hT1).mono ?_); rintro e w2 ⟨v, rfl, hown, hb2⟩)
        obtain ⟨A, c, rfl, _, hint⟩ := ints_of_own hown
        have hb3 := Lib.hid (hb1.trans (hb2.mono hb1.size))
        clear hown hb1 hb2 hT1
        go_wp2_with fail
        ((with_reducible refine (of_calls A c _ _ _ (by have := HLEN.out; omega) hint).mono ?_); rintro e w3 ⟨rfl, rfl⟩)
        rw [HBK.out]
        clear hint
        go_wp2_with fail
        ((with_reducible refine (HW.out _).mono ?_); rintro e w3 ⟨rfl, rfl⟩)
        go_wp2_with fail
        ((with_reducible refine (HL.out _).mono ?_); rintro e w3 ⟨rfl, rfl⟩)
        go_wp2_with fail
        ((with_reducible refine (H1.out _).mono ?_); rintro e w3 ⟨rfl, rfl⟩)
        go_wp2_with fail
        ((with_reducible refine (H2.out _).mono ?_); rintro e w3 ⟨rfl, rfl⟩)
        go_wp2_with fail
        ((with_reducible refine (H3.out _).mono ?_); rintro e w3 ⟨rfl, rfl⟩)
        go_wp2_with fail
        ((with_reducible refine (H5.out _).mono ?_); rintro e w3 ⟨rfl, rfl⟩)
        go_wp2_with fail
        ((with_reducible refine (H4.out _).mono ?_); rintro e w3 ⟨rfl, rfl⟩)
        go_wp2_with fail
        ((with_reducible refine (H5.out _).mono ?_); rintro e w3 ⟨rfl, rfl⟩)
        go_wp2_with fail
        ((with_reducible refine (M1.out _).mono ?_); rintro e w3 ⟨rfl, rfl⟩)
        go_wp2_with fail
        ((with_reducible refine (M2.out _).mono ?_); rintro e w3 ⟨rfl, rfl⟩)
        go_wp2_with fail
        go_ret
        exact ⟨ret_bool (by first | rfl | (simp; done) | (simp; omega)), hb3.out⟩
    · rw [decide_eq_false n1] at G1
      have H1 := Lib.hid G1
      clear G1
      go_enter Tryd.func4, Tryd.ntmps4
      go_wp2_with fail
      ((with_reducible refine (begun9 _).mono ?_); rintro e w1 ⟨rfl, hb1⟩)
      have hT1 : Hid (Tab w1) := Lib.hid (hT.out.below hb1 hT.out.1)
      go_wp2_with fail
      ((with_reducible refine (HLI.out _ hT1).mono ?_); rintro e w2 ⟨v, rfl, hown, hb2⟩)
      obtain ⟨A, c, rfl, _, hint⟩ := ints_of_own hown
      have hb3 := Lib.hid (hb1.trans (hb2.mono hb1.size))
      clear hown hb1 hb2 hT1
      go_wp2_with fail
      ((with_reducible refine (of_calls A c _ _ _ (by have := HLEN.out; omega) hint).mono ?_); rintro e w3 ⟨rfl, rfl⟩)
      rw [HBK.out]
      clear hint
      go_wp2_with fail
      ((with_reducible refine (HW.out _).mono ?_); rintro e w3 ⟨rfl, rfl⟩)
      go_wp2_with fail
      ((with_reducible refine (HL.out _).mono ?_); rintro e w3 ⟨rfl, rfl⟩)
      go_wp2_with fail
      ((with_reducible refine (H1.out _).mono ?_); rintro e w3 ⟨rfl, rfl⟩)
      go_wp2_with fail
      ((with_reducible refine (H2.out _).mono ?_); rintro e w3 ⟨rfl, rfl⟩)
      go_wp2_with fail
      ((with_reducible refine (H3.out _).mono ?_); rintro e w3 ⟨rfl, rfl⟩)
      go_wp2_with fail
      ((with_reducible refine (H5.out _).mono ?_); rintro e w3 ⟨rfl, rfl⟩)
      go_wp2_with fail
      ((with_reducible refine (H4.out _).mono ?_); rintro e w3 ⟨rfl, rfl⟩)
      go_wp2_with fail
      ((with_reducible refine (H5.out _).mono ?_); rintro e w3 ⟨rfl, rfl⟩)
      go_wp2_with fail
      ((with_reducible refine (M1.out _).mono ?_); rintro e w3 ⟨rfl, rfl⟩)
      go_wp2_with fail
      ((with_reducible refine (M2.out _).mono ?_); rintro e w3 ⟨rfl, rfl⟩)
      go_wp2_with fail
      go_ret
      exact ⟨ret_bool (by first | rfl | (simp; done) | (simp; omega)), hb3.out⟩
end Go.Proofs.YtcciejglemfebaaDoor
