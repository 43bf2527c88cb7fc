/- antipodelaw9.SetsAll answers true; memory that was there is as it was. -/
import Derived.Test.YtcciejglemfebaaDoorD5
import Derived.Test.YtcciejglemfebaaDoorS4
import Derived.Test.YtcciejglemfebaaDoorQ2
namespace Go.Proofs.YtcciejglemfebaaDoor
open Go.RowKit

set_option maxRecDepth 100000 in
set_option maxHeartbeats 25600000 in
theorem all_calls (A : Option Addr) (l : List Int) (c : Nat) (s n : Int) (w : World) (hl : l.length ≤ 9223372036854775807) (h : Ints w w.heap.size A l) (hs : U s) (hT : Hid (Tab w)) :
    Calls Tryd.prog 3 #[.slice A l.length c, .int .u16 s, .int .i64 n] w fun e w' => e = .returned (.bool true) ∧ Below w.heap.size w w' := by
  have HI := Lib.hid h
  clear h
  by_cases h30 : l.length ≤ 30
  · have hof := fun (B : Nat) (w : World) (h : Ints w B A l) => of_calls A c l B w hl h
    have hrof := fun (B : Nat) (w : World) (h : Ints w B A l) => rof_calls A c l B w hl h
    generalize (ofGo 0 l).1 = x at hof hrof
    generalize (ofGo 0 l).2 = y at hof hrof
    have HOF := Lib.hid hof
    have HROF := Lib.hid hrof
    have HLI := Lib.hid fun (w : World) (h : Hid (Tab w)) => list_calls s w hs h
    have HRL := Lib.hid fun (w : World) => rlist_own s w hs
    have HC := Lib.hid (fun w => (by have := count_calls s w; rw [← listOf_len s] at this; exact this : Calls Tryd.prog 10 #[.int .u16 s] w fun e w' => e = .returned (.int .i64 ((listOf s).length : Int)) ∧ Drawn w w'))
    have HH := Lib.hid fun w => has_calls s n w
    have HRH := Lib.hid fun w => rhas_calls s n w hs
    have HW := Lib.hid fun w => with_calls s n w
    have HRW := Lib.hid fun w => rwith_calls s n w hs
    have HL := Lib.hid fun w => less_calls s n w
    have HRLE := Lib.hid fun w => rless_calls s n w hs
    have HM := Lib.hid fun w => smay_calls s w
    have HRM := Lib.hid fun w => rmay_calls s w hs
    have hlen := listOf_le s
    generalize listOf s = L at *
    generalize hasB s n = q1 at *
    generalize union s (one n) = q2 at *
    generalize diff s (one n) = q3 at *
    generalize mayB s = q4 at *
    clear hof hrof hs
    go_enter Tryd.func3, Tryd.ntmps3
    go_wp2_with fail
    ((with_reducible refine (begun9 _).mono ?_); rintro e w1 ⟨rfl, hb1⟩)
    have hT1 : Hid (Tab w1) := Lib.hid (hT.out.below hb1 hT.out.1)
    have HI1 := Lib.hid (HI.out.below hb1)
    go_wp2_with fail
    ((with_reducible refine (HOF.out _ _ HI1.out).mono ?_); rintro e w' ⟨rfl, rfl⟩)
    go_wp2_with fail
    ((with_reducible refine (HROF.out _ _ HI1.out).mono ?_); rintro e w' ⟨rfl, rfl⟩)
    go_wp2_with fail
    ((with_reducible refine (HLI.out _ hT1).mono ?_); rintro e w2 ⟨va, rfl, hownA, hb2⟩)
    obtain ⟨Aa, ca, rfl, hA⟩ := cells0_of_own hownA
    go_wp2_with fail
    ((with_reducible refine (HRL.out _).mono ?_); rintro e w3 ⟨vb, rfl, hownB, hb3⟩)
    obtain ⟨Ab, cb, rfl, hB⟩ := cells0_of_own hownB
    have H2 := Lib.hid (two_of hA hb3 (Nat.le_refl _) hB)
    have HB3 := Lib.hid (hb1.trans ((hb2.trans (hb3.mono hb2.size)).mono hb1.size))
    have hlo : w.heap.size ≤ w1.heap.size := hb1.size
    clear hownA hownB hA hB hb1 hb2 hb3 hT1 HI1 HI
    go_wp2_with fail
    ((with_reducible refine (HC.out _).mono ?_); rintro e w4 ⟨rfl, m, rfl⟩)
    have H3 := Lib.hid (H2.out.drewN m)
    have HB4 := Lib.hid (below_drewN HB3.out m)
    clear H2 HB3
    go_wp2_with fail
    ((with_reducible refine (HH.out _).mono ?_); rintro e w' ⟨rfl, rfl⟩)
    go_wp2_with fail
    ((with_reducible refine (HRH.out _).mono ?_); rintro e w' ⟨rfl, rfl⟩)
    go_wp2_with fail
    ((with_reducible refine (HW.out _).mono ?_); rintro e w' ⟨rfl, rfl⟩)
    go_wp2_with fail
    ((with_reducible refine (HRW.out _).mono ?_); rintro e w' ⟨rfl, rfl⟩)
    go_wp2_with fail
    ((with_reducible refine (HL.out _).mono ?_); rintro e w' ⟨rfl, rfl⟩)
    go_wp2_with fail
    ((with_reducible refine (HRLE.out _).mono ?_); rintro e w' ⟨rfl, rfl⟩)
    go_wp2_with fail
    ((with_reducible refine (HM.out _).mono ?_); rintro e w' ⟨rfl, rfl⟩)
    go_wp2_with fail
    ((with_reducible refine (HRM.out _).mono ?_); rintro e w5 ⟨rfl, hb5⟩)
    have H5 := Lib.hid (H3.out.below hb5)
    have HB5 := Lib.hid (HB4.out.trans (hb5.mono HB4.out.size))
    clear hb5 H3 HB4 HOF HROF HLI HRL HC HH HRH HW HRW HL HRLE HM HRM
    generalize w3.drewN m = w4 at *
    go_wp2_with fail
    go_loopw [13] (fun i wr => ∃ k : Nat, k ≤ L.length ∧ i = .int .i64 k ∧ Hid (Two wr w1.heap.size Aa Ab L k) ∧ Hid (Below w.heap.size w wr)) (fun i _ => L.length - (intOf i).toNat)
    case atStart => exact ⟨0, Nat.zero_le _, rfl, H5, HB5⟩
    case round =>
      clear H5 HB5
      obtain ⟨k, hk, rfl, HT, HB⟩ := hrel
      by_cases hlt : k < L.length
      · obtain ⟨ga, ca', gb, cb', rfl, rfl, hne, hga, bA, bB, cA, cB⟩ := HT.out hlt
        have f1 := (bA.cell k).trans (cA k (Nat.le_refl _) hlt)
        have f2 := (bB.cell k).trans (cB k hlt)
        have f3 := bA.frozen k
        have HN : Hid (∀ q : Nat, Two ((wr.drewN q).setCell ⟨ga, k, none⟩ (.int .i64 0)) w1.heap.size (some ⟨ga, 0, none⟩) (some ⟨gb, 0, none⟩) L (k + 1)) := by
          intro q hk1
          have bA := bA.drewN q
          have bB := bB.drewN q
          refine ⟨ga, _, gb, cb', rfl, rfl, hne, hga, bA.put k _, bB.far (p := ⟨ga, k, none⟩) (fun e => hne e.symm) _, fun j h1 h2 => ?_, cB⟩
          rw [Array.getElem?_setIfInBounds_ne (by omega)]
          exact cA j (by omega) h2
        have HBN : Hid (∀ q : Nat, Below w.heap.size w ((wr.drewN q).setCell ⟨ga, k, none⟩ (.int .i64 0))) := fun q => (below_drewN HB.out q).setCell (p := ⟨ga, k, none⟩) (by show _ ≤ ga; omega) _
        generalize L.getD k 0 = z at f1 f2
        have hlenI : (k : Int) < (L.length : Int) := by omega
        clear HT bA bB cA cB HB hne hga
        go_wp2_with fail
        go_quiet (fail)
        go_wp2_with fail
        go_roundw
        case rel => exact ⟨k + 1, by omega, by go_num, Lib.hid (HN.out _), Lib.hid (HBN.out _)⟩
        case measure => simp [intOf]; omega
      · have HBW := HB
        clear HT HB
        go_wp2_with fail
        go_ret
        exact ⟨rfl, HBW.out⟩
  · go_enter Tryd.func3, Tryd.ntmps3
    go_wp2_with fail
    ((with_reducible refine (begun9 _).mono ?_); rintro e w1 ⟨rfl, hb1⟩)
    have HB1 := Lib.hid hb1
    clear hb1
    go_wp2_with fail
    go_ret
    exact ⟨rfl, HB1.out⟩
end Go.Proofs.YtcciejglemfebaaDoor
