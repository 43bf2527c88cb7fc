/- The document's answer to Change, by a contract: what the program answers. -/
import Derived.Test.YtcciejglemfebaaR6
namespace Go.Proofs.Ytcciejglemfebaa
open Go.RowKit

set_option maxHeartbeats 3200000 in
theorem rchange_calls (v wi l e c v' wi' l' e' c' : Int) (two : Bool) (tv tw tl te tc : Int) (w : World) (hv : U v) (hl : U l) (htv : U tv) (htw : U tw) (htl : U tl) :
    Calls Try.prog 25 #[.agg (jcells v wi l e c v' wi' l' e' c' two), .agg (cells tv tw tl te tc)] w fun x w' =>
      x = .returned (.tuple #[valJ (changeJ ⟨⟨v, wi, l, e, c⟩, ⟨v', wi', l', e', c'⟩, two⟩ ⟨tv, tw, tl, te, tc⟩).1, .int .i64 (changeJ ⟨⟨v, wi, l, e, c⟩, ⟨v', wi', l', e', c'⟩, two⟩ ⟨tv, tw, tl, te, tc⟩).2]) ∧ Below w.heap.size w w' := by
  have HM0 := fun w => rmay10_calls tv tw tl te tc w htv htw htl
  have HV := Lib.hid hv
  have HL := Lib.hid hl
  have HT := Lib.hid htv
  have HD : Hid (U (msk (union v l))) := Lib.hid (bits_u _ _ _)
  cases two with
  | true =>
    clear HM0
    show Calls _ _ _ _ fun x w' => x = .returned (.tuple #[valJ zeroJ, .int .i64 10]) ∧ _
    go_enter Try.func25, Try.ntmps25
    go_wp2_with fail
    refine bodyPost_ret (v := .tuple #[valJ zeroJ, .int .i64 10]) (by simp [results, Try.results25, go_sem, valJ, zeroJ, zeroC]) rfl ⟨rfl, ?_⟩
    repeat' (first | (with_reducible exact Below.refl _ _) | (with_reducible refine below_drewN ?_ _) | (with_reducible refine Below.setCell ?_ ?_ _) | (with_reducible refine Below.alloc ?_ ?_ _) | (simp only [World.size_alloc]; omega) | (show _ ≤ _; omega))
  | false =>
    cases hm : mayC ⟨tv, tw, tl, te, tc⟩ with
    | false =>
      have hch : changeJ ⟨⟨v, wi, l, e, c⟩, ⟨v', wi', l', e', c'⟩, false⟩ ⟨tv, tw, tl, te, tc⟩ = (zeroJ, 11) := by simp [changeJ, hm]
      rw [hch]
      rw [hm] at HM0
      have HM := Lib.hid HM0
      clear hch HM0 hv hl htv htw htl
      go_enter Try.func25, Try.ntmps25
      go_wp2_with fail
      refine (HM.out _).mono ?_
      rintro x w1 ⟨rfl, hb⟩
      obtain ⟨hc, hf⟩ := bcell hb
      have hz : w.heap.size + 2 < w1.heap.size := by have := hb.size; simp at this; omega
      go_wp2_with fail
      refine bodyPost_ret (v := .tuple #[valJ zeroJ, .int .i64 11]) (by simp [results, Try.results25, go_sem, valJ, zeroJ, zeroC, hc]) rfl ⟨rfl, ?_⟩
      repeat' (first | (with_reducible exact Below.refl _ _) | (with_reducible refine below_drewN ?_ _) | (with_reducible refine Below.setCell ?_ ?_ _) | (with_reducible refine Below.alloc ?_ ?_ _) | (with_reducible refine Below.trans ?_ (hb.mono ?_)) | (simp only [World.size_alloc]; omega) | (show _ ≤ _; omega))
    | true =>
      have hmb : mayB tv = true := ((mayC_iff _ _ _ _ _).1 hm).1
      have hin := within_iff (d := union v l) htv hmb
      have HM1 := HM0
      rw [hm] at HM1
      have HM := Lib.hid HM1
      clear HM0 HM1 hv hl htv htw htl hmb
      by_cases hw : tw = wi
      · subst hw
        by_cases hd : bits .andNot .u16 tv (bits .or .u16 v l) = 0
        · have hch : changeJ ⟨⟨v, tw, l, e, c⟩, ⟨v', wi', l', e', c'⟩, false⟩ ⟨tv, tw, tl, te, tc⟩ = (⟨⟨v, tw, l, e, c⟩, ⟨tv, tw, tl, te, tc⟩, true⟩, 0) := by simp [changeJ, hm, hd]
          rw [hch]
          have hd' : (msk (inter tv (msk (union v l))) != tv) = false := by simpa using hin.2 hd
          have hw' : (tw != tw) = false := by simp
          clear hch hin hd hm
          go_enter Try.func25, Try.ntmps25
          go_wp2_with fail
          refine (HM.out _).mono ?_
          rintro x w1 ⟨rfl, hb⟩
          obtain ⟨hc, hf⟩ := bcell hb
          have hz : w.heap.size + 2 < w1.heap.size := by have := hb.size; simp at this; omega
          go_wp2_with fail
          refine (rjoin_calls _ _ _ HV.out HL.out).mono ?_; rintro x w2 ⟨rfl, rfl⟩
          go_wp2_with fail
          go_quiet ((go_at_call 35; exact Calls.quiet_of_same ((rmeet_calls _ _ _ HT.out HD.out).mono fun _ _ hh => ⟨hh.1, hh.2.symm⟩)))
          go_wp2_with fail
          refine bodyPost_ret (v := .tuple #[valJ ⟨⟨v, tw, l, e, c⟩, ⟨tv, tw, tl, te, tc⟩, true⟩, .int .i64 0]) (by simp [results, Try.results25, go_sem, valJ, hc]) rfl ⟨rfl, ?_⟩
          repeat' (first | (with_reducible exact Below.refl _ _) | (with_reducible refine below_drewN ?_ _) | (with_reducible refine Below.setCell ?_ ?_ _) | (with_reducible refine Below.alloc ?_ ?_ _) | (with_reducible refine Below.trans ?_ (hb.mono ?_)) | (simp only [World.size_alloc]; omega) | (show _ ≤ _; omega))
        · have hch : changeJ ⟨⟨v, tw, l, e, c⟩, ⟨v', wi', l', e', c'⟩, false⟩ ⟨tv, tw, tl, te, tc⟩ = (zeroJ, 10) := by simp [changeJ, hm, hd]
          rw [hch]
          have hd' : (msk (inter tv (msk (union v l))) != tv) = true := by simpa using fun h => hd (hin.1 h)
          have hw' : (tw != tw) = false := by simp
          clear hch hin hd hm
          go_enter Try.func25, Try.ntmps25
          go_wp2_with fail
          refine (HM.out _).mono ?_
          rintro x w1 ⟨rfl, hb⟩
          obtain ⟨hc, hf⟩ := bcell hb
          have hz : w.heap.size + 2 < w1.heap.size := by have := hb.size; simp at this; omega
          go_wp2_with fail
          refine (rjoin_calls _ _ _ HV.out HL.out).mono ?_; rintro x w2 ⟨rfl, rfl⟩
          go_wp2_with fail
          go_quiet ((go_at_call 35; exact Calls.quiet_of_same ((rmeet_calls _ _ _ HT.out HD.out).mono fun _ _ hh => ⟨hh.1, hh.2.symm⟩)))
          go_wp2_with fail
          refine bodyPost_ret (v := .tuple #[valJ zeroJ, .int .i64 10]) (by simp [results, Try.results25, go_sem, valJ, zeroJ, zeroC, hc]) rfl ⟨rfl, ?_⟩
          repeat' (first | (with_reducible exact Below.refl _ _) | (with_reducible refine below_drewN ?_ _) | (with_reducible refine Below.setCell ?_ ?_ _) | (with_reducible refine Below.alloc ?_ ?_ _) | (with_reducible refine Below.trans ?_ (hb.mono ?_)) | (simp only [World.size_alloc]; omega) | (show _ ≤ _; omega))
      · have hch : changeJ ⟨⟨v, wi, l, e, c⟩, ⟨v', wi', l', e', c'⟩, false⟩ ⟨tv, tw, tl, te, tc⟩ = (zeroJ, 10) := by simp [changeJ, hm, hw]
        rw [hch]
        have hw' : (tw != wi) = true := by simpa using hw
        clear hch hin hw hm
        go_enter Try.func25, Try.ntmps25
        go_wp2_with fail
        refine (HM.out _).mono ?_
        rintro x w1 ⟨rfl, hb⟩
        obtain ⟨hc, hf⟩ := bcell hb
        have hz : w.heap.size + 2 < w1.heap.size := by have := hb.size; simp at this; omega
        go_wp2_with fail
        refine (rjoin_calls _ _ _ HV.out HL.out).mono ?_; rintro x w2 ⟨rfl, rfl⟩
        go_wp2_with fail
        go_quiet ((go_at_call 35; exact Calls.quiet_of_same ((rmeet_calls _ _ _ HT.out HD.out).mono fun _ _ hh => ⟨hh.1, hh.2.symm⟩)))
        go_wp2_with fail
        refine bodyPost_ret (v := .tuple #[valJ zeroJ, .int .i64 10]) (by simp [results, Try.results25, go_sem, valJ, zeroJ, zeroC, hc]) rfl ⟨rfl, ?_⟩
        repeat' (first | (with_reducible exact Below.refl _ _) | (with_reducible refine below_drewN ?_ _) | (with_reducible refine Below.setCell ?_ ?_ _) | (with_reducible refine Below.alloc ?_ ?_ _) | (with_reducible refine Below.trans ?_ (hb.mono ?_)) | (simp only [World.size_alloc]; omega) | (show _ ≤ _; omega))
end Go.Proofs.Ytcciejglemfebaa
