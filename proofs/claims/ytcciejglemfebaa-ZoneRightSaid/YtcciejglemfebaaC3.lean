/- Package conf's Change, Final, MayJoint, each by a contract. -/
import Derived.Test.YtcciejglemfebaaC2
namespace Go.Proofs.Ytcciejglemfebaa
open Go.RowKit

/-- A joint as a value. -/
def valJ (j : Jnt) : Value := .agg (jcells j.old.v j.old.w j.old.l j.old.e j.old.c j.new.v j.new.w j.new.l j.new.e j.new.c j.two)

theorem ret_two {a b c d : Value} (h : a = c) (k : b = d) : Ending.returned (.tuple #[a, b]) = .returned (.tuple #[c, d]) := by rw [h, k]

set_option maxHeartbeats 1600000 in
theorem change_calls (v wi l e c v' wi' l' e' c' : Int) (two : Bool) (tv tw tl te tc : Int) (w : World) :
    Calls Try.prog 24 #[.agg (jcells v wi l e c v' wi' l' e' c' two), .agg (cells tv tw tl te tc)] w fun x w' =>
      x = .returned (.tuple #[valJ (changeJ ⟨⟨v, wi, l, e, c⟩, ⟨v', wi', l', e', c'⟩, two⟩ ⟨tv, tw, tl, te, tc⟩).1, .int .i64 (changeJ ⟨⟨v, wi, l, e, c⟩, ⟨v', wi', l', e', c'⟩, two⟩ ⟨tv, tw, tl, te, tc⟩).2]) ∧ Below w.heap.size w w' := by
  cases two with
  | true =>
    show Calls _ _ _ _ fun x w' => x = .returned (.tuple #[valJ zeroJ, .int .i64 10]) ∧ _
    go_enter Try.func24, Try.ntmps24
    go_wp2_with fail
    refine bodyPost_ret (v := .tuple #[valJ zeroJ, .int .i64 10]) (by simp [results, Try.results24, go_sem, valJ, zeroJ, zeroC]) rfl ⟨rfl, ?_⟩
    repeat' (first | (with_reducible exact Below.refl _ _) | (with_reducible refine Below.setCell ?_ ?_ _) | (with_reducible refine Below.alloc ?_ ?_ _) | (simp only [World.size_alloc]; omega) | (show _ ≤ _; omega))
  | false =>
    cases hm : mayC ⟨tv, tw, tl, te, tc⟩ with
    | false =>
      have hch : changeJ ⟨⟨v, wi, l, e, c⟩, ⟨v', wi', l', e', c'⟩, false⟩ ⟨tv, tw, tl, te, tc⟩ = (zeroJ, 11) := by simp [changeJ, hm]
      rw [hch]
      go_enter Try.func24, Try.ntmps24
      go_wp2_with fail
      refine (cmay_calls _ _ _ _ _ _).mono ?_
      rintro x w1 ⟨rfl, hb⟩
      obtain ⟨hc, hf⟩ := bcell hb
      have hz : w.heap.size + 2 < w1.heap.size := by have := hb.size; simp at this; omega
      go_wp2_with fail
      refine bodyPost_ret (v := .tuple #[valJ zeroJ, .int .i64 11]) (by simp [results, Try.results24, go_sem, valJ, zeroJ, zeroC, hc]) rfl ⟨rfl, ?_⟩
      repeat' (first | (with_reducible exact Below.refl _ _) | (with_reducible refine Below.setCell ?_ ?_ _) | (with_reducible refine Below.alloc ?_ ?_ _) | (with_reducible refine Below.trans ?_ (hb.mono ?_)) | (simp only [World.size_alloc]; omega) | (show _ ≤ _; omega))
    | true =>
      by_cases hw : tw = wi
      · subst hw
        by_cases hd : bits .andNot .u16 tv (bits .or .u16 v l) = 0
        · have hch : changeJ ⟨⟨v, tw, l, e, c⟩, ⟨v', wi', l', e', c'⟩, false⟩ ⟨tv, tw, tl, te, tc⟩ = (⟨⟨v, tw, l, e, c⟩, ⟨tv, tw, tl, te, tc⟩, true⟩, 0) := by simp [changeJ, hm, hd]
          rw [hch]
          clear hch
          go_enter Try.func24, Try.ntmps24
          go_wp2_with fail
          refine (cmay_calls _ _ _ _ _ _).mono ?_
          rintro x w1 ⟨rfl, hb⟩
          obtain ⟨hc, hf⟩ := bcell hb
          have hz : w.heap.size + 2 < w1.heap.size := by have := hb.size; simp at this; omega
          go_wp2_with fail
          refine bodyPost_ret (v := .tuple #[valJ ⟨⟨v, tw, l, e, c⟩, ⟨tv, tw, tl, te, tc⟩, true⟩, .int .i64 0]) (by simp [results, Try.results24, go_sem, valJ, hc]) rfl ⟨rfl, ?_⟩
          repeat' (first | (with_reducible exact Below.refl _ _) | (with_reducible refine Below.setCell ?_ ?_ _) | (with_reducible refine Below.alloc ?_ ?_ _) | (with_reducible refine Below.trans ?_ (hb.mono ?_)) | (simp only [World.size_alloc]; omega) | (show _ ≤ _; omega))
        · have hch : changeJ ⟨⟨v, tw, l, e, c⟩, ⟨v', wi', l', e', c'⟩, false⟩ ⟨tv, tw, tl, te, tc⟩ = (zeroJ, 10) := by simp [changeJ, hm, hd]
          rw [hch]
          clear hch
          have hd' : (bits .andNot .u16 tv (bits .or .u16 v l) != 0) = true := by simpa using hd
          go_enter Try.func24, Try.ntmps24
          go_wp2_with fail
          refine (cmay_calls _ _ _ _ _ _).mono ?_
          rintro x w1 ⟨rfl, hb⟩
          obtain ⟨hc, hf⟩ := bcell hb
          have hz : w.heap.size + 2 < w1.heap.size := by have := hb.size; simp at this; omega
          go_wp2_with fail
          refine bodyPost_ret (v := .tuple #[valJ zeroJ, .int .i64 10]) (by simp [results, Try.results24, go_sem, valJ, zeroJ, zeroC, hc]) rfl ⟨rfl, ?_⟩
          repeat' (first | (with_reducible exact Below.refl _ _) | (with_reducible refine Below.setCell ?_ ?_ _) | (with_reducible refine Below.alloc ?_ ?_ _) | (with_reducible refine Below.trans ?_ (hb.mono ?_)) | (simp only [World.size_alloc]; omega) | (show _ ≤ _; omega))
      · have hch : changeJ ⟨⟨v, wi, l, e, c⟩, ⟨v', wi', l', e', c'⟩, false⟩ ⟨tv, tw, tl, te, tc⟩ = (zeroJ, 10) := by simp [changeJ, hm, hw]
        rw [hch]
        clear hch
        have hw' : (tw != wi) = true := by simpa using hw
        go_enter Try.func24, Try.ntmps24
        go_wp2_with fail
        refine (cmay_calls _ _ _ _ _ _).mono ?_
        rintro x w1 ⟨rfl, hb⟩
        obtain ⟨hc, hf⟩ := bcell hb
        have hz : w.heap.size + 2 < w1.heap.size := by have := hb.size; simp at this; omega
        go_wp2_with fail
        refine bodyPost_ret (v := .tuple #[valJ zeroJ, .int .i64 10]) (by simp [results, Try.results24, go_sem, valJ, zeroJ, zeroC, hc]) rfl ⟨rfl, ?_⟩
        repeat' (first | (with_reducible exact Below.refl _ _) | (with_reducible refine Below.setCell ?_ ?_ _) | (with_reducible refine Below.alloc ?_ ?_ _) | (with_reducible refine Below.trans ?_ (hb.mono ?_)) | (simp only [World.size_alloc]; omega) | (show _ ≤ _; omega))

set_option maxHeartbeats 1600000 in
theorem final_calls (v wi l e c v' wi' l' e' c' : Int) (two : Bool) (w : World) :
    Calls Try.prog 26 #[.agg (jcells v wi l e c v' wi' l' e' c' two)] w fun x w' =>
      x = .returned (valJ (finalJ ⟨⟨v, wi, l, e, c⟩, ⟨v', wi', l', e', c'⟩, two⟩)) ∧ Below w.heap.size w w' := by
  cases two with
  | true =>
    go_enter Try.func26, Try.ntmps26
    go_wp2_with fail
    refine bodyPost_ret (v := valJ ⟨⟨v', wi', l', e', c'⟩, zeroC, false⟩) (by simp [results, Try.results26, go_sem, valJ, zeroC]) rfl ⟨rfl, ?_⟩
    repeat' (first | (with_reducible exact Below.refl _ _) | (with_reducible refine Below.setCell ?_ ?_ _) | (with_reducible refine Below.alloc ?_ ?_ _) | (simp only [World.size_alloc]; omega) | (show _ ≤ _; omega))
  | false =>
    go_enter Try.func26, Try.ntmps26
    go_wp2_with fail
    refine bodyPost_ret (v := valJ ⟨⟨v, wi, l, e, c⟩, ⟨v', wi', l', e', c'⟩, false⟩) (by simp [results, Try.results26, go_sem, valJ]) rfl ⟨rfl, ?_⟩
    repeat' (first | (with_reducible exact Below.refl _ _) | (with_reducible refine Below.setCell ?_ ?_ _) | (with_reducible refine Below.alloc ?_ ?_ _) | (simp only [World.size_alloc]; omega) | (show _ ≤ _; omega))

set_option maxHeartbeats 1600000 in
theorem mayj_calls (v wi l e c v' wi' l' e' c' : Int) (two : Bool) (w : World) :
    Calls Try.prog 40 #[.agg (jcells v wi l e c v' wi' l' e' c' two)] w fun x w' =>
      x = .returned (.bool (mayJ ⟨⟨v, wi, l, e, c⟩, ⟨v', wi', l', e', c'⟩, two⟩)) ∧ Below w.heap.size w w' := by
  cases two with
  | true =>
    show Calls _ _ _ _ fun x w' => x = .returned (.bool (mayC ⟨v, wi, l, e, c⟩ && mayC ⟨v', wi', l', e', c'⟩)) ∧ _
    cases hm : mayC ⟨v, wi, l, e, c⟩ with
    | false =>
      rw [Bool.false_and]
      go_enter Try.func40, Try.ntmps40
      go_wp2_with fail
      refine (cmay_calls _ _ _ _ _ _).mono ?_
      rintro x w1 ⟨rfl, hb⟩
      go_wp2_with fail
      go_ret
      exact ⟨rfl, ((Below.refl _ _).alloc (Nat.le_refl _) _).trans (hb.mono (by simp only [World.size_alloc]; omega))⟩
    | true =>
      rw [Bool.true_and]
      go_enter Try.func40, Try.ntmps40
      go_wp2_with fail
      refine (cmay_calls _ _ _ _ _ _).mono ?_
      rintro x w1 ⟨rfl, hb⟩
      obtain ⟨hc, hf⟩ := bcell hb
      have hz : w.heap.size < w1.heap.size := by have := hb.size; simp at this; omega
      go_wp2_with fail
      refine (cmay_calls _ _ _ _ _ _).mono ?_
      rintro x w2 ⟨rfl, hb2⟩
      clear hm
      go_wp2_with fail
      go_ret
      exact ⟨rfl, (((Below.refl _ _).alloc (Nat.le_refl _) _).trans (hb.mono (by simp only [World.size_alloc]; omega))).trans (hb2.mono (by omega))⟩
  | false =>
    show Calls _ _ _ _ fun x w' => x = .returned (.bool (mayC ⟨v, wi, l, e, c⟩ && ((⟨v', wi', l', e', c'⟩ : Cfg) == zeroC))) ∧ _
    cases hm : mayC ⟨v, wi, l, e, c⟩ with
    | false =>
      rw [Bool.false_and]
      go_enter Try.func40, Try.ntmps40
      go_wp2_with fail
      refine (cmay_calls _ _ _ _ _ _).mono ?_
      rintro x w1 ⟨rfl, hb⟩
      go_wp2_with fail
      go_ret
      exact ⟨rfl, ((Below.refl _ _).alloc (Nat.le_refl _) _).trans (hb.mono (by simp only [World.size_alloc]; omega))⟩
    | true =>
      rw [Bool.true_and]
      go_enter Try.func40, Try.ntmps40
      go_wp2_with fail
      refine (cmay_calls _ _ _ _ _ _).mono ?_
      rintro x w1 ⟨rfl, hb⟩
      obtain ⟨hc, hf⟩ := bcell hb
      go_wp2_with fail
      all_goals
        go_ret
        exact ⟨ret_bool (by simp [zeroC, *]), ((Below.refl _ _).alloc (Nat.le_refl _) _).trans (hb.mono (by simp only [World.size_alloc]; omega))⟩
end Go.Proofs.Ytcciejglemfebaa
