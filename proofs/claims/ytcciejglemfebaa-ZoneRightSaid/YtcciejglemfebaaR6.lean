/- The document's answer: Two, MayJoint, Change, Final, each by a contract. -/
import Derived.Test.YtcciejglemfebaaR5
import Derived.Test.YtcciejglemfebaaC3
namespace Go.Proofs.Ytcciejglemfebaa
open Go.RowKit

theorem two_yes (v wi l e c v' wi' l' e' c' : Int) (w : World) :
    Calls Try.prog 65 #[.agg (jcells v wi l e c v' wi' l' e' c' true)] w fun x w' => x = .returned (.slice (some ⟨w.heap.size + 1, 0, none⟩) 2 2) ∧
      (w.alloc (.cells (jcells v wi l e c v' wi' l' e' c' true) 38)).alloc (.cells #[.int .u16 v, .int .u16 wi, .int .u16 l, .int .i64 e, .int .i64 c, .int .u16 v', .int .u16 wi', .int .u16 l', .int .i64 e', .int .i64 c'] 33) = w' := by
  go_enter Try.func65, Try.ntmps65
  go_wp2
  go_ret
  exact ⟨rfl, rfl⟩

theorem two_no (v wi l e c v' wi' l' e' c' : Int) (w : World) :
    Calls Try.prog 65 #[.agg (jcells v wi l e c v' wi' l' e' c' false)] w fun x w' => x = .returned (.slice (some ⟨w.heap.size + 1, 0, none⟩) 1 1) ∧
      (w.alloc (.cells (jcells v wi l e c v' wi' l' e' c' false) 38)).alloc (.cells (cells v wi l e c) 33) = w' := by
  go_enter Try.func65, Try.ntmps65
  go_wp2
  go_ret
  exact ⟨rfl, rfl⟩

theorem rfinal_calls (v wi l e c v' wi' l' e' c' : Int) (two : Bool) (w : World) :
    Calls Try.prog 27 #[.agg (jcells v wi l e c v' wi' l' e' c' two)] w fun x w' =>
      x = .returned (valJ (finalJ ⟨⟨v, wi, l, e, c⟩, ⟨v', wi', l', e', c'⟩, two⟩)) ∧ Below w.heap.size w w' := by
  cases two with
  | true =>
    go_enter Try.func27, Try.ntmps27
    go_wp2_with fail
    refine bodyPost_ret (v := valJ ⟨⟨v', wi', l', e', c'⟩, zeroC, false⟩) (by simp [results, Try.results27, go_sem, valJ, zeroC]) rfl ⟨rfl, ?_⟩
    repeat' (first | (with_reducible exact Below.refl _ _) | (with_reducible refine Below.setCell ?_ ?_ _) | (with_reducible refine Below.alloc ?_ ?_ _) | (simp only [World.size_alloc]; omega) | (show _ ≤ _; omega))
  | false =>
    go_enter Try.func27, Try.ntmps27
    go_wp2_with fail
    refine bodyPost_ret (v := valJ ⟨⟨v, wi, l, e, c⟩, ⟨v', wi', l', e', c'⟩, false⟩) (by simp [results, Try.results27, go_sem, valJ]) rfl ⟨rfl, ?_⟩
    repeat' (first | (with_reducible exact Below.refl _ _) | (with_reducible refine Below.setCell ?_ ?_ _) | (with_reducible refine Below.alloc ?_ ?_ _) | (simp only [World.size_alloc]; omega) | (show _ ≤ _; omega))

set_option maxHeartbeats 1600000 in
theorem rmayj_calls (v wi l e c v' wi' l' e' c' : Int) (two : Bool) (w : World) (hv : U v) (hw : U wi) (hl : U l) (hv' : U v') (hw' : U wi') (hl' : U l') :
    Calls Try.prog 23 #[.agg (jcells v wi l e c v' wi' l' e' c' two)] w fun x w' =>
      x = .returned (.bool (mayJ ⟨⟨v, wi, l, e, c⟩, ⟨v', wi', l', e', c'⟩, two⟩)) ∧ Below w.heap.size w w' := by
  have H1 := Lib.hid fun w => rmay10_calls v wi l e c w hv hw hl
  have H2 := Lib.hid fun w => rmay10_calls v' wi' l' e' c' w hv' hw' hl'
  clear hv hw hl hv' hw' hl'
  cases two with
  | true =>
    show Calls _ _ _ _ fun x w' => x = .returned (.bool (mayC ⟨v, wi, l, e, c⟩ && mayC ⟨v', wi', l', e', c'⟩)) ∧ _
    generalize mayC ⟨v, wi, l, e, c⟩ = M1 at *
    generalize mayC ⟨v', wi', l', e', c'⟩ = M2 at *
    go_enter Try.func23, Try.ntmps23
    go_wp2_with fail
    refine (two_yes _ _ _ _ _ _ _ _ _ _ _).mono ?_; rintro x w1 ⟨rfl, rfl⟩
    go_wp2_with fail
    refine wp_loop_rounds 3 ?_
    rw [rounds_succ]
    go_wp2_with fail
    refine (H1.out _).mono ?_; rintro x w2 ⟨rfl, hb2⟩
    obtain ⟨hc2, hf2⟩ := bcell hb2
    have z2 : w.heap.size + 2 < w2.heap.size := by have := hb2.size; simp at this; omega
    have g2 : Below w.heap.size w w2 := below_3 hb2
    cases M1 with
    | false =>
      go_wp2_with fail
      go_ret
      exact ⟨rfl, g2⟩
    | true =>
      go_wp2_with fail
      rw [rounds_succ]
      go_wp2_with fail
      refine (H2.out _).mono ?_; rintro x w3 ⟨rfl, hb3⟩
      have g3 : Below w.heap.size w w3 := g2.trans (hb3.mono (by omega))
      cases M2 with
      | false =>
        go_wp2_with fail
        go_ret
        exact ⟨rfl, g3⟩
      | true =>
        go_wp2_with fail
        rw [rounds_succ]
        go_wp2_with fail
        go_ret
        exact ⟨rfl, g3⟩
  | false =>
    show Calls _ _ _ _ fun x w' => x = .returned (.bool (mayC ⟨v, wi, l, e, c⟩ && ((⟨v', wi', l', e', c'⟩ : Cfg) == zeroC))) ∧ _
    by_cases hz : (⟨v', wi', l', e', c'⟩ : Cfg) = zeroC
    · have hz1 : ((⟨v', wi', l', e', c'⟩ : Cfg) == zeroC) = true := by simpa using hz
      rw [hz1, Bool.and_true]
      simp only [zeroC, Cfg.mk.injEq] at hz
      obtain ⟨rfl, rfl, rfl, rfl, rfl⟩ := hz
      generalize mayC ⟨v, wi, l, e, c⟩ = M1 at *
      clear hz1
      go_enter Try.func23, Try.ntmps23
      go_wp2_with fail
      refine (two_no _ _ _ _ _ _ _ _ _ _ _).mono ?_; rintro x w1 ⟨rfl, rfl⟩
      go_wp2_with fail
      refine wp_loop_rounds 2 ?_
      rw [rounds_succ]
      go_wp2_with fail
      refine (H1.out _).mono ?_; rintro x w2 ⟨rfl, hb2⟩
      have g2 : Below w.heap.size w w2 := below_3 hb2
      cases M1 with
      | false =>
        go_wp2_with fail
        go_ret
        exact ⟨rfl, g2⟩
      | true =>
        go_wp2_with fail
        rw [rounds_succ]
        go_wp2_with fail
        go_ret
        exact ⟨rfl, g2⟩
    · have hz1 : ((⟨v', wi', l', e', c'⟩ : Cfg) == zeroC) = false := by simpa using hz
      rw [hz1, Bool.and_false]
      clear hz1
      have HZ := Lib.hid hz
      clear hz
      go_enter Try.func23, Try.ntmps23
      go_wp2_with fail
      all_goals first
        | (go_ret; exact ⟨rfl, (Below.refl _ _).alloc (Nat.le_refl _) _⟩)
        | (exfalso; exact HZ.out (by simp [zeroC, *]))
end Go.Proofs.Ytcciejglemfebaa
