/- Package conf's Elects and Commits, each by a contract. -/
import Derived.Test.YtcciejglemfebaaC1
import Derived.Test.YtcciejglemfebaaM1
import Derived.Test.YtcciejglemfebaaP10
import Derived.Deep.DeepCutAuto
namespace Go.Proofs.Ytcciejglemfebaa
open Go.RowKit

set_option maxHeartbeats 1600000 in
theorem elects1_calls (v wi l e c got : Int) (g : Nat) (w : World) (hg : w.cell? ⟨g, 0, none⟩ = some (.int .u16 got)) (_hlt : g < w.heap.size) :
    Calls Try.prog 71 #[.agg (cells v wi l e c), .pointer (some ⟨g, 0, none⟩)] w fun x w' => x = .returned (.bool (electsC ⟨v, wi, l, e, c⟩ got)) ∧ Below w.heap.size w w' := by
  go_enter Try.func71, Try.ntmps71
  go_wp2_with fail
  go_region_held3 (fun w' => w'.cell? ⟨g, 0, none⟩ = some (.int .u16 got) ∧ w'.cell? ⟨w.heap.size, 0, none⟩ = some (.int .u16 v) ∧ w'.cell? ⟨w.heap.size, 1, none⟩ = some (.int .u16 wi) ∧ w'.cell? ⟨w.heap.size, 2, none⟩ = some (.int .u16 l) ∧ w'.cell? ⟨w.heap.size, 3, none⟩ = some (.int .i64 e) ∧ w'.cell? ⟨w.heap.size, 4, none⟩ = some (.int .i64 c)) (go_keep)
    (first
      | (go_at_call 64; refine (votes_calls _ _ _ _ _ _).mono ?_; rintro e w' ⟨rfl, rfl⟩)
      | (go_at_call 16; refine (count_calls _ _).mono ?_; rintro e w' ⟨rfl, m, rfl⟩))
  all_goals
    go_wp2
    go_ret
    exact ⟨rfl, by repeat (first | exact Below.refl _ _ | refine below_drewN ?_ _ | refine Below.alloc ?_ (by simp) _ | refine Below.drew ?_)⟩

set_option maxHeartbeats 1600000 in
theorem commits1_calls (v wi l e c got : Int) (g : Nat) (w : World) (hg : w.cell? ⟨g, 0, none⟩ = some (.int .u16 got)) (_hlt : g < w.heap.size) :
    Calls Try.prog 72 #[.agg (cells v wi l e c), .pointer (some ⟨g, 0, none⟩)] w fun x w' => x = .returned (.bool (commitsC ⟨v, wi, l, e, c⟩ got)) ∧ Below w.heap.size w w' := by
  unfold commitsC
  by_cases hc : c ≤ cnt (bits .and .u16 (union v wi) got)
  · have hd : decide (c ≤ cnt (bits .and .u16 (union v wi) got)) = true := by simpa using hc
    have e1 : (decide (c ≤ cnt (inter (union v wi) got)) && decide (0 < cnt (inter v got))) = decide (0 < cnt (inter v got)) := by rw [hd]; rfl
    show Calls _ _ _ _ fun x w' => x = .returned (.bool (decide (c ≤ cnt (inter (union v wi) got)) && decide (0 < cnt (inter v got)))) ∧ _
    rw [e1]
    clear e1 hc
    go_enter Try.func72, Try.ntmps72
    go_wp2_with fail
    go_region_held3 (fun w' => w'.cell? ⟨g, 0, none⟩ = some (.int .u16 got) ∧ w'.cell? ⟨w.heap.size, 0, none⟩ = some (.int .u16 v) ∧ w'.cell? ⟨w.heap.size, 1, none⟩ = some (.int .u16 wi) ∧ w'.cell? ⟨w.heap.size, 2, none⟩ = some (.int .u16 l) ∧ w'.cell? ⟨w.heap.size, 3, none⟩ = some (.int .i64 e) ∧ w'.cell? ⟨w.heap.size, 4, none⟩ = some (.int .i64 c)) (go_keep)
      (first
        | (go_at_call 64; refine (votes_calls _ _ _ _ _ _).mono ?_; rintro e w' ⟨rfl, rfl⟩)
        | (go_at_call 16; refine (count_calls _ _).mono ?_; rintro e w' ⟨rfl, m, rfl⟩))
    all_goals
      go_wp2
      go_ret
      exact ⟨rfl, by repeat (first | exact Below.refl _ _ | refine below_drewN ?_ _ | refine Below.alloc ?_ (by simp) _ | refine Below.drew ?_)⟩
  · have hd : decide (c ≤ cnt (bits .and .u16 (union v wi) got)) = false := by simpa using hc
    have e1 : (decide (c ≤ cnt (inter (union v wi) got)) && decide (0 < cnt (inter v got))) = false := by rw [hd]; rfl
    show Calls _ _ _ _ fun x w' => x = .returned (.bool (decide (c ≤ cnt (inter (union v wi) got)) && decide (0 < cnt (inter v got)))) ∧ _
    rw [e1]
    clear e1 hc
    go_enter Try.func72, Try.ntmps72
    go_wp2_with fail
    refine held_start (n := 17) (S := fun w' => w'.cell? ⟨g, 0, none⟩ = some (.int .u16 got) ∧ w'.cell? ⟨w.heap.size, 0, none⟩ = some (.int .u16 v) ∧ w'.cell? ⟨w.heap.size, 1, none⟩ = some (.int .u16 wi) ∧ w'.cell? ⟨w.heap.size, 2, none⟩ = some (.int .u16 l) ∧ w'.cell? ⟨w.heap.size, 3, none⟩ = some (.int .i64 e) ∧ w'.cell? ⟨w.heap.size, 4, none⟩ = some (.int .i64 c)) #[false, false, false, false, false, false, false, false, false, false, false, false, false, false, false, false, false] (by kernel_rfl) rfl rfl (by (try dsimp only); go_keep) (fun hHeld => ?_)
    refine held_on (i := 0) (N := (some 4)) (v := ?_) #[true, false, false, false, false, false, false, false, false, false, false, false, false, false, false, false, false] rfl rfl (by kernel_rfl) (fun _ _ _ h => h) (by rfl) ?_ (by assumption) ?_
    rotate_left; (intro w hSw; (try dsimp only at hSw); go_simp); (try with_reducible rfl); (simp only [Act.put, List.setIfInBounds_toArray, List.set_cons_zero, List.set_cons_succ])
    refine held_on (i := 2) (N := (some 6)) (v := ?_) #[true, false, true, false, false, false, false, false, false, false, false, false, false, false, false, false, false] rfl rfl (by kernel_rfl) (fun _ _ _ h => h) (by rfl) ?_ (by assumption) ?_
    rotate_left; (intro w hSw; (try dsimp only at hSw); go_simp); (try with_reducible rfl); (simp only [Act.put, List.setIfInBounds_toArray, List.set_cons_zero, List.set_cons_succ])
    refine held_on (i := 5) (N := (some 9)) (v := ?_) #[true, false, true, false, false, true, false, false, false, false, false, false, false, false, false, false, false] rfl rfl (by kernel_rfl) (fun _ _ _ h => h) (by rfl) ?_ (by assumption) ?_
    rotate_left; (intro w hSw; (try dsimp only at hSw); go_simp); (try with_reducible rfl); (simp only [Act.put, List.setIfInBounds_toArray, List.set_cons_zero, List.set_cons_succ])
    refine held_on (i := 6) (N := (some 10)) (v := ?_) #[true, false, true, false, false, true, true, false, false, false, false, false, false, false, false, false, false] rfl rfl (by kernel_rfl) (fun _ _ _ h => h) (by rfl) ?_ (by assumption) ?_
    rotate_left; (intro w hSw; (try dsimp only at hSw); go_simp); (try with_reducible rfl); (simp only [Act.put, List.setIfInBounds_toArray, List.set_cons_zero, List.set_cons_succ])
    refine held_run (i := 1) #[true, true, true, false, false, true, true, false, false, false, false, false, false, false, false, false, false] rfl (by kernel_rfl) (by rfl) (fun K hK => ?_)
    go_simp
    refine (votes_calls _ _ _ _ _ _).mono ?_; rintro e w' ⟨rfl, rfl⟩
    refine hK.out _ _ (by (try dsimp only); go_keep) (fun hHeld => ?_); clear hK K; (try simp only [Act.put, List.setIfInBounds_toArray, List.set_cons_zero, List.set_cons_succ])
    refine held_on (i := 3) (N := (some 7)) (v := ?_) #[true, true, true, true, false, true, true, false, false, false, false, false, false, false, false, false, false] rfl rfl (by kernel_rfl) (fun _ _ _ h => h) (by rfl) ?_ (by assumption) ?_
    rotate_left; (intro w hSw; (try dsimp only at hSw); go_simp); (try with_reducible rfl); (simp only [Act.put, List.setIfInBounds_toArray, List.set_cons_zero, List.set_cons_succ])
    refine held_run (i := 4) #[true, true, true, true, true, true, true, false, false, false, false, false, false, false, false, false, false] rfl (by kernel_rfl) (by rfl) (fun K hK => ?_)
    go_simp
    refine (count_calls _ _).mono ?_; rintro e w' ⟨rfl, m, rfl⟩
    refine hK.out _ _ (by (try dsimp only); go_keep) (fun hHeld => ?_); clear hK K; (try simp only [Act.put, List.setIfInBounds_toArray, List.set_cons_zero, List.set_cons_succ])
    refine held_on (i := 7) (N := (some 11)) (v := ?_) #[true, true, true, true, true, true, true, true, false, false, false, false, false, false, false, false, false] rfl rfl (by kernel_rfl) (fun _ _ _ h => h) (by rfl) ?_ (by assumption) ?_
    rotate_left; (intro w hSw; (try dsimp only at hSw); go_simp); (try with_reducible rfl); (simp only [Act.put, List.setIfInBounds_toArray, List.set_cons_zero, List.set_cons_succ])
    refine held_on (i := 8) (N := (some 12)) (v := ?_) #[true, true, true, true, true, true, true, true, true, false, false, false, false, false, false, false, false] rfl rfl (by kernel_rfl) (fun _ _ _ h => h) (by rfl) ?_ (by assumption) ?_
    rotate_left; (intro w hSw; (try dsimp only at hSw); go_simp); (try with_reducible rfl); (simp only [Act.put, List.setIfInBounds_toArray, List.set_cons_zero, List.set_cons_succ])
    refine held_off (i := 9) (N := (some 13)) #[true, true, true, true, true, true, true, true, true, true, false, false, false, false, false, false, false] rfl rfl (by kernel_rfl) (fun _ _ _ h => h) (by rfl) (by assumption) ?_; (simp only [Act.put, List.setIfInBounds_toArray, List.set_cons_zero, List.set_cons_succ])
    refine held_off (i := 10) (N := (some 14)) #[true, true, true, true, true, true, true, true, true, true, true, false, false, false, false, false, false] rfl rfl (by kernel_rfl) (fun _ _ _ h => h) (by rfl) (by assumption) ?_; (simp only [Act.put, List.setIfInBounds_toArray, List.set_cons_zero, List.set_cons_succ])
    refine held_off (i := 11) (N := (some 15)) #[true, true, true, true, true, true, true, true, true, true, true, true, false, false, false, false, false] rfl rfl (by kernel_rfl) (fun _ _ _ h => h) (by rfl) (by assumption) ?_; (simp only [Act.put, List.setIfInBounds_toArray, List.set_cons_zero, List.set_cons_succ])
    refine held_off (i := 12) (N := (some 16)) #[true, true, true, true, true, true, true, true, true, true, true, true, true, false, false, false, false] rfl rfl (by kernel_rfl) (fun _ _ _ h => h) (by rfl) (by assumption) ?_; (simp only [Act.put, List.setIfInBounds_toArray, List.set_cons_zero, List.set_cons_succ])
    refine held_off (i := 13) (N := (some 17)) #[true, true, true, true, true, true, true, true, true, true, true, true, true, true, false, false, false] rfl rfl (by kernel_rfl) (fun _ _ _ h => h) (by rfl) (by assumption) ?_; (simp only [Act.put, List.setIfInBounds_toArray, List.set_cons_zero, List.set_cons_succ])
    refine held_off (i := 14) (N := (some 18)) #[true, true, true, true, true, true, true, true, true, true, true, true, true, true, true, false, false] rfl rfl (by kernel_rfl) (fun _ _ _ h => h) (by rfl) (by assumption) ?_; (simp only [Act.put, List.setIfInBounds_toArray, List.set_cons_zero, List.set_cons_succ])
    refine held_on (i := 15) (N := (some 19)) (v := ?_) #[true, true, true, true, true, true, true, true, true, true, true, true, true, true, true, true, false] rfl rfl (by kernel_rfl) (fun _ _ _ h => h) (by rfl) ?_ (by assumption) ?_
    rotate_left; (intro w hSw; (try dsimp only at hSw); go_simp); (try with_reducible rfl); (simp only [Act.put, List.setIfInBounds_toArray, List.set_cons_zero, List.set_cons_succ])
    refine held_on (i := 16) (N := (some 3)) (v := ?_) #[true, true, true, true, true, true, true, true, true, true, true, true, true, true, true, true, true] rfl rfl (by kernel_rfl) (fun _ _ _ h => h) (by rfl) ?_ (by assumption) ?_
    rotate_left; (intro w hSw; (try dsimp only at hSw); go_simp); (try with_reducible rfl); (simp only [Act.put, List.setIfInBounds_toArray, List.set_cons_zero, List.set_cons_succ])
    refine held_done (by kernel_rfl) ?_
    all_goals
      go_wp2
      go_ret
      exact ⟨rfl, by repeat (first | exact Below.refl _ _ | refine below_drewN ?_ _ | refine Below.alloc ?_ (by simp) _ | refine Below.drew ?_)⟩
/-- A joint's cells. -/
abbrev jcells (v w l e c v' w' l' e' c' : Int) (two : Bool) : Array Value :=
  #[.int .u16 v, .int .u16 w, .int .u16 l, .int .i64 e, .int .i64 c, .int .u16 v', .int .u16 w', .int .u16 l', .int .i64 e', .int .i64 c', .bool two]

set_option maxHeartbeats 1600000 in
theorem elects_calls (v wi l e c v' wi' l' e' c' : Int) (two : Bool) (got : Int) (w : World) :
    Calls Try.prog 41 #[.agg (jcells v wi l e c v' wi' l' e' c' two), .int .u16 got] w fun x w' => x = .returned (.bool (electsJ ⟨⟨v, wi, l, e, c⟩, ⟨v', wi', l', e', c'⟩, two⟩ got)) ∧ Below w.heap.size w w' := by
  show Calls _ _ _ _ fun x w' => x = .returned (.bool (electsC ⟨v, wi, l, e, c⟩ got && (!two || electsC ⟨v', wi', l', e', c'⟩ got))) ∧ _
  cases hE : electsC ⟨v, wi, l, e, c⟩ got with
  | false =>
    rw [Bool.false_and]
    go_enter Try.func41, Try.ntmps41
    go_wp2_with fail
    refine (elects1_calls v wi l e c got (w.heap.size + 1) _ ?_ ?_).mono ?_
    · simp [go_sem]
    · simp [go_sem]
    rintro x w1 ⟨rfl, hb⟩
    obtain ⟨hc, hf⟩ := bcell hb
    go_wp2_with fail
    go_ret
    exact ⟨rfl, (((Below.refl _ _).alloc (Nat.le_refl _) _).alloc (by simp) _).trans (hb.mono (by simp only [World.size_alloc]; omega))⟩
  | true =>
    rw [Bool.true_and]
    cases two with
    | false =>
      rw [show (!false || electsC ⟨v', wi', l', e', c'⟩ got) = true from rfl]
      go_enter Try.func41, Try.ntmps41
      go_wp2_with fail
      refine (elects1_calls v wi l e c got (w.heap.size + 1) _ ?_ ?_).mono ?_
      · simp [go_sem]
      · simp [go_sem]
      rintro x w1 ⟨rfl, hb⟩
      obtain ⟨hc, hf⟩ := bcell hb
      go_wp2_with fail
      go_ret
      exact ⟨rfl, (((Below.refl _ _).alloc (Nat.le_refl _) _).alloc (by simp) _).trans (hb.mono (by simp only [World.size_alloc]; omega))⟩
    | true =>
      rw [show (!true || electsC ⟨v', wi', l', e', c'⟩ got) = electsC ⟨v', wi', l', e', c'⟩ got from rfl]
      go_enter Try.func41, Try.ntmps41
      go_wp2_with fail
      refine (elects1_calls v wi l e c got (w.heap.size + 1) _ ?_ ?_).mono ?_
      · simp [go_sem]
      · simp [go_sem]
      rintro x w1 ⟨rfl, hb⟩
      have hz : w.heap.size + 1 < w1.heap.size := by have := hb.size; simp at this; omega
      obtain ⟨hc, hf⟩ := bcell hb
      go_wp2_with fail
      refine (elects1_calls v' wi' l' e' c' got (w.heap.size + 1) _ ?_ hz).mono ?_
      · rw [hc _ _ (by simp)]
        simp [go_sem]
      rintro x w2 ⟨rfl, hb2⟩
      clear hE
      go_wp2_with fail
      go_ret
      exact ⟨rfl, ((((Below.refl _ _).alloc (Nat.le_refl _) _).alloc (by simp) _).trans (hb.mono (by simp only [World.size_alloc]; omega))).trans (hb2.mono (by omega))⟩

set_option maxHeartbeats 1600000 in
theorem commits_calls (v wi l e c v' wi' l' e' c' : Int) (two : Bool) (got : Int) (w : World) :
    Calls Try.prog 42 #[.agg (jcells v wi l e c v' wi' l' e' c' two), .int .u16 got] w fun x w' => x = .returned (.bool (commitsJ ⟨⟨v, wi, l, e, c⟩, ⟨v', wi', l', e', c'⟩, two⟩ got)) ∧ Below w.heap.size w w' := by
  show Calls _ _ _ _ fun x w' => x = .returned (.bool (commitsC ⟨v, wi, l, e, c⟩ got && (!two || commitsC ⟨v', wi', l', e', c'⟩ got))) ∧ _
  cases hE : commitsC ⟨v, wi, l, e, c⟩ got with
  | false =>
    rw [Bool.false_and]
    go_enter Try.func42, Try.ntmps42
    go_wp2_with fail
    refine (commits1_calls v wi l e c got (w.heap.size + 1) _ ?_ ?_).mono ?_
    · simp [go_sem]
    · simp [go_sem]
    rintro x w1 ⟨rfl, hb⟩
    obtain ⟨hc, hf⟩ := bcell hb
    go_wp2_with fail
    go_ret
    exact ⟨rfl, (((Below.refl _ _).alloc (Nat.le_refl _) _).alloc (by simp) _).trans (hb.mono (by simp only [World.size_alloc]; omega))⟩
  | true =>
    rw [Bool.true_and]
    cases two with
    | false =>
      rw [show (!false || commitsC ⟨v', wi', l', e', c'⟩ got) = true from rfl]
      go_enter Try.func42, Try.ntmps42
      go_wp2_with fail
      refine (commits1_calls v wi l e c got (w.heap.size + 1) _ ?_ ?_).mono ?_
      · simp [go_sem]
      · simp [go_sem]
      rintro x w1 ⟨rfl, hb⟩
      obtain ⟨hc, hf⟩ := bcell hb
      go_wp2_with fail
      go_ret
      exact ⟨rfl, (((Below.refl _ _).alloc (Nat.le_refl _) _).alloc (by simp) _).trans (hb.mono (by simp only [World.size_alloc]; omega))⟩
    | true =>
      rw [show (!true || commitsC ⟨v', wi', l', e', c'⟩ got) = commitsC ⟨v', wi', l', e', c'⟩ got from rfl]
      go_enter Try.func42, Try.ntmps42
      go_wp2_with fail
      refine (commits1_calls v wi l e c got (w.heap.size + 1) _ ?_ ?_).mono ?_
      · simp [go_sem]
      · simp [go_sem]
      rintro x w1 ⟨rfl, hb⟩
      have hz : w.heap.size + 1 < w1.heap.size := by have := hb.size; simp at this; omega
      obtain ⟨hc, hf⟩ := bcell hb
      go_wp2_with fail
      refine (commits1_calls v' wi' l' e' c' got (w.heap.size + 1) _ ?_ hz).mono ?_
      · rw [hc _ _ (by simp)]
        simp [go_sem]
      rintro x w2 ⟨rfl, hb2⟩
      clear hE
      go_wp2_with fail
      go_ret
      exact ⟨rfl, ((((Below.refl _ _).alloc (Nat.le_refl _) _).alloc (by simp) _).trans (hb.mono (by simp only [World.size_alloc]; omega))).trans (hb2.mono (by omega))⟩

end Go.Proofs.Ytcciejglemfebaa
