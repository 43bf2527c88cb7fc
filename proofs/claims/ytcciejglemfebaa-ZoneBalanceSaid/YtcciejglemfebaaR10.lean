/- The document's answer: who is in a joint, each by a contract. -/
import Derived.Test.YtcciejglemfebaaR8
namespace Go.Proofs.Ytcciejglemfebaa
set_option linter.unusedSimpArgs false
set_option linter.unusedVariables false
open Go.RowKit
theorem zero_u : U 0 := ⟨by decide, by decide⟩

set_option maxHeartbeats 6400000 in
theorem rvoting_calls (v wi l e c v' wi' l' e' c' : Int) (two : Bool) (w : World) (hv : U v) (hw : U wi) (hl : U l) (hv' : U v') (hw' : U wi') (hl' : U l') :
    Calls Try.prog 46 #[.agg (jcells v wi l e c v' wi' l' e' c' two)] w fun x w' => x = .returned (.int .u16 (rvotingJ ⟨⟨v, wi, l, e, c⟩, ⟨v', wi', l', e', c'⟩, two⟩)) ∧ Below w.heap.size w w' := by
  have HQ1 := Lib.hid fun w => rvotes_b v wi l e c w hv hw
  have HQ2 := Lib.hid fun w => rvotes_b v' wi' l' e' c' w hv' hw'
  have HJ1 := Lib.hid fun w => rjoin_calls 0 (votesR ⟨v, wi, l, e, c⟩) w zero_u (votesR_u _)
  have HJ2 := Lib.hid fun w => rjoin_calls (msk (union 0 (votesR ⟨v, wi, l, e, c⟩))) (votesR ⟨v', wi', l', e', c'⟩) w (msk_u _) (votesR_u _)
  clear hv hw hl hv' hw' hl'
  unfold rvotingJ
  dsimp only
  generalize msk (union (msk (union 0 (votesR ⟨v, wi, l, e, c⟩))) (votesR ⟨v', wi', l', e', c'⟩)) = r2 at *
  generalize msk (union 0 (votesR ⟨v, wi, l, e, c⟩)) = r1 at *
  generalize votesR ⟨v, wi, l, e, c⟩ = q1 at *
  generalize votesR ⟨v', wi', l', e', c'⟩ = q2 at *
  cases two with
  | true =>
    have HK : Hid (Keep w (w.heap.size + 2) 33 #[.int .u16 v, .int .u16 wi, .int .u16 l, .int .i64 e, .int .i64 c, .int .u16 v', .int .u16 wi', .int .u16 l', .int .i64 e', .int .i64 c'] (((w.alloc (.cells (jcells v wi l e c v' wi' l' e' c' true) 38)).alloc (.cells (jcells v wi l e c v' wi' l' e' c' true) 38)).alloc (.cells #[.int .u16 v, .int .u16 wi, .int .u16 l, .int .i64 e, .int .i64 c, .int .u16 v', .int .u16 wi', .int .u16 l', .int .i64 e', .int .i64 c'] 33))) := Lib.hid (Keep.mk_new (((Below.refl _ _).alloc (Nat.le_refl _) _).alloc (by simp) _) (by simp))
    go_enter Try.func46, Try.ntmps46
    go_wp2_with fail
    refine (two_yes _ _ _ _ _ _ _ _ _ _ _).mono ?_; rintro x w1 ⟨rfl, rfl⟩
    obtain ⟨_, d00, d01, d02, d03, d04, d05, d06, d07, d08, d09⟩ := keepS10 (Hid.out HK)
    go_wp2_with fail
    refine wp_loop_rounds 3 ?_
    rw [rounds_succ]
    go_wp2_with fail
    refine (HQ1.out _).mono ?_; rintro x w4 ⟨rfl, hb⟩
    have X0 := Lib.hid (Keep.call (Hid.out HK) hb)
    clear hb HK
    have HK := X0; clear X0
    obtain ⟨_, d00, d01, d02, d03, d04, d05, d06, d07, d08, d09⟩ := keepS10 (Hid.out HK)
    go_wp2_with fail
    refine (HJ1.out _).mono ?_; rintro x w5 ⟨rfl, rfl⟩
    go_wp2_with fail
    rw [rounds_succ]
    go_wp2_with fail
    refine (HQ2.out _).mono ?_; rintro x w4 ⟨rfl, hb⟩
    have X0 := Lib.hid (Keep.call (Hid.out HK) hb)
    clear hb HK
    have HK := X0; clear X0
    obtain ⟨_, d00, d01, d02, d03, d04, d05, d06, d07, d08, d09⟩ := keepS10 (Hid.out HK)
    go_wp2_with fail
    refine (HJ2.out _).mono ?_; rintro x w5 ⟨rfl, rfl⟩
    go_wp2_with fail
    rw [rounds_succ]
    go_wp2_with fail
    go_ret
    exact ⟨rfl, (Hid.out HK).2⟩
  | false =>
    have HK : Hid (Keep w (w.heap.size + 2) 33 #[.int .u16 v, .int .u16 wi, .int .u16 l, .int .i64 e, .int .i64 c] (((w.alloc (.cells (jcells v wi l e c v' wi' l' e' c' false) 38)).alloc (.cells (jcells v wi l e c v' wi' l' e' c' false) 38)).alloc (.cells #[.int .u16 v, .int .u16 wi, .int .u16 l, .int .i64 e, .int .i64 c] 33))) := Lib.hid (Keep.mk_new (((Below.refl _ _).alloc (Nat.le_refl _) _).alloc (by simp) _) (by simp))
    go_enter Try.func46, Try.ntmps46
    go_wp2_with fail
    refine (two_no _ _ _ _ _ _ _ _ _ _ _).mono ?_; rintro x w1 ⟨rfl, rfl⟩
    obtain ⟨_, d00, d01, d02, d03, d04⟩ := keepS5 (Hid.out HK)
    go_wp2_with fail
    refine wp_loop_rounds 2 ?_
    rw [rounds_succ]
    go_wp2_with fail
    refine (HQ1.out _).mono ?_; rintro x w4 ⟨rfl, hb⟩
    have X0 := Lib.hid (Keep.call (Hid.out HK) hb)
    clear hb HK
    have HK := X0; clear X0
    obtain ⟨_, d00, d01, d02, d03, d04⟩ := keepS5 (Hid.out HK)
    go_wp2_with fail
    refine (HJ1.out _).mono ?_; rintro x w5 ⟨rfl, rfl⟩
    go_wp2_with fail
    rw [rounds_succ]
    go_wp2_with fail
    go_ret
    exact ⟨rfl, (Hid.out HK).2⟩

set_option maxHeartbeats 6400000 in
theorem rdata_calls (v wi l e c v' wi' l' e' c' : Int) (two : Bool) (w : World) (hv : U v) (hw : U wi) (hl : U l) (hv' : U v') (hw' : U wi') (hl' : U l') :
    Calls Try.prog 48 #[.agg (jcells v wi l e c v' wi' l' e' c' two)] w fun x w' => x = .returned (.int .u16 (rdataJ ⟨⟨v, wi, l, e, c⟩, ⟨v', wi', l', e', c'⟩, two⟩)) ∧ Below w.heap.size w w' := by
  have HA1 := Lib.hid fun w => rjoin_calls 0 v w zero_u hv
  have HB1 := Lib.hid fun w => rjoin_calls (msk (union 0 v)) l w (msk_u _) hl
  have HA2 := Lib.hid fun w => rjoin_calls (msk (union (msk (union 0 v)) l)) v' w (msk_u _) hv'
  have HB2 := Lib.hid fun w => rjoin_calls (msk (union (msk (union (msk (union 0 v)) l)) v')) l' w (msk_u _) hl'
  clear hv hw hl hv' hw' hl'
  unfold rdataJ rdataC
  dsimp only
  generalize msk (union (msk (union (msk (union (msk (union 0 v)) l)) v')) l') = r4 at *
  generalize msk (union (msk (union (msk (union 0 v)) l)) v') = r3 at *
  generalize msk (union (msk (union 0 v)) l) = r2 at *
  generalize msk (union 0 v) = r1 at *
  cases two with
  | true =>
    have HK : Hid (Keep w (w.heap.size + 2) 33 #[.int .u16 v, .int .u16 wi, .int .u16 l, .int .i64 e, .int .i64 c, .int .u16 v', .int .u16 wi', .int .u16 l', .int .i64 e', .int .i64 c'] (((w.alloc (.cells (jcells v wi l e c v' wi' l' e' c' true) 38)).alloc (.cells (jcells v wi l e c v' wi' l' e' c' true) 38)).alloc (.cells #[.int .u16 v, .int .u16 wi, .int .u16 l, .int .i64 e, .int .i64 c, .int .u16 v', .int .u16 wi', .int .u16 l', .int .i64 e', .int .i64 c'] 33))) := Lib.hid (Keep.mk_new (((Below.refl _ _).alloc (Nat.le_refl _) _).alloc (by simp) _) (by simp))
    go_enter Try.func48, Try.ntmps48
    go_wp2_with fail
    refine (two_yes _ _ _ _ _ _ _ _ _ _ _).mono ?_; rintro x w1 ⟨rfl, rfl⟩
    obtain ⟨_, d00, d01, d02, d03, d04, d05, d06, d07, d08, d09⟩ := keepS10 (Hid.out HK)
    go_wp2_with fail
    refine wp_loop_rounds 3 ?_
    rw [rounds_succ]
    go_wp2_with fail
    refine held_start (n := 14) (S := fun w' => (Hid (Keep w (w.heap.size + 2) 33 #[.int .u16 v, .int .u16 wi, .int .u16 l, .int .i64 e, .int .i64 c, .int .u16 v', .int .u16 wi', .int .u16 l', .int .i64 e', .int .i64 c'] w') ∧ w'.cell? ⟨(w.heap.size + 2), 0, none⟩ = some (.int .u16 v) ∧ w'.cell? ⟨(w.heap.size + 2), 1, none⟩ = some (.int .u16 wi) ∧ w'.cell? ⟨(w.heap.size + 2), 2, none⟩ = some (.int .u16 l) ∧ w'.cell? ⟨(w.heap.size + 2), 3, none⟩ = some (.int .i64 e) ∧ w'.cell? ⟨(w.heap.size + 2), 4, none⟩ = some (.int .i64 c) ∧ w'.cell? ⟨(w.heap.size + 2), 5, none⟩ = some (.int .u16 v') ∧ w'.cell? ⟨(w.heap.size + 2), 6, none⟩ = some (.int .u16 wi') ∧ w'.cell? ⟨(w.heap.size + 2), 7, none⟩ = some (.int .u16 l') ∧ w'.cell? ⟨(w.heap.size + 2), 8, none⟩ = some (.int .i64 e') ∧ w'.cell? ⟨(w.heap.size + 2), 9, none⟩ = some (.int .i64 c'))) #[false, false, false, false, false, false, false, false, false, false, false, false, false, false] (by kernel_rfl) rfl rfl (keepS10 (Keep.drew (Hid.out HK))) (fun hHeld => ?_)
    refine held_on (i := 0) (N := (some 14)) (v := ?_) #[true, false, false, false, false, false, false, false, false, false, false, false, false, false] rfl rfl (by kernel_rfl) (fun _ _ _ h => h) (by rfl) ?_ (by assumption) ?_
    rotate_left; (intro w hSw; (try dsimp only at hSw); go_simp); (try with_reducible rfl); (simp only [Act.put, List.setIfInBounds_toArray, List.set_cons_zero, List.set_cons_succ])
    refine held_on (i := 1) (N := (some 15)) (v := ?_) #[true, true, false, false, false, false, false, false, false, false, false, false, false, false] rfl rfl (by kernel_rfl) (fun _ _ _ h => h) (by rfl) ?_ (by assumption) ?_
    rotate_left; (intro w hSw; (try dsimp only at hSw); go_simp); (try with_reducible rfl); (simp only [Act.put, List.setIfInBounds_toArray, List.set_cons_zero, List.set_cons_succ])
    refine held_on (i := 2) (N := (some 16)) (v := ?_) #[true, true, true, false, false, false, false, false, false, false, false, false, false, false] rfl rfl (by kernel_rfl) (fun _ _ _ h => h) (by rfl) ?_ (by assumption) ?_
    rotate_left; (intro w hSw; (try dsimp only at hSw); go_simp); (try with_reducible rfl); (simp only [Act.put, List.setIfInBounds_toArray, List.set_cons_zero, List.set_cons_succ])
    refine held_on (i := 3) (N := (some 17)) (v := ?_) #[true, true, true, true, false, false, false, false, false, false, false, false, false, false] rfl rfl (by kernel_rfl) (fun _ _ _ h => h) (by rfl) ?_ (by assumption) ?_
    rotate_left; (intro w hSw; (try dsimp only at hSw); go_simp); (try with_reducible rfl); (simp only [Act.put, List.setIfInBounds_toArray, List.set_cons_zero, List.set_cons_succ])
    refine held_on (i := 4) (N := (some 18)) (v := ?_) #[true, true, true, true, true, false, false, false, false, false, false, false, false, false] rfl rfl (by kernel_rfl) (fun _ _ _ h => h) (by rfl) ?_ (by assumption) ?_
    rotate_left; (intro w hSw; (try dsimp only at hSw); go_simp); (try with_reducible rfl); (simp only [Act.put, List.setIfInBounds_toArray, List.set_cons_zero, List.set_cons_succ])
    refine held_on (i := 5) (N := (some 19)) (v := ?_) #[true, true, true, true, true, true, false, false, false, false, false, false, false, false] rfl rfl (by kernel_rfl) (fun _ _ _ h => h) (by rfl) ?_ (by assumption) ?_
    rotate_left; (intro w hSw; (try dsimp only at hSw); go_simp); (try with_reducible rfl); (simp only [Act.put, List.setIfInBounds_toArray, List.set_cons_zero, List.set_cons_succ])
    refine held_on (i := 7) (N := (some 21)) (v := ?_) #[true, true, true, true, true, true, false, true, false, false, false, false, false, false] rfl rfl (by kernel_rfl) (fun _ _ _ h => h) (by rfl) ?_ (by assumption) ?_
    rotate_left; (intro w hSw; (try dsimp only at hSw); go_simp); (try with_reducible rfl); (simp only [Act.put, List.setIfInBounds_toArray, List.set_cons_zero, List.set_cons_succ])
    refine held_on (i := 8) (N := (some 22)) (v := ?_) #[true, true, true, true, true, true, false, true, true, false, false, false, false, false] rfl rfl (by kernel_rfl) (fun _ _ _ h => h) (by rfl) ?_ (by assumption) ?_
    rotate_left; (intro w hSw; (try dsimp only at hSw); go_simp); (try with_reducible rfl); (simp only [Act.put, List.setIfInBounds_toArray, List.set_cons_zero, List.set_cons_succ])
    refine held_on (i := 9) (N := (some 23)) (v := ?_) #[true, true, true, true, true, true, false, true, true, true, false, false, false, false] rfl rfl (by kernel_rfl) (fun _ _ _ h => h) (by rfl) ?_ (by assumption) ?_
    rotate_left; (intro w hSw; (try dsimp only at hSw); go_simp); (try with_reducible rfl); (simp only [Act.put, List.setIfInBounds_toArray, List.set_cons_zero, List.set_cons_succ])
    refine held_on (i := 10) (N := (some 24)) (v := ?_) #[true, true, true, true, true, true, false, true, true, true, true, false, false, false] rfl rfl (by kernel_rfl) (fun _ _ _ h => h) (by rfl) ?_ (by assumption) ?_
    rotate_left; (intro w hSw; (try dsimp only at hSw); go_simp); (try with_reducible rfl); (simp only [Act.put, List.setIfInBounds_toArray, List.set_cons_zero, List.set_cons_succ])
    refine held_on (i := 11) (N := (some 25)) (v := ?_) #[true, true, true, true, true, true, false, true, true, true, true, true, false, false] rfl rfl (by kernel_rfl) (fun _ _ _ h => h) (by rfl) ?_ (by assumption) ?_
    rotate_left; (intro w hSw; (try dsimp only at hSw); go_simp); (try with_reducible rfl); (simp only [Act.put, List.setIfInBounds_toArray, List.set_cons_zero, List.set_cons_succ])
    refine held_run (i := 6) #[true, true, true, true, true, true, true, true, true, true, true, true, false, false] rfl (by kernel_rfl) (by rfl) (fun K hK => ?_)
    go_simp
    refine (HA1.out _).mono ?_; rintro x w5 ⟨rfl, rfl⟩
    refine hK.out _ _ hHeld (fun hHeld => ?_); clear hK K; (try simp only [Act.put, List.setIfInBounds_toArray, List.set_cons_zero, List.set_cons_succ])
    refine held_run (i := 12) #[true, true, true, true, true, true, true, true, true, true, true, true, true, false] rfl (by kernel_rfl) (by rfl) (fun K hK => ?_)
    go_simp
    refine (HB1.out _).mono ?_; rintro x w6 ⟨rfl, rfl⟩
    refine hK.out _ _ hHeld (fun hHeld => ?_); clear hK K; (try simp only [Act.put, List.setIfInBounds_toArray, List.set_cons_zero, List.set_cons_succ])
    refine held_on (i := 13) (N := (some 3)) (v := ?_) #[true, true, true, true, true, true, true, true, true, true, true, true, true, true] rfl rfl (by kernel_rfl) (fun _ _ _ h => h) (by rfl) ?_ (by assumption) ?_
    rotate_left; (intro w hSw; (try dsimp only at hSw); go_simp); (try with_reducible rfl); (simp only [Act.put, List.setIfInBounds_toArray, List.set_cons_zero, List.set_cons_succ])
    refine held_done (by kernel_rfl) ?_
    have X0 := hHeld.1
    clear hHeld HK
    have HK := X0; clear X0
    obtain ⟨_, d00, d01, d02, d03, d04, d05, d06, d07, d08, d09⟩ := keepS10 (Hid.out HK)
    show Exit.inBlock _ _ _ _ _
    go_wp2_with fail
    rw [rounds_succ]
    go_wp2_with fail
    refine held_start (n := 14) (S := fun w' => (Hid (Keep w (w.heap.size + 2) 33 #[.int .u16 v, .int .u16 wi, .int .u16 l, .int .i64 e, .int .i64 c, .int .u16 v', .int .u16 wi', .int .u16 l', .int .i64 e', .int .i64 c'] w') ∧ w'.cell? ⟨(w.heap.size + 2), 0, none⟩ = some (.int .u16 v) ∧ w'.cell? ⟨(w.heap.size + 2), 1, none⟩ = some (.int .u16 wi) ∧ w'.cell? ⟨(w.heap.size + 2), 2, none⟩ = some (.int .u16 l) ∧ w'.cell? ⟨(w.heap.size + 2), 3, none⟩ = some (.int .i64 e) ∧ w'.cell? ⟨(w.heap.size + 2), 4, none⟩ = some (.int .i64 c) ∧ w'.cell? ⟨(w.heap.size + 2), 5, none⟩ = some (.int .u16 v') ∧ w'.cell? ⟨(w.heap.size + 2), 6, none⟩ = some (.int .u16 wi') ∧ w'.cell? ⟨(w.heap.size + 2), 7, none⟩ = some (.int .u16 l') ∧ w'.cell? ⟨(w.heap.size + 2), 8, none⟩ = some (.int .i64 e') ∧ w'.cell? ⟨(w.heap.size + 2), 9, none⟩ = some (.int .i64 c'))) #[false, false, false, false, false, false, false, false, false, false, false, false, false, false] (by kernel_rfl) rfl rfl (keepS10 (Keep.drew (Hid.out HK))) (fun hHeld => ?_)
    refine held_on (i := 0) (N := (some 14)) (v := ?_) #[true, false, false, false, false, false, false, false, false, false, false, false, false, false] rfl rfl (by kernel_rfl) (fun _ _ _ h => h) (by rfl) ?_ (by assumption) ?_
    rotate_left; (intro w hSw; (try dsimp only at hSw); go_simp); (try with_reducible rfl); (simp only [Act.put, List.setIfInBounds_toArray, List.set_cons_zero, List.set_cons_succ])
    refine held_on (i := 1) (N := (some 15)) (v := ?_) #[true, true, false, false, false, false, false, false, false, false, false, false, false, false] rfl rfl (by kernel_rfl) (fun _ _ _ h => h) (by rfl) ?_ (by assumption) ?_
    rotate_left; (intro w hSw; (try dsimp only at hSw); go_simp); (try with_reducible rfl); (simp only [Act.put, List.setIfInBounds_toArray, List.set_cons_zero, List.set_cons_succ])
    refine held_on (i := 2) (N := (some 16)) (v := ?_) #[true, true, true, false, false, false, false, false, false, false, false, false, false, false] rfl rfl (by kernel_rfl) (fun _ _ _ h => h) (by rfl) ?_ (by assumption) ?_
    rotate_left; (intro w hSw; (try dsimp only at hSw); go_simp); (try with_reducible rfl); (simp only [Act.put, List.setIfInBounds_toArray, List.set_cons_zero, List.set_cons_succ])
    refine held_on (i := 3) (N := (some 17)) (v := ?_) #[true, true, true, true, false, false, false, false, false, false, false, false, false, false] rfl rfl (by kernel_rfl) (fun _ _ _ h => h) (by rfl) ?_ (by assumption) ?_
    rotate_left; (intro w hSw; (try dsimp only at hSw); go_simp); (try with_reducible rfl); (simp only [Act.put, List.setIfInBounds_toArray, List.set_cons_zero, List.set_cons_succ])
    refine held_on (i := 4) (N := (some 18)) (v := ?_) #[true, true, true, true, true, false, false, false, false, false, false, false, false, false] rfl rfl (by kernel_rfl) (fun _ _ _ h => h) (by rfl) ?_ (by assumption) ?_
    rotate_left; (intro w hSw; (try dsimp only at hSw); go_simp); (try with_reducible rfl); (simp only [Act.put, List.setIfInBounds_toArray, List.set_cons_zero, List.set_cons_succ])
    refine held_on (i := 5) (N := (some 19)) (v := ?_) #[true, true, true, true, true, true, false, false, false, false, false, false, false, false] rfl rfl (by kernel_rfl) (fun _ _ _ h => h) (by rfl) ?_ (by assumption) ?_
    rotate_left; (intro w hSw; (try dsimp only at hSw); go_simp); (try with_reducible rfl); (simp only [Act.put, List.setIfInBounds_toArray, List.set_cons_zero, List.set_cons_succ])
    refine held_on (i := 7) (N := (some 21)) (v := ?_) #[true, true, true, true, true, true, false, true, false, false, false, false, false, false] rfl rfl (by kernel_rfl) (fun _ _ _ h => h) (by rfl) ?_ (by assumption) ?_
    rotate_left; (intro w hSw; (try dsimp only at hSw); go_simp); (try with_reducible rfl); (simp only [Act.put, List.setIfInBounds_toArray, List.set_cons_zero, List.set_cons_succ])
    refine held_on (i := 8) (N := (some 22)) (v := ?_) #[true, true, true, true, true, true, false, true, true, false, false, false, false, false] rfl rfl (by kernel_rfl) (fun _ _ _ h => h) (by rfl) ?_ (by assumption) ?_
    rotate_left; (intro w hSw; (try dsimp only at hSw); go_simp); (try with_reducible rfl); (simp only [Act.put, List.setIfInBounds_toArray, List.set_cons_zero, List.set_cons_succ])
    refine held_on (i := 9) (N := (some 23)) (v := ?_) #[true, true, true, true, true, true, false, true, true, true, false, false, false, false] rfl rfl (by kernel_rfl) (fun _ _ _ h => h) (by rfl) ?_ (by assumption) ?_
    rotate_left; (intro w hSw; (try dsimp only at hSw); go_simp); (try with_reducible rfl); (simp only [Act.put, List.setIfInBounds_toArray, List.set_cons_zero, List.set_cons_succ])
    refine held_on (i := 10) (N := (some 24)) (v := ?_) #[true, true, true, true, true, true, false, true, true, true, true, false, false, false] rfl rfl (by kernel_rfl) (fun _ _ _ h => h) (by rfl) ?_ (by assumption) ?_
    rotate_left; (intro w hSw; (try dsimp only at hSw); go_simp); (try with_reducible rfl); (simp only [Act.put, List.setIfInBounds_toArray, List.set_cons_zero, List.set_cons_succ])
    refine held_on (i := 11) (N := (some 25)) (v := ?_) #[true, true, true, true, true, true, false, true, true, true, true, true, false, false] rfl rfl (by kernel_rfl) (fun _ _ _ h => h) (by rfl) ?_ (by assumption) ?_
    rotate_left; (intro w hSw; (try dsimp only at hSw); go_simp); (try with_reducible rfl); (simp only [Act.put, List.setIfInBounds_toArray, List.set_cons_zero, List.set_cons_succ])
    refine held_run (i := 6) #[true, true, true, true, true, true, true, true, true, true, true, true, false, false] rfl (by kernel_rfl) (by rfl) (fun K hK => ?_)
    go_simp
    refine (HA2.out _).mono ?_; rintro x w5 ⟨rfl, rfl⟩
    refine hK.out _ _ hHeld (fun hHeld => ?_); clear hK K; (try simp only [Act.put, List.setIfInBounds_toArray, List.set_cons_zero, List.set_cons_succ])
    refine held_run (i := 12) #[true, true, true, true, true, true, true, true, true, true, true, true, true, false] rfl (by kernel_rfl) (by rfl) (fun K hK => ?_)
    go_simp
    refine (HB2.out _).mono ?_; rintro x w6 ⟨rfl, rfl⟩
    refine hK.out _ _ hHeld (fun hHeld => ?_); clear hK K; (try simp only [Act.put, List.setIfInBounds_toArray, List.set_cons_zero, List.set_cons_succ])
    refine held_on (i := 13) (N := (some 3)) (v := ?_) #[true, true, true, true, true, true, true, true, true, true, true, true, true, true] rfl rfl (by kernel_rfl) (fun _ _ _ h => h) (by rfl) ?_ (by assumption) ?_
    rotate_left; (intro w hSw; (try dsimp only at hSw); go_simp); (try with_reducible rfl); (simp only [Act.put, List.setIfInBounds_toArray, List.set_cons_zero, List.set_cons_succ])
    refine held_done (by kernel_rfl) ?_
    have X0 := hHeld.1
    clear hHeld HK
    have HK := X0; clear X0
    obtain ⟨_, d00, d01, d02, d03, d04, d05, d06, d07, d08, d09⟩ := keepS10 (Hid.out HK)
    show Exit.inBlock _ _ _ _ _
    go_wp2_with fail
    rw [rounds_succ]
    go_wp2_with fail
    go_ret
    exact ⟨rfl, (Hid.out HK).2⟩
  | false =>
    have HK : Hid (Keep w (w.heap.size + 2) 33 #[.int .u16 v, .int .u16 wi, .int .u16 l, .int .i64 e, .int .i64 c] (((w.alloc (.cells (jcells v wi l e c v' wi' l' e' c' false) 38)).alloc (.cells (jcells v wi l e c v' wi' l' e' c' false) 38)).alloc (.cells #[.int .u16 v, .int .u16 wi, .int .u16 l, .int .i64 e, .int .i64 c] 33))) := Lib.hid (Keep.mk_new (((Below.refl _ _).alloc (Nat.le_refl _) _).alloc (by simp) _) (by simp))
    go_enter Try.func48, Try.ntmps48
    go_wp2_with fail
    refine (two_no _ _ _ _ _ _ _ _ _ _ _).mono ?_; rintro x w1 ⟨rfl, rfl⟩
    obtain ⟨_, d00, d01, d02, d03, d04⟩ := keepS5 (Hid.out HK)
    go_wp2_with fail
    refine wp_loop_rounds 2 ?_
    rw [rounds_succ]
    go_wp2_with fail
    refine held_start (n := 14) (S := fun w' => (Hid (Keep w (w.heap.size + 2) 33 #[.int .u16 v, .int .u16 wi, .int .u16 l, .int .i64 e, .int .i64 c] w') ∧ w'.cell? ⟨(w.heap.size + 2), 0, none⟩ = some (.int .u16 v) ∧ w'.cell? ⟨(w.heap.size + 2), 1, none⟩ = some (.int .u16 wi) ∧ w'.cell? ⟨(w.heap.size + 2), 2, none⟩ = some (.int .u16 l) ∧ w'.cell? ⟨(w.heap.size + 2), 3, none⟩ = some (.int .i64 e) ∧ w'.cell? ⟨(w.heap.size + 2), 4, none⟩ = some (.int .i64 c))) #[false, false, false, false, false, false, false, false, false, false, false, false, false, false] (by kernel_rfl) rfl rfl (keepS5 (Keep.drew (Hid.out HK))) (fun hHeld => ?_)
    refine held_on (i := 0) (N := (some 14)) (v := ?_) #[true, false, false, false, false, false, false, false, false, false, false, false, false, false] rfl rfl (by kernel_rfl) (fun _ _ _ h => h) (by rfl) ?_ (by assumption) ?_
    rotate_left; (intro w hSw; (try dsimp only at hSw); go_simp); (try with_reducible rfl); (simp only [Act.put, List.setIfInBounds_toArray, List.set_cons_zero, List.set_cons_succ])
    refine held_on (i := 1) (N := (some 15)) (v := ?_) #[true, true, false, false, false, false, false, false, false, false, false, false, false, false] rfl rfl (by kernel_rfl) (fun _ _ _ h => h) (by rfl) ?_ (by assumption) ?_
    rotate_left; (intro w hSw; (try dsimp only at hSw); go_simp); (try with_reducible rfl); (simp only [Act.put, List.setIfInBounds_toArray, List.set_cons_zero, List.set_cons_succ])
    refine held_on (i := 2) (N := (some 16)) (v := ?_) #[true, true, true, false, false, false, false, false, false, false, false, false, false, false] rfl rfl (by kernel_rfl) (fun _ _ _ h => h) (by rfl) ?_ (by assumption) ?_
    rotate_left; (intro w hSw; (try dsimp only at hSw); go_simp); (try with_reducible rfl); (simp only [Act.put, List.setIfInBounds_toArray, List.set_cons_zero, List.set_cons_succ])
    refine held_on (i := 3) (N := (some 17)) (v := ?_) #[true, true, true, true, false, false, false, false, false, false, false, false, false, false] rfl rfl (by kernel_rfl) (fun _ _ _ h => h) (by rfl) ?_ (by assumption) ?_
    rotate_left; (intro w hSw; (try dsimp only at hSw); go_simp); (try with_reducible rfl); (simp only [Act.put, List.setIfInBounds_toArray, List.set_cons_zero, List.set_cons_succ])
    refine held_on (i := 4) (N := (some 18)) (v := ?_) #[true, true, true, true, true, false, false, false, false, false, false, false, false, false] rfl rfl (by kernel_rfl) (fun _ _ _ h => h) (by rfl) ?_ (by assumption) ?_
    rotate_left; (intro w hSw; (try dsimp only at hSw); go_simp); (try with_reducible rfl); (simp only [Act.put, List.setIfInBounds_toArray, List.set_cons_zero, List.set_cons_succ])
    refine held_on (i := 5) (N := (some 19)) (v := ?_) #[true, true, true, true, true, true, false, false, false, false, false, false, false, false] rfl rfl (by kernel_rfl) (fun _ _ _ h => h) (by rfl) ?_ (by assumption) ?_
    rotate_left; (intro w hSw; (try dsimp only at hSw); go_simp); (try with_reducible rfl); (simp only [Act.put, List.setIfInBounds_toArray, List.set_cons_zero, List.set_cons_succ])
    refine held_on (i := 7) (N := (some 21)) (v := ?_) #[true, true, true, true, true, true, false, true, false, false, false, false, false, false] rfl rfl (by kernel_rfl) (fun _ _ _ h => h) (by rfl) ?_ (by assumption) ?_
    rotate_left; (intro w hSw; (try dsimp only at hSw); go_simp); (try with_reducible rfl); (simp only [Act.put, List.setIfInBounds_toArray, List.set_cons_zero, List.set_cons_succ])
    refine held_on (i := 8) (N := (some 22)) (v := ?_) #[true, true, true, true, true, true, false, true, true, false, false, false, false, false] rfl rfl (by kernel_rfl) (fun _ _ _ h => h) (by rfl) ?_ (by assumption) ?_
    rotate_left; (intro w hSw; (try dsimp only at hSw); go_simp); (try with_reducible rfl); (simp only [Act.put, List.setIfInBounds_toArray, List.set_cons_zero, List.set_cons_succ])
    refine held_on (i := 9) (N := (some 23)) (v := ?_) #[true, true, true, true, true, true, false, true, true, true, false, false, false, false] rfl rfl (by kernel_rfl) (fun _ _ _ h => h) (by rfl) ?_ (by assumption) ?_
    rotate_left; (intro w hSw; (try dsimp only at hSw); go_simp); (try with_reducible rfl); (simp only [Act.put, List.setIfInBounds_toArray, List.set_cons_zero, List.set_cons_succ])
    refine held_on (i := 10) (N := (some 24)) (v := ?_) #[true, true, true, true, true, true, false, true, true, true, true, false, false, false] rfl rfl (by kernel_rfl) (fun _ _ _ h => h) (by rfl) ?_ (by assumption) ?_
    rotate_left; (intro w hSw; (try dsimp only at hSw); go_simp); (try with_reducible rfl); (simp only [Act.put, List.setIfInBounds_toArray, List.set_cons_zero, List.set_cons_succ])
    refine held_on (i := 11) (N := (some 25)) (v := ?_) #[true, true, true, true, true, true, false, true, true, true, true, true, false, false] rfl rfl (by kernel_rfl) (fun _ _ _ h => h) (by rfl) ?_ (by assumption) ?_
    rotate_left; (intro w hSw; (try dsimp only at hSw); go_simp); (try with_reducible rfl); (simp only [Act.put, List.setIfInBounds_toArray, List.set_cons_zero, List.set_cons_succ])
    refine held_run (i := 6) #[true, true, true, true, true, true, true, true, true, true, true, true, false, false] rfl (by kernel_rfl) (by rfl) (fun K hK => ?_)
    go_simp
    refine (HA1.out _).mono ?_; rintro x w5 ⟨rfl, rfl⟩
    refine hK.out _ _ hHeld (fun hHeld => ?_); clear hK K; (try simp only [Act.put, List.setIfInBounds_toArray, List.set_cons_zero, List.set_cons_succ])
    refine held_run (i := 12) #[true, true, true, true, true, true, true, true, true, true, true, true, true, false] rfl (by kernel_rfl) (by rfl) (fun K hK => ?_)
    go_simp
    refine (HB1.out _).mono ?_; rintro x w6 ⟨rfl, rfl⟩
    refine hK.out _ _ hHeld (fun hHeld => ?_); clear hK K; (try simp only [Act.put, List.setIfInBounds_toArray, List.set_cons_zero, List.set_cons_succ])
    refine held_on (i := 13) (N := (some 3)) (v := ?_) #[true, true, true, true, true, true, true, true, true, true, true, true, true, true] rfl rfl (by kernel_rfl) (fun _ _ _ h => h) (by rfl) ?_ (by assumption) ?_
    rotate_left; (intro w hSw; (try dsimp only at hSw); go_simp); (try with_reducible rfl); (simp only [Act.put, List.setIfInBounds_toArray, List.set_cons_zero, List.set_cons_succ])
    refine held_done (by kernel_rfl) ?_
    have X0 := hHeld.1
    clear hHeld HK
    have HK := X0; clear X0
    obtain ⟨_, d00, d01, d02, d03, d04⟩ := keepS5 (Hid.out HK)
    show Exit.inBlock _ _ _ _ _
    go_wp2_with fail
    rw [rounds_succ]
    go_wp2_with fail
    go_ret
    exact ⟨rfl, (Hid.out HK).2⟩

set_option maxHeartbeats 6400000 in
theorem rleads_calls (v wi l e c v' wi' l' e' c' : Int) (two : Bool) (n : Int) (w : World) (hv : U v) (hw : U wi) (hl : U l) (hv' : U v') (hw' : U wi') (hl' : U l') :
    Calls Try.prog 50 #[.agg (jcells v wi l e c v' wi' l' e' c' two), .int .i64 n] w fun x w' => x = .returned (.bool (rleadsJ ⟨⟨v, wi, l, e, c⟩, ⟨v', wi', l', e', c'⟩, two⟩ n)) ∧ Below w.heap.size w w' := by
  have HH1 := Lib.hid fun w => rhas_calls v n w hv
  have HH2 := Lib.hid fun w => rhas_calls v' n w hv'
  clear hv hw hl hv' hw' hl'
  unfold rleadsJ
  dsimp only
  generalize hasB v n = b1 at *
  generalize hasB v' n = b2 at *
  cases two with
  | true =>
    have HK : Hid (Keep w (w.heap.size + 2) 33 #[.int .u16 v, .int .u16 wi, .int .u16 l, .int .i64 e, .int .i64 c, .int .u16 v', .int .u16 wi', .int .u16 l', .int .i64 e', .int .i64 c'] (((w.alloc (.cells (jcells v wi l e c v' wi' l' e' c' true) 38)).alloc (.cells (jcells v wi l e c v' wi' l' e' c' true) 38)).alloc (.cells #[.int .u16 v, .int .u16 wi, .int .u16 l, .int .i64 e, .int .i64 c, .int .u16 v', .int .u16 wi', .int .u16 l', .int .i64 e', .int .i64 c'] 33))) := Lib.hid (Keep.mk_new (((Below.refl _ _).alloc (Nat.le_refl _) _).alloc (by simp) _) (by simp))
    go_enter Try.func50, Try.ntmps50
    go_wp2_with fail
    refine (two_yes _ _ _ _ _ _ _ _ _ _ _).mono ?_; rintro x w1 ⟨rfl, rfl⟩
    obtain ⟨_, d00, d01, d02, d03, d04, d05, d06, d07, d08, d09⟩ := keepS10 (Hid.out HK)
    go_wp2_with fail
    refine wp_loop_rounds 3 ?_
    rw [rounds_succ]
    go_wp2_with fail
    refine (HH1.out _).mono ?_; rintro x w4 ⟨rfl, rfl⟩
    cases b1 with
    | true =>
      go_wp2_with fail
      go_ret
      exact ⟨ret_bool (by simp), (Hid.out HK).2⟩
    | false =>
      go_wp2_with fail
      rw [rounds_succ]
      go_wp2_with fail
      refine (HH2.out _).mono ?_; rintro x w4 ⟨rfl, rfl⟩
      cases b2 with
      | true =>
        go_wp2_with fail
        go_ret
        exact ⟨ret_bool (by simp), (Hid.out HK).2⟩
      | false =>
        go_wp2_with fail
        rw [rounds_succ]
        go_wp2_with fail
        go_ret
        exact ⟨ret_bool (by simp), (Hid.out HK).2⟩
  | false =>
    have HK : Hid (Keep w (w.heap.size + 2) 33 #[.int .u16 v, .int .u16 wi, .int .u16 l, .int .i64 e, .int .i64 c] (((w.alloc (.cells (jcells v wi l e c v' wi' l' e' c' false) 38)).alloc (.cells (jcells v wi l e c v' wi' l' e' c' false) 38)).alloc (.cells #[.int .u16 v, .int .u16 wi, .int .u16 l, .int .i64 e, .int .i64 c] 33))) := Lib.hid (Keep.mk_new (((Below.refl _ _).alloc (Nat.le_refl _) _).alloc (by simp) _) (by simp))
    go_enter Try.func50, Try.ntmps50
    go_wp2_with fail
    refine (two_no _ _ _ _ _ _ _ _ _ _ _).mono ?_; rintro x w1 ⟨rfl, rfl⟩
    obtain ⟨_, d00, d01, d02, d03, d04⟩ := keepS5 (Hid.out HK)
    go_wp2_with fail
    refine wp_loop_rounds 2 ?_
    rw [rounds_succ]
    go_wp2_with fail
    refine (HH1.out _).mono ?_; rintro x w4 ⟨rfl, rfl⟩
    cases b1 with
    | true =>
      go_wp2_with fail
      go_ret
      exact ⟨ret_bool (by simp), (Hid.out HK).2⟩
    | false =>
      go_wp2_with fail
      rw [rounds_succ]
      go_wp2_with fail
      go_ret
      exact ⟨ret_bool (by simp), (Hid.out HK).2⟩

theorem rvotingJ_u (j : Jnt) : U (rvotingJ j) := by unfold rvotingJ; split <;> exact msk_u _
theorem rdataJ_u (j : Jnt) : U (rdataJ j) := by unfold rdataJ rdataC; split <;> exact msk_u _

set_option maxHeartbeats 6400000 in
theorem rmembers_calls (v wi l e c v' wi' l' e' c' : Int) (two : Bool) (w : World) (hv : U v) (hw : U wi) (hl : U l) (hv' : U v') (hw' : U wi') (hl' : U l') :
    Calls Try.prog 36 #[.agg (jcells v wi l e c v' wi' l' e' c' two)] w fun x w' => x = .returned (.int .u16 (rmembersJ ⟨⟨v, wi, l, e, c⟩, ⟨v', wi', l', e', c'⟩, two⟩)) ∧ Below w.heap.size w w' := by
  have HV := Lib.hid fun w => rvoting_calls v wi l e c v' wi' l' e' c' two w hv hw hl hv' hw' hl'
  have HD := Lib.hid fun w => rdata_calls v wi l e c v' wi' l' e' c' two w hv hw hl hv' hw' hl'
  have HJ := Lib.hid fun w => rjoin_calls (rvotingJ ⟨⟨v, wi, l, e, c⟩, ⟨v', wi', l', e', c'⟩, two⟩) (rdataJ ⟨⟨v, wi, l, e, c⟩, ⟨v', wi', l', e', c'⟩, two⟩) w (rvotingJ_u _) (rdataJ_u _)
  unfold rmembersJ
  clear hv hw hl hv' hw' hl'
  generalize msk (union (rvotingJ ⟨⟨v, wi, l, e, c⟩, ⟨v', wi', l', e', c'⟩, two⟩) (rdataJ ⟨⟨v, wi, l, e, c⟩, ⟨v', wi', l', e', c'⟩, two⟩)) = r3 at *
  generalize rvotingJ ⟨⟨v, wi, l, e, c⟩, ⟨v', wi', l', e', c'⟩, two⟩ = r1 at *
  generalize rdataJ ⟨⟨v, wi, l, e, c⟩, ⟨v', wi', l', e', c'⟩, two⟩ = r2 at *
  have HK : Hid (Keep w w.heap.size 38 (jcells v wi l e c v' wi' l' e' c' two) (w.alloc (.cells (jcells v wi l e c v' wi' l' e' c' two) 38))) := Lib.hid (Keep.new _ _ _)
  go_enter Try.func36, Try.ntmps36
  obtain ⟨_, d00, d01, d02, d03, d04, d05, d06, d07, d08, d09, d010⟩ := keepS11 (Hid.out HK)
  go_wp2_with fail
  refine held_start (n := 6) (S := fun w' => (Hid (Keep w w.heap.size 38 #[.int .u16 v, .int .u16 wi, .int .u16 l, .int .i64 e, .int .i64 c, .int .u16 v', .int .u16 wi', .int .u16 l', .int .i64 e', .int .i64 c', .bool two] w') ∧ w'.cell? ⟨w.heap.size, 0, none⟩ = some (.int .u16 v) ∧ w'.cell? ⟨w.heap.size, 1, none⟩ = some (.int .u16 wi) ∧ w'.cell? ⟨w.heap.size, 2, none⟩ = some (.int .u16 l) ∧ w'.cell? ⟨w.heap.size, 3, none⟩ = some (.int .i64 e) ∧ w'.cell? ⟨w.heap.size, 4, none⟩ = some (.int .i64 c) ∧ w'.cell? ⟨w.heap.size, 5, none⟩ = some (.int .u16 v') ∧ w'.cell? ⟨w.heap.size, 6, none⟩ = some (.int .u16 wi') ∧ w'.cell? ⟨w.heap.size, 7, none⟩ = some (.int .u16 l') ∧ w'.cell? ⟨w.heap.size, 8, none⟩ = some (.int .i64 e') ∧ w'.cell? ⟨w.heap.size, 9, none⟩ = some (.int .i64 c') ∧ w'.cell? ⟨w.heap.size, 10, none⟩ = some (.bool two))) #[false, false, false, false, false, false] (by kernel_rfl) rfl rfl (keepS11 (Keep.drew (Hid.out HK))) (fun hHeld => ?_)
  refine held_on (i := 0) (N := (some 3)) (v := ?_) #[true, false, false, false, false, false] rfl rfl (by kernel_rfl) (fun _ _ _ h => h) (by rfl) ?_ (by assumption) ?_
  rotate_left; (intro w hSw; (try dsimp only at hSw); go_simp); (try with_reducible rfl); (simp only [Act.put, List.setIfInBounds_toArray, List.set_cons_zero, List.set_cons_succ])
  refine held_on (i := 2) (N := (some 5)) (v := ?_) #[true, false, true, false, false, false] rfl rfl (by kernel_rfl) (fun _ _ _ h => h) (by rfl) ?_ (by assumption) ?_
  rotate_left; (intro w hSw; (try dsimp only at hSw); go_simp); (try with_reducible rfl); (simp only [Act.put, List.setIfInBounds_toArray, List.set_cons_zero, List.set_cons_succ])
  refine held_run (i := 1) #[true, true, true, false, false, false] rfl (by kernel_rfl) (by rfl) (fun K hK => ?_)
  go_simp
  refine (HV.out _).mono ?_; rintro x w4 ⟨rfl, hb⟩
  refine hK.out _ _ (keepS11 (Keep.call (Hid.out hHeld.1) hb)) (fun hHeld => ?_); clear hK K; (try simp only [Act.put, List.setIfInBounds_toArray, List.set_cons_zero, List.set_cons_succ])
  refine held_run (i := 3) #[true, true, true, true, false, false] rfl (by kernel_rfl) (by rfl) (fun K hK => ?_)
  go_simp
  refine (HD.out _).mono ?_; rintro x w4 ⟨rfl, hb⟩
  refine hK.out _ _ (keepS11 (Keep.call (Hid.out hHeld.1) hb)) (fun hHeld => ?_); clear hK K; (try simp only [Act.put, List.setIfInBounds_toArray, List.set_cons_zero, List.set_cons_succ])
  refine held_run (i := 4) #[true, true, true, true, true, false] rfl (by kernel_rfl) (by rfl) (fun K hK => ?_)
  go_simp
  refine (HJ.out _).mono ?_; rintro x w5 ⟨rfl, rfl⟩
  refine hK.out _ _ hHeld (fun hHeld => ?_); clear hK K; (try simp only [Act.put, List.setIfInBounds_toArray, List.set_cons_zero, List.set_cons_succ])
  refine held_on (i := 5) (N := (some 2)) (v := ?_) #[true, true, true, true, true, true] rfl rfl (by kernel_rfl) (fun _ _ _ h => h) (by rfl) ?_ (by assumption) ?_
  rotate_left; (intro w hSw; (try dsimp only at hSw); go_simp); (try with_reducible rfl); (simp only [Act.put, List.setIfInBounds_toArray, List.set_cons_zero, List.set_cons_succ])
  refine held_done (by kernel_rfl) ?_
  have X0 := hHeld.1
  clear hHeld HK
  have HK := X0; clear X0
  obtain ⟨_, d00, d01, d02, d03, d04, d05, d06, d07, d08, d09, d010⟩ := keepS11 (Hid.out HK)
  show Exit.then _ _ _ _ _
  go_wp2_with fail
  go_ret
  exact ⟨rfl, (Hid.out HK).2⟩
end Go.Proofs.Ytcciejglemfebaa
