/- The document's answer: who elects and commits, and who is in a joint, each by a contract. -/
import Derived.Test.YtcciejglemfebaaR8
import Derived.Test.YtcciejglemfebaaP12
namespace Go.Proofs.Ytcciejglemfebaa
set_option linter.unusedSimpArgs false
open Go.RowKit


set_option maxHeartbeats 6400000 in
theorem rcommits_calls (v wi l e c v' wi' l' e' c' : Int) (two : Bool) (got : Int) (w : World) (hv : U v) (hw : U wi) (hv' : U v') (hw' : U wi') (hg : U got) :
    Calls Try.prog 34 #[.agg (jcells v wi l e c v' wi' l' e' c' two), .int .u16 got] w fun x w' => x = .returned (.bool (commitsJ ⟨⟨v, wi, l, e, c⟩, ⟨v', wi', l', e', c'⟩, two⟩ got)) ∧ Below w.heap.size w w' := by
  have HQ1 := Lib.hid fun w => rvotes_b v wi l e c w hv hw
  have HM1 := Lib.hid fun w => rmeet_calls (votesR ⟨v, wi, l, e, c⟩) got w (votesR_u _) hg
  have HC1 := Lib.hid fun w => rcount_calls (msk (inter (votesR ⟨v, wi, l, e, c⟩) got)) w (msk_u _)
  have HV1 := Lib.hid fun w => rmeet_calls v got w hv hg
  have E1 := commits_as ⟨v, wi, l, e, c⟩ got
  have HQ2 := Lib.hid fun w => rvotes_b v' wi' l' e' c' w hv' hw'
  have HM2 := Lib.hid fun w => rmeet_calls (votesR ⟨v', wi', l', e', c'⟩) got w (votesR_u _) hg
  have HC2 := Lib.hid fun w => rcount_calls (msk (inter (votesR ⟨v', wi', l', e', c'⟩) got)) w (msk_u _)
  have HV2 := Lib.hid fun w => rmeet_calls v' got w hv' hg
  have E2 := commits_as ⟨v', wi', l', e', c'⟩ got
  show Calls _ _ _ _ fun x w' => x = .returned (.bool (commitsC ⟨v, wi, l, e, c⟩ got && (!two || commitsC ⟨v', wi', l', e', c'⟩ got))) ∧ _
  rw [E1, E2]
  clear E1 E2 hv hw hv' hw' hg
  generalize cnt (msk (inter (votesR ⟨v, wi, l, e, c⟩) got)) = n1 at *
  generalize (msk (inter (votesR ⟨v, wi, l, e, c⟩) got)) = k1 at *
  generalize (votesR ⟨v, wi, l, e, c⟩) = q1 at *
  generalize msk (inter v got) = m1 at *
  generalize cnt (msk (inter (votesR ⟨v', wi', l', e', c'⟩) got)) = n2 at *
  generalize (msk (inter (votesR ⟨v', wi', l', e', c'⟩) got)) = k2 at *
  generalize (votesR ⟨v', wi', l', e', c'⟩) = q2 at *
  generalize msk (inter v' got) = m2 at *
  dsimp only
  cases two with
  | true =>
    have HK : Hid (Keep w (w.heap.size + 2) 33 #[.int .u16 v, .int .u16 wi, .int .u16 l, .int .i64 e, .int .i64 c, .int .u16 v', .int .u16 wi', .int .u16 l', .int .i64 e', .int .i64 c'] (((w.alloc (.cells (jcells v wi l e c v' wi' l' e' c' true) 38)).alloc (.cells (jcells v wi l e c v' wi' l' e' c' true) 38)).alloc (.cells #[.int .u16 v, .int .u16 wi, .int .u16 l, .int .i64 e, .int .i64 c, .int .u16 v', .int .u16 wi', .int .u16 l', .int .i64 e', .int .i64 c'] 33))) := Lib.hid (Keep.mk_new (((Below.refl _ _).alloc (Nat.le_refl _) _).alloc (by simp) _) (by simp))
    go_enter Try.func34, Try.ntmps34
    go_wp2_with fail
    refine (two_yes _ _ _ _ _ _ _ _ _ _ _).mono ?_; rintro x w1 ⟨rfl, rfl⟩
    obtain ⟨_, d00, d01, d02, d03, d04, d05, d06, d07, d08, d09⟩ := keepS10 (Hid.out HK)
    go_wp2_with fail
    refine wp_loop_rounds 3 ?_
    rw [rounds_succ]
    go_wp2_with fail
    by_cases h1 : n1 < c
    · have h1' : ¬ c ≤ n1 := by omega
      refine held_start (n := 24) (S := fun w' => (Hid (Keep w (w.heap.size + 2) 33 #[.int .u16 v, .int .u16 wi, .int .u16 l, .int .i64 e, .int .i64 c, .int .u16 v', .int .u16 wi', .int .u16 l', .int .i64 e', .int .i64 c'] w') ∧ w'.cell? ⟨(w.heap.size + 2), 0, none⟩ = some (.int .u16 v) ∧ w'.cell? ⟨(w.heap.size + 2), 1, none⟩ = some (.int .u16 wi) ∧ w'.cell? ⟨(w.heap.size + 2), 2, none⟩ = some (.int .u16 l) ∧ w'.cell? ⟨(w.heap.size + 2), 3, none⟩ = some (.int .i64 e) ∧ w'.cell? ⟨(w.heap.size + 2), 4, none⟩ = some (.int .i64 c) ∧ w'.cell? ⟨(w.heap.size + 2), 5, none⟩ = some (.int .u16 v') ∧ w'.cell? ⟨(w.heap.size + 2), 6, none⟩ = some (.int .u16 wi') ∧ w'.cell? ⟨(w.heap.size + 2), 7, none⟩ = some (.int .u16 l') ∧ w'.cell? ⟨(w.heap.size + 2), 8, none⟩ = some (.int .i64 e') ∧ w'.cell? ⟨(w.heap.size + 2), 9, none⟩ = some (.int .i64 c'))) #[false, false, false, false, false, false, false, false, false, false, false, false, false, false, false, false, false, false, false, false, false, false, false, false] (by kernel_rfl) rfl rfl (keepS10 (Keep.drew (Hid.out HK))) (fun hHeld => ?_)
      refine held_on (i := 0) (N := (some 15)) (v := ?_) #[true, false, false, false, false, false, false, false, false, false, false, false, false, false, false, false, false, false, false, false, false, false, false, false] rfl rfl (by kernel_rfl) (fun _ _ _ h => h) (by rfl) ?_ (by assumption) ?_
      rotate_left; (intro w hSw; (try dsimp only at hSw); go_simp); (try with_reducible rfl); (simp only [Act.put, List.setIfInBounds_toArray, List.set_cons_zero, List.set_cons_succ])
      refine held_on (i := 1) (N := (some 16)) (v := ?_) #[true, true, false, false, false, false, false, false, false, false, false, false, false, false, false, false, false, false, false, false, false, false, false, false] rfl rfl (by kernel_rfl) (fun _ _ _ h => h) (by rfl) ?_ (by assumption) ?_
      rotate_left; (intro w hSw; (try dsimp only at hSw); go_simp); (try with_reducible rfl); (simp only [Act.put, List.setIfInBounds_toArray, List.set_cons_zero, List.set_cons_succ])
      refine held_on (i := 2) (N := (some 17)) (v := ?_) #[true, true, true, false, false, false, false, false, false, false, false, false, false, false, false, false, false, false, false, false, false, false, false, false] rfl rfl (by kernel_rfl) (fun _ _ _ h => h) (by rfl) ?_ (by assumption) ?_
      rotate_left; (intro w hSw; (try dsimp only at hSw); go_simp); (try with_reducible rfl); (simp only [Act.put, List.setIfInBounds_toArray, List.set_cons_zero, List.set_cons_succ])
      refine held_on (i := 3) (N := (some 18)) (v := ?_) #[true, true, true, true, false, false, false, false, false, false, false, false, false, false, false, false, false, false, false, false, false, false, false, false] rfl rfl (by kernel_rfl) (fun _ _ _ h => h) (by rfl) ?_ (by assumption) ?_
      rotate_left; (intro w hSw; (try dsimp only at hSw); go_simp); (try with_reducible rfl); (simp only [Act.put, List.setIfInBounds_toArray, List.set_cons_zero, List.set_cons_succ])
      refine held_on (i := 5) (N := (some 20)) (v := ?_) #[true, true, true, true, false, true, false, false, false, false, false, false, false, false, false, false, false, false, false, false, false, false, false, false] rfl rfl (by kernel_rfl) (fun _ _ _ h => h) (by rfl) ?_ (by assumption) ?_
      rotate_left; (intro w hSw; (try dsimp only at hSw); go_simp); (try with_reducible rfl); (simp only [Act.put, List.setIfInBounds_toArray, List.set_cons_zero, List.set_cons_succ])
      refine held_on (i := 8) (N := (some 23)) (v := ?_) #[true, true, true, true, false, true, false, false, true, false, false, false, false, false, false, false, false, false, false, false, false, false, false, false] rfl rfl (by kernel_rfl) (fun _ _ _ h => h) (by rfl) ?_ (by assumption) ?_
      rotate_left; (intro w hSw; (try dsimp only at hSw); go_simp); (try with_reducible rfl); (simp only [Act.put, List.setIfInBounds_toArray, List.set_cons_zero, List.set_cons_succ])
      refine held_on (i := 9) (N := (some 24)) (v := ?_) #[true, true, true, true, false, true, false, false, true, true, false, false, false, false, false, false, false, false, false, false, false, false, false, false] rfl rfl (by kernel_rfl) (fun _ _ _ h => h) (by rfl) ?_ (by assumption) ?_
      rotate_left; (intro w hSw; (try dsimp only at hSw); go_simp); (try with_reducible rfl); (simp only [Act.put, List.setIfInBounds_toArray, List.set_cons_zero, List.set_cons_succ])
      refine held_on (i := 10) (N := (some 25)) (v := ?_) #[true, true, true, true, false, true, false, false, true, true, true, false, false, false, false, false, false, false, false, false, false, false, false, false] rfl rfl (by kernel_rfl) (fun _ _ _ h => h) (by rfl) ?_ (by assumption) ?_
      rotate_left; (intro w hSw; (try dsimp only at hSw); go_simp); (try with_reducible rfl); (simp only [Act.put, List.setIfInBounds_toArray, List.set_cons_zero, List.set_cons_succ])
      refine held_on (i := 11) (N := (some 26)) (v := ?_) #[true, true, true, true, false, true, false, false, true, true, true, true, false, false, false, false, false, false, false, false, false, false, false, false] rfl rfl (by kernel_rfl) (fun _ _ _ h => h) (by rfl) ?_ (by assumption) ?_
      rotate_left; (intro w hSw; (try dsimp only at hSw); go_simp); (try with_reducible rfl); (simp only [Act.put, List.setIfInBounds_toArray, List.set_cons_zero, List.set_cons_succ])
      refine held_on (i := 12) (N := (some 27)) (v := ?_) #[true, true, true, true, false, true, false, false, true, true, true, true, true, false, false, false, false, false, false, false, false, false, false, false] rfl rfl (by kernel_rfl) (fun _ _ _ h => h) (by rfl) ?_ (by assumption) ?_
      rotate_left; (intro w hSw; (try dsimp only at hSw); go_simp); (try with_reducible rfl); (simp only [Act.put, List.setIfInBounds_toArray, List.set_cons_zero, List.set_cons_succ])
      refine held_run (i := 4) #[true, true, true, true, true, true, false, false, true, true, true, true, true, false, false, false, false, false, false, false, false, false, false, false] rfl (by kernel_rfl) (by rfl) (fun K hK => ?_)
      go_simp
      refine (HQ1.out _).mono ?_; rintro x w4 ⟨rfl, hb⟩
      refine hK.out _ _ (keepS10 (Keep.call (Hid.out hHeld.1) hb)) (fun hHeld => ?_); clear hK K; (try simp only [Act.put, List.setIfInBounds_toArray, List.set_cons_zero, List.set_cons_succ])
      refine held_run (i := 6) #[true, true, true, true, true, true, true, false, true, true, true, true, true, false, false, false, false, false, false, false, false, false, false, false] rfl (by kernel_rfl) (by rfl) (fun K hK => ?_)
      go_simp
      refine (HM1.out _).mono ?_; rintro x w5 ⟨rfl, rfl⟩
      refine hK.out _ _ hHeld (fun hHeld => ?_); clear hK K; (try simp only [Act.put, List.setIfInBounds_toArray, List.set_cons_zero, List.set_cons_succ])
      refine held_run (i := 7) #[true, true, true, true, true, true, true, true, true, true, true, true, true, false, false, false, false, false, false, false, false, false, false, false] rfl (by kernel_rfl) (by rfl) (fun K hK => ?_)
      go_simp
      refine (HC1.out _).mono ?_; rintro x w6 ⟨rfl, hb⟩
      refine hK.out _ _ (keepS10 (Keep.call (Hid.out hHeld.1) hb)) (fun hHeld => ?_); clear hK K; (try simp only [Act.put, List.setIfInBounds_toArray, List.set_cons_zero, List.set_cons_succ])
      refine held_on (i := 13) (N := (some 28)) (v := ?_) #[true, true, true, true, true, true, true, true, true, true, true, true, true, true, false, false, false, false, false, false, false, false, false, false] rfl rfl (by kernel_rfl) (fun _ _ _ h => h) (by rfl) ?_ (by assumption) ?_
      rotate_left; (intro w hSw; (try dsimp only at hSw); go_simp); (try with_reducible rfl); (simp only [Act.put, List.setIfInBounds_toArray, List.set_cons_zero, List.set_cons_succ])
      refine held_on (i := 14) (N := (some 29)) (v := ?_) #[true, true, true, true, true, true, true, true, true, true, true, true, true, true, true, false, false, false, false, false, false, false, false, false] rfl rfl (by kernel_rfl) (fun _ _ _ h => h) (by rfl) ?_ (by assumption) ?_
      rotate_left; (intro w hSw; (try dsimp only at hSw); go_simp); (try with_reducible rfl); (simp only [Act.put, List.setIfInBounds_toArray, List.set_cons_zero, List.set_cons_succ])
      refine held_off (i := 15) (N := (some 30)) #[true, true, true, true, true, true, true, true, true, true, true, true, true, true, true, true, false, false, false, false, false, false, false, false] rfl rfl (by kernel_rfl) (fun _ _ _ h => h) (by rfl) (by assumption) ?_; (simp only [Act.put, List.setIfInBounds_toArray, List.set_cons_zero, List.set_cons_succ])
      refine held_off (i := 16) (N := (some 31)) #[true, true, true, true, true, true, true, true, true, true, true, true, true, true, true, true, true, false, false, false, false, false, false, false] rfl rfl (by kernel_rfl) (fun _ _ _ h => h) (by rfl) (by assumption) ?_; (simp only [Act.put, List.setIfInBounds_toArray, List.set_cons_zero, List.set_cons_succ])
      refine held_off (i := 17) (N := (some 32)) #[true, true, true, true, true, true, true, true, true, true, true, true, true, true, true, true, true, true, false, false, false, false, false, false] rfl rfl (by kernel_rfl) (fun _ _ _ h => h) (by rfl) (by assumption) ?_; (simp only [Act.put, List.setIfInBounds_toArray, List.set_cons_zero, List.set_cons_succ])
      refine held_off (i := 18) (N := (some 33)) #[true, true, true, true, true, true, true, true, true, true, true, true, true, true, true, true, true, true, true, false, false, false, false, false] rfl rfl (by kernel_rfl) (fun _ _ _ h => h) (by rfl) (by assumption) ?_; (simp only [Act.put, List.setIfInBounds_toArray, List.set_cons_zero, List.set_cons_succ])
      refine held_off (i := 19) (N := (some 34)) #[true, true, true, true, true, true, true, true, true, true, true, true, true, true, true, true, true, true, true, true, false, false, false, false] rfl rfl (by kernel_rfl) (fun _ _ _ h => h) (by rfl) (by assumption) ?_; (simp only [Act.put, List.setIfInBounds_toArray, List.set_cons_zero, List.set_cons_succ])
      refine held_off (i := 20) (N := (some 35)) #[true, true, true, true, true, true, true, true, true, true, true, true, true, true, true, true, true, true, true, true, true, false, false, false] rfl rfl (by kernel_rfl) (fun _ _ _ h => h) (by rfl) (by assumption) ?_; (simp only [Act.put, List.setIfInBounds_toArray, List.set_cons_zero, List.set_cons_succ])
      refine held_off (i := 21) (N := (some 36)) #[true, true, true, true, true, true, true, true, true, true, true, true, true, true, true, true, true, true, true, true, true, true, false, false] rfl rfl (by kernel_rfl) (fun _ _ _ h => h) (by rfl) (by assumption) ?_; (simp only [Act.put, List.setIfInBounds_toArray, List.set_cons_zero, List.set_cons_succ])
      refine held_off (i := 22) (N := (some 37)) #[true, true, true, true, true, true, true, true, true, true, true, true, true, true, true, true, true, true, true, true, true, true, true, false] rfl rfl (by kernel_rfl) (fun _ _ _ h => h) (by rfl) (by assumption) ?_; (simp only [Act.put, List.setIfInBounds_toArray, List.set_cons_zero, List.set_cons_succ])
      refine held_on (i := 23) (N := (some 38)) (v := ?_) #[true, true, true, true, true, true, true, true, true, true, true, true, true, true, true, true, true, true, true, true, true, true, true, true] rfl rfl (by kernel_rfl) (fun _ _ _ h => h) (by rfl) ?_ (by assumption) ?_
      rotate_left; (intro w hSw; (try dsimp only at hSw); go_simp); (try with_reducible rfl); (simp only [Act.put, List.setIfInBounds_toArray, List.set_cons_zero, List.set_cons_succ])
      refine held_done (by kernel_rfl) ?_
      have X0 := hHeld.1
      clear hHeld HK
      have HK := X0; clear X0
      obtain ⟨_, d00, d01, d02, d03, d04, d05, d06, d07, d08, d09⟩ := keepS10 (Hid.out HK)
      show Exit.then _ _ _ _ _
      go_wp2_with fail
      go_ret
      exact ⟨ret_bool (by first | (simp [*]; done) | (simp [*]; intros; omega)), (Hid.out HK).2⟩
    · have h1' : c ≤ n1 := by omega
      refine held_start (n := 24) (S := fun w' => (Hid (Keep w (w.heap.size + 2) 33 #[.int .u16 v, .int .u16 wi, .int .u16 l, .int .i64 e, .int .i64 c, .int .u16 v', .int .u16 wi', .int .u16 l', .int .i64 e', .int .i64 c'] w') ∧ w'.cell? ⟨(w.heap.size + 2), 0, none⟩ = some (.int .u16 v) ∧ w'.cell? ⟨(w.heap.size + 2), 1, none⟩ = some (.int .u16 wi) ∧ w'.cell? ⟨(w.heap.size + 2), 2, none⟩ = some (.int .u16 l) ∧ w'.cell? ⟨(w.heap.size + 2), 3, none⟩ = some (.int .i64 e) ∧ w'.cell? ⟨(w.heap.size + 2), 4, none⟩ = some (.int .i64 c) ∧ w'.cell? ⟨(w.heap.size + 2), 5, none⟩ = some (.int .u16 v') ∧ w'.cell? ⟨(w.heap.size + 2), 6, none⟩ = some (.int .u16 wi') ∧ w'.cell? ⟨(w.heap.size + 2), 7, none⟩ = some (.int .u16 l') ∧ w'.cell? ⟨(w.heap.size + 2), 8, none⟩ = some (.int .i64 e') ∧ w'.cell? ⟨(w.heap.size + 2), 9, none⟩ = some (.int .i64 c'))) #[false, false, false, false, false, false, false, false, false, false, false, false, false, false, false, false, false, false, false, false, false, false, false, false] (by kernel_rfl) rfl rfl (keepS10 (Keep.drew (Hid.out HK))) (fun hHeld => ?_)
      refine held_on (i := 0) (N := (some 15)) (v := ?_) #[true, false, false, false, false, false, false, false, false, false, false, false, false, false, false, false, false, false, false, false, false, false, false, false] rfl rfl (by kernel_rfl) (fun _ _ _ h => h) (by rfl) ?_ (by assumption) ?_
      rotate_left; (intro w hSw; (try dsimp only at hSw); go_simp); (try with_reducible rfl); (simp only [Act.put, List.setIfInBounds_toArray, List.set_cons_zero, List.set_cons_succ])
      refine held_on (i := 1) (N := (some 16)) (v := ?_) #[true, true, false, false, false, false, false, false, false, false, false, false, false, false, false, false, false, false, false, false, false, false, false, false] rfl rfl (by kernel_rfl) (fun _ _ _ h => h) (by rfl) ?_ (by assumption) ?_
      rotate_left; (intro w hSw; (try dsimp only at hSw); go_simp); (try with_reducible rfl); (simp only [Act.put, List.setIfInBounds_toArray, List.set_cons_zero, List.set_cons_succ])
      refine held_on (i := 2) (N := (some 17)) (v := ?_) #[true, true, true, false, false, false, false, false, false, false, false, false, false, false, false, false, false, false, false, false, false, false, false, false] rfl rfl (by kernel_rfl) (fun _ _ _ h => h) (by rfl) ?_ (by assumption) ?_
      rotate_left; (intro w hSw; (try dsimp only at hSw); go_simp); (try with_reducible rfl); (simp only [Act.put, List.setIfInBounds_toArray, List.set_cons_zero, List.set_cons_succ])
      refine held_on (i := 3) (N := (some 18)) (v := ?_) #[true, true, true, true, false, false, false, false, false, false, false, false, false, false, false, false, false, false, false, false, false, false, false, false] rfl rfl (by kernel_rfl) (fun _ _ _ h => h) (by rfl) ?_ (by assumption) ?_
      rotate_left; (intro w hSw; (try dsimp only at hSw); go_simp); (try with_reducible rfl); (simp only [Act.put, List.setIfInBounds_toArray, List.set_cons_zero, List.set_cons_succ])
      refine held_on (i := 5) (N := (some 20)) (v := ?_) #[true, true, true, true, false, true, false, false, false, false, false, false, false, false, false, false, false, false, false, false, false, false, false, false] rfl rfl (by kernel_rfl) (fun _ _ _ h => h) (by rfl) ?_ (by assumption) ?_
      rotate_left; (intro w hSw; (try dsimp only at hSw); go_simp); (try with_reducible rfl); (simp only [Act.put, List.setIfInBounds_toArray, List.set_cons_zero, List.set_cons_succ])
      refine held_on (i := 8) (N := (some 23)) (v := ?_) #[true, true, true, true, false, true, false, false, true, false, false, false, false, false, false, false, false, false, false, false, false, false, false, false] rfl rfl (by kernel_rfl) (fun _ _ _ h => h) (by rfl) ?_ (by assumption) ?_
      rotate_left; (intro w hSw; (try dsimp only at hSw); go_simp); (try with_reducible rfl); (simp only [Act.put, List.setIfInBounds_toArray, List.set_cons_zero, List.set_cons_succ])
      refine held_on (i := 9) (N := (some 24)) (v := ?_) #[true, true, true, true, false, true, false, false, true, true, false, false, false, false, false, false, false, false, false, false, false, false, false, false] rfl rfl (by kernel_rfl) (fun _ _ _ h => h) (by rfl) ?_ (by assumption) ?_
      rotate_left; (intro w hSw; (try dsimp only at hSw); go_simp); (try with_reducible rfl); (simp only [Act.put, List.setIfInBounds_toArray, List.set_cons_zero, List.set_cons_succ])
      refine held_on (i := 10) (N := (some 25)) (v := ?_) #[true, true, true, true, false, true, false, false, true, true, true, false, false, false, false, false, false, false, false, false, false, false, false, false] rfl rfl (by kernel_rfl) (fun _ _ _ h => h) (by rfl) ?_ (by assumption) ?_
      rotate_left; (intro w hSw; (try dsimp only at hSw); go_simp); (try with_reducible rfl); (simp only [Act.put, List.setIfInBounds_toArray, List.set_cons_zero, List.set_cons_succ])
      refine held_on (i := 11) (N := (some 26)) (v := ?_) #[true, true, true, true, false, true, false, false, true, true, true, true, false, false, false, false, false, false, false, false, false, false, false, false] rfl rfl (by kernel_rfl) (fun _ _ _ h => h) (by rfl) ?_ (by assumption) ?_
      rotate_left; (intro w hSw; (try dsimp only at hSw); go_simp); (try with_reducible rfl); (simp only [Act.put, List.setIfInBounds_toArray, List.set_cons_zero, List.set_cons_succ])
      refine held_on (i := 12) (N := (some 27)) (v := ?_) #[true, true, true, true, false, true, false, false, true, true, true, true, true, false, false, false, false, false, false, false, false, false, false, false] rfl rfl (by kernel_rfl) (fun _ _ _ h => h) (by rfl) ?_ (by assumption) ?_
      rotate_left; (intro w hSw; (try dsimp only at hSw); go_simp); (try with_reducible rfl); (simp only [Act.put, List.setIfInBounds_toArray, List.set_cons_zero, List.set_cons_succ])
      refine held_run (i := 4) #[true, true, true, true, true, true, false, false, true, true, true, true, true, false, false, false, false, false, false, false, false, false, false, false] rfl (by kernel_rfl) (by rfl) (fun K hK => ?_)
      go_simp
      refine (HQ1.out _).mono ?_; rintro x w4 ⟨rfl, hb⟩
      refine hK.out _ _ (keepS10 (Keep.call (Hid.out hHeld.1) hb)) (fun hHeld => ?_); clear hK K; (try simp only [Act.put, List.setIfInBounds_toArray, List.set_cons_zero, List.set_cons_succ])
      refine held_run (i := 6) #[true, true, true, true, true, true, true, false, true, true, true, true, true, false, false, false, false, false, false, false, false, false, false, false] rfl (by kernel_rfl) (by rfl) (fun K hK => ?_)
      go_simp
      refine (HM1.out _).mono ?_; rintro x w5 ⟨rfl, rfl⟩
      refine hK.out _ _ hHeld (fun hHeld => ?_); clear hK K; (try simp only [Act.put, List.setIfInBounds_toArray, List.set_cons_zero, List.set_cons_succ])
      refine held_run (i := 7) #[true, true, true, true, true, true, true, true, true, true, true, true, true, false, false, false, false, false, false, false, false, false, false, false] rfl (by kernel_rfl) (by rfl) (fun K hK => ?_)
      go_simp
      refine (HC1.out _).mono ?_; rintro x w6 ⟨rfl, hb⟩
      refine hK.out _ _ (keepS10 (Keep.call (Hid.out hHeld.1) hb)) (fun hHeld => ?_); clear hK K; (try simp only [Act.put, List.setIfInBounds_toArray, List.set_cons_zero, List.set_cons_succ])
      refine held_on (i := 13) (N := (some 28)) (v := ?_) #[true, true, true, true, true, true, true, true, true, true, true, true, true, true, false, false, false, false, false, false, false, false, false, false] rfl rfl (by kernel_rfl) (fun _ _ _ h => h) (by rfl) ?_ (by assumption) ?_
      rotate_left; (intro w hSw; (try dsimp only at hSw); go_simp); (try with_reducible rfl); (simp only [Act.put, List.setIfInBounds_toArray, List.set_cons_zero, List.set_cons_succ])
      refine held_on (i := 14) (N := (some 29)) (v := ?_) #[true, true, true, true, true, true, true, true, true, true, true, true, true, true, true, false, false, false, false, false, false, false, false, false] rfl rfl (by kernel_rfl) (fun _ _ _ h => h) (by rfl) ?_ (by assumption) ?_
      rotate_left; (intro w hSw; (try dsimp only at hSw); go_simp); (try with_reducible rfl); (simp only [Act.put, List.setIfInBounds_toArray, List.set_cons_zero, List.set_cons_succ])
      refine held_on (i := 15) (N := (some 30)) (v := ?_) #[true, true, true, true, true, true, true, true, true, true, true, true, true, true, true, true, false, false, false, false, false, false, false, false] rfl rfl (by kernel_rfl) (fun _ _ _ h => h) (by rfl) ?_ (by assumption) ?_
      rotate_left; (intro w hSw; (try dsimp only at hSw); go_simp); (try with_reducible rfl); (simp only [Act.put, List.setIfInBounds_toArray, List.set_cons_zero, List.set_cons_succ])
      refine held_on (i := 16) (N := (some 31)) (v := ?_) #[true, true, true, true, true, true, true, true, true, true, true, true, true, true, true, true, true, false, false, false, false, false, false, false] rfl rfl (by kernel_rfl) (fun _ _ _ h => h) (by rfl) ?_ (by assumption) ?_
      rotate_left; (intro w hSw; (try dsimp only at hSw); go_simp); (try with_reducible rfl); (simp only [Act.put, List.setIfInBounds_toArray, List.set_cons_zero, List.set_cons_succ])
      refine held_on (i := 17) (N := (some 32)) (v := ?_) #[true, true, true, true, true, true, true, true, true, true, true, true, true, true, true, true, true, true, false, false, false, false, false, false] rfl rfl (by kernel_rfl) (fun _ _ _ h => h) (by rfl) ?_ (by assumption) ?_
      rotate_left; (intro w hSw; (try dsimp only at hSw); go_simp); (try with_reducible rfl); (simp only [Act.put, List.setIfInBounds_toArray, List.set_cons_zero, List.set_cons_succ])
      refine held_on (i := 18) (N := (some 33)) (v := ?_) #[true, true, true, true, true, true, true, true, true, true, true, true, true, true, true, true, true, true, true, false, false, false, false, false] rfl rfl (by kernel_rfl) (fun _ _ _ h => h) (by rfl) ?_ (by assumption) ?_
      rotate_left; (intro w hSw; (try dsimp only at hSw); go_simp); (try with_reducible rfl); (simp only [Act.put, List.setIfInBounds_toArray, List.set_cons_zero, List.set_cons_succ])
      refine held_on (i := 19) (N := (some 34)) (v := ?_) #[true, true, true, true, true, true, true, true, true, true, true, true, true, true, true, true, true, true, true, true, false, false, false, false] rfl rfl (by kernel_rfl) (fun _ _ _ h => h) (by rfl) ?_ (by assumption) ?_
      rotate_left; (intro w hSw; (try dsimp only at hSw); go_simp); (try with_reducible rfl); (simp only [Act.put, List.setIfInBounds_toArray, List.set_cons_zero, List.set_cons_succ])
      refine held_on (i := 20) (N := (some 35)) (v := ?_) #[true, true, true, true, true, true, true, true, true, true, true, true, true, true, true, true, true, true, true, true, true, false, false, false] rfl rfl (by kernel_rfl) (fun _ _ _ h => h) (by rfl) ?_ (by assumption) ?_
      rotate_left; (intro w hSw; (try dsimp only at hSw); go_simp); (try with_reducible rfl); (simp only [Act.put, List.setIfInBounds_toArray, List.set_cons_zero, List.set_cons_succ])
      refine held_run (i := 21) #[true, true, true, true, true, true, true, true, true, true, true, true, true, true, true, true, true, true, true, true, true, true, false, false] rfl (by kernel_rfl) (by rfl) (fun K hK => ?_)
      go_simp
      refine (HV1.out _).mono ?_; rintro x w7 ⟨rfl, rfl⟩
      refine hK.out _ _ hHeld (fun hHeld => ?_); clear hK K; (try simp only [Act.put, List.setIfInBounds_toArray, List.set_cons_zero, List.set_cons_succ])
      refine held_on (i := 22) (N := (some 37)) (v := ?_) #[true, true, true, true, true, true, true, true, true, true, true, true, true, true, true, true, true, true, true, true, true, true, true, false] rfl rfl (by kernel_rfl) (fun _ _ _ h => h) (by rfl) ?_ (by assumption) ?_
      rotate_left; (intro w hSw; (try dsimp only at hSw); go_simp); (try with_reducible rfl); (simp only [Act.put, List.setIfInBounds_toArray, List.set_cons_zero, List.set_cons_succ])
      refine held_on (i := 23) (N := (some 38)) (v := ?_) #[true, true, true, true, true, true, true, true, true, true, true, true, true, true, true, true, true, true, true, true, true, true, true, true] rfl rfl (by kernel_rfl) (fun _ _ _ h => h) (by rfl) ?_ (by assumption) ?_
      rotate_left; (intro w hSw; (try dsimp only at hSw); go_simp); (try with_reducible rfl); (simp only [Act.put, List.setIfInBounds_toArray, List.set_cons_zero, List.set_cons_succ])
      refine held_done (by kernel_rfl) ?_
      have X0 := hHeld.1
      clear hHeld HK
      have HK := X0; clear X0
      obtain ⟨_, d00, d01, d02, d03, d04, d05, d06, d07, d08, d09⟩ := keepS10 (Hid.out HK)
      show Exit.then _ _ _ _ _
      by_cases g1 : m1 = 0
      · have g1' : (m1 == 0) = true := by simpa using g1
        go_wp2_with fail
        go_ret
        exact ⟨ret_bool (by first | (simp [*]; done) | (simp [*]; intros; omega)), (Hid.out HK).2⟩
      · have g1' : (m1 == 0) = false := by simpa using g1
        go_wp2_with fail
        rw [rounds_succ]
        go_wp2_with fail
        by_cases h2 : n2 < c'
        · have h2' : ¬ c' ≤ n2 := by omega
          refine held_start (n := 24) (S := fun w' => (Hid (Keep w (w.heap.size + 2) 33 #[.int .u16 v, .int .u16 wi, .int .u16 l, .int .i64 e, .int .i64 c, .int .u16 v', .int .u16 wi', .int .u16 l', .int .i64 e', .int .i64 c'] w') ∧ w'.cell? ⟨(w.heap.size + 2), 0, none⟩ = some (.int .u16 v) ∧ w'.cell? ⟨(w.heap.size + 2), 1, none⟩ = some (.int .u16 wi) ∧ w'.cell? ⟨(w.heap.size + 2), 2, none⟩ = some (.int .u16 l) ∧ w'.cell? ⟨(w.heap.size + 2), 3, none⟩ = some (.int .i64 e) ∧ w'.cell? ⟨(w.heap.size + 2), 4, none⟩ = some (.int .i64 c) ∧ w'.cell? ⟨(w.heap.size + 2), 5, none⟩ = some (.int .u16 v') ∧ w'.cell? ⟨(w.heap.size + 2), 6, none⟩ = some (.int .u16 wi') ∧ w'.cell? ⟨(w.heap.size + 2), 7, none⟩ = some (.int .u16 l') ∧ w'.cell? ⟨(w.heap.size + 2), 8, none⟩ = some (.int .i64 e') ∧ w'.cell? ⟨(w.heap.size + 2), 9, none⟩ = some (.int .i64 c'))) #[false, false, false, false, false, false, false, false, false, false, false, false, false, false, false, false, false, false, false, false, false, false, false, false] (by kernel_rfl) rfl rfl (keepS10 (Keep.drew (Hid.out HK))) (fun hHeld => ?_)
          refine held_on (i := 0) (N := (some 15)) (v := ?_) #[true, false, false, false, false, false, false, false, false, false, false, false, false, false, false, false, false, false, false, false, false, false, false, false] rfl rfl (by kernel_rfl) (fun _ _ _ h => h) (by rfl) ?_ (by assumption) ?_
          rotate_left; (intro w hSw; (try dsimp only at hSw); go_simp); (try with_reducible rfl); (simp only [Act.put, List.setIfInBounds_toArray, List.set_cons_zero, List.set_cons_succ])
          refine held_on (i := 1) (N := (some 16)) (v := ?_) #[true, true, false, false, false, false, false, false, false, false, false, false, false, false, false, false, false, false, false, false, false, false, false, false] rfl rfl (by kernel_rfl) (fun _ _ _ h => h) (by rfl) ?_ (by assumption) ?_
          rotate_left; (intro w hSw; (try dsimp only at hSw); go_simp); (try with_reducible rfl); (simp only [Act.put, List.setIfInBounds_toArray, List.set_cons_zero, List.set_cons_succ])
          refine held_on (i := 2) (N := (some 17)) (v := ?_) #[true, true, true, false, false, false, false, false, false, false, false, false, false, false, false, false, false, false, false, false, false, false, false, false] rfl rfl (by kernel_rfl) (fun _ _ _ h => h) (by rfl) ?_ (by assumption) ?_
          rotate_left; (intro w hSw; (try dsimp only at hSw); go_simp); (try with_reducible rfl); (simp only [Act.put, List.setIfInBounds_toArray, List.set_cons_zero, List.set_cons_succ])
          refine held_on (i := 3) (N := (some 18)) (v := ?_) #[true, true, true, true, false, false, false, false, false, false, false, false, false, false, false, false, false, false, false, false, false, false, false, false] rfl rfl (by kernel_rfl) (fun _ _ _ h => h) (by rfl) ?_ (by assumption) ?_
          rotate_left; (intro w hSw; (try dsimp only at hSw); go_simp); (try with_reducible rfl); (simp only [Act.put, List.setIfInBounds_toArray, List.set_cons_zero, List.set_cons_succ])
          refine held_on (i := 5) (N := (some 20)) (v := ?_) #[true, true, true, true, false, true, false, false, false, false, false, false, false, false, false, false, false, false, false, false, false, false, false, false] rfl rfl (by kernel_rfl) (fun _ _ _ h => h) (by rfl) ?_ (by assumption) ?_
          rotate_left; (intro w hSw; (try dsimp only at hSw); go_simp); (try with_reducible rfl); (simp only [Act.put, List.setIfInBounds_toArray, List.set_cons_zero, List.set_cons_succ])
          refine held_on (i := 8) (N := (some 23)) (v := ?_) #[true, true, true, true, false, true, false, false, true, false, false, false, false, false, false, false, false, false, false, false, false, false, false, false] rfl rfl (by kernel_rfl) (fun _ _ _ h => h) (by rfl) ?_ (by assumption) ?_
          rotate_left; (intro w hSw; (try dsimp only at hSw); go_simp); (try with_reducible rfl); (simp only [Act.put, List.setIfInBounds_toArray, List.set_cons_zero, List.set_cons_succ])
          refine held_on (i := 9) (N := (some 24)) (v := ?_) #[true, true, true, true, false, true, false, false, true, true, false, false, false, false, false, false, false, false, false, false, false, false, false, false] rfl rfl (by kernel_rfl) (fun _ _ _ h => h) (by rfl) ?_ (by assumption) ?_
          rotate_left; (intro w hSw; (try dsimp only at hSw); go_simp); (try with_reducible rfl); (simp only [Act.put, List.setIfInBounds_toArray, List.set_cons_zero, List.set_cons_succ])
          refine held_on (i := 10) (N := (some 25)) (v := ?_) #[true, true, true, true, false, true, false, false, true, true, true, false, false, false, false, false, false, false, false, false, false, false, false, false] rfl rfl (by kernel_rfl) (fun _ _ _ h => h) (by rfl) ?_ (by assumption) ?_
          rotate_left; (intro w hSw; (try dsimp only at hSw); go_simp); (try with_reducible rfl); (simp only [Act.put, List.setIfInBounds_toArray, List.set_cons_zero, List.set_cons_succ])
          refine held_on (i := 11) (N := (some 26)) (v := ?_) #[true, true, true, true, false, true, false, false, true, true, true, true, false, false, false, false, false, false, false, false, false, false, false, false] rfl rfl (by kernel_rfl) (fun _ _ _ h => h) (by rfl) ?_ (by assumption) ?_
          rotate_left; (intro w hSw; (try dsimp only at hSw); go_simp); (try with_reducible rfl); (simp only [Act.put, List.setIfInBounds_toArray, List.set_cons_zero, List.set_cons_succ])
          refine held_on (i := 12) (N := (some 27)) (v := ?_) #[true, true, true, true, false, true, false, false, true, true, true, true, true, false, false, false, false, false, false, false, false, false, false, false] rfl rfl (by kernel_rfl) (fun _ _ _ h => h) (by rfl) ?_ (by assumption) ?_
          rotate_left; (intro w hSw; (try dsimp only at hSw); go_simp); (try with_reducible rfl); (simp only [Act.put, List.setIfInBounds_toArray, List.set_cons_zero, List.set_cons_succ])
          refine held_run (i := 4) #[true, true, true, true, true, true, false, false, true, true, true, true, true, false, false, false, false, false, false, false, false, false, false, false] rfl (by kernel_rfl) (by rfl) (fun K hK => ?_)
          go_simp
          refine (HQ2.out _).mono ?_; rintro x w4 ⟨rfl, hb⟩
          refine hK.out _ _ (keepS10 (Keep.call (Hid.out hHeld.1) hb)) (fun hHeld => ?_); clear hK K; (try simp only [Act.put, List.setIfInBounds_toArray, List.set_cons_zero, List.set_cons_succ])
          refine held_run (i := 6) #[true, true, true, true, true, true, true, false, true, true, true, true, true, false, false, false, false, false, false, false, false, false, false, false] rfl (by kernel_rfl) (by rfl) (fun K hK => ?_)
          go_simp
          refine (HM2.out _).mono ?_; rintro x w5 ⟨rfl, rfl⟩
          refine hK.out _ _ hHeld (fun hHeld => ?_); clear hK K; (try simp only [Act.put, List.setIfInBounds_toArray, List.set_cons_zero, List.set_cons_succ])
          refine held_run (i := 7) #[true, true, true, true, true, true, true, true, true, true, true, true, true, false, false, false, false, false, false, false, false, false, false, false] rfl (by kernel_rfl) (by rfl) (fun K hK => ?_)
          go_simp
          refine (HC2.out _).mono ?_; rintro x w6 ⟨rfl, hb⟩
          refine hK.out _ _ (keepS10 (Keep.call (Hid.out hHeld.1) hb)) (fun hHeld => ?_); clear hK K; (try simp only [Act.put, List.setIfInBounds_toArray, List.set_cons_zero, List.set_cons_succ])
          refine held_on (i := 13) (N := (some 28)) (v := ?_) #[true, true, true, true, true, true, true, true, true, true, true, true, true, true, false, false, false, false, false, false, false, false, false, false] rfl rfl (by kernel_rfl) (fun _ _ _ h => h) (by rfl) ?_ (by assumption) ?_
          rotate_left; (intro w hSw; (try dsimp only at hSw); go_simp); (try with_reducible rfl); (simp only [Act.put, List.setIfInBounds_toArray, List.set_cons_zero, List.set_cons_succ])
          refine held_on (i := 14) (N := (some 29)) (v := ?_) #[true, true, true, true, true, true, true, true, true, true, true, true, true, true, true, false, false, false, false, false, false, false, false, false] rfl rfl (by kernel_rfl) (fun _ _ _ h => h) (by rfl) ?_ (by assumption) ?_
          rotate_left; (intro w hSw; (try dsimp only at hSw); go_simp); (try with_reducible rfl); (simp only [Act.put, List.setIfInBounds_toArray, List.set_cons_zero, List.set_cons_succ])
          refine held_off (i := 15) (N := (some 30)) #[true, true, true, true, true, true, true, true, true, true, true, true, true, true, true, true, false, false, false, false, false, false, false, false] rfl rfl (by kernel_rfl) (fun _ _ _ h => h) (by rfl) (by assumption) ?_; (simp only [Act.put, List.setIfInBounds_toArray, List.set_cons_zero, List.set_cons_succ])
          refine held_off (i := 16) (N := (some 31)) #[true, true, true, true, true, true, true, true, true, true, true, true, true, true, true, true, true, false, false, false, false, false, false, false] rfl rfl (by kernel_rfl) (fun _ _ _ h => h) (by rfl) (by assumption) ?_; (simp only [Act.put, List.setIfInBounds_toArray, List.set_cons_zero, List.set_cons_succ])
          refine held_off (i := 17) (N := (some 32)) #[true, true, true, true, true, true, true, true, true, true, true, true, true, true, true, true, true, true, false, false, false, false, false, false] rfl rfl (by kernel_rfl) (fun _ _ _ h => h) (by rfl) (by assumption) ?_; (simp only [Act.put, List.setIfInBounds_toArray, List.set_cons_zero, List.set_cons_succ])
          refine held_off (i := 18) (N := (some 33)) #[true, true, true, true, true, true, true, true, true, true, true, true, true, true, true, true, true, true, true, false, false, false, false, false] rfl rfl (by kernel_rfl) (fun _ _ _ h => h) (by rfl) (by assumption) ?_; (simp only [Act.put, List.setIfInBounds_toArray, List.set_cons_zero, List.set_cons_succ])
          refine held_off (i := 19) (N := (some 34)) #[true, true, true, true, true, true, true, true, true, true, true, true, true, true, true, true, true, true, true, true, false, false, false, false] rfl rfl (by kernel_rfl) (fun _ _ _ h => h) (by rfl) (by assumption) ?_; (simp only [Act.put, List.setIfInBounds_toArray, List.set_cons_zero, List.set_cons_succ])
          refine held_off (i := 20) (N := (some 35)) #[true, true, true, true, true, true, true, true, true, true, true, true, true, true, true, true, true, true, true, true, true, false, false, false] rfl rfl (by kernel_rfl) (fun _ _ _ h => h) (by rfl) (by assumption) ?_; (simp only [Act.put, List.setIfInBounds_toArray, List.set_cons_zero, List.set_cons_succ])
          refine held_off (i := 21) (N := (some 36)) #[true, true, true, true, true, true, true, true, true, true, true, true, true, true, true, true, true, true, true, true, true, true, false, false] rfl rfl (by kernel_rfl) (fun _ _ _ h => h) (by rfl) (by assumption) ?_; (simp only [Act.put, List.setIfInBounds_toArray, List.set_cons_zero, List.set_cons_succ])
          refine held_off (i := 22) (N := (some 37)) #[true, true, true, true, true, true, true, true, true, true, true, true, true, true, true, true, true, true, true, true, true, true, true, false] rfl rfl (by kernel_rfl) (fun _ _ _ h => h) (by rfl) (by assumption) ?_; (simp only [Act.put, List.setIfInBounds_toArray, List.set_cons_zero, List.set_cons_succ])
          refine held_on (i := 23) (N := (some 38)) (v := ?_) #[true, true, true, true, true, true, true, true, true, true, true, true, true, true, true, true, true, true, true, true, true, true, true, true] rfl rfl (by kernel_rfl) (fun _ _ _ h => h) (by rfl) ?_ (by assumption) ?_
          rotate_left; (intro w hSw; (try dsimp only at hSw); go_simp); (try with_reducible rfl); (simp only [Act.put, List.setIfInBounds_toArray, List.set_cons_zero, List.set_cons_succ])
          refine held_done (by kernel_rfl) ?_
          have X0 := hHeld.1
          clear hHeld HK
          have HK := X0; clear X0
          obtain ⟨_, d00, d01, d02, d03, d04, d05, d06, d07, d08, d09⟩ := keepS10 (Hid.out HK)
          show Exit.then _ _ _ _ _
          go_wp2_with fail
          go_ret
          exact ⟨ret_bool (by first | (simp [*]; done) | (simp [*]; intros; omega)), (Hid.out HK).2⟩
        · have h2' : c' ≤ n2 := by omega
          refine held_start (n := 24) (S := fun w' => (Hid (Keep w (w.heap.size + 2) 33 #[.int .u16 v, .int .u16 wi, .int .u16 l, .int .i64 e, .int .i64 c, .int .u16 v', .int .u16 wi', .int .u16 l', .int .i64 e', .int .i64 c'] w') ∧ w'.cell? ⟨(w.heap.size + 2), 0, none⟩ = some (.int .u16 v) ∧ w'.cell? ⟨(w.heap.size + 2), 1, none⟩ = some (.int .u16 wi) ∧ w'.cell? ⟨(w.heap.size + 2), 2, none⟩ = some (.int .u16 l) ∧ w'.cell? ⟨(w.heap.size + 2), 3, none⟩ = some (.int .i64 e) ∧ w'.cell? ⟨(w.heap.size + 2), 4, none⟩ = some (.int .i64 c) ∧ w'.cell? ⟨(w.heap.size + 2), 5, none⟩ = some (.int .u16 v') ∧ w'.cell? ⟨(w.heap.size + 2), 6, none⟩ = some (.int .u16 wi') ∧ w'.cell? ⟨(w.heap.size + 2), 7, none⟩ = some (.int .u16 l') ∧ w'.cell? ⟨(w.heap.size + 2), 8, none⟩ = some (.int .i64 e') ∧ w'.cell? ⟨(w.heap.size + 2), 9, none⟩ = some (.int .i64 c'))) #[false, false, false, false, false, false, false, false, false, false, false, false, false, false, false, false, false, false, false, false, false, false, false, false] (by kernel_rfl) rfl rfl (keepS10 (Keep.drew (Hid.out HK))) (fun hHeld => ?_)
          refine held_on (i := 0) (N := (some 15)) (v := ?_) #[true, false, false, false, false, false, false, false, false, false, false, false, false, false, false, false, false, false, false, false, false, false, false, false] rfl rfl (by kernel_rfl) (fun _ _ _ h => h) (by rfl) ?_ (by assumption) ?_
          rotate_left; (intro w hSw; (try dsimp only at hSw); go_simp); (try with_reducible rfl); (simp only [Act.put, List.setIfInBounds_toArray, List.set_cons_zero, List.set_cons_succ])
          refine held_on (i := 1) (N := (some 16)) (v := ?_) #[true, true, false, false, false, false, false, false, false, false, false, false, false, false, false, false, false, false, false, false, false, false, false, false] rfl rfl (by kernel_rfl) (fun _ _ _ h => h) (by rfl) ?_ (by assumption) ?_
          rotate_left; (intro w hSw; (try dsimp only at hSw); go_simp); (try with_reducible rfl); (simp only [Act.put, List.setIfInBounds_toArray, List.set_cons_zero, List.set_cons_succ])
          refine held_on (i := 2) (N := (some 17)) (v := ?_) #[true, true, true, false, false, false, false, false, false, false, false, false, false, false, false, false, false, false, false, false, false, false, false, false] rfl rfl (by kernel_rfl) (fun _ _ _ h => h) (by rfl) ?_ (by assumption) ?_
          rotate_left; (intro w hSw; (try dsimp only at hSw); go_simp); (try with_reducible rfl); (simp only [Act.put, List.setIfInBounds_toArray, List.set_cons_zero, List.set_cons_succ])
          refine held_on (i := 3) (N := (some 18)) (v := ?_) #[true, true, true, true, false, false, false, false, false, false, false, false, false, false, false, false, false, false, false, false, false, false, false, false] rfl rfl (by kernel_rfl) (fun _ _ _ h => h) (by rfl) ?_ (by assumption) ?_
          rotate_left; (intro w hSw; (try dsimp only at hSw); go_simp); (try with_reducible rfl); (simp only [Act.put, List.setIfInBounds_toArray, List.set_cons_zero, List.set_cons_succ])
          refine held_on (i := 5) (N := (some 20)) (v := ?_) #[true, true, true, true, false, true, false, false, false, false, false, false, false, false, false, false, false, false, false, false, false, false, false, false] rfl rfl (by kernel_rfl) (fun _ _ _ h => h) (by rfl) ?_ (by assumption) ?_
          rotate_left; (intro w hSw; (try dsimp only at hSw); go_simp); (try with_reducible rfl); (simp only [Act.put, List.setIfInBounds_toArray, List.set_cons_zero, List.set_cons_succ])
          refine held_on (i := 8) (N := (some 23)) (v := ?_) #[true, true, true, true, false, true, false, false, true, false, false, false, false, false, false, false, false, false, false, false, false, false, false, false] rfl rfl (by kernel_rfl) (fun _ _ _ h => h) (by rfl) ?_ (by assumption) ?_
          rotate_left; (intro w hSw; (try dsimp only at hSw); go_simp); (try with_reducible rfl); (simp only [Act.put, List.setIfInBounds_toArray, List.set_cons_zero, List.set_cons_succ])
          refine held_on (i := 9) (N := (some 24)) (v := ?_) #[true, true, true, true, false, true, false, false, true, true, false, false, false, false, false, false, false, false, false, false, false, false, false, false] rfl rfl (by kernel_rfl) (fun _ _ _ h => h) (by rfl) ?_ (by assumption) ?_
          rotate_left; (intro w hSw; (try dsimp only at hSw); go_simp); (try with_reducible rfl); (simp only [Act.put, List.setIfInBounds_toArray, List.set_cons_zero, List.set_cons_succ])
          refine held_on (i := 10) (N := (some 25)) (v := ?_) #[true, true, true, true, false, true, false, false, true, true, true, false, false, false, false, false, false, false, false, false, false, false, false, false] rfl rfl (by kernel_rfl) (fun _ _ _ h => h) (by rfl) ?_ (by assumption) ?_
          rotate_left; (intro w hSw; (try dsimp only at hSw); go_simp); (try with_reducible rfl); (simp only [Act.put, List.setIfInBounds_toArray, List.set_cons_zero, List.set_cons_succ])
          refine held_on (i := 11) (N := (some 26)) (v := ?_) #[true, true, true, true, false, true, false, false, true, true, true, true, false, false, false, false, false, false, false, false, false, false, false, false] rfl rfl (by kernel_rfl) (fun _ _ _ h => h) (by rfl) ?_ (by assumption) ?_
          rotate_left; (intro w hSw; (try dsimp only at hSw); go_simp); (try with_reducible rfl); (simp only [Act.put, List.setIfInBounds_toArray, List.set_cons_zero, List.set_cons_succ])
          refine held_on (i := 12) (N := (some 27)) (v := ?_) #[true, true, true, true, false, true, false, false, true, true, true, true, true, false, false, false, false, false, false, false, false, false, false, false] rfl rfl (by kernel_rfl) (fun _ _ _ h => h) (by rfl) ?_ (by assumption) ?_
          rotate_left; (intro w hSw; (try dsimp only at hSw); go_simp); (try with_reducible rfl); (simp only [Act.put, List.setIfInBounds_toArray, List.set_cons_zero, List.set_cons_succ])
          refine held_run (i := 4) #[true, true, true, true, true, true, false, false, true, true, true, true, true, false, false, false, false, false, false, false, false, false, false, false] rfl (by kernel_rfl) (by rfl) (fun K hK => ?_)
          go_simp
          refine (HQ2.out _).mono ?_; rintro x w4 ⟨rfl, hb⟩
          refine hK.out _ _ (keepS10 (Keep.call (Hid.out hHeld.1) hb)) (fun hHeld => ?_); clear hK K; (try simp only [Act.put, List.setIfInBounds_toArray, List.set_cons_zero, List.set_cons_succ])
          refine held_run (i := 6) #[true, true, true, true, true, true, true, false, true, true, true, true, true, false, false, false, false, false, false, false, false, false, false, false] rfl (by kernel_rfl) (by rfl) (fun K hK => ?_)
          go_simp
          refine (HM2.out _).mono ?_; rintro x w5 ⟨rfl, rfl⟩
          refine hK.out _ _ hHeld (fun hHeld => ?_); clear hK K; (try simp only [Act.put, List.setIfInBounds_toArray, List.set_cons_zero, List.set_cons_succ])
          refine held_run (i := 7) #[true, true, true, true, true, true, true, true, true, true, true, true, true, false, false, false, false, false, false, false, false, false, false, false] rfl (by kernel_rfl) (by rfl) (fun K hK => ?_)
          go_simp
          refine (HC2.out _).mono ?_; rintro x w6 ⟨rfl, hb⟩
          refine hK.out _ _ (keepS10 (Keep.call (Hid.out hHeld.1) hb)) (fun hHeld => ?_); clear hK K; (try simp only [Act.put, List.setIfInBounds_toArray, List.set_cons_zero, List.set_cons_succ])
          refine held_on (i := 13) (N := (some 28)) (v := ?_) #[true, true, true, true, true, true, true, true, true, true, true, true, true, true, false, false, false, false, false, false, false, false, false, false] rfl rfl (by kernel_rfl) (fun _ _ _ h => h) (by rfl) ?_ (by assumption) ?_
          rotate_left; (intro w hSw; (try dsimp only at hSw); go_simp); (try with_reducible rfl); (simp only [Act.put, List.setIfInBounds_toArray, List.set_cons_zero, List.set_cons_succ])
          refine held_on (i := 14) (N := (some 29)) (v := ?_) #[true, true, true, true, true, true, true, true, true, true, true, true, true, true, true, false, false, false, false, false, false, false, false, false] rfl rfl (by kernel_rfl) (fun _ _ _ h => h) (by rfl) ?_ (by assumption) ?_
          rotate_left; (intro w hSw; (try dsimp only at hSw); go_simp); (try with_reducible rfl); (simp only [Act.put, List.setIfInBounds_toArray, List.set_cons_zero, List.set_cons_succ])
          refine held_on (i := 15) (N := (some 30)) (v := ?_) #[true, true, true, true, true, true, true, true, true, true, true, true, true, true, true, true, false, false, false, false, false, false, false, false] rfl rfl (by kernel_rfl) (fun _ _ _ h => h) (by rfl) ?_ (by assumption) ?_
          rotate_left; (intro w hSw; (try dsimp only at hSw); go_simp); (try with_reducible rfl); (simp only [Act.put, List.setIfInBounds_toArray, List.set_cons_zero, List.set_cons_succ])
          refine held_on (i := 16) (N := (some 31)) (v := ?_) #[true, true, true, true, true, true, true, true, true, true, true, true, true, true, true, true, true, false, false, false, false, false, false, false] rfl rfl (by kernel_rfl) (fun _ _ _ h => h) (by rfl) ?_ (by assumption) ?_
          rotate_left; (intro w hSw; (try dsimp only at hSw); go_simp); (try with_reducible rfl); (simp only [Act.put, List.setIfInBounds_toArray, List.set_cons_zero, List.set_cons_succ])
          refine held_on (i := 17) (N := (some 32)) (v := ?_) #[true, true, true, true, true, true, true, true, true, true, true, true, true, true, true, true, true, true, false, false, false, false, false, false] rfl rfl (by kernel_rfl) (fun _ _ _ h => h) (by rfl) ?_ (by assumption) ?_
          rotate_left; (intro w hSw; (try dsimp only at hSw); go_simp); (try with_reducible rfl); (simp only [Act.put, List.setIfInBounds_toArray, List.set_cons_zero, List.set_cons_succ])
          refine held_on (i := 18) (N := (some 33)) (v := ?_) #[true, true, true, true, true, true, true, true, true, true, true, true, true, true, true, true, true, true, true, false, false, false, false, false] rfl rfl (by kernel_rfl) (fun _ _ _ h => h) (by rfl) ?_ (by assumption) ?_
          rotate_left; (intro w hSw; (try dsimp only at hSw); go_simp); (try with_reducible rfl); (simp only [Act.put, List.setIfInBounds_toArray, List.set_cons_zero, List.set_cons_succ])
          refine held_on (i := 19) (N := (some 34)) (v := ?_) #[true, true, true, true, true, true, true, true, true, true, true, true, true, true, true, true, true, true, true, true, false, false, false, false] rfl rfl (by kernel_rfl) (fun _ _ _ h => h) (by rfl) ?_ (by assumption) ?_
          rotate_left; (intro w hSw; (try dsimp only at hSw); go_simp); (try with_reducible rfl); (simp only [Act.put, List.setIfInBounds_toArray, List.set_cons_zero, List.set_cons_succ])
          refine held_on (i := 20) (N := (some 35)) (v := ?_) #[true, true, true, true, true, true, true, true, true, true, true, true, true, true, true, true, true, true, true, true, true, false, false, false] rfl rfl (by kernel_rfl) (fun _ _ _ h => h) (by rfl) ?_ (by assumption) ?_
          rotate_left; (intro w hSw; (try dsimp only at hSw); go_simp); (try with_reducible rfl); (simp only [Act.put, List.setIfInBounds_toArray, List.set_cons_zero, List.set_cons_succ])
          refine held_run (i := 21) #[true, true, true, true, true, true, true, true, true, true, true, true, true, true, true, true, true, true, true, true, true, true, false, false] rfl (by kernel_rfl) (by rfl) (fun K hK => ?_)
          go_simp
          refine (HV2.out _).mono ?_; rintro x w7 ⟨rfl, rfl⟩
          refine hK.out _ _ hHeld (fun hHeld => ?_); clear hK K; (try simp only [Act.put, List.setIfInBounds_toArray, List.set_cons_zero, List.set_cons_succ])
          refine held_on (i := 22) (N := (some 37)) (v := ?_) #[true, true, true, true, true, true, true, true, true, true, true, true, true, true, true, true, true, true, true, true, true, true, true, false] rfl rfl (by kernel_rfl) (fun _ _ _ h => h) (by rfl) ?_ (by assumption) ?_
          rotate_left; (intro w hSw; (try dsimp only at hSw); go_simp); (try with_reducible rfl); (simp only [Act.put, List.setIfInBounds_toArray, List.set_cons_zero, List.set_cons_succ])
          refine held_on (i := 23) (N := (some 38)) (v := ?_) #[true, true, true, true, true, true, true, true, true, true, true, true, true, true, true, true, true, true, true, true, true, true, true, true] rfl rfl (by kernel_rfl) (fun _ _ _ h => h) (by rfl) ?_ (by assumption) ?_
          rotate_left; (intro w hSw; (try dsimp only at hSw); go_simp); (try with_reducible rfl); (simp only [Act.put, List.setIfInBounds_toArray, List.set_cons_zero, List.set_cons_succ])
          refine held_done (by kernel_rfl) ?_
          have X0 := hHeld.1
          clear hHeld HK
          have HK := X0; clear X0
          obtain ⟨_, d00, d01, d02, d03, d04, d05, d06, d07, d08, d09⟩ := keepS10 (Hid.out HK)
          show Exit.then _ _ _ _ _
          by_cases g2 : m2 = 0
          · have g2' : (m2 == 0) = true := by simpa using g2
            go_wp2_with fail
            go_ret
            exact ⟨ret_bool (by first | (simp [*]; done) | (simp [*]; intros; omega)), (Hid.out HK).2⟩
          · have g2' : (m2 == 0) = false := by simpa using g2
            go_wp2_with fail
            rw [rounds_succ]
            go_wp2_with fail
            go_ret
            exact ⟨ret_bool (by first | (simp [*]; done) | (simp [*]; intros; omega)), (Hid.out HK).2⟩
  | false =>
    have HK : Hid (Keep w (w.heap.size + 2) 33 #[.int .u16 v, .int .u16 wi, .int .u16 l, .int .i64 e, .int .i64 c] (((w.alloc (.cells (jcells v wi l e c v' wi' l' e' c' false) 38)).alloc (.cells (jcells v wi l e c v' wi' l' e' c' false) 38)).alloc (.cells #[.int .u16 v, .int .u16 wi, .int .u16 l, .int .i64 e, .int .i64 c] 33))) := Lib.hid (Keep.mk_new (((Below.refl _ _).alloc (Nat.le_refl _) _).alloc (by simp) _) (by simp))
    go_enter Try.func34, Try.ntmps34
    go_wp2_with fail
    refine (two_no _ _ _ _ _ _ _ _ _ _ _).mono ?_; rintro x w1 ⟨rfl, rfl⟩
    obtain ⟨_, d00, d01, d02, d03, d04⟩ := keepS5 (Hid.out HK)
    go_wp2_with fail
    refine wp_loop_rounds 2 ?_
    rw [rounds_succ]
    go_wp2_with fail
    by_cases h1 : n1 < c
    · have h1' : ¬ c ≤ n1 := by omega
      refine held_start (n := 24) (S := fun w' => (Hid (Keep w (w.heap.size + 2) 33 #[.int .u16 v, .int .u16 wi, .int .u16 l, .int .i64 e, .int .i64 c] w') ∧ w'.cell? ⟨(w.heap.size + 2), 0, none⟩ = some (.int .u16 v) ∧ w'.cell? ⟨(w.heap.size + 2), 1, none⟩ = some (.int .u16 wi) ∧ w'.cell? ⟨(w.heap.size + 2), 2, none⟩ = some (.int .u16 l) ∧ w'.cell? ⟨(w.heap.size + 2), 3, none⟩ = some (.int .i64 e) ∧ w'.cell? ⟨(w.heap.size + 2), 4, none⟩ = some (.int .i64 c))) #[false, false, false, false, false, false, false, false, false, false, false, false, false, false, false, false, false, false, false, false, false, false, false, false] (by kernel_rfl) rfl rfl (keepS5 (Keep.drew (Hid.out HK))) (fun hHeld => ?_)
      refine held_on (i := 0) (N := (some 15)) (v := ?_) #[true, false, false, false, false, false, false, false, false, false, false, false, false, false, false, false, false, false, false, false, false, false, false, false] rfl rfl (by kernel_rfl) (fun _ _ _ h => h) (by rfl) ?_ (by assumption) ?_
      rotate_left; (intro w hSw; (try dsimp only at hSw); go_simp); (try with_reducible rfl); (simp only [Act.put, List.setIfInBounds_toArray, List.set_cons_zero, List.set_cons_succ])
      refine held_on (i := 1) (N := (some 16)) (v := ?_) #[true, true, false, false, false, false, false, false, false, false, false, false, false, false, false, false, false, false, false, false, false, false, false, false] rfl rfl (by kernel_rfl) (fun _ _ _ h => h) (by rfl) ?_ (by assumption) ?_
      rotate_left; (intro w hSw; (try dsimp only at hSw); go_simp); (try with_reducible rfl); (simp only [Act.put, List.setIfInBounds_toArray, List.set_cons_zero, List.set_cons_succ])
      refine held_on (i := 2) (N := (some 17)) (v := ?_) #[true, true, true, false, false, false, false, false, false, false, false, false, false, false, false, false, false, false, false, false, false, false, false, false] rfl rfl (by kernel_rfl) (fun _ _ _ h => h) (by rfl) ?_ (by assumption) ?_
      rotate_left; (intro w hSw; (try dsimp only at hSw); go_simp); (try with_reducible rfl); (simp only [Act.put, List.setIfInBounds_toArray, List.set_cons_zero, List.set_cons_succ])
      refine held_on (i := 3) (N := (some 18)) (v := ?_) #[true, true, true, true, false, false, false, false, false, false, false, false, false, false, false, false, false, false, false, false, false, false, false, false] rfl rfl (by kernel_rfl) (fun _ _ _ h => h) (by rfl) ?_ (by assumption) ?_
      rotate_left; (intro w hSw; (try dsimp only at hSw); go_simp); (try with_reducible rfl); (simp only [Act.put, List.setIfInBounds_toArray, List.set_cons_zero, List.set_cons_succ])
      refine held_on (i := 5) (N := (some 20)) (v := ?_) #[true, true, true, true, false, true, false, false, false, false, false, false, false, false, false, false, false, false, false, false, false, false, false, false] rfl rfl (by kernel_rfl) (fun _ _ _ h => h) (by rfl) ?_ (by assumption) ?_
      rotate_left; (intro w hSw; (try dsimp only at hSw); go_simp); (try with_reducible rfl); (simp only [Act.put, List.setIfInBounds_toArray, List.set_cons_zero, List.set_cons_succ])
      refine held_on (i := 8) (N := (some 23)) (v := ?_) #[true, true, true, true, false, true, false, false, true, false, false, false, false, false, false, false, false, false, false, false, false, false, false, false] rfl rfl (by kernel_rfl) (fun _ _ _ h => h) (by rfl) ?_ (by assumption) ?_
      rotate_left; (intro w hSw; (try dsimp only at hSw); go_simp); (try with_reducible rfl); (simp only [Act.put, List.setIfInBounds_toArray, List.set_cons_zero, List.set_cons_succ])
      refine held_on (i := 9) (N := (some 24)) (v := ?_) #[true, true, true, true, false, true, false, false, true, true, false, false, false, false, false, false, false, false, false, false, false, false, false, false] rfl rfl (by kernel_rfl) (fun _ _ _ h => h) (by rfl) ?_ (by assumption) ?_
      rotate_left; (intro w hSw; (try dsimp only at hSw); go_simp); (try with_reducible rfl); (simp only [Act.put, List.setIfInBounds_toArray, List.set_cons_zero, List.set_cons_succ])
      refine held_on (i := 10) (N := (some 25)) (v := ?_) #[true, true, true, true, false, true, false, false, true, true, true, false, false, false, false, false, false, false, false, false, false, false, false, false] rfl rfl (by kernel_rfl) (fun _ _ _ h => h) (by rfl) ?_ (by assumption) ?_
      rotate_left; (intro w hSw; (try dsimp only at hSw); go_simp); (try with_reducible rfl); (simp only [Act.put, List.setIfInBounds_toArray, List.set_cons_zero, List.set_cons_succ])
      refine held_on (i := 11) (N := (some 26)) (v := ?_) #[true, true, true, true, false, true, false, false, true, true, true, true, false, false, false, false, false, false, false, false, false, false, false, false] rfl rfl (by kernel_rfl) (fun _ _ _ h => h) (by rfl) ?_ (by assumption) ?_
      rotate_left; (intro w hSw; (try dsimp only at hSw); go_simp); (try with_reducible rfl); (simp only [Act.put, List.setIfInBounds_toArray, List.set_cons_zero, List.set_cons_succ])
      refine held_on (i := 12) (N := (some 27)) (v := ?_) #[true, true, true, true, false, true, false, false, true, true, true, true, true, false, false, false, false, false, false, false, false, false, false, false] rfl rfl (by kernel_rfl) (fun _ _ _ h => h) (by rfl) ?_ (by assumption) ?_
      rotate_left; (intro w hSw; (try dsimp only at hSw); go_simp); (try with_reducible rfl); (simp only [Act.put, List.setIfInBounds_toArray, List.set_cons_zero, List.set_cons_succ])
      refine held_run (i := 4) #[true, true, true, true, true, true, false, false, true, true, true, true, true, false, false, false, false, false, false, false, false, false, false, false] rfl (by kernel_rfl) (by rfl) (fun K hK => ?_)
      go_simp
      refine (HQ1.out _).mono ?_; rintro x w4 ⟨rfl, hb⟩
      refine hK.out _ _ (keepS5 (Keep.call (Hid.out hHeld.1) hb)) (fun hHeld => ?_); clear hK K; (try simp only [Act.put, List.setIfInBounds_toArray, List.set_cons_zero, List.set_cons_succ])
      refine held_run (i := 6) #[true, true, true, true, true, true, true, false, true, true, true, true, true, false, false, false, false, false, false, false, false, false, false, false] rfl (by kernel_rfl) (by rfl) (fun K hK => ?_)
      go_simp
      refine (HM1.out _).mono ?_; rintro x w5 ⟨rfl, rfl⟩
      refine hK.out _ _ hHeld (fun hHeld => ?_); clear hK K; (try simp only [Act.put, List.setIfInBounds_toArray, List.set_cons_zero, List.set_cons_succ])
      refine held_run (i := 7) #[true, true, true, true, true, true, true, true, true, true, true, true, true, false, false, false, false, false, false, false, false, false, false, false] rfl (by kernel_rfl) (by rfl) (fun K hK => ?_)
      go_simp
      refine (HC1.out _).mono ?_; rintro x w6 ⟨rfl, hb⟩
      refine hK.out _ _ (keepS5 (Keep.call (Hid.out hHeld.1) hb)) (fun hHeld => ?_); clear hK K; (try simp only [Act.put, List.setIfInBounds_toArray, List.set_cons_zero, List.set_cons_succ])
      refine held_on (i := 13) (N := (some 28)) (v := ?_) #[true, true, true, true, true, true, true, true, true, true, true, true, true, true, false, false, false, false, false, false, false, false, false, false] rfl rfl (by kernel_rfl) (fun _ _ _ h => h) (by rfl) ?_ (by assumption) ?_
      rotate_left; (intro w hSw; (try dsimp only at hSw); go_simp); (try with_reducible rfl); (simp only [Act.put, List.setIfInBounds_toArray, List.set_cons_zero, List.set_cons_succ])
      refine held_on (i := 14) (N := (some 29)) (v := ?_) #[true, true, true, true, true, true, true, true, true, true, true, true, true, true, true, false, false, false, false, false, false, false, false, false] rfl rfl (by kernel_rfl) (fun _ _ _ h => h) (by rfl) ?_ (by assumption) ?_
      rotate_left; (intro w hSw; (try dsimp only at hSw); go_simp); (try with_reducible rfl); (simp only [Act.put, List.setIfInBounds_toArray, List.set_cons_zero, List.set_cons_succ])
      refine held_off (i := 15) (N := (some 30)) #[true, true, true, true, true, true, true, true, true, true, true, true, true, true, true, true, false, false, false, false, false, false, false, false] rfl rfl (by kernel_rfl) (fun _ _ _ h => h) (by rfl) (by assumption) ?_; (simp only [Act.put, List.setIfInBounds_toArray, List.set_cons_zero, List.set_cons_succ])
      refine held_off (i := 16) (N := (some 31)) #[true, true, true, true, true, true, true, true, true, true, true, true, true, true, true, true, true, false, false, false, false, false, false, false] rfl rfl (by kernel_rfl) (fun _ _ _ h => h) (by rfl) (by assumption) ?_; (simp only [Act.put, List.setIfInBounds_toArray, List.set_cons_zero, List.set_cons_succ])
      refine held_off (i := 17) (N := (some 32)) #[true, true, true, true, true, true, true, true, true, true, true, true, true, true, true, true, true, true, false, false, false, false, false, false] rfl rfl (by kernel_rfl) (fun _ _ _ h => h) (by rfl) (by assumption) ?_; (simp only [Act.put, List.setIfInBounds_toArray, List.set_cons_zero, List.set_cons_succ])
      refine held_off (i := 18) (N := (some 33)) #[true, true, true, true, true, true, true, true, true, true, true, true, true, true, true, true, true, true, true, false, false, false, false, false] rfl rfl (by kernel_rfl) (fun _ _ _ h => h) (by rfl) (by assumption) ?_; (simp only [Act.put, List.setIfInBounds_toArray, List.set_cons_zero, List.set_cons_succ])
      refine held_off (i := 19) (N := (some 34)) #[true, true, true, true, true, true, true, true, true, true, true, true, true, true, true, true, true, true, true, true, false, false, false, false] rfl rfl (by kernel_rfl) (fun _ _ _ h => h) (by rfl) (by assumption) ?_; (simp only [Act.put, List.setIfInBounds_toArray, List.set_cons_zero, List.set_cons_succ])
      refine held_off (i := 20) (N := (some 35)) #[true, true, true, true, true, true, true, true, true, true, true, true, true, true, true, true, true, true, true, true, true, false, false, false] rfl rfl (by kernel_rfl) (fun _ _ _ h => h) (by rfl) (by assumption) ?_; (simp only [Act.put, List.setIfInBounds_toArray, List.set_cons_zero, List.set_cons_succ])
      refine held_off (i := 21) (N := (some 36)) #[true, true, true, true, true, true, true, true, true, true, true, true, true, true, true, true, true, true, true, true, true, true, false, false] rfl rfl (by kernel_rfl) (fun _ _ _ h => h) (by rfl) (by assumption) ?_; (simp only [Act.put, List.setIfInBounds_toArray, List.set_cons_zero, List.set_cons_succ])
      refine held_off (i := 22) (N := (some 37)) #[true, true, true, true, true, true, true, true, true, true, true, true, true, true, true, true, true, true, true, true, true, true, true, false] rfl rfl (by kernel_rfl) (fun _ _ _ h => h) (by rfl) (by assumption) ?_; (simp only [Act.put, List.setIfInBounds_toArray, List.set_cons_zero, List.set_cons_succ])
      refine held_on (i := 23) (N := (some 38)) (v := ?_) #[true, true, true, true, true, true, true, true, true, true, true, true, true, true, true, true, true, true, true, true, true, true, true, true] rfl rfl (by kernel_rfl) (fun _ _ _ h => h) (by rfl) ?_ (by assumption) ?_
      rotate_left; (intro w hSw; (try dsimp only at hSw); go_simp); (try with_reducible rfl); (simp only [Act.put, List.setIfInBounds_toArray, List.set_cons_zero, List.set_cons_succ])
      refine held_done (by kernel_rfl) ?_
      have X0 := hHeld.1
      clear hHeld HK
      have HK := X0; clear X0
      obtain ⟨_, d00, d01, d02, d03, d04⟩ := keepS5 (Hid.out HK)
      show Exit.then _ _ _ _ _
      go_wp2_with fail
      go_ret
      exact ⟨ret_bool (by first | (simp [*]; done) | (simp [*]; intros; omega)), (Hid.out HK).2⟩
    · have h1' : c ≤ n1 := by omega
      refine held_start (n := 24) (S := fun w' => (Hid (Keep w (w.heap.size + 2) 33 #[.int .u16 v, .int .u16 wi, .int .u16 l, .int .i64 e, .int .i64 c] w') ∧ w'.cell? ⟨(w.heap.size + 2), 0, none⟩ = some (.int .u16 v) ∧ w'.cell? ⟨(w.heap.size + 2), 1, none⟩ = some (.int .u16 wi) ∧ w'.cell? ⟨(w.heap.size + 2), 2, none⟩ = some (.int .u16 l) ∧ w'.cell? ⟨(w.heap.size + 2), 3, none⟩ = some (.int .i64 e) ∧ w'.cell? ⟨(w.heap.size + 2), 4, none⟩ = some (.int .i64 c))) #[false, false, false, false, false, false, false, false, false, false, false, false, false, false, false, false, false, false, false, false, false, false, false, false] (by kernel_rfl) rfl rfl (keepS5 (Keep.drew (Hid.out HK))) (fun hHeld => ?_)
      refine held_on (i := 0) (N := (some 15)) (v := ?_) #[true, false, false, false, false, false, false, false, false, false, false, false, false, false, false, false, false, false, false, false, false, false, false, false] rfl rfl (by kernel_rfl) (fun _ _ _ h => h) (by rfl) ?_ (by assumption) ?_
      rotate_left; (intro w hSw; (try dsimp only at hSw); go_simp); (try with_reducible rfl); (simp only [Act.put, List.setIfInBounds_toArray, List.set_cons_zero, List.set_cons_succ])
      refine held_on (i := 1) (N := (some 16)) (v := ?_) #[true, true, false, false, false, false, false, false, false, false, false, false, false, false, false, false, false, false, false, false, false, false, false, false] rfl rfl (by kernel_rfl) (fun _ _ _ h => h) (by rfl) ?_ (by assumption) ?_
      rotate_left; (intro w hSw; (try dsimp only at hSw); go_simp); (try with_reducible rfl); (simp only [Act.put, List.setIfInBounds_toArray, List.set_cons_zero, List.set_cons_succ])
      refine held_on (i := 2) (N := (some 17)) (v := ?_) #[true, true, true, false, false, false, false, false, false, false, false, false, false, false, false, false, false, false, false, false, false, false, false, false] rfl rfl (by kernel_rfl) (fun _ _ _ h => h) (by rfl) ?_ (by assumption) ?_
      rotate_left; (intro w hSw; (try dsimp only at hSw); go_simp); (try with_reducible rfl); (simp only [Act.put, List.setIfInBounds_toArray, List.set_cons_zero, List.set_cons_succ])
      refine held_on (i := 3) (N := (some 18)) (v := ?_) #[true, true, true, true, false, false, false, false, false, false, false, false, false, false, false, false, false, false, false, false, false, false, false, false] rfl rfl (by kernel_rfl) (fun _ _ _ h => h) (by rfl) ?_ (by assumption) ?_
      rotate_left; (intro w hSw; (try dsimp only at hSw); go_simp); (try with_reducible rfl); (simp only [Act.put, List.setIfInBounds_toArray, List.set_cons_zero, List.set_cons_succ])
      refine held_on (i := 5) (N := (some 20)) (v := ?_) #[true, true, true, true, false, true, false, false, false, false, false, false, false, false, false, false, false, false, false, false, false, false, false, false] rfl rfl (by kernel_rfl) (fun _ _ _ h => h) (by rfl) ?_ (by assumption) ?_
      rotate_left; (intro w hSw; (try dsimp only at hSw); go_simp); (try with_reducible rfl); (simp only [Act.put, List.setIfInBounds_toArray, List.set_cons_zero, List.set_cons_succ])
      refine held_on (i := 8) (N := (some 23)) (v := ?_) #[true, true, true, true, false, true, false, false, true, false, false, false, false, false, false, false, false, false, false, false, false, false, false, false] rfl rfl (by kernel_rfl) (fun _ _ _ h => h) (by rfl) ?_ (by assumption) ?_
      rotate_left; (intro w hSw; (try dsimp only at hSw); go_simp); (try with_reducible rfl); (simp only [Act.put, List.setIfInBounds_toArray, List.set_cons_zero, List.set_cons_succ])
      refine held_on (i := 9) (N := (some 24)) (v := ?_) #[true, true, true, true, false, true, false, false, true, true, false, false, false, false, false, false, false, false, false, false, false, false, false, false] rfl rfl (by kernel_rfl) (fun _ _ _ h => h) (by rfl) ?_ (by assumption) ?_
      rotate_left; (intro w hSw; (try dsimp only at hSw); go_simp); (try with_reducible rfl); (simp only [Act.put, List.setIfInBounds_toArray, List.set_cons_zero, List.set_cons_succ])
      refine held_on (i := 10) (N := (some 25)) (v := ?_) #[true, true, true, true, false, true, false, false, true, true, true, false, false, false, false, false, false, false, false, false, false, false, false, false] rfl rfl (by kernel_rfl) (fun _ _ _ h => h) (by rfl) ?_ (by assumption) ?_
      rotate_left; (intro w hSw; (try dsimp only at hSw); go_simp); (try with_reducible rfl); (simp only [Act.put, List.setIfInBounds_toArray, List.set_cons_zero, List.set_cons_succ])
      refine held_on (i := 11) (N := (some 26)) (v := ?_) #[true, true, true, true, false, true, false, false, true, true, true, true, false, false, false, false, false, false, false, false, false, false, false, false] rfl rfl (by kernel_rfl) (fun _ _ _ h => h) (by rfl) ?_ (by assumption) ?_
      rotate_left; (intro w hSw; (try dsimp only at hSw); go_simp); (try with_reducible rfl); (simp only [Act.put, List.setIfInBounds_toArray, List.set_cons_zero, List.set_cons_succ])
      refine held_on (i := 12) (N := (some 27)) (v := ?_) #[true, true, true, true, false, true, false, false, true, true, true, true, true, false, false, false, false, false, false, false, false, false, false, false] rfl rfl (by kernel_rfl) (fun _ _ _ h => h) (by rfl) ?_ (by assumption) ?_
      rotate_left; (intro w hSw; (try dsimp only at hSw); go_simp); (try with_reducible rfl); (simp only [Act.put, List.setIfInBounds_toArray, List.set_cons_zero, List.set_cons_succ])
      refine held_run (i := 4) #[true, true, true, true, true, true, false, false, true, true, true, true, true, false, false, false, false, false, false, false, false, false, false, false] rfl (by kernel_rfl) (by rfl) (fun K hK => ?_)
      go_simp
      refine (HQ1.out _).mono ?_; rintro x w4 ⟨rfl, hb⟩
      refine hK.out _ _ (keepS5 (Keep.call (Hid.out hHeld.1) hb)) (fun hHeld => ?_); clear hK K; (try simp only [Act.put, List.setIfInBounds_toArray, List.set_cons_zero, List.set_cons_succ])
      refine held_run (i := 6) #[true, true, true, true, true, true, true, false, true, true, true, true, true, false, false, false, false, false, false, false, false, false, false, false] rfl (by kernel_rfl) (by rfl) (fun K hK => ?_)
      go_simp
      refine (HM1.out _).mono ?_; rintro x w5 ⟨rfl, rfl⟩
      refine hK.out _ _ hHeld (fun hHeld => ?_); clear hK K; (try simp only [Act.put, List.setIfInBounds_toArray, List.set_cons_zero, List.set_cons_succ])
      refine held_run (i := 7) #[true, true, true, true, true, true, true, true, true, true, true, true, true, false, false, false, false, false, false, false, false, false, false, false] rfl (by kernel_rfl) (by rfl) (fun K hK => ?_)
      go_simp
      refine (HC1.out _).mono ?_; rintro x w6 ⟨rfl, hb⟩
      refine hK.out _ _ (keepS5 (Keep.call (Hid.out hHeld.1) hb)) (fun hHeld => ?_); clear hK K; (try simp only [Act.put, List.setIfInBounds_toArray, List.set_cons_zero, List.set_cons_succ])
      refine held_on (i := 13) (N := (some 28)) (v := ?_) #[true, true, true, true, true, true, true, true, true, true, true, true, true, true, false, false, false, false, false, false, false, false, false, false] rfl rfl (by kernel_rfl) (fun _ _ _ h => h) (by rfl) ?_ (by assumption) ?_
      rotate_left; (intro w hSw; (try dsimp only at hSw); go_simp); (try with_reducible rfl); (simp only [Act.put, List.setIfInBounds_toArray, List.set_cons_zero, List.set_cons_succ])
      refine held_on (i := 14) (N := (some 29)) (v := ?_) #[true, true, true, true, true, true, true, true, true, true, true, true, true, true, true, false, false, false, false, false, false, false, false, false] rfl rfl (by kernel_rfl) (fun _ _ _ h => h) (by rfl) ?_ (by assumption) ?_
      rotate_left; (intro w hSw; (try dsimp only at hSw); go_simp); (try with_reducible rfl); (simp only [Act.put, List.setIfInBounds_toArray, List.set_cons_zero, List.set_cons_succ])
      refine held_on (i := 15) (N := (some 30)) (v := ?_) #[true, true, true, true, true, true, true, true, true, true, true, true, true, true, true, true, false, false, false, false, false, false, false, false] rfl rfl (by kernel_rfl) (fun _ _ _ h => h) (by rfl) ?_ (by assumption) ?_
      rotate_left; (intro w hSw; (try dsimp only at hSw); go_simp); (try with_reducible rfl); (simp only [Act.put, List.setIfInBounds_toArray, List.set_cons_zero, List.set_cons_succ])
      refine held_on (i := 16) (N := (some 31)) (v := ?_) #[true, true, true, true, true, true, true, true, true, true, true, true, true, true, true, true, true, false, false, false, false, false, false, false] rfl rfl (by kernel_rfl) (fun _ _ _ h => h) (by rfl) ?_ (by assumption) ?_
      rotate_left; (intro w hSw; (try dsimp only at hSw); go_simp); (try with_reducible rfl); (simp only [Act.put, List.setIfInBounds_toArray, List.set_cons_zero, List.set_cons_succ])
      refine held_on (i := 17) (N := (some 32)) (v := ?_) #[true, true, true, true, true, true, true, true, true, true, true, true, true, true, true, true, true, true, false, false, false, false, false, false] rfl rfl (by kernel_rfl) (fun _ _ _ h => h) (by rfl) ?_ (by assumption) ?_
      rotate_left; (intro w hSw; (try dsimp only at hSw); go_simp); (try with_reducible rfl); (simp only [Act.put, List.setIfInBounds_toArray, List.set_cons_zero, List.set_cons_succ])
      refine held_on (i := 18) (N := (some 33)) (v := ?_) #[true, true, true, true, true, true, true, true, true, true, true, true, true, true, true, true, true, true, true, false, false, false, false, false] rfl rfl (by kernel_rfl) (fun _ _ _ h => h) (by rfl) ?_ (by assumption) ?_
      rotate_left; (intro w hSw; (try dsimp only at hSw); go_simp); (try with_reducible rfl); (simp only [Act.put, List.setIfInBounds_toArray, List.set_cons_zero, List.set_cons_succ])
      refine held_on (i := 19) (N := (some 34)) (v := ?_) #[true, true, true, true, true, true, true, true, true, true, true, true, true, true, true, true, true, true, true, true, false, false, false, false] rfl rfl (by kernel_rfl) (fun _ _ _ h => h) (by rfl) ?_ (by assumption) ?_
      rotate_left; (intro w hSw; (try dsimp only at hSw); go_simp); (try with_reducible rfl); (simp only [Act.put, List.setIfInBounds_toArray, List.set_cons_zero, List.set_cons_succ])
      refine held_on (i := 20) (N := (some 35)) (v := ?_) #[true, true, true, true, true, true, true, true, true, true, true, true, true, true, true, true, true, true, true, true, true, false, false, false] rfl rfl (by kernel_rfl) (fun _ _ _ h => h) (by rfl) ?_ (by assumption) ?_
      rotate_left; (intro w hSw; (try dsimp only at hSw); go_simp); (try with_reducible rfl); (simp only [Act.put, List.setIfInBounds_toArray, List.set_cons_zero, List.set_cons_succ])
      refine held_run (i := 21) #[true, true, true, true, true, true, true, true, true, true, true, true, true, true, true, true, true, true, true, true, true, true, false, false] rfl (by kernel_rfl) (by rfl) (fun K hK => ?_)
      go_simp
      refine (HV1.out _).mono ?_; rintro x w7 ⟨rfl, rfl⟩
      refine hK.out _ _ hHeld (fun hHeld => ?_); clear hK K; (try simp only [Act.put, List.setIfInBounds_toArray, List.set_cons_zero, List.set_cons_succ])
      refine held_on (i := 22) (N := (some 37)) (v := ?_) #[true, true, true, true, true, true, true, true, true, true, true, true, true, true, true, true, true, true, true, true, true, true, true, false] rfl rfl (by kernel_rfl) (fun _ _ _ h => h) (by rfl) ?_ (by assumption) ?_
      rotate_left; (intro w hSw; (try dsimp only at hSw); go_simp); (try with_reducible rfl); (simp only [Act.put, List.setIfInBounds_toArray, List.set_cons_zero, List.set_cons_succ])
      refine held_on (i := 23) (N := (some 38)) (v := ?_) #[true, true, true, true, true, true, true, true, true, true, true, true, true, true, true, true, true, true, true, true, true, true, true, true] rfl rfl (by kernel_rfl) (fun _ _ _ h => h) (by rfl) ?_ (by assumption) ?_
      rotate_left; (intro w hSw; (try dsimp only at hSw); go_simp); (try with_reducible rfl); (simp only [Act.put, List.setIfInBounds_toArray, List.set_cons_zero, List.set_cons_succ])
      refine held_done (by kernel_rfl) ?_
      have X0 := hHeld.1
      clear hHeld HK
      have HK := X0; clear X0
      obtain ⟨_, d00, d01, d02, d03, d04⟩ := keepS5 (Hid.out HK)
      show Exit.then _ _ _ _ _
      by_cases g1 : m1 = 0
      · have g1' : (m1 == 0) = true := by simpa using g1
        go_wp2_with fail
        go_ret
        exact ⟨ret_bool (by first | (simp [*]; done) | (simp [*]; intros; omega)), (Hid.out HK).2⟩
      · have g1' : (m1 == 0) = false := by simpa using g1
        go_wp2_with fail
        rw [rounds_succ]
        go_wp2_with fail
        go_ret
        exact ⟨ret_bool (by first | (simp [*]; done) | (simp [*]; intros; omega)), (Hid.out HK).2⟩
end Go.Proofs.Ytcciejglemfebaa
