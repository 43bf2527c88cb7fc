/- The document's answer to May, each way through it: what the program answers. -/
import Derived.Test.YtcciejglemfebaaR3
import Derived.Test.YtcciejglemfebaaM3
import Derived.Test.YtcciejglemfebaaP8
namespace Go.Proofs.Ytcciejglemfebaa
open Go.RowKit

theorem rvotes_b (v wi l e c : Int) (w : World) (hv : U v) (hw : U wi) :
    Calls Try.prog 62 #[.agg (cells v wi l e c)] w fun x w' => x = .returned (.int .u16 (votesR ⟨v, wi, l, e, c⟩)) ∧ Below w.heap.size w w' :=
  (rvotes_calls v wi l e c w hv hw).mono fun _ _ h => ⟨h.1, by rw [← h.2]; exact (Below.refl _ _).alloc (Nat.le_refl _) _⟩

set_option maxHeartbeats 6400000 in
theorem rmay10_raw (v wi l e c : Int) (w : World) (hv : U v) (hw : U wi) (hl : U l) :
    Calls Try.prog 38 #[.agg (cells v wi l e c)] w fun x w' => x = .returned (.bool (mayR ⟨v, wi, l, e, c⟩)) ∧ Below w.heap.size w w' := by
  have HV := Lib.hid hv
  have HW := Lib.hid hw
  have HL := Lib.hid hl
  have HQ := Lib.hid (votesR_u ⟨v, wi, l, e, c⟩)
  have HA : Hid (U (msk (union (votesR ⟨v, wi, l, e, c⟩) l))) := Lib.hid (bits_u _ _ _)
  have HK : Hid (Keep w w.heap.size 33 (cells v wi l e c) (w.alloc (.cells (cells v wi l e c) 33))) := Lib.hid (Keep.new _ _ _)
  clear hv hw hl
  cases hm1 : mayB v with
  | false =>
    have hR : mayR ⟨v, wi, l, e, c⟩ = false := by simp [mayR, hm1]
    rw [hR]
    clear hR
    go_enter Try.func38, Try.ntmps38
    go_wp2_with fail
    refine (rmay_calls _ _ HV.out).mono ?_; rintro x w2 ⟨rfl, hb⟩
    have HX := Lib.hid (Keep.call (Hid.out HK) hb); clear HK hb; have HK := HX; clear HX; obtain ⟨_, d0, d1, d2, d3, d4⟩ := keepS5 (Hid.out HK)
    go_wp2_with fail
    go_ret
    exact ⟨rfl, (Hid.out HK).2⟩
  | true =>
    cases hm2 : mayB wi with
    | false =>
      have hR : mayR ⟨v, wi, l, e, c⟩ = false := by simp [mayR, hm2]
      rw [hR]
      clear hR
      go_enter Try.func38, Try.ntmps38
      go_wp2_with fail
      refine (rmay_calls _ _ HV.out).mono ?_; rintro x w2 ⟨rfl, hb⟩
      have HX := Lib.hid (Keep.call (Hid.out HK) hb); clear HK hb; have HK := HX; clear HX; obtain ⟨_, d0, d1, d2, d3, d4⟩ := keepS5 (Hid.out HK)
      go_wp2_with fail
      refine (rmay_calls _ _ HW.out).mono ?_; rintro x w2 ⟨rfl, hb⟩
      have HX := Lib.hid (Keep.call (Hid.out HK) hb); clear HK hb; have HK := HX; clear HX; obtain ⟨_, d0, d1, d2, d3, d4⟩ := keepS5 (Hid.out HK)
      go_wp2_with fail
      go_ret
      exact ⟨rfl, (Hid.out HK).2⟩
    | true =>
      cases hm3 : mayB l with
      | false =>
        have hR : mayR ⟨v, wi, l, e, c⟩ = false := by simp [mayR, hm3]
        rw [hR]
        clear hR
        go_enter Try.func38, Try.ntmps38
        go_wp2_with fail
        refine (rmay_calls _ _ HV.out).mono ?_; rintro x w2 ⟨rfl, hb⟩
        have HX := Lib.hid (Keep.call (Hid.out HK) hb); clear HK hb; have HK := HX; clear HX; obtain ⟨_, d0, d1, d2, d3, d4⟩ := keepS5 (Hid.out HK)
        go_wp2_with fail
        refine (rmay_calls _ _ HW.out).mono ?_; rintro x w2 ⟨rfl, hb⟩
        have HX := Lib.hid (Keep.call (Hid.out HK) hb); clear HK hb; have HK := HX; clear HX; obtain ⟨_, d0, d1, d2, d3, d4⟩ := keepS5 (Hid.out HK)
        go_wp2_with fail
        refine (rmay_calls _ _ HL.out).mono ?_; rintro x w2 ⟨rfl, hb⟩
        have HX := Lib.hid (Keep.call (Hid.out HK) hb); clear HK hb; have HK := HX; clear HX; obtain ⟨_, d0, d1, d2, d3, d4⟩ := keepS5 (Hid.out HK)
        go_wp2_with fail
        go_ret
        exact ⟨rfl, (Hid.out HK).2⟩
      | true =>
        have a1 := cnt_nonneg v
        have a2 := cnt_le v
        have a3 := cnt_nonneg wi
        have a4 := cnt_le wi
        have a5 := cnt_nonneg l
        have a6 := cnt_le l
        have a7 := cnt_nonneg (votesR ⟨v, wi, l, e, c⟩)
        have a8 := cnt_le (votesR ⟨v, wi, l, e, c⟩)
        have HR : Hid (mayR ⟨v, wi, l, e, c⟩ = ((cnt (msk (union (votesR ⟨v, wi, l, e, c⟩) l)) == cnt v + cnt wi + cnt l) && ((cnt v != 0) &&
          (decide (1 ≤ e) && (decide (e ≤ cnt (votesR ⟨v, wi, l, e, c⟩)) && (decide (1 ≤ c) && (decide (c ≤ cnt (votesR ⟨v, wi, l, e, c⟩)) && (decide (cnt (votesR ⟨v, wi, l, e, c⟩) < e + c) && decide (cnt (votesR ⟨v, wi, l, e, c⟩) < 2 * e))))))))) := by
          show _ = _
          unfold mayR allR
          dsimp only
          rw [hm1, hm2, hm3]
          rfl
        generalize mayR ⟨v, wi, l, e, c⟩ = M at *
        go_enter Try.func38, Try.ntmps38
        go_wp2_with fail
        refine (rmay_calls _ _ HV.out).mono ?_; rintro x w2 ⟨rfl, hb⟩
        have HX := Lib.hid (Keep.call (Hid.out HK) hb); clear HK hb; have HK := HX; clear HX; obtain ⟨_, d0, d1, d2, d3, d4⟩ := keepS5 (Hid.out HK)
        go_wp2_with fail
        refine (rmay_calls _ _ HW.out).mono ?_; rintro x w2 ⟨rfl, hb⟩
        have HX := Lib.hid (Keep.call (Hid.out HK) hb); clear HK hb; have HK := HX; clear HX; obtain ⟨_, d0, d1, d2, d3, d4⟩ := keepS5 (Hid.out HK)
        go_wp2_with fail
        refine (rmay_calls _ _ HL.out).mono ?_; rintro x w2 ⟨rfl, hb⟩
        have HX := Lib.hid (Keep.call (Hid.out HK) hb); clear HK hb; have HK := HX; clear HX; obtain ⟨_, d0, d1, d2, d3, d4⟩ := keepS5 (Hid.out HK)
        go_wp2_with fail
        refine held_start (n := 6) (S := fun w' => Hid (Keep w w.heap.size 33 #[.int .u16 v, .int .u16 wi, .int .u16 l, .int .i64 e, .int .i64 c] w') ∧ w'.cell? ⟨w.heap.size, 0, none⟩ = some (.int .u16 v) ∧ w'.cell? ⟨w.heap.size, 1, none⟩ = some (.int .u16 wi) ∧ w'.cell? ⟨w.heap.size, 2, none⟩ = some (.int .u16 l) ∧ w'.cell? ⟨w.heap.size, 3, none⟩ = some (.int .i64 e) ∧ w'.cell? ⟨w.heap.size, 4, none⟩ = some (.int .i64 c)) #[false, false, false, false, false, false] (by kernel_rfl) rfl rfl (keepS5 (Keep.drew (Hid.out HK))) (fun hHeld => ?_)
        refine held_on (i := 0) (N := (some 21)) (v := ?_) #[true, false, false, false, false, false] rfl rfl (by kernel_rfl) (fun _ _ _ h => h) (by rfl) ?_ (by assumption) ?_
        rotate_left; (intro w hSw; (try dsimp only at hSw); go_simp); (try with_reducible rfl); (simp only [Act.put, List.setIfInBounds_toArray, List.set_cons_zero, List.set_cons_succ])
        refine held_on (i := 2) (N := (some 23)) (v := ?_) #[true, false, true, false, false, false] rfl rfl (by kernel_rfl) (fun _ _ _ h => h) (by rfl) ?_ (by assumption) ?_
        rotate_left; (intro w hSw; (try dsimp only at hSw); go_simp); (try with_reducible rfl); (simp only [Act.put, List.setIfInBounds_toArray, List.set_cons_zero, List.set_cons_succ])
        refine held_on (i := 3) (N := (some 24)) (v := ?_) #[true, false, true, true, false, false] rfl rfl (by kernel_rfl) (fun _ _ _ h => h) (by rfl) ?_ (by assumption) ?_
        rotate_left; (intro w hSw; (try dsimp only at hSw); go_simp); (try with_reducible rfl); (simp only [Act.put, List.setIfInBounds_toArray, List.set_cons_zero, List.set_cons_succ])
        refine held_run (i := 1) #[true, true, true, true, false, false] rfl (by kernel_rfl) (by rfl) (fun K hK => ?_)
        go_simp
        refine (rvotes_b _ _ _ _ _ _ HV.out HW.out).mono ?_; rintro x w3 ⟨rfl, hb⟩
        refine hK.out _ _ (keepS5 (Keep.call (Hid.out hHeld.1) hb)) (fun hHeld => ?_); clear hK K; (try simp only [Act.put, List.setIfInBounds_toArray, List.set_cons_zero, List.set_cons_succ])
        refine held_run (i := 4) #[true, true, true, true, true, false] rfl (by kernel_rfl) (by rfl) (fun K hK => ?_)
        go_simp
        refine (rjoin_calls _ _ _ HQ.out HL.out).mono ?_; rintro x w4 ⟨rfl, rfl⟩
        refine hK.out _ _ hHeld (fun hHeld => ?_); clear hK K; (try simp only [Act.put, List.setIfInBounds_toArray, List.set_cons_zero, List.set_cons_succ])
        refine held_on (i := 5) (N := (some 3)) (v := ?_) #[true, true, true, true, true, true] rfl rfl (by kernel_rfl) (fun _ _ _ h => h) (by rfl) ?_ (by assumption) ?_
        rotate_left; (intro w hSw; (try dsimp only at hSw); go_simp); (try with_reducible rfl); (simp only [Act.put, List.setIfInBounds_toArray, List.set_cons_zero, List.set_cons_succ])
        refine held_done (by kernel_rfl) ?_
        have HX := hHeld.1; clear HK hHeld; have HK := HX; clear HX; obtain ⟨_, d0, d1, d2, d3, d4⟩ := keepS5 (Hid.out HK)
        show Exit.then _ _ _ _ _
        go_wp2_with fail
        refine (rvotes_b _ _ _ _ _ _ HV.out HW.out).mono ?_; rintro x w2 ⟨rfl, hb⟩
        have HX := Lib.hid (Keep.call (Hid.out HK) hb); clear HK hb; have HK := HX; clear HX; obtain ⟨_, d0, d1, d2, d3, d4⟩ := keepS5 (Hid.out HK)
        go_wp2_with fail
        refine (rcount_calls _ _ HQ.out).mono ?_; rintro x w2 ⟨rfl, hb⟩
        have HX := Lib.hid (Keep.call (Hid.out HK) hb); clear HK hb; have HK := HX; clear HX; obtain ⟨_, d0, d1, d2, d3, d4⟩ := keepS5 (Hid.out HK)
        go_wp2_with fail
        by_cases hne : cnt (msk (union (votesR ⟨v, wi, l, e, c⟩) l)) = cnt v + cnt wi + cnt l
        · have hq : (cnt (msk (union (votesR ⟨v, wi, l, e, c⟩) l)) != cnt v + cnt wi + cnt l) = false := by simpa using hne
          clear hne
          have s1 : IntKind.i64.wrap (cnt v + cnt wi) = cnt v + cnt wi := IntWalk.i64_in _ (by omega)
          have s2 : IntKind.i64.wrap (cnt v + cnt wi + cnt l) = cnt v + cnt wi + cnt l := IntWalk.i64_in _ (by omega)
          refine held_start (n := 20) (S := fun w' => Hid (Keep w w.heap.size 33 #[.int .u16 v, .int .u16 wi, .int .u16 l, .int .i64 e, .int .i64 c] w') ∧ w'.cell? ⟨w.heap.size, 0, none⟩ = some (.int .u16 v) ∧ w'.cell? ⟨w.heap.size, 1, none⟩ = some (.int .u16 wi) ∧ w'.cell? ⟨w.heap.size, 2, none⟩ = some (.int .u16 l) ∧ w'.cell? ⟨w.heap.size, 3, none⟩ = some (.int .i64 e) ∧ w'.cell? ⟨w.heap.size, 4, none⟩ = some (.int .i64 c)) #[false, false, false, false, false, false, false, false, false, false, false, false, false, false, false, false, false, false, false, false] (by kernel_rfl) rfl rfl (keepS5 (Keep.drew (Hid.out HK))) (fun hHeld => ?_)
          refine held_on (i := 0) (N := (some 29)) (v := ?_) #[true, false, false, false, false, false, false, false, false, false, false, false, false, false, false, false, false, false, false, false] rfl rfl (by kernel_rfl) (fun _ _ _ h => h) (by rfl) ?_ (by assumption) ?_
          rotate_left; (intro w hSw; (try dsimp only at hSw); go_simp); (try with_reducible rfl); (simp only [Act.put, List.setIfInBounds_toArray, List.set_cons_zero, List.set_cons_succ])
          refine held_on (i := 2) (N := (some 31)) (v := ?_) #[true, false, true, false, false, false, false, false, false, false, false, false, false, false, false, false, false, false, false, false] rfl rfl (by kernel_rfl) (fun _ _ _ h => h) (by rfl) ?_ (by assumption) ?_
          rotate_left; (intro w hSw; (try dsimp only at hSw); go_simp); (try with_reducible rfl); (simp only [Act.put, List.setIfInBounds_toArray, List.set_cons_zero, List.set_cons_succ])
          refine held_on (i := 3) (N := (some 32)) (v := ?_) #[true, false, true, true, false, false, false, false, false, false, false, false, false, false, false, false, false, false, false, false] rfl rfl (by kernel_rfl) (fun _ _ _ h => h) (by rfl) ?_ (by assumption) ?_
          rotate_left; (intro w hSw; (try dsimp only at hSw); go_simp); (try with_reducible rfl); (simp only [Act.put, List.setIfInBounds_toArray, List.set_cons_zero, List.set_cons_succ])
          refine held_on (i := 5) (N := (some 34)) (v := ?_) #[true, false, true, true, false, true, false, false, false, false, false, false, false, false, false, false, false, false, false, false] rfl rfl (by kernel_rfl) (fun _ _ _ h => h) (by rfl) ?_ (by assumption) ?_
          rotate_left; (intro w hSw; (try dsimp only at hSw); go_simp); (try with_reducible rfl); (simp only [Act.put, List.setIfInBounds_toArray, List.set_cons_zero, List.set_cons_succ])
          refine held_on (i := 6) (N := (some 35)) (v := ?_) #[true, false, true, true, false, true, true, false, false, false, false, false, false, false, false, false, false, false, false, false] rfl rfl (by kernel_rfl) (fun _ _ _ h => h) (by rfl) ?_ (by assumption) ?_
          rotate_left; (intro w hSw; (try dsimp only at hSw); go_simp); (try with_reducible rfl); (simp only [Act.put, List.setIfInBounds_toArray, List.set_cons_zero, List.set_cons_succ])
          refine held_on (i := 9) (N := (some 38)) (v := ?_) #[true, false, true, true, false, true, true, false, false, true, false, false, false, false, false, false, false, false, false, false] rfl rfl (by kernel_rfl) (fun _ _ _ h => h) (by rfl) ?_ (by assumption) ?_
          rotate_left; (intro w hSw; (try dsimp only at hSw); go_simp); (try with_reducible rfl); (simp only [Act.put, List.setIfInBounds_toArray, List.set_cons_zero, List.set_cons_succ])
          refine held_on (i := 10) (N := (some 39)) (v := ?_) #[true, false, true, true, false, true, true, false, false, true, true, false, false, false, false, false, false, false, false, false] rfl rfl (by kernel_rfl) (fun _ _ _ h => h) (by rfl) ?_ (by assumption) ?_
          rotate_left; (intro w hSw; (try dsimp only at hSw); go_simp); (try with_reducible rfl); (simp only [Act.put, List.setIfInBounds_toArray, List.set_cons_zero, List.set_cons_succ])
          refine held_run (i := 1) #[true, true, true, true, false, true, true, false, false, true, true, false, false, false, false, false, false, false, false, false] rfl (by kernel_rfl) (by rfl) (fun K hK => ?_)
          go_simp
          refine (rcount_calls _ _ HA.out).mono ?_; rintro x w5 ⟨rfl, hb⟩
          refine hK.out _ _ (keepS5 (Keep.call (Hid.out hHeld.1) hb)) (fun hHeld => ?_); clear hK K; (try simp only [Act.put, List.setIfInBounds_toArray, List.set_cons_zero, List.set_cons_succ])
          refine held_run (i := 4) #[true, true, true, true, true, true, true, false, false, true, true, false, false, false, false, false, false, false, false, false] rfl (by kernel_rfl) (by rfl) (fun K hK => ?_)
          go_simp
          refine (rcount_calls _ _ HV.out).mono ?_; rintro x w5 ⟨rfl, hb⟩
          refine hK.out _ _ (keepS5 (Keep.call (Hid.out hHeld.1) hb)) (fun hHeld => ?_); clear hK K; (try simp only [Act.put, List.setIfInBounds_toArray, List.set_cons_zero, List.set_cons_succ])
          refine held_run (i := 7) #[true, true, true, true, true, true, true, true, false, true, true, false, false, false, false, false, false, false, false, false] rfl (by kernel_rfl) (by rfl) (fun K hK => ?_)
          go_simp
          refine (rcount_calls _ _ HW.out).mono ?_; rintro x w5 ⟨rfl, hb⟩
          refine hK.out _ _ (keepS5 (Keep.call (Hid.out hHeld.1) hb)) (fun hHeld => ?_); clear hK K; (try simp only [Act.put, List.setIfInBounds_toArray, List.set_cons_zero, List.set_cons_succ])
          refine held_on (i := 8) (N := (some 37)) (v := ?_) #[true, true, true, true, true, true, true, true, true, true, true, false, false, false, false, false, false, false, false, false] rfl rfl (by kernel_rfl) (fun _ _ _ h => h) (by rfl) ?_ (by assumption) ?_
          rotate_left; (intro w hSw; (try dsimp only at hSw); go_simp); (try with_reducible rfl); (simp only [Act.put, List.setIfInBounds_toArray, List.set_cons_zero, List.set_cons_succ])
          refine held_run (i := 11) #[true, true, true, true, true, true, true, true, true, true, true, true, false, false, false, false, false, false, false, false] rfl (by kernel_rfl) (by rfl) (fun K hK => ?_)
          go_simp
          refine (rcount_calls _ _ HL.out).mono ?_; rintro x w5 ⟨rfl, hb⟩
          refine hK.out _ _ (keepS5 (Keep.call (Hid.out hHeld.1) hb)) (fun hHeld => ?_); clear hK K; (try simp only [Act.put, List.setIfInBounds_toArray, List.set_cons_zero, List.set_cons_succ])
          refine held_on (i := 12) (N := (some 41)) (v := ?_) #[true, true, true, true, true, true, true, true, true, true, true, true, true, false, false, false, false, false, false, false] rfl rfl (by kernel_rfl) (fun _ _ _ h => h) (by rfl) ?_ (by assumption) ?_
          rotate_left; (intro w hSw; (try dsimp only at hSw); go_simp); (try with_reducible rfl); (simp only [Act.put, List.setIfInBounds_toArray, List.set_cons_zero, List.set_cons_succ])
          refine held_on (i := 13) (N := (some 42)) (v := ?_) #[true, true, true, true, true, true, true, true, true, true, true, true, true, true, false, false, false, false, false, false] rfl rfl (by kernel_rfl) (fun _ _ _ h => h) (by rfl) ?_ (by assumption) ?_
          rotate_left; (intro w hSw; (try dsimp only at hSw); go_simp); (try with_reducible rfl); (simp only [Act.put, List.setIfInBounds_toArray, List.set_cons_zero, List.set_cons_succ])
          refine held_on (i := 14) (N := (some 43)) (v := ?_) #[true, true, true, true, true, true, true, true, true, true, true, true, true, true, true, false, false, false, false, false] rfl rfl (by kernel_rfl) (fun _ _ _ h => h) (by rfl) ?_ (by assumption) ?_
          rotate_left; (intro w hSw; (try dsimp only at hSw); go_simp); (try with_reducible rfl); (simp only [Act.put, List.setIfInBounds_toArray, List.set_cons_zero, List.set_cons_succ])
          refine held_on (i := 15) (N := (some 44)) (v := ?_) #[true, true, true, true, true, true, true, true, true, true, true, true, true, true, true, true, false, false, false, false] rfl rfl (by kernel_rfl) (fun _ _ _ h => h) (by rfl) ?_ (by assumption) ?_
          rotate_left; (intro w hSw; (try dsimp only at hSw); go_simp); (try with_reducible rfl); (simp only [Act.put, List.setIfInBounds_toArray, List.set_cons_zero, List.set_cons_succ])
          refine held_on (i := 16) (N := (some 45)) (v := ?_) #[true, true, true, true, true, true, true, true, true, true, true, true, true, true, true, true, true, false, false, false] rfl rfl (by kernel_rfl) (fun _ _ _ h => h) (by rfl) ?_ (by assumption) ?_
          rotate_left; (intro w hSw; (try dsimp only at hSw); go_simp); (try with_reducible rfl); (simp only [Act.put, List.setIfInBounds_toArray, List.set_cons_zero, List.set_cons_succ])
          refine held_run (i := 17) #[true, true, true, true, true, true, true, true, true, true, true, true, true, true, true, true, true, true, false, false] rfl (by kernel_rfl) (by rfl) (fun K hK => ?_)
          go_simp
          refine (rcount_calls _ _ HV.out).mono ?_; rintro x w5 ⟨rfl, hb⟩
          refine hK.out _ _ (keepS5 (Keep.call (Hid.out hHeld.1) hb)) (fun hHeld => ?_); clear hK K; (try simp only [Act.put, List.setIfInBounds_toArray, List.set_cons_zero, List.set_cons_succ])
          refine held_on (i := 18) (N := (some 47)) (v := ?_) #[true, true, true, true, true, true, true, true, true, true, true, true, true, true, true, true, true, true, true, false] rfl rfl (by kernel_rfl) (fun _ _ _ h => h) (by rfl) ?_ (by assumption) ?_
          rotate_left; (intro w hSw; (try dsimp only at hSw); go_simp); (try with_reducible rfl); (simp only [Act.put, List.setIfInBounds_toArray, List.set_cons_zero, List.set_cons_succ])
          refine held_on (i := 19) (N := (some 48)) (v := ?_) #[true, true, true, true, true, true, true, true, true, true, true, true, true, true, true, true, true, true, true, true] rfl rfl (by kernel_rfl) (fun _ _ _ h => h) (by rfl) ?_ (by assumption) ?_
          rotate_left; (intro w hSw; (try dsimp only at hSw); go_simp); (try with_reducible rfl); (simp only [Act.put, List.setIfInBounds_toArray, List.set_cons_zero, List.set_cons_succ])
          refine held_done (by kernel_rfl) ?_
          clear s1 s2
          have HX := hHeld.1; clear HK hHeld; have HK := HX; clear HX; obtain ⟨_, d0, d1, d2, d3, d4⟩ := keepS5 (Hid.out HK)
          show Exit.then _ _ _ _ _
          go_wp2_with fail
          all_goals
            go_ret
            refine ⟨ret_bool ?_, (Hid.out HK).2⟩
            rw [HR.out, Bool.eq_iff_iff]
            simp only [Bool.and_eq_true, decide_eq_true_eq, beq_iff_eq, bne_iff_ne, beq_eq_false_iff_ne, bne_eq_false_iff_eq, ne_eq] at *
            first | (simp [*]; done) | (simp [*]; intros; omega)
        · have hq : (cnt (msk (union (votesR ⟨v, wi, l, e, c⟩) l)) != cnt v + cnt wi + cnt l) = true := by simpa using hne
          clear hne
          have s1 : IntKind.i64.wrap (cnt v + cnt wi) = cnt v + cnt wi := IntWalk.i64_in _ (by omega)
          have s2 : IntKind.i64.wrap (cnt v + cnt wi + cnt l) = cnt v + cnt wi + cnt l := IntWalk.i64_in _ (by omega)
          refine held_start (n := 20) (S := fun w' => Hid (Keep w w.heap.size 33 #[.int .u16 v, .int .u16 wi, .int .u16 l, .int .i64 e, .int .i64 c] w') ∧ w'.cell? ⟨w.heap.size, 0, none⟩ = some (.int .u16 v) ∧ w'.cell? ⟨w.heap.size, 1, none⟩ = some (.int .u16 wi) ∧ w'.cell? ⟨w.heap.size, 2, none⟩ = some (.int .u16 l) ∧ w'.cell? ⟨w.heap.size, 3, none⟩ = some (.int .i64 e) ∧ w'.cell? ⟨w.heap.size, 4, none⟩ = some (.int .i64 c)) #[false, false, false, false, false, false, false, false, false, false, false, false, false, false, false, false, false, false, false, false] (by kernel_rfl) rfl rfl (keepS5 (Keep.drew (Hid.out HK))) (fun hHeld => ?_)
          refine held_on (i := 0) (N := (some 29)) (v := ?_) #[true, false, false, false, false, false, false, false, false, false, false, false, false, false, false, false, false, false, false, false] rfl rfl (by kernel_rfl) (fun _ _ _ h => h) (by rfl) ?_ (by assumption) ?_
          rotate_left; (intro w hSw; (try dsimp only at hSw); go_simp); (try with_reducible rfl); (simp only [Act.put, List.setIfInBounds_toArray, List.set_cons_zero, List.set_cons_succ])
          refine held_on (i := 2) (N := (some 31)) (v := ?_) #[true, false, true, false, false, false, false, false, false, false, false, false, false, false, false, false, false, false, false, false] rfl rfl (by kernel_rfl) (fun _ _ _ h => h) (by rfl) ?_ (by assumption) ?_
          rotate_left; (intro w hSw; (try dsimp only at hSw); go_simp); (try with_reducible rfl); (simp only [Act.put, List.setIfInBounds_toArray, List.set_cons_zero, List.set_cons_succ])
          refine held_on (i := 3) (N := (some 32)) (v := ?_) #[true, false, true, true, false, false, false, false, false, false, false, false, false, false, false, false, false, false, false, false] rfl rfl (by kernel_rfl) (fun _ _ _ h => h) (by rfl) ?_ (by assumption) ?_
          rotate_left; (intro w hSw; (try dsimp only at hSw); go_simp); (try with_reducible rfl); (simp only [Act.put, List.setIfInBounds_toArray, List.set_cons_zero, List.set_cons_succ])
          refine held_on (i := 5) (N := (some 34)) (v := ?_) #[true, false, true, true, false, true, false, false, false, false, false, false, false, false, false, false, false, false, false, false] rfl rfl (by kernel_rfl) (fun _ _ _ h => h) (by rfl) ?_ (by assumption) ?_
          rotate_left; (intro w hSw; (try dsimp only at hSw); go_simp); (try with_reducible rfl); (simp only [Act.put, List.setIfInBounds_toArray, List.set_cons_zero, List.set_cons_succ])
          refine held_on (i := 6) (N := (some 35)) (v := ?_) #[true, false, true, true, false, true, true, false, false, false, false, false, false, false, false, false, false, false, false, false] rfl rfl (by kernel_rfl) (fun _ _ _ h => h) (by rfl) ?_ (by assumption) ?_
          rotate_left; (intro w hSw; (try dsimp only at hSw); go_simp); (try with_reducible rfl); (simp only [Act.put, List.setIfInBounds_toArray, List.set_cons_zero, List.set_cons_succ])
          refine held_on (i := 9) (N := (some 38)) (v := ?_) #[true, false, true, true, false, true, true, false, false, true, false, false, false, false, false, false, false, false, false, false] rfl rfl (by kernel_rfl) (fun _ _ _ h => h) (by rfl) ?_ (by assumption) ?_
          rotate_left; (intro w hSw; (try dsimp only at hSw); go_simp); (try with_reducible rfl); (simp only [Act.put, List.setIfInBounds_toArray, List.set_cons_zero, List.set_cons_succ])
          refine held_on (i := 10) (N := (some 39)) (v := ?_) #[true, false, true, true, false, true, true, false, false, true, true, false, false, false, false, false, false, false, false, false] rfl rfl (by kernel_rfl) (fun _ _ _ h => h) (by rfl) ?_ (by assumption) ?_
          rotate_left; (intro w hSw; (try dsimp only at hSw); go_simp); (try with_reducible rfl); (simp only [Act.put, List.setIfInBounds_toArray, List.set_cons_zero, List.set_cons_succ])
          refine held_run (i := 1) #[true, true, true, true, false, true, true, false, false, true, true, false, false, false, false, false, false, false, false, false] rfl (by kernel_rfl) (by rfl) (fun K hK => ?_)
          go_simp
          refine (rcount_calls _ _ HA.out).mono ?_; rintro x w5 ⟨rfl, hb⟩
          refine hK.out _ _ (keepS5 (Keep.call (Hid.out hHeld.1) hb)) (fun hHeld => ?_); clear hK K; (try simp only [Act.put, List.setIfInBounds_toArray, List.set_cons_zero, List.set_cons_succ])
          refine held_run (i := 4) #[true, true, true, true, true, true, true, false, false, true, true, false, false, false, false, false, false, false, false, false] rfl (by kernel_rfl) (by rfl) (fun K hK => ?_)
          go_simp
          refine (rcount_calls _ _ HV.out).mono ?_; rintro x w5 ⟨rfl, hb⟩
          refine hK.out _ _ (keepS5 (Keep.call (Hid.out hHeld.1) hb)) (fun hHeld => ?_); clear hK K; (try simp only [Act.put, List.setIfInBounds_toArray, List.set_cons_zero, List.set_cons_succ])
          refine held_run (i := 7) #[true, true, true, true, true, true, true, true, false, true, true, false, false, false, false, false, false, false, false, false] rfl (by kernel_rfl) (by rfl) (fun K hK => ?_)
          go_simp
          refine (rcount_calls _ _ HW.out).mono ?_; rintro x w5 ⟨rfl, hb⟩
          refine hK.out _ _ (keepS5 (Keep.call (Hid.out hHeld.1) hb)) (fun hHeld => ?_); clear hK K; (try simp only [Act.put, List.setIfInBounds_toArray, List.set_cons_zero, List.set_cons_succ])
          refine held_on (i := 8) (N := (some 37)) (v := ?_) #[true, true, true, true, true, true, true, true, true, true, true, false, false, false, false, false, false, false, false, false] rfl rfl (by kernel_rfl) (fun _ _ _ h => h) (by rfl) ?_ (by assumption) ?_
          rotate_left; (intro w hSw; (try dsimp only at hSw); go_simp); (try with_reducible rfl); (simp only [Act.put, List.setIfInBounds_toArray, List.set_cons_zero, List.set_cons_succ])
          refine held_run (i := 11) #[true, true, true, true, true, true, true, true, true, true, true, true, false, false, false, false, false, false, false, false] rfl (by kernel_rfl) (by rfl) (fun K hK => ?_)
          go_simp
          refine (rcount_calls _ _ HL.out).mono ?_; rintro x w5 ⟨rfl, hb⟩
          refine hK.out _ _ (keepS5 (Keep.call (Hid.out hHeld.1) hb)) (fun hHeld => ?_); clear hK K; (try simp only [Act.put, List.setIfInBounds_toArray, List.set_cons_zero, List.set_cons_succ])
          refine held_on (i := 12) (N := (some 41)) (v := ?_) #[true, true, true, true, true, true, true, true, true, true, true, true, true, false, false, false, false, false, false, false] rfl rfl (by kernel_rfl) (fun _ _ _ h => h) (by rfl) ?_ (by assumption) ?_
          rotate_left; (intro w hSw; (try dsimp only at hSw); go_simp); (try with_reducible rfl); (simp only [Act.put, List.setIfInBounds_toArray, List.set_cons_zero, List.set_cons_succ])
          refine held_on (i := 13) (N := (some 42)) (v := ?_) #[true, true, true, true, true, true, true, true, true, true, true, true, true, true, false, false, false, false, false, false] rfl rfl (by kernel_rfl) (fun _ _ _ h => h) (by rfl) ?_ (by assumption) ?_
          rotate_left; (intro w hSw; (try dsimp only at hSw); go_simp); (try with_reducible rfl); (simp only [Act.put, List.setIfInBounds_toArray, List.set_cons_zero, List.set_cons_succ])
          refine held_on (i := 14) (N := (some 43)) (v := ?_) #[true, true, true, true, true, true, true, true, true, true, true, true, true, true, true, false, false, false, false, false] rfl rfl (by kernel_rfl) (fun _ _ _ h => h) (by rfl) ?_ (by assumption) ?_
          rotate_left; (intro w hSw; (try dsimp only at hSw); go_simp); (try with_reducible rfl); (simp only [Act.put, List.setIfInBounds_toArray, List.set_cons_zero, List.set_cons_succ])
          refine held_off (i := 15) (N := (some 44)) #[true, true, true, true, true, true, true, true, true, true, true, true, true, true, true, true, false, false, false, false] rfl rfl (by kernel_rfl) (fun _ _ _ h => h) (by rfl) (by assumption) ?_; (simp only [Act.put, List.setIfInBounds_toArray, List.set_cons_zero, List.set_cons_succ])
          refine held_off (i := 16) (N := (some 45)) #[true, true, true, true, true, true, true, true, true, true, true, true, true, true, true, true, true, false, false, false] rfl rfl (by kernel_rfl) (fun _ _ _ h => h) (by rfl) (by assumption) ?_; (simp only [Act.put, List.setIfInBounds_toArray, List.set_cons_zero, List.set_cons_succ])
          refine held_off (i := 17) (N := (some 46)) #[true, true, true, true, true, true, true, true, true, true, true, true, true, true, true, true, true, true, false, false] rfl rfl (by kernel_rfl) (fun _ _ _ h => h) (by rfl) (by assumption) ?_; (simp only [Act.put, List.setIfInBounds_toArray, List.set_cons_zero, List.set_cons_succ])
          refine held_off (i := 18) (N := (some 47)) #[true, true, true, true, true, true, true, true, true, true, true, true, true, true, true, true, true, true, true, false] rfl rfl (by kernel_rfl) (fun _ _ _ h => h) (by rfl) (by assumption) ?_; (simp only [Act.put, List.setIfInBounds_toArray, List.set_cons_zero, List.set_cons_succ])
          refine held_on (i := 19) (N := (some 48)) (v := ?_) #[true, true, true, true, true, true, true, true, true, true, true, true, true, true, true, true, true, true, true, true] rfl rfl (by kernel_rfl) (fun _ _ _ h => h) (by rfl) ?_ (by assumption) ?_
          rotate_left; (intro w hSw; (try dsimp only at hSw); go_simp); (try with_reducible rfl); (simp only [Act.put, List.setIfInBounds_toArray, List.set_cons_zero, List.set_cons_succ])
          refine held_done (by kernel_rfl) ?_
          clear s1 s2
          have HX := hHeld.1; clear HK hHeld; have HK := HX; clear HX; obtain ⟨_, d0, d1, d2, d3, d4⟩ := keepS5 (Hid.out HK)
          show Exit.then _ _ _ _ _
          go_wp2_with fail
          all_goals
            go_ret
            refine ⟨ret_bool ?_, (Hid.out HK).2⟩
            rw [HR.out, Bool.eq_iff_iff]
            simp only [Bool.and_eq_true, decide_eq_true_eq, beq_iff_eq, bne_iff_ne, ne_eq] at *
            first | (simp [*]; done) | (simp [*]; intros; omega)

theorem rmay10_calls (v wi l e c : Int) (w : World) (hv : U v) (hw : U wi) (hl : U l) :
    Calls Try.prog 38 #[.agg (cells v wi l e c)] w fun x w' => x = .returned (.bool (mayC ⟨v, wi, l, e, c⟩)) ∧ Below w.heap.size w w' := by
  rw [← mayR_eq ⟨v, wi, l, e, c⟩ hv hw hl]
  exact rmay10_raw v wi l e c w hv hw hl
end Go.Proofs.Ytcciejglemfebaa
