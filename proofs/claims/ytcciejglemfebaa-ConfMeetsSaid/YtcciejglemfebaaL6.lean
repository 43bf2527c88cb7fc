/- antipodelaw10.ConfMeets answers true; memory that was there is as it was. -/
import Derived.Test.YtcciejglemfebaaC4
import Derived.Test.YtcciejglemfebaaC5
import Derived.Test.YtcciejglemfebaaR4
import Derived.Test.YtcciejglemfebaaR5
namespace Go.Proofs.Ytcciejglemfebaa
open Go.RowKit

theorem may_bounds {v w l e c : Int} (h : mayC ⟨v, w, l, e, c⟩ = true) : 1 ≤ e ∧ e ≤ cnt (union v w) ∧ 1 ≤ c ∧ c ≤ cnt (union v w) ∧ e ≤ 9 ∧ c ≤ 9 := by
  obtain ⟨_, _, _, _, _, _, _, a, b, c, d, _, _⟩ := (mayC_iff _ _ _ _ _).1 h
  have := cnt_le (union v w)
  exact ⟨a, b, c, d, by omega, by omega⟩

set_option maxHeartbeats 6400000 in
theorem meets_calls (av aw al ae ac bv bw bl be bc : Int) (w : World) (h1 : U av) (h2 : U aw) (h3 : U al) (h4 : U bv) (h5 : U bw) (h6 : U bl) :
    Calls Try.prog 8 #[.agg (cells av aw al ae ac), .agg (cells bv bw bl be bc)] w fun x w' => x = .returned (.bool true) ∧ Below w.heap.size w w' := by
  have hm1 := fun w => rmay10_calls av aw al ae ac w h1 h2 h3
  have hm2 := fun w => rmay10_calls bv bw bl be bc w h4 h5 h6
  have hr := fun w => rmeet10_calls av aw al ae ac bv bw bl be bc w h1 h2 h4 h5
  clear h1 h2 h3 h4 h5 h6
  have HKa : Hid (Keep w w.heap.size 33 (cells av aw al ae ac) ((w.alloc (.cells (cells av aw al ae ac) 33)).alloc (.cells (cells bv bw bl be bc) 33))) := Lib.hid ((Keep.new _ _ _).alloc _)
  have HKb : Hid (Keep w (w.heap.size + 1) 33 (cells bv bw bl be bc) ((w.alloc (.cells (cells av aw al ae ac) 33)).alloc (.cells (cells bv bw bl be bc) 33))) := Lib.hid (Keep.mk_new ((Below.refl _ _).alloc (Nat.le_refl _) _) (by simp))
  cases ha : mayC ⟨av, aw, al, ae, ac⟩ with
  | false =>
    rw [ha] at hm1
    have HM1 := Lib.hid hm1
    clear hm1 hm2 hr ha
    go_enter Try.func8, Try.ntmps8
    go_wp2_with fail
    refine (begun10 _).mono ?_; rintro x w2 ⟨rfl, hb⟩
    have X0 := Lib.hid (Keep.call (Hid.out HKa) hb)
    have X1 := Lib.hid (Keep.call (Hid.out HKb) hb)
    clear hb HKa HKb
    have HKa := X0; clear X0
    obtain ⟨_, d00, d01, d02, d03, d04⟩ := keepS5 (Hid.out HKa)
    have HKb := X1; clear X1
    obtain ⟨_, d10, d11, d12, d13, d14⟩ := keepS5 (Hid.out HKb)
    go_wp2_with fail
    refine (HM1.out _).mono ?_; rintro x w2 ⟨rfl, hb⟩
    have X0 := Lib.hid (Keep.call (Hid.out HKa) hb)
    have X1 := Lib.hid (Keep.call (Hid.out HKb) hb)
    clear hb HKa HKb
    have HKa := X0; clear X0
    obtain ⟨_, d00, d01, d02, d03, d04⟩ := keepS5 (Hid.out HKa)
    have HKb := X1; clear X1
    obtain ⟨_, d10, d11, d12, d13, d14⟩ := keepS5 (Hid.out HKb)
    go_wp2_with fail
    go_ret
    exact ⟨rfl, (Hid.out HKa).2⟩
  | true =>
    rw [ha] at hm1
    have HM1 := Lib.hid hm1
    cases hb : mayC ⟨bv, bw, bl, be, bc⟩ with
    | false =>
      rw [hb] at hm2
      have HM2 := Lib.hid hm2
      clear hm1 hm2 hr ha hb
      go_enter Try.func8, Try.ntmps8
      go_wp2_with fail
      refine (begun10 _).mono ?_; rintro x w2 ⟨rfl, hb⟩
      have X0 := Lib.hid (Keep.call (Hid.out HKa) hb)
      have X1 := Lib.hid (Keep.call (Hid.out HKb) hb)
      clear hb HKa HKb
      have HKa := X0; clear X0
      obtain ⟨_, d00, d01, d02, d03, d04⟩ := keepS5 (Hid.out HKa)
      have HKb := X1; clear X1
      obtain ⟨_, d10, d11, d12, d13, d14⟩ := keepS5 (Hid.out HKb)
      go_wp2_with fail
      refine (HM1.out _).mono ?_; rintro x w2 ⟨rfl, hb⟩
      have X0 := Lib.hid (Keep.call (Hid.out HKa) hb)
      have X1 := Lib.hid (Keep.call (Hid.out HKb) hb)
      clear hb HKa HKb
      have HKa := X0; clear X0
      obtain ⟨_, d00, d01, d02, d03, d04⟩ := keepS5 (Hid.out HKa)
      have HKb := X1; clear X1
      obtain ⟨_, d10, d11, d12, d13, d14⟩ := keepS5 (Hid.out HKb)
      go_wp2_with fail
      refine (HM2.out _).mono ?_; rintro x w2 ⟨rfl, hb⟩
      have X0 := Lib.hid (Keep.call (Hid.out HKa) hb)
      have X1 := Lib.hid (Keep.call (Hid.out HKb) hb)
      clear hb HKa HKb
      have HKa := X0; clear X0
      obtain ⟨_, d00, d01, d02, d03, d04⟩ := keepS5 (Hid.out HKa)
      have HKb := X1; clear X1
      obtain ⟨_, d10, d11, d12, d13, d14⟩ := keepS5 (Hid.out HKb)
      go_wp2_with fail
      go_ret
      exact ⟨rfl, (Hid.out HKa).2⟩
    | true =>
      rw [hb] at hm2
      have HM2 := Lib.hid hm2
      obtain ⟨a1, a2, a3, a4, a5, a6⟩ := may_bounds ha
      obtain ⟨b1, b2, b3, b4, b5, b6⟩ := may_bounds hb
      have hc := fun w => cmeet_calls av aw al ae ac bv bw bl be bc w (by omega) a5 (by omega) b6
      rw [meetR_eq ⟨av, aw, al, ae, ac⟩ ⟨bv, bw, bl, be, bc⟩ a1 a2 b3 b4] at hr
      generalize meetC _ _ = M at hc hr
      have HC := Lib.hid hc
      have HR := Lib.hid hr
      clear hm1 hm2 hr hc ha hb a1 a2 a3 a4 a5 a6 b1 b2 b3 b4 b5 b6
      go_enter Try.func8, Try.ntmps8
      go_wp2_with fail
      refine (begun10 _).mono ?_; rintro x w2 ⟨rfl, hb⟩
      have X0 := Lib.hid (Keep.call (Hid.out HKa) hb)
      have X1 := Lib.hid (Keep.call (Hid.out HKb) hb)
      clear hb HKa HKb
      have HKa := X0; clear X0
      obtain ⟨_, d00, d01, d02, d03, d04⟩ := keepS5 (Hid.out HKa)
      have HKb := X1; clear X1
      obtain ⟨_, d10, d11, d12, d13, d14⟩ := keepS5 (Hid.out HKb)
      go_wp2_with fail
      refine (HM1.out _).mono ?_; rintro x w2 ⟨rfl, hb⟩
      have X0 := Lib.hid (Keep.call (Hid.out HKa) hb)
      have X1 := Lib.hid (Keep.call (Hid.out HKb) hb)
      clear hb HKa HKb
      have HKa := X0; clear X0
      obtain ⟨_, d00, d01, d02, d03, d04⟩ := keepS5 (Hid.out HKa)
      have HKb := X1; clear X1
      obtain ⟨_, d10, d11, d12, d13, d14⟩ := keepS5 (Hid.out HKb)
      go_wp2_with fail
      refine (HM2.out _).mono ?_; rintro x w2 ⟨rfl, hb⟩
      have X0 := Lib.hid (Keep.call (Hid.out HKa) hb)
      have X1 := Lib.hid (Keep.call (Hid.out HKb) hb)
      clear hb HKa HKb
      have HKa := X0; clear X0
      obtain ⟨_, d00, d01, d02, d03, d04⟩ := keepS5 (Hid.out HKa)
      have HKb := X1; clear X1
      obtain ⟨_, d10, d11, d12, d13, d14⟩ := keepS5 (Hid.out HKb)
      go_wp2_with fail
      refine held_start (n := 8) (S := fun w' => (Hid (Keep w w.heap.size 33 #[.int .u16 av, .int .u16 aw, .int .u16 al, .int .i64 ae, .int .i64 ac] w') ∧ w'.cell? ⟨w.heap.size, 0, none⟩ = some (.int .u16 av) ∧ w'.cell? ⟨w.heap.size, 1, none⟩ = some (.int .u16 aw) ∧ w'.cell? ⟨w.heap.size, 2, none⟩ = some (.int .u16 al) ∧ w'.cell? ⟨w.heap.size, 3, none⟩ = some (.int .i64 ae) ∧ w'.cell? ⟨w.heap.size, 4, none⟩ = some (.int .i64 ac)) ∧ (Hid (Keep w (w.heap.size + 1) 33 #[.int .u16 bv, .int .u16 bw, .int .u16 bl, .int .i64 be, .int .i64 bc] w') ∧ w'.cell? ⟨(w.heap.size + 1), 0, none⟩ = some (.int .u16 bv) ∧ w'.cell? ⟨(w.heap.size + 1), 1, none⟩ = some (.int .u16 bw) ∧ w'.cell? ⟨(w.heap.size + 1), 2, none⟩ = some (.int .u16 bl) ∧ w'.cell? ⟨(w.heap.size + 1), 3, none⟩ = some (.int .i64 be) ∧ w'.cell? ⟨(w.heap.size + 1), 4, none⟩ = some (.int .i64 bc))) #[false, false, false, false, false, false, false, false] (by kernel_rfl) rfl rfl ⟨keepS5 (Keep.drew (Hid.out HKa)), keepS5 (Keep.drew (Hid.out HKb))⟩ (fun hHeld => ?_)
      refine held_on (i := 0) (N := (some 15)) (v := ?_) #[true, false, false, false, false, false, false, false] rfl rfl (by kernel_rfl) (fun _ _ _ h => h) (by rfl) ?_ (by assumption) ?_
      rotate_left; (intro w hSw; (try dsimp only at hSw); go_simp); (try with_reducible rfl); (simp only [Act.put, List.setIfInBounds_toArray, List.set_cons_zero, List.set_cons_succ])
      refine held_on (i := 1) (N := (some 16)) (v := ?_) #[true, true, false, false, false, false, false, false] rfl rfl (by kernel_rfl) (fun _ _ _ h => h) (by rfl) ?_ (by assumption) ?_
      rotate_left; (intro w hSw; (try dsimp only at hSw); go_simp); (try with_reducible rfl); (simp only [Act.put, List.setIfInBounds_toArray, List.set_cons_zero, List.set_cons_succ])
      refine held_on (i := 3) (N := (some 18)) (v := ?_) #[true, true, false, true, false, false, false, false] rfl rfl (by kernel_rfl) (fun _ _ _ h => h) (by rfl) ?_ (by assumption) ?_
      rotate_left; (intro w hSw; (try dsimp only at hSw); go_simp); (try with_reducible rfl); (simp only [Act.put, List.setIfInBounds_toArray, List.set_cons_zero, List.set_cons_succ])
      refine held_on (i := 4) (N := (some 19)) (v := ?_) #[true, true, false, true, true, false, false, false] rfl rfl (by kernel_rfl) (fun _ _ _ h => h) (by rfl) ?_ (by assumption) ?_
      rotate_left; (intro w hSw; (try dsimp only at hSw); go_simp); (try with_reducible rfl); (simp only [Act.put, List.setIfInBounds_toArray, List.set_cons_zero, List.set_cons_succ])
      refine held_run (i := 2) #[true, true, true, true, true, false, false, false] rfl (by kernel_rfl) (by rfl) (fun K hK => ?_)
      go_simp
      refine (HC.out _).mono ?_; rintro x w9 ⟨rfl, hb⟩
      refine hK.out _ _ ⟨keepS5 (Keep.call (Hid.out hHeld.1.1) hb), keepS5 (Keep.call (Hid.out hHeld.2.1) hb)⟩ (fun hHeld => ?_); clear hK K; (try simp only [Act.put, List.setIfInBounds_toArray, List.set_cons_zero, List.set_cons_succ])
      refine held_run (i := 5) #[true, true, true, true, true, true, false, false] rfl (by kernel_rfl) (by rfl) (fun K hK => ?_)
      go_simp
      refine (HR.out _).mono ?_; rintro x w9 ⟨rfl, hb⟩
      refine hK.out _ _ ⟨keepS5 (Keep.call (Hid.out hHeld.1.1) hb), keepS5 (Keep.call (Hid.out hHeld.2.1) hb)⟩ (fun hHeld => ?_); clear hK K; (try simp only [Act.put, List.setIfInBounds_toArray, List.set_cons_zero, List.set_cons_succ])
      refine held_on (i := 6) (N := (some 21)) (v := ?_) #[true, true, true, true, true, true, true, false] rfl rfl (by kernel_rfl) (fun _ _ _ h => h) (by rfl) ?_ (by assumption) ?_
      rotate_left; (intro w hSw; (try dsimp only at hSw); go_simp); (try with_reducible rfl); (simp only [Act.put, List.setIfInBounds_toArray, List.set_cons_zero, List.set_cons_succ])
      refine held_on (i := 7) (N := (some 4)) (v := ?_) #[true, true, true, true, true, true, true, true] rfl rfl (by kernel_rfl) (fun _ _ _ h => h) (by rfl) ?_ (by assumption) ?_
      rotate_left; (intro w hSw; (try dsimp only at hSw); go_simp); (try with_reducible rfl); (simp only [Act.put, List.setIfInBounds_toArray, List.set_cons_zero, List.set_cons_succ])
      refine held_done (by kernel_rfl) ?_
      have HX := Lib.hid (Hid.out hHeld.1.1).2
      clear hHeld HKa HKb
      show Exit.then _ _ _ _ _
      go_wp2_with fail
      go_ret
      exact ⟨rfl, HX.out⟩
end Go.Proofs.Ytcciejglemfebaa
