/- Package conf's Meet, by a contract. -/
import Derived.Test.YtcciejglemfebaaC1
import Derived.Test.YtcciejglemfebaaM3
import Derived.Test.YtcciejglemfebaaP9
namespace Go.Proofs.Ytcciejglemfebaa
open Go.RowKit

theorem votes_b (v wi l e c : Int) (w : World) :
    Calls Try.prog 64 #[.agg (cells v wi l e c)] w fun x w' => x = .returned (.int .u16 (union v wi)) ∧ Below w.heap.size w w' :=
  (votes_calls v wi l e c w).mono fun _ _ h => ⟨h.1, by rw [← h.2]; exact (Below.refl _ _).alloc (Nat.le_refl _) _⟩

set_option maxHeartbeats 6400000 in
theorem cmeet_calls (av aw al ae ac bv bw bl be bc : Int) (w : World) (h1 : 0 ≤ ae) (h2 : ae ≤ 9) (h3 : 0 ≤ bc) (h4 : bc ≤ 9) :
    Calls Try.prog 39 #[.agg (cells av aw al ae ac), .agg (cells bv bw bl be bc)] w fun x w' => x = .returned (.bool (meetC ⟨av, aw, al, ae, ac⟩ ⟨bv, bw, bl, be, bc⟩)) ∧ Below w.heap.size w w' := by
  have HKa : Hid (Keep w w.heap.size 33 (cells av aw al ae ac) ((w.alloc (.cells (cells av aw al ae ac) 33)).alloc (.cells (cells bv bw bl be bc) 33))) := Lib.hid ((Keep.new _ _ _).alloc _)
  have HKb : Hid (Keep w (w.heap.size + 1) 33 (cells bv bw bl be bc) ((w.alloc (.cells (cells av aw al ae ac) 33)).alloc (.cells (cells bv bw bl be bc) 33))) := Lib.hid (Keep.mk_new ((Below.refl _ _).alloc (Nat.le_refl _) _) (by simp))
  have n1 : 0 ≤ cnt (bits .andNot .u16 (union av aw) (union bv bw)) := cnt_nonneg _
  have n2 : cnt (bits .andNot .u16 (union av aw) (union bv bw)) ≤ 9 := cnt_le _
  have n3 := cnt_nonneg (union bv bw)
  have n4 := cnt_le (union bv bw)
  have HM : Hid (meetC ⟨av, aw, al, ae, ac⟩ ⟨bv, bw, bl, be, bc⟩ = decide (cnt (union bv bw) - bc < max (ae - cnt (bits .andNot .u16 (union av aw) (union bv bw))) 0)) := Lib.hid rfl
  generalize meetC _ _ = M at *
  go_enter Try.func39, Try.ntmps39
  go_wp2_with fail
  refine held_start (n := 7) (S := fun w' => (Hid (Keep w w.heap.size 33 #[.int .u16 av, .int .u16 aw, .int .u16 al, .int .i64 ae, .int .i64 ac] w') ∧ w'.cell? ⟨w.heap.size, 0, none⟩ = some (.int .u16 av) ∧ w'.cell? ⟨w.heap.size, 1, none⟩ = some (.int .u16 aw) ∧ w'.cell? ⟨w.heap.size, 2, none⟩ = some (.int .u16 al) ∧ w'.cell? ⟨w.heap.size, 3, none⟩ = some (.int .i64 ae) ∧ w'.cell? ⟨w.heap.size, 4, none⟩ = some (.int .i64 ac)) ∧ (Hid (Keep w (w.heap.size + 1) 33 #[.int .u16 bv, .int .u16 bw, .int .u16 bl, .int .i64 be, .int .i64 bc] w') ∧ w'.cell? ⟨(w.heap.size + 1), 0, none⟩ = some (.int .u16 bv) ∧ w'.cell? ⟨(w.heap.size + 1), 1, none⟩ = some (.int .u16 bw) ∧ w'.cell? ⟨(w.heap.size + 1), 2, none⟩ = some (.int .u16 bl) ∧ w'.cell? ⟨(w.heap.size + 1), 3, none⟩ = some (.int .i64 be) ∧ w'.cell? ⟨(w.heap.size + 1), 4, none⟩ = some (.int .i64 bc))) #[false, false, false, false, false, false, false] (by kernel_rfl) rfl rfl ⟨keepS5 (Keep.drew (Hid.out HKa)), keepS5 (Keep.drew (Hid.out HKb))⟩ (fun hHeld => ?_)
  refine held_on (i := 0) (N := (some 7)) (v := ?_) #[true, false, false, false, false, false, false] rfl rfl (by kernel_rfl) (fun _ _ _ h => h) (by rfl) ?_ (by assumption) ?_
  rotate_left; (intro w hSw; (try dsimp only at hSw); go_simp); (try with_reducible rfl); (simp only [Act.put, List.setIfInBounds_toArray, List.set_cons_zero, List.set_cons_succ])
  refine held_on (i := 2) (N := (some 9)) (v := ?_) #[true, false, true, false, false, false, false] rfl rfl (by kernel_rfl) (fun _ _ _ h => h) (by rfl) ?_ (by assumption) ?_
  rotate_left; (intro w hSw; (try dsimp only at hSw); go_simp); (try with_reducible rfl); (simp only [Act.put, List.setIfInBounds_toArray, List.set_cons_zero, List.set_cons_succ])
  refine held_run (i := 1) #[true, true, true, false, false, false, false] rfl (by kernel_rfl) (by rfl) (fun K hK => ?_)
  go_simp
  refine (votes_b _ _ _ _ _ _).mono ?_; rintro x w9 ⟨rfl, hb⟩
  refine hK.out _ _ ⟨keepS5 (Keep.call (Hid.out hHeld.1.1) hb), keepS5 (Keep.call (Hid.out hHeld.2.1) hb)⟩ (fun hHeld => ?_); clear hK K; (try simp only [Act.put, List.setIfInBounds_toArray, List.set_cons_zero, List.set_cons_succ])
  refine held_run (i := 3) #[true, true, true, true, false, false, false] rfl (by kernel_rfl) (by rfl) (fun K hK => ?_)
  go_simp
  refine (votes_b _ _ _ _ _ _).mono ?_; rintro x w9 ⟨rfl, hb⟩
  refine hK.out _ _ ⟨keepS5 (Keep.call (Hid.out hHeld.1.1) hb), keepS5 (Keep.call (Hid.out hHeld.2.1) hb)⟩ (fun hHeld => ?_); clear hK K; (try simp only [Act.put, List.setIfInBounds_toArray, List.set_cons_zero, List.set_cons_succ])
  refine held_on (i := 4) (N := (some 11)) (v := ?_) #[true, true, true, true, true, false, false] rfl rfl (by kernel_rfl) (fun _ _ _ h => h) (by rfl) ?_ (by assumption) ?_
  rotate_left; (intro w hSw; (try dsimp only at hSw); go_simp); (try with_reducible rfl); (simp only [Act.put, List.setIfInBounds_toArray, List.set_cons_zero, List.set_cons_succ])
  refine held_run (i := 5) #[true, true, true, true, true, true, false] rfl (by kernel_rfl) (by rfl) (fun K hK => ?_)
  go_simp
  refine (count_calls _ _).mono ?_; rintro x w9 ⟨rfl, m, rfl⟩
  refine hK.out _ _ ⟨keepS5 (Keep.drewN (Hid.out hHeld.1.1) m), keepS5 (Keep.drewN (Hid.out hHeld.2.1) m)⟩ (fun hHeld => ?_); clear hK K; (try simp only [Act.put, List.setIfInBounds_toArray, List.set_cons_zero, List.set_cons_succ])
  refine held_on (i := 6) (N := (some 5)) (v := ?_) #[true, true, true, true, true, true, true] rfl rfl (by kernel_rfl) (fun _ _ _ h => h) (by rfl) ?_ (by assumption) ?_
  rotate_left; (intro w hSw; (try dsimp only at hSw); go_simp); (try with_reducible rfl); (simp only [Act.put, List.setIfInBounds_toArray, List.set_cons_zero, List.set_cons_succ])
  refine held_done (by kernel_rfl) ?_
  have X0 := hHeld.1.1
  have X1 := hHeld.2.1
  clear hHeld HKa HKb
  have HKa := X0; clear X0
  obtain ⟨_, d00, d01, d02, d03, d04⟩ := keepS5 (Hid.out HKa)
  have HKb := X1; clear X1
  obtain ⟨_, d10, d11, d12, d13, d14⟩ := keepS5 (Hid.out HKb)
  show Exit.then _ _ _ _ _
  go_wp2_with fail
  all_goals
    have s1 : IntKind.i64.wrap (cnt (union bv bw) - bc) = cnt (union bv bw) - bc := IntWalk.i64_in _ (by omega)
    refine held_start (n := 9) (S := fun w' => (Hid (Keep w w.heap.size 33 #[.int .u16 av, .int .u16 aw, .int .u16 al, .int .i64 ae, .int .i64 ac] w') ∧ w'.cell? ⟨w.heap.size, 0, none⟩ = some (.int .u16 av) ∧ w'.cell? ⟨w.heap.size, 1, none⟩ = some (.int .u16 aw) ∧ w'.cell? ⟨w.heap.size, 2, none⟩ = some (.int .u16 al) ∧ w'.cell? ⟨w.heap.size, 3, none⟩ = some (.int .i64 ae) ∧ w'.cell? ⟨w.heap.size, 4, none⟩ = some (.int .i64 ac)) ∧ (Hid (Keep w (w.heap.size + 1) 33 #[.int .u16 bv, .int .u16 bw, .int .u16 bl, .int .i64 be, .int .i64 bc] w') ∧ w'.cell? ⟨(w.heap.size + 1), 0, none⟩ = some (.int .u16 bv) ∧ w'.cell? ⟨(w.heap.size + 1), 1, none⟩ = some (.int .u16 bw) ∧ w'.cell? ⟨(w.heap.size + 1), 2, none⟩ = some (.int .u16 bl) ∧ w'.cell? ⟨(w.heap.size + 1), 3, none⟩ = some (.int .i64 be) ∧ w'.cell? ⟨(w.heap.size + 1), 4, none⟩ = some (.int .i64 bc))) #[false, false, false, false, false, false, false, false, false] (by kernel_rfl) rfl rfl ⟨keepS5 (Keep.drew (Hid.out HKa)), keepS5 (Keep.drew (Hid.out HKb))⟩ (fun hHeld => ?_)
    refine held_on (i := 0) (N := (some 18)) (v := ?_) #[true, false, false, false, false, false, false, false, false] rfl rfl (by kernel_rfl) (fun _ _ _ h => h) (by rfl) ?_ (by assumption) ?_
    rotate_left; (intro w hSw; (try dsimp only at hSw); go_simp); (try with_reducible rfl); (simp only [Act.put, List.setIfInBounds_toArray, List.set_cons_zero, List.set_cons_succ])
    refine held_on (i := 1) (N := (some 19)) (v := ?_) #[true, true, false, false, false, false, false, false, false] rfl rfl (by kernel_rfl) (fun _ _ _ h => h) (by rfl) ?_ (by assumption) ?_
    rotate_left; (intro w hSw; (try dsimp only at hSw); go_simp); (try with_reducible rfl); (simp only [Act.put, List.setIfInBounds_toArray, List.set_cons_zero, List.set_cons_succ])
    refine held_on (i := 4) (N := (some 22)) (v := ?_) #[true, true, false, false, true, false, false, false, false] rfl rfl (by kernel_rfl) (fun _ _ _ h => h) (by rfl) ?_ (by assumption) ?_
    rotate_left; (intro w hSw; (try dsimp only at hSw); go_simp); (try with_reducible rfl); (simp only [Act.put, List.setIfInBounds_toArray, List.set_cons_zero, List.set_cons_succ])
    refine held_on (i := 5) (N := (some 23)) (v := ?_) #[true, true, false, false, true, true, false, false, false] rfl rfl (by kernel_rfl) (fun _ _ _ h => h) (by rfl) ?_ (by assumption) ?_
    rotate_left; (intro w hSw; (try dsimp only at hSw); go_simp); (try with_reducible rfl); (simp only [Act.put, List.setIfInBounds_toArray, List.set_cons_zero, List.set_cons_succ])
    refine held_run (i := 2) #[true, true, true, false, true, true, false, false, false] rfl (by kernel_rfl) (by rfl) (fun K hK => ?_)
    go_simp
    refine (votes_b _ _ _ _ _ _).mono ?_; rintro x w9 ⟨rfl, hb⟩
    refine hK.out _ _ ⟨keepS5 (Keep.call (Hid.out hHeld.1.1) hb), keepS5 (Keep.call (Hid.out hHeld.2.1) hb)⟩ (fun hHeld => ?_); clear hK K; (try simp only [Act.put, List.setIfInBounds_toArray, List.set_cons_zero, List.set_cons_succ])
    refine held_run (i := 3) #[true, true, true, true, true, true, false, false, false] rfl (by kernel_rfl) (by rfl) (fun K hK => ?_)
    go_simp
    refine (count_calls _ _).mono ?_; rintro x w9 ⟨rfl, m, rfl⟩
    refine hK.out _ _ ⟨keepS5 (Keep.drewN (Hid.out hHeld.1.1) m), keepS5 (Keep.drewN (Hid.out hHeld.2.1) m)⟩ (fun hHeld => ?_); clear hK K; (try simp only [Act.put, List.setIfInBounds_toArray, List.set_cons_zero, List.set_cons_succ])
    refine held_on (i := 6) (N := (some 24)) (v := ?_) #[true, true, true, true, true, true, true, false, false] rfl rfl (by kernel_rfl) (fun _ _ _ h => h) (by rfl) ?_ (by assumption) ?_
    rotate_left; (intro w hSw; (try dsimp only at hSw); go_simp); (try with_reducible rfl); (simp only [Act.put, List.setIfInBounds_toArray, List.set_cons_zero, List.set_cons_succ])
    refine held_on (i := 7) (N := (some 25)) (v := ?_) #[true, true, true, true, true, true, true, true, false] rfl rfl (by kernel_rfl) (fun _ _ _ h => h) (by rfl) ?_ (by assumption) ?_
    rotate_left; (intro w hSw; (try dsimp only at hSw); go_simp); (try with_reducible rfl); (simp only [Act.put, List.setIfInBounds_toArray, List.set_cons_zero, List.set_cons_succ])
    refine held_on (i := 8) (N := (some 4)) (v := ?_) #[true, true, true, true, true, true, true, true, true] rfl rfl (by kernel_rfl) (fun _ _ _ h => h) (by rfl) ?_ (by assumption) ?_
    rotate_left; (intro w hSw; (try dsimp only at hSw); go_simp); (try with_reducible rfl); (simp only [Act.put, List.setIfInBounds_toArray, List.set_cons_zero, List.set_cons_succ])
    refine held_done (by kernel_rfl) ?_
    have HX := Lib.hid (Hid.out hHeld.1.1).2
    clear hHeld s1 HKa HKb
    show Exit.then _ _ _ _ _
    go_wp2_with fail
    go_ret
    refine ⟨ret_bool ?_, HX.out⟩
    rw [HM.out, Bool.eq_iff_iff]
    simp only [decide_eq_true_eq]
    omega
end Go.Proofs.Ytcciejglemfebaa
