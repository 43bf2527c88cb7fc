/- antipodelaw10.ConfAll answers true; memory that was there is as it was. -/
import Derived.Test.YtcciejglemfebaaC4
import Derived.Test.YtcciejglemfebaaC6
import Derived.Test.YtcciejglemfebaaR9
import Derived.Test.YtcciejglemfebaaR10
namespace Go.Proofs.Ytcciejglemfebaa
set_option linter.unusedSimpArgs false
open Go.RowKit

set_option maxHeartbeats 12800000 in
set_option maxRecDepth 20000 in
theorem all10_calls (jv jw jl je jc jnv jnw jnl jne jnc : Int) (jt : Bool) (got n : Int) (w : World) (hv : U jv) (hw : U jw) (hl : U jl) (hv' : U jnv) (hw' : U jnw) (hl' : U jnl) (hg : U got) :
    Calls Try.prog 12 #[.agg (jcells jv jw jl je jc jnv jnw jnl jne jnc jt), .int .u16 got, .int .i64 n] w fun x w' => x = .returned (.bool true) ∧ Below w.heap.size w w' := by
  have HA := Lib.hid fun w => cmay_calls jv jw jl je jc w
  have HB := Lib.hid fun w => rmay10_calls jv jw jl je jc w hv hw hl
  have hm1 := fun w => mayj_calls jv jw jl je jc jnv jnw jnl jne jnc jt w
  have hm2 := fun w => rmayj_calls jv jw jl je jc jnv jnw jnl jne jnc jt w hv hw hl hv' hw' hl'
  generalize mayC ⟨jv, jw, jl, je, jc⟩ = MA at HA HB
  have HKj : Hid (Keep w w.heap.size 38 (jcells jv jw jl je jc jnv jnw jnl jne jnc jt) (w.alloc (.cells (jcells jv jw jl je jc jnv jnw jnl jne jnc jt) 38))) := Lib.hid (Keep.new _ _ _)
  cases hj : mayJ ⟨⟨jv, jw, jl, je, jc⟩, ⟨jnv, jnw, jnl, jne, jnc⟩, jt⟩ with
  | false =>
    rw [hj] at hm1 hm2
    have HM1 := Lib.hid hm1
    have HM2 := Lib.hid hm2
    clear hm1 hm2 hj hv hw hl hv' hw' hl' hg
    go_enter Try.func12, Try.ntmps12
    go_wp2_with fail
    refine (begun10 _).mono ?_; rintro x w2 ⟨rfl, hb⟩
    have X0 := Lib.hid (Keep.call (Hid.out HKj) hb)
    clear hb HKj
    have HKj := X0; clear X0
    obtain ⟨_, d00, d01, d02, d03, d04, d05, d06, d07, d08, d09, d010⟩ := keepS11 (Hid.out HKj)
    go_wp2_with fail
    refine held_start (n := 14) (S := fun w' => (Hid (Keep w w.heap.size 38 #[.int .u16 jv, .int .u16 jw, .int .u16 jl, .int .i64 je, .int .i64 jc, .int .u16 jnv, .int .u16 jnw, .int .u16 jnl, .int .i64 jne, .int .i64 jnc, .bool jt] w') ∧ w'.cell? ⟨w.heap.size, 0, none⟩ = some (.int .u16 jv) ∧ w'.cell? ⟨w.heap.size, 1, none⟩ = some (.int .u16 jw) ∧ w'.cell? ⟨w.heap.size, 2, none⟩ = some (.int .u16 jl) ∧ w'.cell? ⟨w.heap.size, 3, none⟩ = some (.int .i64 je) ∧ w'.cell? ⟨w.heap.size, 4, none⟩ = some (.int .i64 jc) ∧ w'.cell? ⟨w.heap.size, 5, none⟩ = some (.int .u16 jnv) ∧ w'.cell? ⟨w.heap.size, 6, none⟩ = some (.int .u16 jnw) ∧ w'.cell? ⟨w.heap.size, 7, none⟩ = some (.int .u16 jnl) ∧ w'.cell? ⟨w.heap.size, 8, none⟩ = some (.int .i64 jne) ∧ w'.cell? ⟨w.heap.size, 9, none⟩ = some (.int .i64 jnc) ∧ w'.cell? ⟨w.heap.size, 10, none⟩ = some (.bool jt))) #[false, false, false, false, false, false, false, false, false, false, false, false, false, false] (by kernel_rfl) rfl rfl (keepS11 (Keep.drew (Hid.out HKj))) (fun hHeld => ?_)
    refine held_on (i := 0) (N := (some 9)) (v := ?_) #[true, false, false, false, false, false, false, false, false, false, false, false, false, false] rfl rfl (by kernel_rfl) (fun _ _ _ h => h) (by rfl) ?_ (by assumption) ?_
    rotate_left; (intro w hSw; (try dsimp only at hSw); go_simp); (try with_reducible rfl); (simp only [Act.put, List.setIfInBounds_toArray, List.set_cons_zero, List.set_cons_succ])
    refine held_on (i := 1) (N := (some 10)) (v := ?_) #[true, true, false, false, false, false, false, false, false, false, false, false, false, false] rfl rfl (by kernel_rfl) (fun _ _ _ h => h) (by rfl) ?_ (by assumption) ?_
    rotate_left; (intro w hSw; (try dsimp only at hSw); go_simp); (try with_reducible rfl); (simp only [Act.put, List.setIfInBounds_toArray, List.set_cons_zero, List.set_cons_succ])
    refine held_on (i := 3) (N := (some 12)) (v := ?_) #[true, true, false, true, false, false, false, false, false, false, false, false, false, false] rfl rfl (by kernel_rfl) (fun _ _ _ h => h) (by rfl) ?_ (by assumption) ?_
    rotate_left; (intro w hSw; (try dsimp only at hSw); go_simp); (try with_reducible rfl); (simp only [Act.put, List.setIfInBounds_toArray, List.set_cons_zero, List.set_cons_succ])
    refine held_on (i := 4) (N := (some 13)) (v := ?_) #[true, true, false, true, true, false, false, false, false, false, false, false, false, false] rfl rfl (by kernel_rfl) (fun _ _ _ h => h) (by rfl) ?_ (by assumption) ?_
    rotate_left; (intro w hSw; (try dsimp only at hSw); go_simp); (try with_reducible rfl); (simp only [Act.put, List.setIfInBounds_toArray, List.set_cons_zero, List.set_cons_succ])
    refine held_run (i := 2) #[true, true, true, true, true, false, false, false, false, false, false, false, false, false] rfl (by kernel_rfl) (by rfl) (fun K hK => ?_)
    go_simp
    refine (HA.out _).mono ?_; rintro x w4 ⟨rfl, hb⟩
    refine hK.out _ _ (keepS11 (Keep.call (Hid.out hHeld.1) hb)) (fun hHeld => ?_); clear hK K; (try simp only [Act.put, List.setIfInBounds_toArray, List.set_cons_zero, List.set_cons_succ])
    refine held_run (i := 5) #[true, true, true, true, true, true, false, false, false, false, false, false, false, false] rfl (by kernel_rfl) (by rfl) (fun K hK => ?_)
    go_simp
    refine (HB.out _).mono ?_; rintro x w4 ⟨rfl, hb⟩
    refine hK.out _ _ (keepS11 (Keep.call (Hid.out hHeld.1) hb)) (fun hHeld => ?_); clear hK K; (try simp only [Act.put, List.setIfInBounds_toArray, List.set_cons_zero, List.set_cons_succ])
    refine held_on (i := 6) (N := (some 15)) (v := ?_) #[true, true, true, true, true, true, true, false, false, false, false, false, false, false] rfl rfl (by kernel_rfl) (fun _ _ _ h => h) (by rfl) ?_ (by assumption) ?_
    rotate_left; (intro w hSw; (try dsimp only at hSw); go_simp); (try with_reducible rfl); (simp only [Act.put, List.setIfInBounds_toArray, List.set_cons_zero, List.set_cons_succ])
    refine held_on (i := 7) (N := (some 16)) (v := ?_) #[true, true, true, true, true, true, true, true, false, false, false, false, false, false] rfl rfl (by kernel_rfl) (fun _ _ _ h => h) (by rfl) ?_ (by assumption) ?_
    rotate_left; (intro w hSw; (try dsimp only at hSw); go_simp); (try with_reducible rfl); (simp only [Act.put, List.setIfInBounds_toArray, List.set_cons_zero, List.set_cons_succ])
    refine held_on (i := 8) (N := (some 17)) (v := ?_) #[true, true, true, true, true, true, true, true, true, false, false, false, false, false] rfl rfl (by kernel_rfl) (fun _ _ _ h => h) (by rfl) ?_ (by assumption) ?_
    rotate_left; (intro w hSw; (try dsimp only at hSw); go_simp); (try with_reducible rfl); (simp only [Act.put, List.setIfInBounds_toArray, List.set_cons_zero, List.set_cons_succ])
    refine held_on (i := 10) (N := (some 19)) (v := ?_) #[true, true, true, true, true, true, true, true, true, false, true, false, false, false] rfl rfl (by kernel_rfl) (fun _ _ _ h => h) (by rfl) ?_ (by assumption) ?_
    rotate_left; (intro w hSw; (try dsimp only at hSw); go_simp); (try with_reducible rfl); (simp only [Act.put, List.setIfInBounds_toArray, List.set_cons_zero, List.set_cons_succ])
    refine held_run (i := 9) #[true, true, true, true, true, true, true, true, true, true, true, false, false, false] rfl (by kernel_rfl) (by rfl) (fun K hK => ?_)
    go_simp
    refine (HM1.out _).mono ?_; rintro x w4 ⟨rfl, hb⟩
    refine hK.out _ _ (keepS11 (Keep.call (Hid.out hHeld.1) hb)) (fun hHeld => ?_); clear hK K; (try simp only [Act.put, List.setIfInBounds_toArray, List.set_cons_zero, List.set_cons_succ])
    refine held_run (i := 11) #[true, true, true, true, true, true, true, true, true, true, true, true, false, false] rfl (by kernel_rfl) (by rfl) (fun K hK => ?_)
    go_simp
    refine (HM2.out _).mono ?_; rintro x w4 ⟨rfl, hb⟩
    refine hK.out _ _ (keepS11 (Keep.call (Hid.out hHeld.1) hb)) (fun hHeld => ?_); clear hK K; (try simp only [Act.put, List.setIfInBounds_toArray, List.set_cons_zero, List.set_cons_succ])
    refine held_on (i := 12) (N := (some 21)) (v := ?_) #[true, true, true, true, true, true, true, true, true, true, true, true, true, false] rfl rfl (by kernel_rfl) (fun _ _ _ h => h) (by rfl) ?_ (by assumption) ?_
    rotate_left; (intro w hSw; (try dsimp only at hSw); go_simp); (try with_reducible rfl); (simp only [Act.put, List.setIfInBounds_toArray, List.set_cons_zero, List.set_cons_succ])
    refine held_on (i := 13) (N := (some 22)) (v := ?_) #[true, true, true, true, true, true, true, true, true, true, true, true, true, true] rfl rfl (by kernel_rfl) (fun _ _ _ h => h) (by rfl) ?_ (by assumption) ?_
    rotate_left; (intro w hSw; (try dsimp only at hSw); go_simp); (try with_reducible rfl); (simp only [Act.put, List.setIfInBounds_toArray, List.set_cons_zero, List.set_cons_succ])
    refine held_done (by kernel_rfl) ?_
    have X0 := hHeld.1
    clear hHeld HKj
    have HKj := X0; clear X0
    obtain ⟨_, d00, d01, d02, d03, d04, d05, d06, d07, d08, d09, d010⟩ := keepS11 (Hid.out HKj)
    show Exit.then _ _ _ _ _
    go_wp2_with fail
    refine (HM2.out _).mono ?_; rintro x w2 ⟨rfl, hb⟩
    go_wp2_with fail
    go_ret
    exact ⟨rfl, (Keep.call HKj.out hb).2⟩
  | true =>
    rw [hj] at hm1 hm2
    have HM1 := Lib.hid hm1
    have HM2 := Lib.hid hm2
    obtain ⟨s1, s2, s3⟩ := same_sets hj
    have a1 := fun w => members_calls jv jw jl je jc jnv jnw jnl jne jnc jt w
    have a2 := fun w => rmembers_calls jv jw jl je jc jnv jnw jnl jne jnc jt w hv hw hl hv' hw' hl'
    have b1 := fun w => voting_calls jv jw jl je jc jnv jnw jnl jne jnc jt w
    have b2 := fun w => rvoting_calls jv jw jl je jc jnv jnw jnl jne jnc jt w hv hw hl hv' hw' hl'
    have c1 := fun w => data_calls jv jw jl je jc jnv jnw jnl jne jnc jt w
    have c2 := fun w => rdata_calls jv jw jl je jc jnv jnw jnl jne jnc jt w hv hw hl hv' hw' hl'
    have d1 := fun w => leads_calls' jv jw jl je jc jnv jnw jnl jne jnc jt n w
    have d2 := fun w => rleads_calls jv jw jl je jc jnv jnw jnl jne jnc jt n w hv hw hl hv' hw' hl'
    rw [s3] at a1
    rw [s1] at b1
    rw [s2] at c1
    rw [leads_eq] at d1
    have HE1 := Lib.hid fun w => elects_calls jv jw jl je jc jnv jnw jnl jne jnc jt got w
    have HE2 := Lib.hid fun w => relects_calls jv jw jl je jc jnv jnw jnl jne jnc jt got w hv hw hv' hw' hg
    have HC1 := Lib.hid fun w => commits_calls jv jw jl je jc jnv jnw jnl jne jnc jt got w
    have HC2 := Lib.hid fun w => rcommits_calls jv jw jl je jc jnv jnw jnl jne jnc jt got w hv hw hv' hw' hg
    have HS1 := Lib.hid a1
    have HS2 := Lib.hid a2
    have HV1 := Lib.hid b1
    have HV2 := Lib.hid b2
    have HD1 := Lib.hid c1
    have HD2 := Lib.hid c2
    have HL1 := Lib.hid d1
    have HL2 := Lib.hid d2
    clear a1 a2 b1 b2 c1 c2 d1 d2 s1 s2 s3 hm1 hm2 hj hv hw hl hv' hw' hl' hg
    generalize rmembersJ _ = S at HS1 HS2
    generalize rvotingJ _ = V at HV1 HV2
    generalize rdataJ _ = D at HD1 HD2
    generalize rleadsJ _ _ = B at HL1 HL2
    generalize electsJ _ _ = E at HE1 HE2
    generalize commitsJ _ _ = C at HC1 HC2
    go_enter Try.func12, Try.ntmps12
    go_wp2_with fail
    refine (begun10 _).mono ?_; rintro x w2 ⟨rfl, hb⟩
    have X0 := Lib.hid (Keep.call (Hid.out HKj) hb)
    clear hb HKj
    have HKj := X0; clear X0
    obtain ⟨_, d00, d01, d02, d03, d04, d05, d06, d07, d08, d09, d010⟩ := keepS11 (Hid.out HKj)
    go_wp2_with fail
    refine held_start (n := 14) (S := fun w' => (Hid (Keep w w.heap.size 38 #[.int .u16 jv, .int .u16 jw, .int .u16 jl, .int .i64 je, .int .i64 jc, .int .u16 jnv, .int .u16 jnw, .int .u16 jnl, .int .i64 jne, .int .i64 jnc, .bool jt] w') ∧ w'.cell? ⟨w.heap.size, 0, none⟩ = some (.int .u16 jv) ∧ w'.cell? ⟨w.heap.size, 1, none⟩ = some (.int .u16 jw) ∧ w'.cell? ⟨w.heap.size, 2, none⟩ = some (.int .u16 jl) ∧ w'.cell? ⟨w.heap.size, 3, none⟩ = some (.int .i64 je) ∧ w'.cell? ⟨w.heap.size, 4, none⟩ = some (.int .i64 jc) ∧ w'.cell? ⟨w.heap.size, 5, none⟩ = some (.int .u16 jnv) ∧ w'.cell? ⟨w.heap.size, 6, none⟩ = some (.int .u16 jnw) ∧ w'.cell? ⟨w.heap.size, 7, none⟩ = some (.int .u16 jnl) ∧ w'.cell? ⟨w.heap.size, 8, none⟩ = some (.int .i64 jne) ∧ w'.cell? ⟨w.heap.size, 9, none⟩ = some (.int .i64 jnc) ∧ w'.cell? ⟨w.heap.size, 10, none⟩ = some (.bool jt))) #[false, false, false, false, false, false, false, false, false, false, false, false, false, false] (by kernel_rfl) rfl rfl (keepS11 (Keep.drew (Hid.out HKj))) (fun hHeld => ?_)
    refine held_on (i := 0) (N := (some 9)) (v := ?_) #[true, false, false, false, false, false, false, false, false, false, false, false, false, false] rfl rfl (by kernel_rfl) (fun _ _ _ h => h) (by rfl) ?_ (by assumption) ?_
    rotate_left; (intro w hSw; (try dsimp only at hSw); go_simp); (try with_reducible rfl); (simp only [Act.put, List.setIfInBounds_toArray, List.set_cons_zero, List.set_cons_succ])
    refine held_on (i := 1) (N := (some 10)) (v := ?_) #[true, true, false, false, false, false, false, false, false, false, false, false, false, false] rfl rfl (by kernel_rfl) (fun _ _ _ h => h) (by rfl) ?_ (by assumption) ?_
    rotate_left; (intro w hSw; (try dsimp only at hSw); go_simp); (try with_reducible rfl); (simp only [Act.put, List.setIfInBounds_toArray, List.set_cons_zero, List.set_cons_succ])
    refine held_on (i := 3) (N := (some 12)) (v := ?_) #[true, true, false, true, false, false, false, false, false, false, false, false, false, false] rfl rfl (by kernel_rfl) (fun _ _ _ h => h) (by rfl) ?_ (by assumption) ?_
    rotate_left; (intro w hSw; (try dsimp only at hSw); go_simp); (try with_reducible rfl); (simp only [Act.put, List.setIfInBounds_toArray, List.set_cons_zero, List.set_cons_succ])
    refine held_on (i := 4) (N := (some 13)) (v := ?_) #[true, true, false, true, true, false, false, false, false, false, false, false, false, false] rfl rfl (by kernel_rfl) (fun _ _ _ h => h) (by rfl) ?_ (by assumption) ?_
    rotate_left; (intro w hSw; (try dsimp only at hSw); go_simp); (try with_reducible rfl); (simp only [Act.put, List.setIfInBounds_toArray, List.set_cons_zero, List.set_cons_succ])
    refine held_run (i := 2) #[true, true, true, true, true, false, false, false, false, false, false, false, false, false] rfl (by kernel_rfl) (by rfl) (fun K hK => ?_)
    go_simp
    refine (HA.out _).mono ?_; rintro x w4 ⟨rfl, hb⟩
    refine hK.out _ _ (keepS11 (Keep.call (Hid.out hHeld.1) hb)) (fun hHeld => ?_); clear hK K; (try simp only [Act.put, List.setIfInBounds_toArray, List.set_cons_zero, List.set_cons_succ])
    refine held_run (i := 5) #[true, true, true, true, true, true, false, false, false, false, false, false, false, false] rfl (by kernel_rfl) (by rfl) (fun K hK => ?_)
    go_simp
    refine (HB.out _).mono ?_; rintro x w4 ⟨rfl, hb⟩
    refine hK.out _ _ (keepS11 (Keep.call (Hid.out hHeld.1) hb)) (fun hHeld => ?_); clear hK K; (try simp only [Act.put, List.setIfInBounds_toArray, List.set_cons_zero, List.set_cons_succ])
    refine held_on (i := 6) (N := (some 15)) (v := ?_) #[true, true, true, true, true, true, true, false, false, false, false, false, false, false] rfl rfl (by kernel_rfl) (fun _ _ _ h => h) (by rfl) ?_ (by assumption) ?_
    rotate_left; (intro w hSw; (try dsimp only at hSw); go_simp); (try with_reducible rfl); (simp only [Act.put, List.setIfInBounds_toArray, List.set_cons_zero, List.set_cons_succ])
    refine held_on (i := 7) (N := (some 16)) (v := ?_) #[true, true, true, true, true, true, true, true, false, false, false, false, false, false] rfl rfl (by kernel_rfl) (fun _ _ _ h => h) (by rfl) ?_ (by assumption) ?_
    rotate_left; (intro w hSw; (try dsimp only at hSw); go_simp); (try with_reducible rfl); (simp only [Act.put, List.setIfInBounds_toArray, List.set_cons_zero, List.set_cons_succ])
    refine held_on (i := 8) (N := (some 17)) (v := ?_) #[true, true, true, true, true, true, true, true, true, false, false, false, false, false] rfl rfl (by kernel_rfl) (fun _ _ _ h => h) (by rfl) ?_ (by assumption) ?_
    rotate_left; (intro w hSw; (try dsimp only at hSw); go_simp); (try with_reducible rfl); (simp only [Act.put, List.setIfInBounds_toArray, List.set_cons_zero, List.set_cons_succ])
    refine held_on (i := 10) (N := (some 19)) (v := ?_) #[true, true, true, true, true, true, true, true, true, false, true, false, false, false] rfl rfl (by kernel_rfl) (fun _ _ _ h => h) (by rfl) ?_ (by assumption) ?_
    rotate_left; (intro w hSw; (try dsimp only at hSw); go_simp); (try with_reducible rfl); (simp only [Act.put, List.setIfInBounds_toArray, List.set_cons_zero, List.set_cons_succ])
    refine held_run (i := 9) #[true, true, true, true, true, true, true, true, true, true, true, false, false, false] rfl (by kernel_rfl) (by rfl) (fun K hK => ?_)
    go_simp
    refine (HM1.out _).mono ?_; rintro x w4 ⟨rfl, hb⟩
    refine hK.out _ _ (keepS11 (Keep.call (Hid.out hHeld.1) hb)) (fun hHeld => ?_); clear hK K; (try simp only [Act.put, List.setIfInBounds_toArray, List.set_cons_zero, List.set_cons_succ])
    refine held_run (i := 11) #[true, true, true, true, true, true, true, true, true, true, true, true, false, false] rfl (by kernel_rfl) (by rfl) (fun K hK => ?_)
    go_simp
    refine (HM2.out _).mono ?_; rintro x w4 ⟨rfl, hb⟩
    refine hK.out _ _ (keepS11 (Keep.call (Hid.out hHeld.1) hb)) (fun hHeld => ?_); clear hK K; (try simp only [Act.put, List.setIfInBounds_toArray, List.set_cons_zero, List.set_cons_succ])
    refine held_on (i := 12) (N := (some 21)) (v := ?_) #[true, true, true, true, true, true, true, true, true, true, true, true, true, false] rfl rfl (by kernel_rfl) (fun _ _ _ h => h) (by rfl) ?_ (by assumption) ?_
    rotate_left; (intro w hSw; (try dsimp only at hSw); go_simp); (try with_reducible rfl); (simp only [Act.put, List.setIfInBounds_toArray, List.set_cons_zero, List.set_cons_succ])
    refine held_on (i := 13) (N := (some 22)) (v := ?_) #[true, true, true, true, true, true, true, true, true, true, true, true, true, true] rfl rfl (by kernel_rfl) (fun _ _ _ h => h) (by rfl) ?_ (by assumption) ?_
    rotate_left; (intro w hSw; (try dsimp only at hSw); go_simp); (try with_reducible rfl); (simp only [Act.put, List.setIfInBounds_toArray, List.set_cons_zero, List.set_cons_succ])
    refine held_done (by kernel_rfl) ?_
    have X0 := hHeld.1
    clear hHeld HKj
    have HKj := X0; clear X0
    obtain ⟨_, d00, d01, d02, d03, d04, d05, d06, d07, d08, d09, d010⟩ := keepS11 (Hid.out HKj)
    show Exit.then _ _ _ _ _
    go_wp2_with fail
    refine (HM2.out _).mono ?_; rintro x w2 ⟨rfl, hb⟩
    have X0 := Lib.hid (Keep.call (Hid.out HKj) hb)
    clear hb HKj
    have HKj := X0; clear X0
    obtain ⟨_, d00, d01, d02, d03, d04, d05, d06, d07, d08, d09, d010⟩ := keepS11 (Hid.out HKj)
    go_wp2_with fail
    refine held_start (n := 47) (S := fun w' => (Hid (Keep w w.heap.size 38 #[.int .u16 jv, .int .u16 jw, .int .u16 jl, .int .i64 je, .int .i64 jc, .int .u16 jnv, .int .u16 jnw, .int .u16 jnl, .int .i64 jne, .int .i64 jnc, .bool jt] w') ∧ w'.cell? ⟨w.heap.size, 0, none⟩ = some (.int .u16 jv) ∧ w'.cell? ⟨w.heap.size, 1, none⟩ = some (.int .u16 jw) ∧ w'.cell? ⟨w.heap.size, 2, none⟩ = some (.int .u16 jl) ∧ w'.cell? ⟨w.heap.size, 3, none⟩ = some (.int .i64 je) ∧ w'.cell? ⟨w.heap.size, 4, none⟩ = some (.int .i64 jc) ∧ w'.cell? ⟨w.heap.size, 5, none⟩ = some (.int .u16 jnv) ∧ w'.cell? ⟨w.heap.size, 6, none⟩ = some (.int .u16 jnw) ∧ w'.cell? ⟨w.heap.size, 7, none⟩ = some (.int .u16 jnl) ∧ w'.cell? ⟨w.heap.size, 8, none⟩ = some (.int .i64 jne) ∧ w'.cell? ⟨w.heap.size, 9, none⟩ = some (.int .i64 jnc) ∧ w'.cell? ⟨w.heap.size, 10, none⟩ = some (.bool jt))) #[false, false, false, false, false, false, false, false, false, false, false, false, false, false, false, false, false, false, false, false, false, false, false, false, false, false, false, false, false, false, false, false, false, false, false, false, false, false, false, false, false, false, false, false, false, false, false] (by kernel_rfl) rfl rfl (keepS11 (Keep.drew (Hid.out HKj))) (fun hHeld => ?_)
    refine held_on (i := 0) (N := (some 26)) (v := ?_) #[true, false, false, false, false, false, false, false, false, false, false, false, false, false, false, false, false, false, false, false, false, false, false, false, false, false, false, false, false, false, false, false, false, false, false, false, false, false, false, false, false, false, false, false, false, false, false] rfl rfl (by kernel_rfl) (fun _ _ _ h => h) (by rfl) ?_ (by assumption) ?_
    rotate_left; (intro w hSw; (try dsimp only at hSw); go_simp); (try with_reducible rfl); (simp only [Act.put, List.setIfInBounds_toArray, List.set_cons_zero, List.set_cons_succ])
    refine held_on (i := 2) (N := (some 28)) (v := ?_) #[true, false, true, false, false, false, false, false, false, false, false, false, false, false, false, false, false, false, false, false, false, false, false, false, false, false, false, false, false, false, false, false, false, false, false, false, false, false, false, false, false, false, false, false, false, false, false] rfl rfl (by kernel_rfl) (fun _ _ _ h => h) (by rfl) ?_ (by assumption) ?_
    rotate_left; (intro w hSw; (try dsimp only at hSw); go_simp); (try with_reducible rfl); (simp only [Act.put, List.setIfInBounds_toArray, List.set_cons_zero, List.set_cons_succ])
    refine held_run (i := 1) #[true, true, true, false, false, false, false, false, false, false, false, false, false, false, false, false, false, false, false, false, false, false, false, false, false, false, false, false, false, false, false, false, false, false, false, false, false, false, false, false, false, false, false, false, false, false, false] rfl (by kernel_rfl) (by rfl) (fun K hK => ?_)
    go_simp
    refine (HS1.out _).mono ?_; rintro x w4 ⟨rfl, hb⟩
    refine hK.out _ _ (keepS11 (Keep.call (Hid.out hHeld.1) hb)) (fun hHeld => ?_); clear hK K; (try simp only [Act.put, List.setIfInBounds_toArray, List.set_cons_zero, List.set_cons_succ])
    refine held_run (i := 3) #[true, true, true, true, false, false, false, false, false, false, false, false, false, false, false, false, false, false, false, false, false, false, false, false, false, false, false, false, false, false, false, false, false, false, false, false, false, false, false, false, false, false, false, false, false, false, false] rfl (by kernel_rfl) (by rfl) (fun K hK => ?_)
    go_simp
    refine (HS2.out _).mono ?_; rintro x w4 ⟨rfl, hb⟩
    refine hK.out _ _ (keepS11 (Keep.call (Hid.out hHeld.1) hb)) (fun hHeld => ?_); clear hK K; (try simp only [Act.put, List.setIfInBounds_toArray, List.set_cons_zero, List.set_cons_succ])
    refine held_on (i := 4) (N := (some 30)) (v := ?_) #[true, true, true, true, true, false, false, false, false, false, false, false, false, false, false, false, false, false, false, false, false, false, false, false, false, false, false, false, false, false, false, false, false, false, false, false, false, false, false, false, false, false, false, false, false, false, false] rfl rfl (by kernel_rfl) (fun _ _ _ h => h) (by rfl) ?_ (by assumption) ?_
    rotate_left; (intro w hSw; (try dsimp only at hSw); go_simp); (try with_reducible rfl); (simp only [Act.put, List.setIfInBounds_toArray, List.set_cons_zero, List.set_cons_succ])
    refine held_on (i := 5) (N := (some 31)) (v := ?_) #[true, true, true, true, true, true, false, false, false, false, false, false, false, false, false, false, false, false, false, false, false, false, false, false, false, false, false, false, false, false, false, false, false, false, false, false, false, false, false, false, false, false, false, false, false, false, false] rfl rfl (by kernel_rfl) (fun _ _ _ h => h) (by rfl) ?_ (by assumption) ?_
    rotate_left; (intro w hSw; (try dsimp only at hSw); go_simp); (try with_reducible rfl); (simp only [Act.put, List.setIfInBounds_toArray, List.set_cons_zero, List.set_cons_succ])
    refine held_on (i := 6) (N := (some 32)) (v := ?_) #[true, true, true, true, true, true, true, false, false, false, false, false, false, false, false, false, false, false, false, false, false, false, false, false, false, false, false, false, false, false, false, false, false, false, false, false, false, false, false, false, false, false, false, false, false, false, false] rfl rfl (by kernel_rfl) (fun _ _ _ h => h) (by rfl) ?_ (by assumption) ?_
    rotate_left; (intro w hSw; (try dsimp only at hSw); go_simp); (try with_reducible rfl); (simp only [Act.put, List.setIfInBounds_toArray, List.set_cons_zero, List.set_cons_succ])
    refine held_on (i := 8) (N := (some 34)) (v := ?_) #[true, true, true, true, true, true, true, false, true, false, false, false, false, false, false, false, false, false, false, false, false, false, false, false, false, false, false, false, false, false, false, false, false, false, false, false, false, false, false, false, false, false, false, false, false, false, false] rfl rfl (by kernel_rfl) (fun _ _ _ h => h) (by rfl) ?_ (by assumption) ?_
    rotate_left; (intro w hSw; (try dsimp only at hSw); go_simp); (try with_reducible rfl); (simp only [Act.put, List.setIfInBounds_toArray, List.set_cons_zero, List.set_cons_succ])
    refine held_run (i := 7) #[true, true, true, true, true, true, true, true, true, false, false, false, false, false, false, false, false, false, false, false, false, false, false, false, false, false, false, false, false, false, false, false, false, false, false, false, false, false, false, false, false, false, false, false, false, false, false] rfl (by kernel_rfl) (by rfl) (fun K hK => ?_)
    go_simp
    refine (HV1.out _).mono ?_; rintro x w4 ⟨rfl, hb⟩
    refine hK.out _ _ (keepS11 (Keep.call (Hid.out hHeld.1) hb)) (fun hHeld => ?_); clear hK K; (try simp only [Act.put, List.setIfInBounds_toArray, List.set_cons_zero, List.set_cons_succ])
    refine held_run (i := 9) #[true, true, true, true, true, true, true, true, true, true, false, false, false, false, false, false, false, false, false, false, false, false, false, false, false, false, false, false, false, false, false, false, false, false, false, false, false, false, false, false, false, false, false, false, false, false, false] rfl (by kernel_rfl) (by rfl) (fun K hK => ?_)
    go_simp
    refine (HV2.out _).mono ?_; rintro x w4 ⟨rfl, hb⟩
    refine hK.out _ _ (keepS11 (Keep.call (Hid.out hHeld.1) hb)) (fun hHeld => ?_); clear hK K; (try simp only [Act.put, List.setIfInBounds_toArray, List.set_cons_zero, List.set_cons_succ])
    refine held_on (i := 10) (N := (some 36)) (v := ?_) #[true, true, true, true, true, true, true, true, true, true, true, false, false, false, false, false, false, false, false, false, false, false, false, false, false, false, false, false, false, false, false, false, false, false, false, false, false, false, false, false, false, false, false, false, false, false, false] rfl rfl (by kernel_rfl) (fun _ _ _ h => h) (by rfl) ?_ (by assumption) ?_
    rotate_left; (intro w hSw; (try dsimp only at hSw); go_simp); (try with_reducible rfl); (simp only [Act.put, List.setIfInBounds_toArray, List.set_cons_zero, List.set_cons_succ])
    refine held_on (i := 11) (N := (some 37)) (v := ?_) #[true, true, true, true, true, true, true, true, true, true, true, true, false, false, false, false, false, false, false, false, false, false, false, false, false, false, false, false, false, false, false, false, false, false, false, false, false, false, false, false, false, false, false, false, false, false, false] rfl rfl (by kernel_rfl) (fun _ _ _ h => h) (by rfl) ?_ (by assumption) ?_
    rotate_left; (intro w hSw; (try dsimp only at hSw); go_simp); (try with_reducible rfl); (simp only [Act.put, List.setIfInBounds_toArray, List.set_cons_zero, List.set_cons_succ])
    refine held_on (i := 12) (N := (some 38)) (v := ?_) #[true, true, true, true, true, true, true, true, true, true, true, true, true, false, false, false, false, false, false, false, false, false, false, false, false, false, false, false, false, false, false, false, false, false, false, false, false, false, false, false, false, false, false, false, false, false, false] rfl rfl (by kernel_rfl) (fun _ _ _ h => h) (by rfl) ?_ (by assumption) ?_
    rotate_left; (intro w hSw; (try dsimp only at hSw); go_simp); (try with_reducible rfl); (simp only [Act.put, List.setIfInBounds_toArray, List.set_cons_zero, List.set_cons_succ])
    refine held_on (i := 13) (N := (some 39)) (v := ?_) #[true, true, true, true, true, true, true, true, true, true, true, true, true, true, false, false, false, false, false, false, false, false, false, false, false, false, false, false, false, false, false, false, false, false, false, false, false, false, false, false, false, false, false, false, false, false, false] rfl rfl (by kernel_rfl) (fun _ _ _ h => h) (by rfl) ?_ (by assumption) ?_
    rotate_left; (intro w hSw; (try dsimp only at hSw); go_simp); (try with_reducible rfl); (simp only [Act.put, List.setIfInBounds_toArray, List.set_cons_zero, List.set_cons_succ])
    refine held_on (i := 15) (N := (some 41)) (v := ?_) #[true, true, true, true, true, true, true, true, true, true, true, true, true, true, false, true, false, false, false, false, false, false, false, false, false, false, false, false, false, false, false, false, false, false, false, false, false, false, false, false, false, false, false, false, false, false, false] rfl rfl (by kernel_rfl) (fun _ _ _ h => h) (by rfl) ?_ (by assumption) ?_
    rotate_left; (intro w hSw; (try dsimp only at hSw); go_simp); (try with_reducible rfl); (simp only [Act.put, List.setIfInBounds_toArray, List.set_cons_zero, List.set_cons_succ])
    refine held_run (i := 14) #[true, true, true, true, true, true, true, true, true, true, true, true, true, true, true, true, false, false, false, false, false, false, false, false, false, false, false, false, false, false, false, false, false, false, false, false, false, false, false, false, false, false, false, false, false, false, false] rfl (by kernel_rfl) (by rfl) (fun K hK => ?_)
    go_simp
    refine (HD1.out _).mono ?_; rintro x w4 ⟨rfl, hb⟩
    refine hK.out _ _ (keepS11 (Keep.call (Hid.out hHeld.1) hb)) (fun hHeld => ?_); clear hK K; (try simp only [Act.put, List.setIfInBounds_toArray, List.set_cons_zero, List.set_cons_succ])
    refine held_run (i := 16) #[true, true, true, true, true, true, true, true, true, true, true, true, true, true, true, true, true, false, false, false, false, false, false, false, false, false, false, false, false, false, false, false, false, false, false, false, false, false, false, false, false, false, false, false, false, false, false] rfl (by kernel_rfl) (by rfl) (fun K hK => ?_)
    go_simp
    refine (HD2.out _).mono ?_; rintro x w4 ⟨rfl, hb⟩
    refine hK.out _ _ (keepS11 (Keep.call (Hid.out hHeld.1) hb)) (fun hHeld => ?_); clear hK K; (try simp only [Act.put, List.setIfInBounds_toArray, List.set_cons_zero, List.set_cons_succ])
    refine held_on (i := 17) (N := (some 43)) (v := ?_) #[true, true, true, true, true, true, true, true, true, true, true, true, true, true, true, true, true, true, false, false, false, false, false, false, false, false, false, false, false, false, false, false, false, false, false, false, false, false, false, false, false, false, false, false, false, false, false] rfl rfl (by kernel_rfl) (fun _ _ _ h => h) (by rfl) ?_ (by assumption) ?_
    rotate_left; (intro w hSw; (try dsimp only at hSw); go_simp); (try with_reducible rfl); (simp only [Act.put, List.setIfInBounds_toArray, List.set_cons_zero, List.set_cons_succ])
    refine held_on (i := 18) (N := (some 44)) (v := ?_) #[true, true, true, true, true, true, true, true, true, true, true, true, true, true, true, true, true, true, true, false, false, false, false, false, false, false, false, false, false, false, false, false, false, false, false, false, false, false, false, false, false, false, false, false, false, false, false] rfl rfl (by kernel_rfl) (fun _ _ _ h => h) (by rfl) ?_ (by assumption) ?_
    rotate_left; (intro w hSw; (try dsimp only at hSw); go_simp); (try with_reducible rfl); (simp only [Act.put, List.setIfInBounds_toArray, List.set_cons_zero, List.set_cons_succ])
    refine held_on (i := 19) (N := (some 45)) (v := ?_) #[true, true, true, true, true, true, true, true, true, true, true, true, true, true, true, true, true, true, true, true, false, false, false, false, false, false, false, false, false, false, false, false, false, false, false, false, false, false, false, false, false, false, false, false, false, false, false] rfl rfl (by kernel_rfl) (fun _ _ _ h => h) (by rfl) ?_ (by assumption) ?_
    rotate_left; (intro w hSw; (try dsimp only at hSw); go_simp); (try with_reducible rfl); (simp only [Act.put, List.setIfInBounds_toArray, List.set_cons_zero, List.set_cons_succ])
    refine held_on (i := 20) (N := (some 46)) (v := ?_) #[true, true, true, true, true, true, true, true, true, true, true, true, true, true, true, true, true, true, true, true, true, false, false, false, false, false, false, false, false, false, false, false, false, false, false, false, false, false, false, false, false, false, false, false, false, false, false] rfl rfl (by kernel_rfl) (fun _ _ _ h => h) (by rfl) ?_ (by assumption) ?_
    rotate_left; (intro w hSw; (try dsimp only at hSw); go_simp); (try with_reducible rfl); (simp only [Act.put, List.setIfInBounds_toArray, List.set_cons_zero, List.set_cons_succ])
    refine held_on (i := 21) (N := (some 47)) (v := ?_) #[true, true, true, true, true, true, true, true, true, true, true, true, true, true, true, true, true, true, true, true, true, true, false, false, false, false, false, false, false, false, false, false, false, false, false, false, false, false, false, false, false, false, false, false, false, false, false] rfl rfl (by kernel_rfl) (fun _ _ _ h => h) (by rfl) ?_ (by assumption) ?_
    rotate_left; (intro w hSw; (try dsimp only at hSw); go_simp); (try with_reducible rfl); (simp only [Act.put, List.setIfInBounds_toArray, List.set_cons_zero, List.set_cons_succ])
    refine held_on (i := 23) (N := (some 49)) (v := ?_) #[true, true, true, true, true, true, true, true, true, true, true, true, true, true, true, true, true, true, true, true, true, true, false, true, false, false, false, false, false, false, false, false, false, false, false, false, false, false, false, false, false, false, false, false, false, false, false] rfl rfl (by kernel_rfl) (fun _ _ _ h => h) (by rfl) ?_ (by assumption) ?_
    rotate_left; (intro w hSw; (try dsimp only at hSw); go_simp); (try with_reducible rfl); (simp only [Act.put, List.setIfInBounds_toArray, List.set_cons_zero, List.set_cons_succ])
    refine held_on (i := 24) (N := (some 50)) (v := ?_) #[true, true, true, true, true, true, true, true, true, true, true, true, true, true, true, true, true, true, true, true, true, true, false, true, true, false, false, false, false, false, false, false, false, false, false, false, false, false, false, false, false, false, false, false, false, false, false] rfl rfl (by kernel_rfl) (fun _ _ _ h => h) (by rfl) ?_ (by assumption) ?_
    rotate_left; (intro w hSw; (try dsimp only at hSw); go_simp); (try with_reducible rfl); (simp only [Act.put, List.setIfInBounds_toArray, List.set_cons_zero, List.set_cons_succ])
    refine held_run (i := 22) #[true, true, true, true, true, true, true, true, true, true, true, true, true, true, true, true, true, true, true, true, true, true, true, true, true, false, false, false, false, false, false, false, false, false, false, false, false, false, false, false, false, false, false, false, false, false, false] rfl (by kernel_rfl) (by rfl) (fun K hK => ?_)
    go_simp
    refine (HL1.out _).mono ?_; rintro x w4 ⟨rfl, hb⟩
    refine hK.out _ _ (keepS11 (Keep.call (Hid.out hHeld.1) hb)) (fun hHeld => ?_); clear hK K; (try simp only [Act.put, List.setIfInBounds_toArray, List.set_cons_zero, List.set_cons_succ])
    refine held_run (i := 25) #[true, true, true, true, true, true, true, true, true, true, true, true, true, true, true, true, true, true, true, true, true, true, true, true, true, true, false, false, false, false, false, false, false, false, false, false, false, false, false, false, false, false, false, false, false, false, false] rfl (by kernel_rfl) (by rfl) (fun K hK => ?_)
    go_simp
    refine (HL2.out _).mono ?_; rintro x w4 ⟨rfl, hb⟩
    refine hK.out _ _ (keepS11 (Keep.call (Hid.out hHeld.1) hb)) (fun hHeld => ?_); clear hK K; (try simp only [Act.put, List.setIfInBounds_toArray, List.set_cons_zero, List.set_cons_succ])
    refine held_on (i := 26) (N := (some 52)) (v := ?_) #[true, true, true, true, true, true, true, true, true, true, true, true, true, true, true, true, true, true, true, true, true, true, true, true, true, true, true, false, false, false, false, false, false, false, false, false, false, false, false, false, false, false, false, false, false, false, false] rfl rfl (by kernel_rfl) (fun _ _ _ h => h) (by rfl) ?_ (by assumption) ?_
    rotate_left; (intro w hSw; (try dsimp only at hSw); go_simp); (try with_reducible rfl); (simp only [Act.put, List.setIfInBounds_toArray, List.set_cons_zero, List.set_cons_succ])
    refine held_on (i := 27) (N := (some 53)) (v := ?_) #[true, true, true, true, true, true, true, true, true, true, true, true, true, true, true, true, true, true, true, true, true, true, true, true, true, true, true, true, false, false, false, false, false, false, false, false, false, false, false, false, false, false, false, false, false, false, false] rfl rfl (by kernel_rfl) (fun _ _ _ h => h) (by rfl) ?_ (by assumption) ?_
    rotate_left; (intro w hSw; (try dsimp only at hSw); go_simp); (try with_reducible rfl); (simp only [Act.put, List.setIfInBounds_toArray, List.set_cons_zero, List.set_cons_succ])
    refine held_on (i := 28) (N := (some 54)) (v := ?_) #[true, true, true, true, true, true, true, true, true, true, true, true, true, true, true, true, true, true, true, true, true, true, true, true, true, true, true, true, true, false, false, false, false, false, false, false, false, false, false, false, false, false, false, false, false, false, false] rfl rfl (by kernel_rfl) (fun _ _ _ h => h) (by rfl) ?_ (by assumption) ?_
    rotate_left; (intro w hSw; (try dsimp only at hSw); go_simp); (try with_reducible rfl); (simp only [Act.put, List.setIfInBounds_toArray, List.set_cons_zero, List.set_cons_succ])
    refine held_on (i := 29) (N := (some 55)) (v := ?_) #[true, true, true, true, true, true, true, true, true, true, true, true, true, true, true, true, true, true, true, true, true, true, true, true, true, true, true, true, true, true, false, false, false, false, false, false, false, false, false, false, false, false, false, false, false, false, false] rfl rfl (by kernel_rfl) (fun _ _ _ h => h) (by rfl) ?_ (by assumption) ?_
    rotate_left; (intro w hSw; (try dsimp only at hSw); go_simp); (try with_reducible rfl); (simp only [Act.put, List.setIfInBounds_toArray, List.set_cons_zero, List.set_cons_succ])
    refine held_on (i := 30) (N := (some 56)) (v := ?_) #[true, true, true, true, true, true, true, true, true, true, true, true, true, true, true, true, true, true, true, true, true, true, true, true, true, true, true, true, true, true, true, false, false, false, false, false, false, false, false, false, false, false, false, false, false, false, false] rfl rfl (by kernel_rfl) (fun _ _ _ h => h) (by rfl) ?_ (by assumption) ?_
    rotate_left; (intro w hSw; (try dsimp only at hSw); go_simp); (try with_reducible rfl); (simp only [Act.put, List.setIfInBounds_toArray, List.set_cons_zero, List.set_cons_succ])
    refine held_on (i := 32) (N := (some 58)) (v := ?_) #[true, true, true, true, true, true, true, true, true, true, true, true, true, true, true, true, true, true, true, true, true, true, true, true, true, true, true, true, true, true, true, false, true, false, false, false, false, false, false, false, false, false, false, false, false, false, false] rfl rfl (by kernel_rfl) (fun _ _ _ h => h) (by rfl) ?_ (by assumption) ?_
    rotate_left; (intro w hSw; (try dsimp only at hSw); go_simp); (try with_reducible rfl); (simp only [Act.put, List.setIfInBounds_toArray, List.set_cons_zero, List.set_cons_succ])
    refine held_on (i := 33) (N := (some 59)) (v := ?_) #[true, true, true, true, true, true, true, true, true, true, true, true, true, true, true, true, true, true, true, true, true, true, true, true, true, true, true, true, true, true, true, false, true, true, false, false, false, false, false, false, false, false, false, false, false, false, false] rfl rfl (by kernel_rfl) (fun _ _ _ h => h) (by rfl) ?_ (by assumption) ?_
    rotate_left; (intro w hSw; (try dsimp only at hSw); go_simp); (try with_reducible rfl); (simp only [Act.put, List.setIfInBounds_toArray, List.set_cons_zero, List.set_cons_succ])
    refine held_run (i := 31) #[true, true, true, true, true, true, true, true, true, true, true, true, true, true, true, true, true, true, true, true, true, true, true, true, true, true, true, true, true, true, true, true, true, true, false, false, false, false, false, false, false, false, false, false, false, false, false] rfl (by kernel_rfl) (by rfl) (fun K hK => ?_)
    go_simp
    refine (HE1.out _).mono ?_; rintro x w4 ⟨rfl, hb⟩
    refine hK.out _ _ (keepS11 (Keep.call (Hid.out hHeld.1) hb)) (fun hHeld => ?_); clear hK K; (try simp only [Act.put, List.setIfInBounds_toArray, List.set_cons_zero, List.set_cons_succ])
    refine held_run (i := 34) #[true, true, true, true, true, true, true, true, true, true, true, true, true, true, true, true, true, true, true, true, true, true, true, true, true, true, true, true, true, true, true, true, true, true, true, false, false, false, false, false, false, false, false, false, false, false, false] rfl (by kernel_rfl) (by rfl) (fun K hK => ?_)
    go_simp
    refine (HE2.out _).mono ?_; rintro x w4 ⟨rfl, hb⟩
    refine hK.out _ _ (keepS11 (Keep.call (Hid.out hHeld.1) hb)) (fun hHeld => ?_); clear hK K; (try simp only [Act.put, List.setIfInBounds_toArray, List.set_cons_zero, List.set_cons_succ])
    refine held_on (i := 35) (N := (some 61)) (v := ?_) #[true, true, true, true, true, true, true, true, true, true, true, true, true, true, true, true, true, true, true, true, true, true, true, true, true, true, true, true, true, true, true, true, true, true, true, true, false, false, false, false, false, false, false, false, false, false, false] rfl rfl (by kernel_rfl) (fun _ _ _ h => h) (by rfl) ?_ (by assumption) ?_
    rotate_left; (intro w hSw; (try dsimp only at hSw); go_simp); (try with_reducible rfl); (simp only [Act.put, List.setIfInBounds_toArray, List.set_cons_zero, List.set_cons_succ])
    refine held_on (i := 36) (N := (some 62)) (v := ?_) #[true, true, true, true, true, true, true, true, true, true, true, true, true, true, true, true, true, true, true, true, true, true, true, true, true, true, true, true, true, true, true, true, true, true, true, true, true, false, false, false, false, false, false, false, false, false, false] rfl rfl (by kernel_rfl) (fun _ _ _ h => h) (by rfl) ?_ (by assumption) ?_
    rotate_left; (intro w hSw; (try dsimp only at hSw); go_simp); (try with_reducible rfl); (simp only [Act.put, List.setIfInBounds_toArray, List.set_cons_zero, List.set_cons_succ])
    refine held_on (i := 37) (N := (some 63)) (v := ?_) #[true, true, true, true, true, true, true, true, true, true, true, true, true, true, true, true, true, true, true, true, true, true, true, true, true, true, true, true, true, true, true, true, true, true, true, true, true, true, false, false, false, false, false, false, false, false, false] rfl rfl (by kernel_rfl) (fun _ _ _ h => h) (by rfl) ?_ (by assumption) ?_
    rotate_left; (intro w hSw; (try dsimp only at hSw); go_simp); (try with_reducible rfl); (simp only [Act.put, List.setIfInBounds_toArray, List.set_cons_zero, List.set_cons_succ])
    refine held_on (i := 38) (N := (some 64)) (v := ?_) #[true, true, true, true, true, true, true, true, true, true, true, true, true, true, true, true, true, true, true, true, true, true, true, true, true, true, true, true, true, true, true, true, true, true, true, true, true, true, true, false, false, false, false, false, false, false, false] rfl rfl (by kernel_rfl) (fun _ _ _ h => h) (by rfl) ?_ (by assumption) ?_
    rotate_left; (intro w hSw; (try dsimp only at hSw); go_simp); (try with_reducible rfl); (simp only [Act.put, List.setIfInBounds_toArray, List.set_cons_zero, List.set_cons_succ])
    refine held_on (i := 39) (N := (some 65)) (v := ?_) #[true, true, true, true, true, true, true, true, true, true, true, true, true, true, true, true, true, true, true, true, true, true, true, true, true, true, true, true, true, true, true, true, true, true, true, true, true, true, true, true, false, false, false, false, false, false, false] rfl rfl (by kernel_rfl) (fun _ _ _ h => h) (by rfl) ?_ (by assumption) ?_
    rotate_left; (intro w hSw; (try dsimp only at hSw); go_simp); (try with_reducible rfl); (simp only [Act.put, List.setIfInBounds_toArray, List.set_cons_zero, List.set_cons_succ])
    refine held_on (i := 41) (N := (some 67)) (v := ?_) #[true, true, true, true, true, true, true, true, true, true, true, true, true, true, true, true, true, true, true, true, true, true, true, true, true, true, true, true, true, true, true, true, true, true, true, true, true, true, true, true, false, true, false, false, false, false, false] rfl rfl (by kernel_rfl) (fun _ _ _ h => h) (by rfl) ?_ (by assumption) ?_
    rotate_left; (intro w hSw; (try dsimp only at hSw); go_simp); (try with_reducible rfl); (simp only [Act.put, List.setIfInBounds_toArray, List.set_cons_zero, List.set_cons_succ])
    refine held_on (i := 42) (N := (some 68)) (v := ?_) #[true, true, true, true, true, true, true, true, true, true, true, true, true, true, true, true, true, true, true, true, true, true, true, true, true, true, true, true, true, true, true, true, true, true, true, true, true, true, true, true, false, true, true, false, false, false, false] rfl rfl (by kernel_rfl) (fun _ _ _ h => h) (by rfl) ?_ (by assumption) ?_
    rotate_left; (intro w hSw; (try dsimp only at hSw); go_simp); (try with_reducible rfl); (simp only [Act.put, List.setIfInBounds_toArray, List.set_cons_zero, List.set_cons_succ])
    refine held_run (i := 40) #[true, true, true, true, true, true, true, true, true, true, true, true, true, true, true, true, true, true, true, true, true, true, true, true, true, true, true, true, true, true, true, true, true, true, true, true, true, true, true, true, true, true, true, false, false, false, false] rfl (by kernel_rfl) (by rfl) (fun K hK => ?_)
    go_simp
    refine (HC1.out _).mono ?_; rintro x w4 ⟨rfl, hb⟩
    refine hK.out _ _ (keepS11 (Keep.call (Hid.out hHeld.1) hb)) (fun hHeld => ?_); clear hK K; (try simp only [Act.put, List.setIfInBounds_toArray, List.set_cons_zero, List.set_cons_succ])
    refine held_run (i := 43) #[true, true, true, true, true, true, true, true, true, true, true, true, true, true, true, true, true, true, true, true, true, true, true, true, true, true, true, true, true, true, true, true, true, true, true, true, true, true, true, true, true, true, true, true, false, false, false] rfl (by kernel_rfl) (by rfl) (fun K hK => ?_)
    go_simp
    refine (HC2.out _).mono ?_; rintro x w4 ⟨rfl, hb⟩
    refine hK.out _ _ (keepS11 (Keep.call (Hid.out hHeld.1) hb)) (fun hHeld => ?_); clear hK K; (try simp only [Act.put, List.setIfInBounds_toArray, List.set_cons_zero, List.set_cons_succ])
    refine held_on (i := 44) (N := (some 70)) (v := ?_) #[true, true, true, true, true, true, true, true, true, true, true, true, true, true, true, true, true, true, true, true, true, true, true, true, true, true, true, true, true, true, true, true, true, true, true, true, true, true, true, true, true, true, true, true, true, false, false] rfl rfl (by kernel_rfl) (fun _ _ _ h => h) (by rfl) ?_ (by assumption) ?_
    rotate_left; (intro w hSw; (try dsimp only at hSw); go_simp); (try with_reducible rfl); (simp only [Act.put, List.setIfInBounds_toArray, List.set_cons_zero, List.set_cons_succ])
    refine held_on (i := 45) (N := (some 71)) (v := ?_) #[true, true, true, true, true, true, true, true, true, true, true, true, true, true, true, true, true, true, true, true, true, true, true, true, true, true, true, true, true, true, true, true, true, true, true, true, true, true, true, true, true, true, true, true, true, true, false] rfl rfl (by kernel_rfl) (fun _ _ _ h => h) (by rfl) ?_ (by assumption) ?_
    rotate_left; (intro w hSw; (try dsimp only at hSw); go_simp); (try with_reducible rfl); (simp only [Act.put, List.setIfInBounds_toArray, List.set_cons_zero, List.set_cons_succ])
    refine held_on (i := 46) (N := (some 6)) (v := ?_) #[true, true, true, true, true, true, true, true, true, true, true, true, true, true, true, true, true, true, true, true, true, true, true, true, true, true, true, true, true, true, true, true, true, true, true, true, true, true, true, true, true, true, true, true, true, true, true] rfl rfl (by kernel_rfl) (fun _ _ _ h => h) (by rfl) ?_ (by assumption) ?_
    rotate_left; (intro w hSw; (try dsimp only at hSw); go_simp); (try with_reducible rfl); (simp only [Act.put, List.setIfInBounds_toArray, List.set_cons_zero, List.set_cons_succ])
    refine held_done (by kernel_rfl) ?_
    have X0 := Lib.hid (Hid.out hHeld.1).2
    clear hHeld
    show Exit.then _ _ _ _ _
    go_wp2_with fail
    go_ret
    exact ⟨by first | rfl | simp, X0.out⟩
end Go.Proofs.Ytcciejglemfebaa
