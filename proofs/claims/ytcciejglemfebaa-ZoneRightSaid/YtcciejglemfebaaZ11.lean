/- Package zone's Survives, and the document's, each by a contract: the same. -/
import Derived.Test.YtcciejglemfebaaZ10
import Derived.Test.YtcciejglemfebaaZ3
import Derived.Test.YtcciejglemfebaaM1
import Derived.IntWalk
namespace Go.Proofs.Ytcciejglemfebaa
set_option linter.unusedSimpArgs false
open Go.RowKit

/-- Whether, and where, as a result. -/
def valS (p : Bool × Int) : Value := .tuple #[.bool p.1, .int .i64 p.2]

set_option maxRecDepth 100000 in
set_option maxHeartbeats 6400000 in
theorem surv_calls (A : Option Addr) (C : Nat) (regs : List Int) (v wi l e c what : Int) (w : World) (hl : regs.length ≤ 9223372036854775807) (h : Ints w w.heap.size A regs) :
    Calls Try.prog 55 #[.slice A regs.length C, .agg (cells v wi l e c), .int .i64 what] w fun x w' => x = .returned (valS (survP regs ⟨v, wi, l, e, c⟩ what)) ∧ Below w.heap.size w w' := by
  have K0 : Hid (Keep w w.heap.size 33 (cells v wi l e c) (w.alloc (.cells (cells v wi l e c) 33))) := Keep.new _ _ _
  have HIN := Lib.hid h
  have HM := Lib.hid (mayregs_calls A C regs w.heap.size (w.alloc (.cells (cells v wi l e c) 33)) hl (h.below ((Below.refl _ _).alloc (Nat.le_refl _) _)))
  have HSA : Hid (∀ (g : Int) (w : World), U g → Calls Try.prog 80 #[.agg (cells v wi l e c), .int .u16 g] w fun x w' => x = .returned (.bool (standsC ⟨v, wi, l, e, c⟩ g)) ∧ Below w.heap.size w w') := fun g w _ => stands_calls v wi l e c g w
  have HWA : Hid (∀ (g i : Int) (w : World), U g → Calls Try.prog 81 #[.int .u16 g, .int .i64 i] w fun x w' => x = .returned (.int .u16 (union g (one i))) ∧ w = w') := fun g i w _ => with_calls g i w
  clear h
  cases hM : mayRegsB regs with
  | false =>
    have HF : Hid (survP regs ⟨v, wi, l, e, c⟩ what = (false, -1)) := by show _ = _; unfold survP; rw [if_pos hM]
    rw [hM] at HM
    clear hM
    go_enter Try.func55, Try.ntmps55
    go_wp2_with fail
    ((with_reducible refine HM.out.mono ?_); rintro x w' ⟨rfl, rfl⟩)
    go_wp2_with fail
    go_ret2
    rw [HF.out]
    exact ⟨rfl, K0.out.2⟩
  | true =>
    have hlen := (mayregs_len hM).2
    have HSP : Hid (survP regs ⟨v, wi, l, e, c⟩ what = if what = 1 then survN regs ⟨v, wi, l, e, c⟩ else if what = 2 then survR regs ⟨v, wi, l, e, c⟩ else if what = 0 then (true, -1) else (false, -1)) := by
      show _ = _
      unfold survP
      rw [if_neg (by rw [hM]; simp)]
    rw [hM] at HM
    clear hM
    by_cases h1 : what = 1
    · obtain rfl : (1 : Int) = what := h1.symm
      have HSP1 : Hid (survP regs ⟨v, wi, l, e, c⟩ 1 = survN regs ⟨v, wi, l, e, c⟩) := by show _ = _; rw [HSP.out, if_pos rfl]
      clear h1 HSP
      go_enter Try.func55, Try.ntmps55
      go_wp2_with fail
      ((with_reducible refine HM.out.mono ?_); rintro x w' ⟨rfl, rfl⟩)
      go_wp2_with fail
      generalize w.alloc (.cells (cells v wi l e c) 33) = w1 at *
      go_loopw [22] (fun i wr => ∃ k : Nat, k ≤ regs.length ∧ i = .int .i64 (k : Int) ∧ Hid (firstBad (fun i => standsC ⟨v, wi, l, e, c⟩ (union 0 (one ((i : Int) + 1)))) (regs.length - k) k = firstBad (fun i => standsC ⟨v, wi, l, e, c⟩ (union 0 (one ((i : Int) + 1)))) regs.length 0) ∧ Hid (Keep w w.heap.size 33 (cells v wi l e c) wr)) (fun i _ => regs.length - (intOf i).toNat)
      case atStart => exact ⟨0, by omega, rfl, rfl, K0⟩
      case round =>
        clear K0
        obtain ⟨k, hk, rfl, HR, HK⟩ := hrel
        obtain ⟨_, c0, c1, c2, c3, c4⟩ := keepS5 HK.out
        by_cases hlt : k < regs.length
        · have HW := Lib.hid fun w => HWA.out 0 ((k : Int) + 1) w ⟨by decide, by decide⟩
          have HS := Lib.hid fun w => HSA.out (union 0 (one ((k : Int) + 1))) w (bits_u _ _ _)
          have HON := Lib.hid fun hh => firstBad_on (f := fun i => standsC ⟨v, wi, l, e, c⟩ (union 0 (one ((i : Int) + 1)))) (m := regs.length - k - 1) (k := k) hh
          have HOFF := Lib.hid fun hh => firstBad_off (f := fun i => standsC ⟨v, wi, l, e, c⟩ (union 0 (one ((i : Int) + 1)))) (m := regs.length - k - 1) (k := k) hh
          have hkI : (k : Int) + 1 ≤ (regs.length : Int) := by omega
          cases hb0 : standsC ⟨v, wi, l, e, c⟩ (union 0 (one ((k : Int) + 1))) with
          | true =>
            have HN : Hid (firstBad (fun i => standsC ⟨v, wi, l, e, c⟩ (union 0 (one ((i : Int) + 1)))) (regs.length - (k + 1)) (k + 1) = firstBad (fun i => standsC ⟨v, wi, l, e, c⟩ (union 0 (one ((i : Int) + 1)))) regs.length 0) := by
              show _ = _
              rw [← HR.out, show regs.length - k = (regs.length - k - 1) + 1 from by omega, HON.out hb0, show regs.length - (k + 1) = regs.length - k - 1 from by omega]
            rw [hb0] at HS
            clear HR HON HOFF hb0
            generalize union 0 (one ((k : Int) + 1)) = g at HW HS
            have hwr : IntKind.i64.wrap ((k : Int) + 1) = (k : Int) + 1 := IntWalk.i64_in _ (by omega)
            go_wp2_with fail
            refine held_start (n := 6) (S := fun w' => (Hid (Keep w w.heap.size 33 #[.int .u16 v, .int .u16 wi, .int .u16 l, .int .i64 e, .int .i64 c] w') ∧ w'.cell? ⟨w.heap.size, 0, none⟩ = some (.int .u16 v) ∧ w'.cell? ⟨w.heap.size, 1, none⟩ = some (.int .u16 wi) ∧ w'.cell? ⟨w.heap.size, 2, none⟩ = some (.int .u16 l) ∧ w'.cell? ⟨w.heap.size, 3, none⟩ = some (.int .i64 e) ∧ w'.cell? ⟨w.heap.size, 4, none⟩ = some (.int .i64 c))) #[false, false, false, false, false, false] (by kernel_rfl) rfl rfl (keepS5 (Keep.drew (Hid.out HK))) (fun hHeld => ?_)
            refine held_on (i := 0) (N := (some 25)) (v := ?_) #[true, false, false, false, false, false] rfl rfl (by kernel_rfl) (fun _ _ _ h => h) (by rfl) ?_ (by assumption) ?_
            rotate_left; (intro w hSw; (try dsimp only at hSw); go_simp); (try with_reducible rfl); (simp only [Act.put, List.setIfInBounds_toArray, List.set_cons_zero, List.set_cons_succ])
            refine held_on (i := 1) (N := (some 26)) (v := ?_) #[true, true, false, false, false, false] rfl rfl (by kernel_rfl) (fun _ _ _ h => h) (by rfl) ?_ (by assumption) ?_
            rotate_left; (intro w hSw; (try dsimp only at hSw); go_simp); (try with_reducible rfl); (simp only [Act.put, List.setIfInBounds_toArray, List.set_cons_zero, List.set_cons_succ])
            refine held_on (i := 2) (N := (some 27)) (v := ?_) #[true, true, true, false, false, false] rfl rfl (by kernel_rfl) (fun _ _ _ h => h) (by rfl) ?_ (by assumption) ?_
            rotate_left; (intro w hSw; (try dsimp only at hSw); go_simp); (try with_reducible rfl); (simp only [Act.put, List.setIfInBounds_toArray, List.set_cons_zero, List.set_cons_succ])
            refine held_run (i := 3) #[true, true, true, true, false, false] rfl (by kernel_rfl) (by rfl) (fun K hK => ?_)
            go_simp
            ((with_reducible refine (HW.out _).mono ?_); rintro x w4 ⟨rfl, rfl⟩)
            refine hK.out _ _ hHeld (fun hHeld => ?_); clear hK K; (try simp only [Act.put, List.setIfInBounds_toArray, List.set_cons_zero, List.set_cons_succ])
            refine held_run (i := 4) #[true, true, true, true, true, false] rfl (by kernel_rfl) (by rfl) (fun K hK => ?_)
            go_simp
            ((with_reducible refine (HS.out _).mono ?_); rintro x w4 ⟨rfl, hb⟩)
            refine hK.out _ _ (keepS5 (Keep.call (Hid.out hHeld.1) hb)) (fun hHeld => ?_); clear hK K; (try simp only [Act.put, List.setIfInBounds_toArray, List.set_cons_zero, List.set_cons_succ])
            refine held_on (i := 5) (N := (some 30)) (v := ?_) #[true, true, true, true, true, true] rfl rfl (by kernel_rfl) (fun _ _ _ h => h) (by rfl) ?_ (by assumption) ?_
            rotate_left; (intro w hSw; (try dsimp only at hSw); go_simp); (try with_reducible rfl); (simp only [Act.put, List.setIfInBounds_toArray, List.set_cons_zero, List.set_cons_succ])
            refine held_done (by kernel_rfl) ?_
            show Exit.then _ _ _ _ _
            have HK2 := hHeld.1
            clear hwr
            clear hHeld HK c0 c1 c2 c3 c4
            go_wp2_with fail
            go_roundw
            case rel => exact ⟨k + 1, by omega, by go_num, HN, HK2⟩
            case measure => simp [intOf]; omega
          | false =>
            have HF : Hid (survP regs ⟨v, wi, l, e, c⟩ 1 = (false, (k : Int) + 1)) := by
              show _ = _
              rw [HSP1.out]
              exact survN_some (by rw [← HR.out, show regs.length - k = (regs.length - k - 1) + 1 from by omega, HOFF.out hb0])
            rw [hb0] at HS
            clear HR HON HOFF hb0
            generalize union 0 (one ((k : Int) + 1)) = g at HW HS
            have hwr : IntKind.i64.wrap ((k : Int) + 1) = (k : Int) + 1 := IntWalk.i64_in _ (by omega)
            go_wp2_with fail
            refine held_start (n := 6) (S := fun w' => (Hid (Keep w w.heap.size 33 #[.int .u16 v, .int .u16 wi, .int .u16 l, .int .i64 e, .int .i64 c] w') ∧ w'.cell? ⟨w.heap.size, 0, none⟩ = some (.int .u16 v) ∧ w'.cell? ⟨w.heap.size, 1, none⟩ = some (.int .u16 wi) ∧ w'.cell? ⟨w.heap.size, 2, none⟩ = some (.int .u16 l) ∧ w'.cell? ⟨w.heap.size, 3, none⟩ = some (.int .i64 e) ∧ w'.cell? ⟨w.heap.size, 4, none⟩ = some (.int .i64 c))) #[false, false, false, false, false, false] (by kernel_rfl) rfl rfl (keepS5 (Keep.drew (Hid.out HK))) (fun hHeld => ?_)
            refine held_on (i := 0) (N := (some 25)) (v := ?_) #[true, false, false, false, false, false] rfl rfl (by kernel_rfl) (fun _ _ _ h => h) (by rfl) ?_ (by assumption) ?_
            rotate_left; (intro w hSw; (try dsimp only at hSw); go_simp); (try with_reducible rfl); (simp only [Act.put, List.setIfInBounds_toArray, List.set_cons_zero, List.set_cons_succ])
            refine held_on (i := 1) (N := (some 26)) (v := ?_) #[true, true, false, false, false, false] rfl rfl (by kernel_rfl) (fun _ _ _ h => h) (by rfl) ?_ (by assumption) ?_
            rotate_left; (intro w hSw; (try dsimp only at hSw); go_simp); (try with_reducible rfl); (simp only [Act.put, List.setIfInBounds_toArray, List.set_cons_zero, List.set_cons_succ])
            refine held_on (i := 2) (N := (some 27)) (v := ?_) #[true, true, true, false, false, false] rfl rfl (by kernel_rfl) (fun _ _ _ h => h) (by rfl) ?_ (by assumption) ?_
            rotate_left; (intro w hSw; (try dsimp only at hSw); go_simp); (try with_reducible rfl); (simp only [Act.put, List.setIfInBounds_toArray, List.set_cons_zero, List.set_cons_succ])
            refine held_run (i := 3) #[true, true, true, true, false, false] rfl (by kernel_rfl) (by rfl) (fun K hK => ?_)
            go_simp
            ((with_reducible refine (HW.out _).mono ?_); rintro x w4 ⟨rfl, rfl⟩)
            refine hK.out _ _ hHeld (fun hHeld => ?_); clear hK K; (try simp only [Act.put, List.setIfInBounds_toArray, List.set_cons_zero, List.set_cons_succ])
            refine held_run (i := 4) #[true, true, true, true, true, false] rfl (by kernel_rfl) (by rfl) (fun K hK => ?_)
            go_simp
            ((with_reducible refine (HS.out _).mono ?_); rintro x w4 ⟨rfl, hb⟩)
            refine hK.out _ _ (keepS5 (Keep.call (Hid.out hHeld.1) hb)) (fun hHeld => ?_); clear hK K; (try simp only [Act.put, List.setIfInBounds_toArray, List.set_cons_zero, List.set_cons_succ])
            refine held_on (i := 5) (N := (some 30)) (v := ?_) #[true, true, true, true, true, true] rfl rfl (by kernel_rfl) (fun _ _ _ h => h) (by rfl) ?_ (by assumption) ?_
            rotate_left; (intro w hSw; (try dsimp only at hSw); go_simp); (try with_reducible rfl); (simp only [Act.put, List.setIfInBounds_toArray, List.set_cons_zero, List.set_cons_succ])
            refine held_done (by kernel_rfl) ?_
            show Exit.then _ _ _ _ _
            have HK2 := hHeld.1
            clear hwr
            clear hHeld HK c0 c1 c2 c3 c4
            go_wp2_with fail
            go_ret2
            rw [HF.out]
            exact ⟨rfl, HK2.out.2⟩
        · have HF : Hid (survP regs ⟨v, wi, l, e, c⟩ 1 = (true, -1)) := by
            show _ = _
            rw [HSP1.out]
            exact survN_none (by rw [← HR.out, show regs.length - k = 0 from by omega]; rfl)
          have hkI : (regs.length : Int) < (k : Int) + 1 := by omega
          clear HR
          go_wp2_with fail
          go_ret2
          rw [HF.out]
          exact ⟨rfl, HK.out.2⟩
    · have h1' : (what == 1) = false := by simpa using h1
      by_cases h2 : what = 2
      · obtain rfl : (2 : Int) = what := h2.symm
        have HSP1 : Hid (survP regs ⟨v, wi, l, e, c⟩ 2 = survR regs ⟨v, wi, l, e, c⟩) := by show _ = _; rw [HSP.out, if_neg (by decide), if_pos rfl]
        clear h1 h1' h2 HSP
        go_enter Try.func55, Try.ntmps55
        go_wp2_with fail
        ((with_reducible refine HM.out.mono ?_); rintro x w' ⟨rfl, rfl⟩)
        go_wp2_with fail
        generalize w.alloc (.cells (cells v wi l e c) 33) = w1 at *
        go_loopw [37] (fun i wr => ∃ r : Nat, r ≤ 4 ∧ i = .int .i64 (r : Int) ∧ Hid (firstBad (fun r => standsC ⟨v, wi, l, e, c⟩ (goneGo regs (r : Int) regs.length)) (4 - r) r = firstBad (fun r => standsC ⟨v, wi, l, e, c⟩ (goneGo regs (r : Int) regs.length)) 4 0) ∧ Hid (Keep w w.heap.size 33 (cells v wi l e c) wr)) (fun i _ => 4 - (intOf i).toNat)
        case atStart => exact ⟨0, by omega, rfl, rfl, K0⟩
        case round =>
          clear K0
          obtain ⟨r, hr, rfl, HR, HK⟩ := hrel
          obtain ⟨_, c0, c1, c2, c3, c4⟩ := keepS5 HK.out
          by_cases hlt : r < 4
          · have HI := Lib.hid (HIN.out.below HK.out.2)
            have HON := Lib.hid fun hh => firstBad_on (f := fun r => standsC ⟨v, wi, l, e, c⟩ (goneGo regs (r : Int) regs.length)) (m := 3 - r) (k := r) hh
            have HOFF := Lib.hid fun hh => firstBad_off (f := fun r => standsC ⟨v, wi, l, e, c⟩ (goneGo regs (r : Int) regs.length)) (m := 3 - r) (k := r) hh
            have hr4 : decide ((r : Int) < 4) = true := by simp; omega
            go_wp2_with fail
            go_loop [10, 42] (fun g j => ∃ (k : Nat) (x : Int), k ≤ regs.length ∧ j = .int .i64 (k : Int) ∧ g = .int .u16 x ∧ Hid (x = goneGo regs (r : Int) k)) (fun _ j => regs.length - (intOf j).toNat)
            case atStart => exact ⟨0, 0, by omega, rfl, rfl, rfl⟩
            case round =>
              obtain ⟨k, x, hk, rfl, rfl, HX⟩ := hrel
              by_cases hkl : k < regs.length
              · obtain ⟨b, o, rfl, hb, hc⟩ := HI.out.at_ hkl
                have HXU : Hid (U x) := by show U x; rw [HX.out]; exact goneGo_u _ _ _
                have hkI : (k : Int) + 1 ≤ (regs.length : Int) := by omega
                obtain ⟨n, hn⟩ : ∃ n, regs.getD k 0 = n := ⟨_, rfl⟩
                rw [hn] at hc
                have HNV := Lib.hid hn
                clear hn hb
                by_cases hnr : n = (r : Int)
                · have HN : Hid (union x (one ((k : Int) + 1)) = goneGo regs (r : Int) (k + 1)) := by show _ = _; rw [goneGo_on (HNV.out.trans hnr), HX.out]
                  have HW := Lib.hid (HWA.out x ((k : Int) + 1) wr HXU.out)
                  obtain rfl : (r : Int) = n := hnr.symm
                  generalize union x (one ((k : Int) + 1)) = y at *
                  clear hnr HX HXU
                  go_wp2_with fail
                  ((with_reducible refine HW.out.mono ?_); rintro x w4 ⟨rfl, rfl⟩)
                  go_wp2_with fail
                  go_round
                  case rel => exact ⟨k + 1, y, by omega, by go_num, rfl, HN⟩
                  case measure => simp [intOf]; omega
                · have HN : Hid (x = goneGo regs (r : Int) (k + 1)) := by show _ = _; rw [goneGo_off (by rw [HNV.out]; exact hnr)]; exact HX.out
                  have hnr' : (n == (r : Int)) = false := by simpa using hnr
                  clear hnr HX HXU
                  go_wp2_with fail
                  go_round
                  case rel => exact ⟨k + 1, x, by omega, by go_num, rfl, HN⟩
                  case measure => simp [intOf]; omega
              · have HXE : Hid (x = goneGo regs (r : Int) regs.length) := by show _ = _; rw [HX.out, show k = regs.length from by omega]
                have hkI : (regs.length : Int) < (k : Int) + 1 := by omega
                have HXU : Hid (U x) := by show U x; rw [HX.out]; exact goneGo_u _ _ _
                have HS := Lib.hid fun w => HSA.out x w HXU.out
                clear HX HXU hk hkl
                cases hb0 : standsC ⟨v, wi, l, e, c⟩ x with
                | true =>
                  have HN : Hid (firstBad (fun r => standsC ⟨v, wi, l, e, c⟩ (goneGo regs (r : Int) regs.length)) (4 - (r + 1)) (r + 1) = firstBad (fun r => standsC ⟨v, wi, l, e, c⟩ (goneGo regs (r : Int) regs.length)) 4 0) := by
                    show _ = _
                    rw [← HR.out, show 4 - r = (3 - r) + 1 from by omega, HON.out (by rw [← HXE.out]; exact hb0), show 4 - (r + 1) = 3 - r from by omega]
                  rw [hb0] at HS
                  clear HR HON HOFF hb0 HXE
                  go_wp2_with fail
                  ((with_reducible refine (HS.out _).mono ?_); rintro x w4 ⟨rfl, hb⟩)
                  have HK2 := Lib.hid (HK.out.call hb)
                  clear hb HK c0 c1 c2 c3 c4 HI
                  go_wp2_with fail
                  go_roundw
                  case rel => exact ⟨r + 1, by omega, by go_num, HN, HK2⟩
                  case measure => simp [intOf]; omega
                | false =>
                  have HF : Hid (survP regs ⟨v, wi, l, e, c⟩ 2 = (false, (r : Int))) := by
                    show _ = _
                    rw [HSP1.out]
                    exact survR_some (by rw [← HR.out, show 4 - r = (3 - r) + 1 from by omega, HOFF.out (by rw [← HXE.out]; exact hb0)])
                  rw [hb0] at HS
                  clear HR HON HOFF hb0 HXE
                  go_wp2_with fail
                  ((with_reducible refine (HS.out _).mono ?_); rintro x w4 ⟨rfl, hb⟩)
                  have HK2 := Lib.hid (HK.out.call hb)
                  clear hb HK c0 c1 c2 c3 c4 HI
                  go_wp2_with fail
                  go_ret2
                  rw [HF.out]
                  exact ⟨rfl, HK2.out.2⟩
          · have HF : Hid (survP regs ⟨v, wi, l, e, c⟩ 2 = (true, -1)) := by
              show _ = _
              rw [HSP1.out]
              exact survR_none (by rw [← HR.out, show 4 - r = 0 from by omega]; rfl)
            clear HR
            go_wp2_with fail
            go_ret2
            rw [HF.out]
            exact ⟨rfl, HK.out.2⟩
      · have h2' : (what == 2) = false := by simpa using h2
        by_cases h0 : what = 0
        · obtain rfl : (0 : Int) = what := h0.symm
          have HF : Hid (survP regs ⟨v, wi, l, e, c⟩ 0 = (true, -1)) := by show _ = _; rw [HSP.out, if_neg (by decide), if_neg (by decide), if_pos rfl]
          clear h0 h1 h2 h1' h2' HSP
          go_enter Try.func55, Try.ntmps55
          go_wp2_with fail
          ((with_reducible refine HM.out.mono ?_); rintro x w' ⟨rfl, rfl⟩)
          go_wp2_with fail
          go_ret2
          rw [HF.out]
          exact ⟨rfl, K0.out.2⟩
        · have HF : Hid (survP regs ⟨v, wi, l, e, c⟩ what = (false, -1)) := by show _ = _; rw [HSP.out, if_neg h1, if_neg h2, if_neg h0]
          have h0' : (what == 0) = false := by simpa using h0
          clear h0 h1 h2 HSP
          go_enter Try.func55, Try.ntmps55
          go_wp2_with fail
          ((with_reducible refine HM.out.mono ?_); rintro x w' ⟨rfl, rfl⟩)
          go_wp2_with fail
          go_ret2
          rw [HF.out]
          exact ⟨rfl, K0.out.2⟩

end Go.Proofs.Ytcciejglemfebaa
