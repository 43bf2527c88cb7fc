/- Whether a configuration goes on without some nodes: package zone's stands, and the document's without, each by a contract. -/
import Derived.Test.YtcciejglemfebaaZ9
import Derived.Test.YtcciejglemfebaaR5
import Derived.Test.YtcciejglemfebaaM5
namespace Go.Proofs.Ytcciejglemfebaa
open Go.RowKit

set_option maxHeartbeats 1600000 in
theorem stands_calls (v wi l e c gone : Int) (w : World) :
    Calls Try.prog 80 #[.agg (cells v wi l e c), .int .u16 gone] w fun x w' => x = .returned (.bool (standsC ⟨v, wi, l, e, c⟩ gone)) ∧ Below w.heap.size w w' := by
  have HL := Lib.hid fun w => count_calls (diff (union v wi) gone) w
  have HV := Lib.hid fun w => count_calls (diff v gone) w
  have l0 := cnt_nonneg (diff (union v wi) gone)
  have l9 := cnt_le (diff (union v wi) gone)
  have v0 := cnt_nonneg (diff v gone)
  have v9 := cnt_le (diff v gone)
  show Calls _ _ _ _ fun x w' => x = .returned (.bool (decide (e ≤ cnt (diff (union v wi) gone)) && decide (c ≤ cnt (diff (union v wi) gone)) && decide (0 < cnt (diff v gone)))) ∧ _
  generalize cnt (diff (union v wi) gone) = L at *
  generalize cnt (diff v gone) = V at *
  by_cases h1 : e ≤ L
  · by_cases h2 : c ≤ L
    · go_enter Try.func80, Try.ntmps80
      go_wp2_with fail
      ((with_reducible refine (HL.out _).mono ?_); rintro x w' ⟨rfl, m, rfl⟩)
      go_wp2_with fail
      ((with_reducible refine (HV.out _).mono ?_); rintro x w' ⟨rfl, m', rfl⟩)
      go_wp2_with fail
      go_ret
      exact ⟨ret_bool (by simp [h1, h2]), below_drewN ((Below.refl _ _).alloc (Nat.le_refl _) _) _⟩
    · go_enter Try.func80, Try.ntmps80
      go_wp2_with fail
      ((with_reducible refine (HL.out _).mono ?_); rintro x w' ⟨rfl, m, rfl⟩)
      go_wp2_with fail
      go_ret
      exact ⟨ret_bool (by rw [decide_eq_false (show ¬ c ≤ L by omega)]; simp), below_drewN ((Below.refl _ _).alloc (Nat.le_refl _) _) _⟩
  · go_enter Try.func80, Try.ntmps80
    go_wp2_with fail
    ((with_reducible refine (HL.out _).mono ?_); rintro x w' ⟨rfl, m, rfl⟩)
    go_wp2_with fail
    go_ret
    exact ⟨ret_bool (by rw [decide_eq_false (show ¬ e ≤ L by omega)]; simp), below_drewN ((Below.refl _ _).alloc (Nat.le_refl _) _) _⟩

set_option maxHeartbeats 3200000 in
theorem without_calls (v wi l e c gone : Int) (w : World) (hv : U v) (hw : U wi) (hg : U gone) :
    Calls Try.prog 82 #[.agg (cells v wi l e c), .int .u16 gone] w fun x w' => x = .returned (.bool (standsC ⟨v, wi, l, e, c⟩ gone)) ∧ Below w.heap.size w w' := by
  have HG := Lib.hid fun i w => rhas_calls gone i w hg
  have HV := Lib.hid fun i w => rhas_calls v i w hv
  have HVO := Lib.hid fun w => rvotes_calls v wi l e c w hv hw
  have HR := Lib.hid fun i w => rhas_calls (votesR ⟨v, wi, l, e, c⟩) i w (votesR_u _)
  have eR : ∀ k : Nat, k ≤ 9 → upTo (votesR ⟨v, wi, l, e, c⟩) gone k = upTo (union v wi) gone k := upTo_msk (union v wi) gone
  have e1 := upTo_cnt v gone
  have e2 : upTo (votesR ⟨v, wi, l, e, c⟩) gone 9 = cnt (diff (union v wi) gone) := (eR 9 (by omega)).trans (upTo_cnt _ _)
  show Calls _ _ _ _ fun x w' => x = .returned (.bool (decide (e ≤ cnt (diff (union v wi) gone)) && decide (c ≤ cnt (diff (union v wi) gone)) && decide (0 < cnt (diff v gone)))) ∧ _
  rw [← e1, ← e2]
  clear e1 e2 eR hv hw hg
  generalize votesR ⟨v, wi, l, e, c⟩ = R at *
  have K0 : Hid (Keep w w.heap.size 33 (cells v wi l e c) (w.alloc (.cells (cells v wi l e c) 33))) := Keep.new _ _ _
  go_enter Try.func82, Try.ntmps82
  go_wp2_with fail
  generalize w.alloc (.cells (cells v wi l e c) 33) = w1 at *
  go_loopw [5, 6, 7] (fun x y i wr => ∃ (k : Nat) (p q : Int), k ≤ 9 ∧ i = .int .i64 ((k : Int) + 1) ∧ x = .int .i64 p ∧ y = .int .i64 q ∧ Hid (p = upTo R gone k) ∧ Hid (q = upTo v gone k) ∧ 0 ≤ p ∧ p ≤ k ∧ 0 ≤ q ∧ q ≤ k ∧ Hid (Keep w w.heap.size 33 (cells v wi l e c) wr)) (fun _ _ i _ => 10 - (intOf i).toNat)
  case atStart => exact ⟨0, 0, 0, by omega, rfl, rfl, rfl, rfl, rfl, by omega, by omega, by omega, by omega, K0⟩
  case round =>
    clear K0
    obtain ⟨k, p, q, hk, rfl, rfl, rfl, HP, HQ, p0, p9, q0, q9, HK⟩ := hrel
    obtain ⟨_, c0, c1, c2, c3, c4⟩ := keepS5 HK.out
    by_cases hlt : k < 9
    · cases hg : hasB gone ((k : Int) + 1) with
      | true =>
        have HP' : Hid (p = upTo R gone (k + 1)) := by show _ = _; rw [upTo_off1 hg]; exact HP.out
        have HQ' : Hid (q = upTo v gone (k + 1)) := by show _ = _; rw [upTo_off1 hg]; exact HQ.out
        have HG1 := Lib.hid (HG.out ((k : Int) + 1) wr)
        rw [hg] at HG1
        clear hg HP HQ
        go_wp2_with fail
        ((with_reducible refine HG1.out.mono ?_); rintro x w' ⟨rfl, rfl⟩)
        go_wp2_with fail
        go_roundw
        case rel => exact ⟨k + 1, p, q, by omega, by go_num, rfl, rfl, HP', HQ', by omega, by omega, by omega, by omega, HK⟩
        case measure => simp [intOf]; omega
      | false =>
        have HG1 := Lib.hid (HG.out ((k : Int) + 1) wr)
        rw [hg] at HG1
        have HV1 := Lib.hid (HV.out ((k : Int) + 1) wr)
        have HR1 := Lib.hid (HR.out ((k : Int) + 1) (wr.alloc (.cells (cells v wi l e c) 33)))
        have HKA := Lib.hid (HK.out.alloc (.cells (cells v wi l e c) 33))
        cases h1 : hasB v ((k : Int) + 1) with
        | true =>
          have HQ' : Hid (q + 1 = upTo v gone (k + 1)) := by show _ = _; rw [upTo_on h1 hg, HQ.out]
          rw [h1] at HV1
          cases h2 : hasB R ((k : Int) + 1) with
          | true =>
            have HP' : Hid (p + 1 = upTo R gone (k + 1)) := by show _ = _; rw [upTo_on h2 hg, HP.out]
            rw [h2] at HR1
            clear hg HP HQ h1 h2
            go_wp2_with fail
            ((with_reducible refine HG1.out.mono ?_); rintro x w' ⟨rfl, rfl⟩)
            go_wp2_with fail
            ((with_reducible refine HV1.out.mono ?_); rintro x w' ⟨rfl, rfl⟩)
            go_wp2_with fail
            ((with_reducible refine (HVO.out _).mono ?_); rintro x w' ⟨rfl, rfl⟩)
            go_wp2_with fail
            ((with_reducible refine HR1.out.mono ?_); rintro x w' ⟨rfl, rfl⟩)
            go_wp2_with fail
            go_roundw
            case rel => exact ⟨k + 1, p + 1, q + 1, by omega, by go_num, rfl, rfl, HP', HQ', by omega, by omega, by omega, by omega, HKA⟩
            case measure => simp [intOf]; omega
          | false =>
            have HP' : Hid (p = upTo R gone (k + 1)) := by show _ = _; rw [upTo_off2 h2, HP.out]
            rw [h2] at HR1
            clear hg HP HQ h1 h2
            go_wp2_with fail
            ((with_reducible refine HG1.out.mono ?_); rintro x w' ⟨rfl, rfl⟩)
            go_wp2_with fail
            ((with_reducible refine HV1.out.mono ?_); rintro x w' ⟨rfl, rfl⟩)
            go_wp2_with fail
            ((with_reducible refine (HVO.out _).mono ?_); rintro x w' ⟨rfl, rfl⟩)
            go_wp2_with fail
            ((with_reducible refine HR1.out.mono ?_); rintro x w' ⟨rfl, rfl⟩)
            go_wp2_with fail
            go_roundw
            case rel => exact ⟨k + 1, p, q + 1, by omega, by go_num, rfl, rfl, HP', HQ', by omega, by omega, by omega, by omega, HKA⟩
            case measure => simp [intOf]; omega
        | false =>
          have HQ' : Hid (q = upTo v gone (k + 1)) := by show _ = _; rw [upTo_off2 h1, HQ.out]
          rw [h1] at HV1
          cases h2 : hasB R ((k : Int) + 1) with
          | true =>
            have HP' : Hid (p + 1 = upTo R gone (k + 1)) := by show _ = _; rw [upTo_on h2 hg, HP.out]
            rw [h2] at HR1
            clear hg HP HQ h1 h2
            go_wp2_with fail
            ((with_reducible refine HG1.out.mono ?_); rintro x w' ⟨rfl, rfl⟩)
            go_wp2_with fail
            ((with_reducible refine HV1.out.mono ?_); rintro x w' ⟨rfl, rfl⟩)
            go_wp2_with fail
            ((with_reducible refine (HVO.out _).mono ?_); rintro x w' ⟨rfl, rfl⟩)
            go_wp2_with fail
            ((with_reducible refine HR1.out.mono ?_); rintro x w' ⟨rfl, rfl⟩)
            go_wp2_with fail
            go_roundw
            case rel => exact ⟨k + 1, p + 1, q, by omega, by go_num, rfl, rfl, HP', HQ', by omega, by omega, by omega, by omega, HKA⟩
            case measure => simp [intOf]; omega
          | false =>
            have HP' : Hid (p = upTo R gone (k + 1)) := by show _ = _; rw [upTo_off2 h2, HP.out]
            rw [h2] at HR1
            clear hg HP HQ h1 h2
            go_wp2_with fail
            ((with_reducible refine HG1.out.mono ?_); rintro x w' ⟨rfl, rfl⟩)
            go_wp2_with fail
            ((with_reducible refine HV1.out.mono ?_); rintro x w' ⟨rfl, rfl⟩)
            go_wp2_with fail
            ((with_reducible refine (HVO.out _).mono ?_); rintro x w' ⟨rfl, rfl⟩)
            go_wp2_with fail
            ((with_reducible refine HR1.out.mono ?_); rintro x w' ⟨rfl, rfl⟩)
            go_wp2_with fail
            go_roundw
            case rel => exact ⟨k + 1, p, q, by omega, by go_num, rfl, rfl, HP', HQ', by omega, by omega, by omega, by omega, HKA⟩
            case measure => simp [intOf]; omega
    · obtain rfl : k = 9 := by omega
      have HP2 : Hid (upTo R gone 9 = p) := HP.out.symm
      have HQ2 : Hid (upTo v gone 9 = q) := HQ.out.symm
      clear HP HQ
      by_cases h1 : e ≤ p
      · by_cases h2 : c ≤ p
        · go_wp2_with fail
          go_ret
          rw [HP2.out, HQ2.out]
          exact ⟨ret_bool (by simp [h1, h2]), HK.out.2⟩
        · go_wp2_with fail
          go_ret
          rw [HP2.out, HQ2.out]
          exact ⟨ret_bool (by rw [decide_eq_false (show ¬ c ≤ p by omega)]; simp), HK.out.2⟩
      · go_wp2_with fail
        go_ret
        rw [HP2.out, HQ2.out]
        exact ⟨ret_bool (by rw [decide_eq_false (show ¬ e ≤ p by omega)]; simp), HK.out.2⟩
end Go.Proofs.Ytcciejglemfebaa
