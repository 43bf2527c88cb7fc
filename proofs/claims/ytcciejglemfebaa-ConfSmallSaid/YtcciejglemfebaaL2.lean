/- antipodelaw10.ConfSmall answers true; memory that was there is as it was. -/
import Derived.Test.YtcciejglemfebaaR4
import Derived.Test.YtcciejglemfebaaC4
import Derived.Test.YtcciejglemfebaaP7
import Derived.Deep.CutBlock
namespace Go.Proofs.Ytcciejglemfebaa
open Go.RowKit

theorem witN_step (j : Nat) (h : 1 ≤ j) : witN (j + 1) = union (witN j) (one ((j : Int) + 1)) := by
  obtain ⟨k, rfl⟩ : ∃ k, j = k + 1 := ⟨j - 1, by omega⟩
  rw [witN]
  congr 2

theorem keep5 {w w' : World} {g : Nat} {t : TypeId} {a b c d e : Value} (h : Keep w g t #[a, b, c, d, e] w') :
    w'.cell? ⟨g, 0, none⟩ = some a ∧ w'.cell? ⟨g, 1, none⟩ = some b ∧ w'.cell? ⟨g, 2, none⟩ = some c ∧ w'.cell? ⟨g, 3, none⟩ = some d ∧ w'.cell? ⟨g, 4, none⟩ = some e :=
  ⟨h.1.cell 0, h.1.cell 1, h.1.cell 2, h.1.cell 3, h.1.cell 4⟩

set_option maxHeartbeats 6400000 in
theorem small_calls (w : World) : Calls Try.prog 4 #[] w fun x w' => x = .returned (.bool true) ∧ Below w.heap.size w w' := by
  have H2 : Hid (U 2) := Lib.hid (show U 2 from ⟨by decide, by decide⟩)
  go_enter Try.func4, Try.ntmps4
  go_wp2_with fail
  refine (begun10 _).mono ?_
  rintro x w0 ⟨rfl, hb0⟩
  go_wp2_with fail
  go_loopw [1] (fun v wr => ∃ n : Nat, 1 ≤ n ∧ n ≤ 4 ∧ v = .int .i64 n ∧ Below w.heap.size w wr) (fun v _ => 5 - (intOf v).toNat)
  case atStart => exact ⟨1, by omega, by omega, rfl, hb0⟩
  case round =>
    obtain ⟨n, hn1, hn4, rfl, hb⟩ := hrel
    by_cases hlt : n ≤ 3
    · have hlt3 : (n : Int) ≤ 3 := by omega
      obtain ⟨wo, rfl⟩ : ∃ wo : World, wo = wr := ⟨_, rfl⟩
      go_wp2
      go_loopw [2] (fun v wr => ∃ e : Int, -1 ≤ e ∧ e ≤ n + 2 ∧ v = .int .i64 e ∧ Below w.heap.size w wr) (fun v _ => (n + 3 - intOf v).toNat)
      case atStart => exact ⟨-1, by omega, by omega, rfl, hb⟩
      case round =>
        obtain ⟨e, he1, he2, rfl, hbe⟩ := hrel
        by_cases hle : e ≤ n + 1
        · obtain ⟨we, rfl⟩ : ∃ we : World, we = wr := ⟨_, rfl⟩
          go_wp2
          go_loopw [3] (fun v wr => ∃ k : Int, -1 ≤ k ∧ k ≤ n + 2 ∧ v = .int .i64 k ∧ Below w.heap.size w wr) (fun v _ => (n + 3 - intOf v).toNat)
          case atStart => exact ⟨-1, by omega, by omega, rfl, hbe⟩
          case round =>
            obtain ⟨k, hk1, hk2, rfl, hbk⟩ := hrel
            by_cases hlk : k ≤ n + 1
            · obtain ⟨wk, rfl⟩ : ∃ wk : World, wk = wr := ⟨_, rfl⟩
              go_wp2
              go_loopw [5] (fun v wr => ∃ j : Nat, 1 ≤ j ∧ j ≤ n ∧ v = .int .i64 ((j : Int) + 1) ∧ Hid (Block wr wk.heap.size 33 (cells 2 (witN j) 0 e k)) ∧ Below w.heap.size w wr ∧ wk.heap.size < wr.heap.size) (fun v _ => (n + 3 - intOf v).toNat)
              case atStart => exact ⟨1, by omega, by omega, rfl, Block.mk_new _ _ _ rfl, hbk.alloc hbk.size _, by simp⟩
              case round =>
                obtain ⟨j, hj1, hj2, rfl, HB, hbj, hz⟩ := hrel
                have d0 := HB.out.cell 0
                have d1 := HB.out.cell 1
                have d2 := HB.out.cell 2
                have d3 := HB.out.cell 3
                have d4 := HB.out.cell 4
                have f1 := HB.out.frozen 1
                have HU := Lib.hid (witN_u j)
                have hB := hbk.size
                by_cases hlj : j < n
                · have HN := Lib.hid (witN_step j hj1)
                  generalize witN j = x at *
                  go_wp2_with fail
                  refine (rwith_calls _ _ _ HU.out).mono ?_; rintro y w2 ⟨rfl, rfl⟩
                  go_wp2_with fail
                  go_roundw
                  case rel => exact ⟨j + 1, by omega, by omega, by go_num, by rw [HN.out]; exact HB.out.put 1 _, hbj.setCell hB _, by simpa [World.setCell] using hz⟩
                  case measure => simp [intOf]; omega
                · obtain rfl : j = n := by omega
                  have HG := Lib.hid (good_all j hn1 hlt e k he1 hle hk1 hlk)
                  have HGd : Hid (goodB j e k = (decide (1 ≤ e) && (decide (1 ≤ k) && (decide (e ≤ j) && (decide (k ≤ j) && (meetR ⟨2, witN j, 0, e, k⟩ ⟨2, witN j, 0, e, k⟩ && meetR ⟨2, witN j, 0, e, k⟩ ⟨2, witN j, 0, e, e⟩)))))) := Lib.hid rfl
                  generalize goodB j e k = G at *
                  generalize witN j = x at *
                  have HK : Hid (Keep w wk.heap.size 33 (cells 2 x 0 e k) wr) := Lib.hid ⟨HB.out, hbj⟩
                  have hlj : (j : Int) ≤ j + 1 := by omega
                  go_upto_region 17 with fail
                  go_cut [6] (fun v w' => v = .bool G ∧ Hid (Keep w wk.heap.size 33 (cells 2 x 0 e k) w'))
                  case first =>
                    go_wp2_with (go_at_call 21; refine (rmeet10_calls _ _ _ _ _ _ _ _ _ _ _ H2.out HU.out H2.out HU.out).mono ?_; rintro y w2 ⟨rfl, hb2⟩; have HX := Lib.hid (HK.out.call hb2); clear HK; have HK := HX; clear HX hb2; obtain ⟨d0, d1, d2, d3, d4⟩ := keep5 HK.out)
                    all_goals
                      go_meet
                      exact ⟨congrArg Value.bool (by rw [HGd.out]; first | (simp [*]; done) | (simp [*]; intros; omega)), HK⟩
                  case rest =>
                    obtain ⟨rfl, HK1⟩ := hcut
                    obtain ⟨d0, d1, d2, d3, d4⟩ := keep5 HK1.out
                    have HM := Lib.hid fun w => cmay_calls 2 x 0 e k w
                    have HM2 : Hid (∀ w, Calls Try.prog 22 #[.agg (cells 2 x 0 e k)] w fun x w' => x = .returned (.bool G) ∧ Below w.heap.size w w') := by
                      show ∀ w, _
                      rw [← HG.out]
                      exact HM.out
                    clear HM HG HGd
                    go_wp2_with fail
                    refine (HM2.out _).mono ?_; rintro y w3 ⟨rfl, hb3⟩
                    have HK2 := Lib.hid (HK1.out.call hb3)
                    cases G with
                    | true =>
                      go_wp2_with fail
                      go_roundw
                      case rel => exact ⟨k + 1, by omega, by omega, by go_num, HK2.out.2⟩
                      case measure => simp [intOf]; omega
                    | false =>
                      go_wp2_with fail
                      go_roundw
                      case rel => exact ⟨k + 1, by omega, by omega, by go_num, HK2.out.2⟩
                      case measure => simp [intOf]; omega
            · go_wp2
              go_roundw
              case rel => exact ⟨e + 1, by omega, by omega, by go_num, hbk⟩
              case measure => simp [intOf]; omega
        · go_wp2
          go_roundw
          case rel => exact ⟨n + 1, by omega, by omega, by go_num, hbe⟩
          case measure => simp [intOf]; omega
    · obtain rfl : n = 4 := by omega
      go_wp2
      go_ret
      exact ⟨rfl, hb⟩
end Go.Proofs.Ytcciejglemfebaa
