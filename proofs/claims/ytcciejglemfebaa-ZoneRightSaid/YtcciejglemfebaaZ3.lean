/- The document's answer to zone: MayRegions, and the node that is next, each by a contract. -/
import Derived.Test.YtcciejglemfebaaZ1
import Derived.Test.YtcciejglemfebaaR1
namespace Go.Proofs.Ytcciejglemfebaa
open Go.RowKit

set_option maxHeartbeats 400000 in
theorem rmayregs_calls (A : Option Addr) (c : Nat) (l : List Int) (B : Nat) (w : World) (hl : l.length ≤ 9223372036854775807) (h : Ints w B A l) :
    Calls Try.prog 78 #[.slice A l.length c] w fun e w' => e = .returned (.bool (mayRegsB l)) ∧ w = w' := by
  go_enter Try.func78, Try.ntmps78
  go_wp2
  go_loop [3] (fun i => ∃ k : Nat, k ≤ l.length ∧ i = .int .i64 k ∧ Hid ((l.drop k).all okR = l.all okR)) (fun i => l.length - (intOf i).toNat)
  case atStart => exact ⟨0, Nat.zero_le _, rfl, rfl⟩
  case round =>
    obtain ⟨k, hk, rfl, HR⟩ := hrel
    by_cases hlt : k < l.length
    · obtain ⟨b, o, rfl, hb, hc⟩ := h.at_ hlt
      have HD := Lib.hid (all_drop hlt okR)
      generalize l.getD k 0 = n at *
      by_cases ok : 0 ≤ n ∧ n < 4
      · obtain ⟨h0, h4⟩ := ok
        have HN : Hid ((l.drop (k + 1)).all okR = l.all okR) := by
          show _ = _
          rw [← HR.out, HD.out, show okR n = true from by simp [okR, h0, h4], Bool.true_and]
        clear HR HD h
        go_wp2
        go_round
        case rel => exact ⟨k + 1, by omega, by go_num, HN⟩
        case measure => simp [intOf]; omega
      · have HF : Hid (mayRegsB l = false) := by
          show _ = _
          unfold mayRegsB
          rw [← HR.out, HD.out, show okR n = false from by simp [okR]; omega]
          rfl
        clear HR HD h
        by_cases h0 : n < 0
        · go_wp2
          go_ret
          rw [HF.out]; exact ⟨rfl, rfl⟩
        · have h4 : 4 ≤ n := by omega
          clear ok
          go_wp2
          go_ret
          rw [HF.out]; exact ⟨rfl, rfl⟩
    · have HF : Hid (mayRegsB l = (decide (1 ≤ l.length) && decide (l.length ≤ 9))) := by
        show _ = _
        unfold mayRegsB
        rw [← HR.out, List.drop_eq_nil_of_le (by omega)]
        rfl
      clear HR h
      by_cases h1 : 1 ≤ l.length
      · by_cases h9 : l.length ≤ 9
        all_goals
          go_wp2
          go_ret
          rw [HF.out]; exact ⟨by first | (simp [h1, h9]; done) | (simp [h1, h9]; omega), rfl⟩
      · go_wp2
        go_ret
        rw [HF.out]; exact ⟨by simp [h1], rfl⟩

set_option maxRecDepth 100000 in
set_option maxHeartbeats 3200000 in
theorem best_calls (A : Option Addr) (c : Nat) (regs : List Int) (r used : Int) (A' : Option Addr) (c' : Nat) (load : List Int) (B B' : Nat) (w : World)
    (hl : regs.length ≤ 9) (hl' : load.length ≤ 9223372036854775807) (hu : U used) (h : Ints w B A regs) (h' : Ints w B' A' load) :
    Calls Try.prog 79 #[.slice A regs.length c, .int .i64 r, .int .u16 used, .slice A' load.length c'] w fun e w' =>
      e = .returned (.int .i64 (nextB regs load r used : Nat)) ∧ w = w' := by
  have HA := Lib.hid h
  have HAT := Lib.hid fun (i : Int) (h0 : 1 ≤ i) => of11_calls A' c' load i B' w hl' h' h0
  have HU := Lib.hid hu
  clear h h' hu
  have HS0 : Hid (upB (candB regs r used) (fun k => load.getD k 0) regs.length 0 0 = nextB regs load r used) := upB_best _ _ _
  go_enter Try.func79, Try.ntmps79
  go_wp2
  go_loop [9, 10] (fun x y => ∃ (k b : Nat) (i bi : Int), k ≤ regs.length ∧ b ≤ regs.length ∧ Hid (i = (k : Int) + 1) ∧ Hid (bi = (b : Int)) ∧ 1 ≤ i ∧ i ≤ 10 ∧ 0 ≤ bi ∧ bi ≤ 9 ∧ y = .int .i64 i ∧ x = .int .i64 bi ∧
      Hid (upB (candB regs r used) (fun k => load.getD k 0) (regs.length - k) k b = nextB regs load r used)) (fun _ y => regs.length + 1 - (intOf y).toNat)
  case atStart => exact ⟨0, 0, 1, 0, by omega, by omega, rfl, rfl, by omega, by omega, by omega, by omega, rfl, rfl, HS0⟩
  case round =>
    clear HS0
    obtain ⟨k, b, i, bi, hk, hb, HI, HBI, hi0, hi9, hb0, hb9, rfl, rfl, HD⟩ := hrel
    by_cases h1 : k < regs.length
    · have HK := Lib.hid h1
      have hik : i.toNat - 1 = k := by have := HI.out; omega
      obtain ⟨bb, o, rfl, hbb, hc⟩ := HA.out.at_ (k := k) (by omega)
      have HS : Hid (upB (candB regs r used) (fun k => load.getD k 0) (regs.length - k) k b = upB (candB regs r used) (fun k => load.getD k 0) (regs.length - (k + 1)) (k + 1) (stepU (candB regs r used) (fun k => load.getD k 0) k b)) := by
        show _ = _
        rw [show regs.length - k = (regs.length - (k + 1)) + 1 from by omega]; rfl
      obtain ⟨v, hv⟩ : ∃ v, regs.getD k 0 = v := ⟨_, rfl⟩
      rw [hv, ← hik] at hc
      have HV := Lib.hid hv
      have hir : i ≤ (regs.length : Int) := by have := HI.out; omega
      have hir' : i - 1 < (regs.length : Int) := by have := HI.out; omega
      clear hik hv hbb h1
      by_cases hvr : v = r
      · obtain rfl : r = v := hvr.symm
        clear hvr
        cases hh : hasB used i with
        | true =>
          have HH := Lib.hid (rhas_calls used i w HU.out)
          rw [hh] at HH
          have HN : Hid (upB (candB regs r used) (fun k => load.getD k 0) (regs.length - (k + 1)) (k + 1) b = nextB regs load r used) := by
            show _ = _
            have e1 : candB regs r used k = false := candB_off2 (k := k + 1) HI.out (by omega) hh
            rw [← HD.out, HS.out, stepU_off _ _ e1]
          clear hh HD HS
          go_wp2_with fail
          ((with_reducible refine HH.out.mono ?_); rintro e w' ⟨rfl, rfl⟩)
          go_wp2_with fail
          go_round
          case rel => exact ⟨k + 1, b, i + 1, bi, by have := HK.out; omega, by have := HK.out; omega, Lib.hid (by have := HI.out; omega), HBI, by omega, by omega, by omega, by omega, rfl, rfl, HN⟩
          case measure => simp [intOf]; have := HI.out; have := HK.out; omega
        | false =>
          have HH := Lib.hid (rhas_calls used i w HU.out)
          rw [hh] at HH
          have HC : Hid (candB regs r used k = true) := candB_on (k := k + 1) HI.out (by omega) HV.out hh
          clear hh
          by_cases hz : bi = 0
          · obtain rfl : (0 : Int) = bi := hz.symm
            have HN : Hid (upB (candB regs r used) (fun k => load.getD k 0) (regs.length - (k + 1)) (k + 1) (k + 1) = nextB regs load r used) := by
              show _ = _
              have e : b = 0 := by have := HBI.out; omega
              rw [← HD.out, HS.out, e, stepU_zero _ _ HC.out]
            clear hz HD HS
            go_wp2_with fail
            ((with_reducible refine HH.out.mono ?_); rintro e w' ⟨rfl, rfl⟩)
            go_wp2_with fail
            go_round
            case rel => exact ⟨k + 1, k + 1, i + 1, i, by have := HK.out; omega, by have := HK.out; omega, Lib.hid (by have := HI.out; omega), Lib.hid (by have := HI.out; omega), by omega, by omega, by omega, by omega, rfl, rfl, HN⟩
            case measure => simp [intOf]; have := HI.out; have := HK.out; omega
          · have hz' : (bi == 0) = false := by simpa using hz
            have hbi1 : 1 ≤ bi := by omega
            have HX := Lib.hid (HAT.out i (by omega))
            have HY := Lib.hid (HAT.out bi (by omega))
            have eX : (i - 1).toNat = k := by have := HI.out; omega
            have eY : (bi - 1).toNat = b - 1 := by have := HBI.out; omega
            rw [eX] at HX
            rw [eY] at HY
            have hbne : b ≠ 0 := by have := HBI.out; omega
            have HLE := Lib.hid (fun g => stepU_lt (candB regs r used) (fun k => load.getD k 0) (k := k) (b := b) HC.out g)
            have HGT := Lib.hid (fun g => stepU_ge (candB regs r used) (fun k => load.getD k 0) (k := k) (b := b) hbne g)
            generalize load.getD k 0 = x at HX HLE HGT
            generalize load.getD (b - 1) 0 = y at HY HLE HGT
            clear eX eY hbne hz
            by_cases hxy : x < y
            · have HN : Hid (upB (candB regs r used) (fun k => load.getD k 0) (regs.length - (k + 1)) (k + 1) (k + 1) = nextB regs load r used) := by
                show _ = _
                rw [← HD.out, HS.out, HLE.out hxy]
              clear HD HS HLE HGT
              go_wp2_with fail
              ((with_reducible refine HH.out.mono ?_); rintro e w' ⟨rfl, rfl⟩)
              go_wp2_with fail
              ((with_reducible refine HX.out.mono ?_); rintro e w' ⟨rfl, rfl⟩)
              go_wp2_with fail
              ((with_reducible refine HY.out.mono ?_); rintro e w' ⟨rfl, rfl⟩)
              go_wp2_with fail
              go_round
              case rel => exact ⟨k + 1, k + 1, i + 1, i, by have := HK.out; omega, by have := HK.out; omega, Lib.hid (by have := HI.out; omega), Lib.hid (by have := HI.out; omega), by omega, by omega, by omega, by omega, rfl, rfl, HN⟩
              case measure => simp [intOf]; have := HI.out; have := HK.out; omega
            · have HN : Hid (upB (candB regs r used) (fun k => load.getD k 0) (regs.length - (k + 1)) (k + 1) b = nextB regs load r used) := by
                show _ = _
                rw [← HD.out, HS.out, HGT.out hxy]
              clear HD HS HLE HGT
              go_wp2_with fail
              ((with_reducible refine HH.out.mono ?_); rintro e w' ⟨rfl, rfl⟩)
              go_wp2_with fail
              ((with_reducible refine HX.out.mono ?_); rintro e w' ⟨rfl, rfl⟩)
              go_wp2_with fail
              ((with_reducible refine HY.out.mono ?_); rintro e w' ⟨rfl, rfl⟩)
              go_wp2_with fail
              go_round
              case rel => exact ⟨k + 1, b, i + 1, bi, by have := HK.out; omega, by have := HK.out; omega, Lib.hid (by have := HI.out; omega), HBI, by omega, by omega, by omega, by omega, rfl, rfl, HN⟩
              case measure => simp [intOf]; have := HI.out; have := HK.out; omega
      · have HN : Hid (upB (candB regs r used) (fun k => load.getD k 0) (regs.length - (k + 1)) (k + 1) b = nextB regs load r used) := by
          show _ = _
          have e1 : candB regs r used k = false := candB_off1 (k := k + 1) (by show regs.getD k 0 ≠ r; rw [HV.out]; exact hvr)
          rw [← HD.out, HS.out, stepU_off _ _ e1]
        have hvr' : (v == r) = false := by simpa using hvr
        clear HD HS hvr
        go_wp2_with fail
        go_round
        case rel => exact ⟨k + 1, b, i + 1, bi, by have := HK.out; omega, by have := HK.out; omega, Lib.hid (by have := HI.out; omega), HBI, by omega, by omega, by omega, by omega, rfl, rfl, HN⟩
        case measure => simp [intOf]; have := HI.out; have := HK.out; omega
    · have HE : Hid (b = nextB regs load r used) := by
        show _ = _
        rw [← HD.out, show regs.length - k = 0 from by omega]; rfl
      have hir : (regs.length : Int) < i := by have := HI.out; omega
      clear HD h1
      go_wp2_with fail
      go_ret
      rw [← HE.out, HBI.out]
      exact ⟨rfl, rfl⟩
end Go.Proofs.Ytcciejglemfebaa
