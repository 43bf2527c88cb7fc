/- Package zone's take, by a contract. -/
import Derived.Test.YtcciejglemfebaaZ1
namespace Go.Proofs.Ytcciejglemfebaa
open Go.RowKit

/-- What take returns. -/
def takeV : Option Int → Value
  | some g => .tuple #[.int .u16 g, .int .i64 0]
  | none => .tuple #[.int .u16 0, .int .i64 8]

set_option maxRecDepth 100000 in
set_option maxHeartbeats 3200000 in
theorem take_calls (A : Option Addr) (c : Nat) (regs : List Int) (r : Int) (n : Nat) (A' : Option Addr) (c' : Nat) (load : List Int) (taken : Int) (B B' : Nat) (w : World)
    (hl : regs.length ≤ 9) (hl' : load.length ≤ 9223372036854775807) (hn : n ≤ 9) (h : Ints w B A regs) (h' : Ints w B' A' load) :
    Calls Try.prog 68 #[.slice A regs.length c, .int .i64 r, .int .i64 (n : Int), .slice A' load.length c', .int .u16 taken] w fun e w' =>
      e = .returned (takeV (takeGo regs load r taken n 0)) ∧ w = w' := by
  have HA := Lib.hid h
  have HAT := Lib.hid fun (i : Int) (h0 : 0 ≤ i) => at_calls A' c' load i B' w hl' h' h0
  clear h h'
  go_enter Try.func68, Try.ntmps68
  go_wp2
  go_loop [12, 16] (fun g i => ∃ (j : Nat) (got : Int), j ≤ n ∧ i = .int .i64 (j : Int) ∧ g = .int .u16 got ∧ Hid (takeGo regs load r taken (n - j) got = takeGo regs load r taken n 0)) (fun _ i => n - (intOf i).toNat)
  case atStart => exact ⟨0, 0, Nat.zero_le _, rfl, rfl, rfl⟩
  case round =>
    obtain ⟨j, got, hj, rfl, rfl, HR⟩ := hrel
    by_cases hlt : j < n
    · go_wp2
      go_loop [13, 14] (fun x y => ∃ (k b : Nat) (i bi : Int), k ≤ regs.length ∧ b ≤ regs.length ∧ Hid (i = (k : Int)) ∧ Hid (bi = (b : Int)) ∧ 0 ≤ i ∧ i ≤ 9 ∧ 0 ≤ bi ∧ bi ≤ 9 ∧ y = .int .i64 i ∧ x = .int .i64 bi ∧
        Hid (downB (candB regs r (union taken got)) (fun k => load.getD k 0) k b = nextB regs load r (union taken got))) (fun _ y => (intOf y).toNat)
      case atStart => exact ⟨regs.length, 0, regs.length, 0, Nat.le_refl _, by omega, rfl, rfl, by omega, by omega, by omega, by omega, rfl, rfl, rfl⟩
      case round =>
        obtain ⟨k, b, i, bi, hk, hb, HI, HBI, hi0, hi9, hb0, hb9, rfl, rfl, HD⟩ := hrel
        by_cases h1 : 1 ≤ i
        · have hk1 : 1 ≤ k := by have := HI.out; omega
          have HK := Lib.hid hk1
          have hik : i.toNat - 1 = k - 1 := by have := HI.out; omega
          obtain ⟨bb, o, rfl, hbb, hc⟩ := HA.out.at_ (k := k - 1) (by omega)
          have HS := Lib.hid (downB_step (candB regs r (union taken got)) (fun k => load.getD k 0) (b := b) hk1)
          obtain ⟨v, hv⟩ : ∃ v, regs.getD (k - 1) 0 = v := ⟨_, rfl⟩
          rw [hv, ← hik] at hc
          have HV := Lib.hid hv
          have hir : (i - 1 : Int) < (regs.length : Int) := by have := HI.out; omega
          clear hik hv hbb hk1
          by_cases hvr : v = r
          · obtain rfl : r = v := hvr.symm
            clear hvr
            cases hh : hasB (union taken got) i with
            | true =>
              have HH := Lib.hid (has_calls (union taken got) i w)
              rw [hh] at HH
              have HN : Hid (downB (candB regs r (union taken got)) (fun k => load.getD k 0) (k - 1) b = nextB regs load r (union taken got)) := by
                show _ = _
                rw [← HD.out, HS.out, stepD_off _ _ (candB_off2 HI.out HK.out hh)]
              clear hh HD HS
              go_wp2_with fail
              ((with_reducible refine HH.out.mono ?_); rintro e w' ⟨rfl, rfl⟩)
              go_wp2_with fail
              go_round
              case rel => exact ⟨k - 1, b, i - 1, bi, by omega, by have := HK.out; omega, Lib.hid (by have := HI.out; have := HK.out; omega), HBI, by omega, by omega, by omega, by omega, rfl, rfl, HN⟩
              case measure => simp [intOf]; omega
            | false =>
              have HH := Lib.hid (has_calls (union taken got) i w)
              rw [hh] at HH
              have HC := Lib.hid (candB_on HI.out HK.out HV.out hh)
              clear hh
              by_cases hz : bi = 0
              · obtain rfl : (0 : Int) = bi := hz.symm
                have HN : Hid (downB (candB regs r (union taken got)) (fun k => load.getD k 0) (k - 1) k = nextB regs load r (union taken got)) := by
                  show _ = _
                  have e : b = 0 := by have := HBI.out; omega
                  have e2 : k - 1 + 1 = k := by have := HK.out; omega
                  rw [← HD.out, HS.out, e, stepD_zero _ _ HC.out, e2]
                clear hz HD HS
                go_wp2_with fail
                ((with_reducible refine HH.out.mono ?_); rintro e w' ⟨rfl, rfl⟩)
                go_wp2_with fail
                go_round
                case rel => exact ⟨k - 1, k, i - 1, i, by omega, by have := HK.out; omega, Lib.hid (by have := HI.out; have := HK.out; omega), HI, by omega, by omega, by omega, by omega, rfl, rfl, HN⟩
                case measure => simp [intOf]; omega
              · have hz' : (bi == 0) = false := by simpa using hz
                have hbi1 : 1 ≤ bi := by omega
                have HX := Lib.hid (HAT.out (i - 1) (by omega))
                have HY := Lib.hid (HAT.out (bi - 1) (by omega))
                have eX : (i - 1).toNat = k - 1 := by have := HI.out; omega
                have eY : (bi - 1).toNat = b - 1 := by have := HBI.out; omega
                rw [eX] at HX
                rw [eY] at HY
                have hbne : b ≠ 0 := by have := HBI.out; omega
                have HLE := Lib.hid (fun g => stepD_le (candB regs r (union taken got)) (fun k => load.getD k 0) (k := k - 1) (b := b) HC.out g)
                have HGT := Lib.hid (fun g => stepD_gt (candB regs r (union taken got)) (fun k => load.getD k 0) (k := k - 1) (b := b) hbne g)
                generalize load.getD (k - 1) 0 = x at HX HLE HGT
                generalize load.getD (b - 1) 0 = y at HY HLE HGT
                clear eX eY hbne hz
                by_cases hxy : x ≤ y
                · have HN : Hid (downB (candB regs r (union taken got)) (fun k => load.getD k 0) (k - 1) k = nextB regs load r (union taken got)) := by
                    show _ = _
                    have e2 : k - 1 + 1 = k := by have := HK.out; omega
                    rw [← HD.out, HS.out, HLE.out hxy, e2]
                  clear HD HS HLE HGT
                  go_wp2_with fail
                  ((with_reducible refine HH.out.mono ?_); rintro e w' ⟨rfl, rfl⟩)
                  go_wp2_with fail
                  ((with_reducible refine HX.out.mono ?_); rintro e w' ⟨rfl, rfl⟩)
                  go_wp2_with fail
                  ((with_reducible refine HY.out.mono ?_); rintro e w' ⟨rfl, rfl⟩)
                  go_wp2_with fail
                  go_round
                  case rel => exact ⟨k - 1, k, i - 1, i, by omega, by have := HK.out; omega, Lib.hid (by have := HI.out; have := HK.out; omega), HI, by omega, by omega, by omega, by omega, rfl, rfl, HN⟩
                  case measure => simp [intOf]; omega
                · have HN : Hid (downB (candB regs r (union taken got)) (fun k => load.getD k 0) (k - 1) b = nextB regs load r (union taken got)) := by
                    show _ = _
                    rw [← HD.out, HS.out, HGT.out hxy]
                  clear HD HS HLE HGT
                  go_wp2_with fail
                  ((with_reducible refine HH.out.mono ?_); rintro e w' ⟨rfl, rfl⟩)
                  go_wp2_with fail
                  ((with_reducible refine HX.out.mono ?_); rintro e w' ⟨rfl, rfl⟩)
                  go_wp2_with fail
                  ((with_reducible refine HY.out.mono ?_); rintro e w' ⟨rfl, rfl⟩)
                  go_wp2_with fail
                  go_round
                  case rel => exact ⟨k - 1, b, i - 1, bi, by omega, by have := HK.out; omega, Lib.hid (by have := HI.out; have := HK.out; omega), HBI, by omega, by omega, by omega, by omega, rfl, rfl, HN⟩
                  case measure => simp [intOf]; omega
          · have HN : Hid (downB (candB regs r (union taken got)) (fun k => load.getD k 0) (k - 1) b = nextB regs load r (union taken got)) := by
              show _ = _
              rw [← HD.out, HS.out, stepD_off _ _ (candB_off1 (by rw [HV.out]; exact hvr))]
            have hvr' : (v == r) = false := by simpa using hvr
            clear HD HS hvr
            go_wp2_with fail
            go_round
            case rel => exact ⟨k - 1, b, i - 1, bi, by omega, by have := HK.out; omega, Lib.hid (by have := HI.out; have := HK.out; omega), HBI, by omega, by omega, by omega, by omega, rfl, rfl, HN⟩
            case measure => simp [intOf]; omega
        · have e0 : k = 0 := by have := HI.out; omega
          have HE : Hid (b = nextB regs load r (union taken got)) := by
            show _ = _
            rw [← HD.out, e0]; rfl
          clear HD e0
          by_cases hz : bi = 0
          · obtain rfl : (0 : Int) = bi := hz.symm
            have HF : Hid (takeGo regs load r taken n 0 = none) := by
              show _ = _
              have e : nextB regs load r (union taken got) = 0 := by rw [← HE.out]; have := HBI.out; omega
              rw [← HR.out, show n - j = (n - j - 1) + 1 from by omega, takeGo_none e]
            clear hz HE HR
            go_wp2_with fail
            go_ret2
            rw [HF.out]
            exact ⟨rfl, rfl⟩
          · have hz' : (bi == 0) = false := by simpa using hz
            have HW := Lib.hid (with_calls got bi w)
            have HN : Hid (takeGo regs load r taken (n - (j + 1)) (union got (one bi)) = takeGo regs load r taken n 0) := by
              show _ = _
              have e : nextB regs load r (union taken got) ≠ 0 := by rw [← HE.out]; have := HBI.out; omega
              rw [← HR.out, show n - j = (n - (j + 1)) + 1 from by omega, takeGo_some e, ← HE.out, HBI.out]
            generalize union got (one bi) = got' at *
            clear hz HE HR
            go_wp2_with fail
            ((with_reducible refine HW.out.mono ?_); rintro e w' ⟨rfl, rfl⟩)
            go_wp2_with fail
            go_round
            case rel => exact ⟨j + 1, got', by omega, by go_num, rfl, HN⟩
            case measure => simp [intOf]; omega
    · have HF : Hid (takeGo regs load r taken n 0 = some got) := by
        show _ = _
        rw [← HR.out, show n - j = 0 from by omega]; rfl
      clear HR
      go_wp2_with fail
      go_ret2
      rw [HF.out]
      exact ⟨rfl, rfl⟩
end Go.Proofs.Ytcciejglemfebaa
