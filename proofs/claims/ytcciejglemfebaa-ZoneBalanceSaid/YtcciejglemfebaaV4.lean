/- antipodelaw11.ZoneBalance answers true; memory that was there is as it was. -/
import Derived.Test.YtcciejglemfebaaV1
import Derived.Test.YtcciejglemfebaaZ15
import Derived.Test.YtcciejglemfebaaR10
import Derived.Deep.QuietTactic
import Derived.BigQuiet
import Derived.IntWalk
namespace Go.Proofs.Ytcciejglemfebaa
set_option linter.unusedSimpArgs false
open Go.RowKit

theorem load_calls (A : Option Addr) (c : Nat) (l : List Int) (i : Int) (B : Nat) (w : World) (hl : l.length ≤ 9223372036854775807) (h : Ints w B A l) (h0 : 1 ≤ i) :
    Calls Try.prog 37 #[.slice A l.length c, .int .i64 i] w fun e w' => e = .returned (.int .i64 (l.getD (i - 1).toNat 0)) ∧ w = w' := by
  obtain ⟨k, rfl⟩ : ∃ k : Nat, i = (k : Int) + 1 := ⟨(i - 1).toNat, by omega⟩
  by_cases hk : k < l.length
  · obtain ⟨b, o, rfl, hb, hc⟩ := h.at_ hk
    have e : l.getD ((k : Int) + 1 - 1).toNat 0 = l.getD k 0 := by rw [show ((k : Int) + 1 - 1).toNat = k from by omega]
    rw [e]
    clear h e
    generalize l.getD k 0 = v at *
    go_enter Try.func37, Try.ntmps37
    go_wp2
    go_ret
    exact ⟨rfl, rfl⟩
  · have e : l.getD ((k : Int) + 1 - 1).toNat 0 = 0 := by
      rw [show ((k : Int) + 1 - 1).toNat = k from by omega, List.getD_eq_getElem?_getD, List.getElem?_eq_none (by omega)]; rfl
    rw [e]
    clear h e
    go_enter Try.func37, Try.ntmps37
    go_wp2
    go_ret
    exact ⟨rfl, rfl⟩

/-- A block of six cells, told cell by cell. -/
theorem keepZ {w w' : World} {g : Nat} {t : TypeId} {a b c d e f : Value} (h : Keep w g t #[a, b, c, d, e, f] w') :
    Hid (Keep w g t #[a, b, c, d, e, f] w') ∧ w'.cell? ⟨g, 0, none⟩ = some a ∧ w'.cell? ⟨g, 1, none⟩ = some b ∧ w'.cell? ⟨g, 2, none⟩ = some c ∧ w'.cell? ⟨g, 3, none⟩ = some d ∧ w'.cell? ⟨g, 4, none⟩ = some e ∧ w'.cell? ⟨g, 5, none⟩ = some f :=
  ⟨Lib.hid h, h.1.cell 0, h.1.cell 1, h.1.cell 2, h.1.cell 3, h.1.cell 4, h.1.cell 5⟩

set_option maxRecDepth 100000 in
set_option maxHeartbeats 6400000 in
theorem zbal_calls (A : Option Addr) (regs : List Int) (C : Nat) (a0 : Option Addr) (l0 : List Int) (c0 : Nat) (a1 : Option Addr) (l1 : List Int) (c1 : Nat) (a2 : Option Addr) (l2 : List Int) (c2 : Nat) (ze zc zs : Int) (A' : Option Addr) (load : List Int) (C' : Nat) (w : World)
    (h : Ints w w.heap.size A regs) (h0 : Ints w w.heap.size a0 l0) (h1 : Ints w w.heap.size a1 l1) (h2 : Ints w w.heap.size a2 l2) (h' : Ints w w.heap.size A' load)
    (n : regs.length ≤ 9223372036854775807) (n0 : l0.length ≤ 9223372036854775807) (n1 : l1.length ≤ 9223372036854775807) (n2 : l2.length ≤ 9223372036854775807) (n' : load.length ≤ 9223372036854775807) :
    Calls Try.prog 7 #[.slice A regs.length C, .agg (zcells a0 l0 c0 a1 l1 c1 a2 l2 c2 ze zc zs), .slice A' load.length C'] w fun x w' => x = .returned (.bool true) ∧ Below w.heap.size w w' := by
  have K0 : Hid (Keep w w.heap.size 47 (zcells a0 l0 c0 a1 l1 c1 a2 l2 c2 ze zc zs) (w.alloc (.cells (zcells a0 l0 c0 a1 l1 c1 a2 l2 c2 ze zc zs) 47))) := Keep.new _ _ _
  have hA := fun (wr : World) (hb : Below w.heap.size w wr) => allot_calls A C regs a0 l0 c0 a1 l1 c1 a2 l2 c2 ze zc zs A' C' load wr ((h.below hb).more hb.size) ((h0.below hb).more hb.size) ((h1.below hb).more hb.size) ((h2.below hb).more hb.size) ((h'.below hb).more hb.size) n n0 n1 n2 n'
  have hL := fun (wr : World) => light_calls A C regs a0 l0 c0 a1 l1 c1 a2 l2 c2 ze zc zs A' C' load wr n n0 n1 n2 n'
  have hus := allotP_us regs load ⟨l0, l1, l2, ze, zc, zs⟩
  have HBAL := Lib.hid fun hh => allot_bal (regs := regs) (load := load) (z := ⟨l0, l1, l2, ze, zc, zs⟩) hh
  generalize allotP regs load ⟨l0, l1, l2, ze, zc, zs⟩ = AP at hA hus HBAL
  obtain ⟨⟨xv, xw, xl, xe, xc⟩, er⟩ := AP
  obtain ⟨u0, u1, u2⟩ := hus
  dsimp only at u0 u1 u2
  have HAL : Hid (∀ wr : World, Below w.heap.size w wr → Calls Try.prog 31 #[.slice A regs.length C, .agg (zcells a0 l0 c0 a1 l1 c1 a2 l2 c2 ze zc zs), .slice A' load.length C'] wr fun x w' => x = .returned (.tuple #[.agg (cells xv xw xl xe xc), .int .i64 er]) ∧ Below wr.heap.size wr w') := hA
  have hmem := fun w => rmembers_calls xv xw xl xe xc 0 0 0 0 0 false w u0 u1 u2 zero_u zero_u zero_u
  have HMB : Hid (∀ n, hasB (rmembersJ ⟨⟨xv, xw, xl, xe, xc⟩, ⟨0, 0, 0, 0, 0⟩, false⟩) n = hasB (union (union xv xw) xl) n) := members_has xv xw xl xe xc
  have HMU : Hid (U (rmembersJ ⟨⟨xv, xw, xl, xe, xc⟩, ⟨0, 0, 0, 0, 0⟩, false⟩)) := by show U _; unfold rmembersJ; exact msk_u _
  generalize rmembersJ ⟨⟨xv, xw, xl, xe, xc⟩, ⟨0, 0, 0, 0, 0⟩, false⟩ = MB at *
  have HMM := Lib.hid hmem
  have HIR := Lib.hid h
  have HIL := Lib.hid h'
  have HNL := Lib.hid n'
  clear hA hmem h h0 h1 h2 h' n n0 n1 n2 n' u0 u1 u2
  cases hLT : lightB regs l0 l1 l2 load with
  | false =>
    rw [hLT] at hL
    have HL := Lib.hid hL
    clear hL hLT
    go_enter Try.func7, Try.ntmps7
    go_wp2_with fail
    ((with_reducible refine (begun11 _).mono ?_); rintro x w1 ⟨rfl, hb⟩)
    have K1 := Lib.hid (K0.out.call hb)
    obtain ⟨_, x0, x1, x2, x3, x4, x5⟩ := keepZ K1.out
    clear hb K0
    go_wp2_with fail
    ((with_reducible refine (HL.out _).mono ?_); rintro x w2 ⟨rfl, hb⟩)
    have K2 := Lib.hid (K1.out.call hb)
    clear hb K1 x0 x1 x2 x3 x4 x5 HL
    go_wp2_with fail
    go_ret
    exact ⟨rfl, K2.out.2⟩
  | true =>
    rw [hLT] at hL
    have HL := Lib.hid hL
    clear hL hLT
    go_enter Try.func7, Try.ntmps7
    go_wp2_with fail
    ((with_reducible refine (begun11 _).mono ?_); rintro x w1 ⟨rfl, hb⟩)
    have K1 := Lib.hid (K0.out.call hb)
    obtain ⟨_, x0, x1, x2, x3, x4, x5⟩ := keepZ K1.out
    clear hb K0
    go_wp2_with fail
    ((with_reducible refine (HL.out _).mono ?_); rintro x w2 ⟨rfl, hb⟩)
    have K2 := Lib.hid (K1.out.call hb)
    clear hb K1 x0 x1 x2 x3 x4 x5 HL
    obtain ⟨_, x0, x1, x2, x3, x4, x5⟩ := keepZ K2.out
    have HA3 := Lib.hid (HAL.out _ K2.out.2)
    clear HAL
    go_wp2_with fail
    ((with_reducible refine HA3.out.mono ?_); rintro x w3 ⟨rfl, hb⟩)
    have K3 := Lib.hid (K2.out.call hb)
    clear hb K2 HA3 x0 x1 x2 x3 x4 x5
    by_cases her : er = 0
    · obtain rfl : (0 : Int) = er := her.symm
      obtain ⟨hlen, hbal⟩ := HBAL.out rfl

      have HB2 := Lib.hid hbal
      have HK4 := Lib.hid (below_drewN (Keep.alloc K3.out (.cells (cells xv xw xl xe xc) 33)).2 0)
      have HBB : Hid (Below w.heap.size w (w3.alloc (.cells (cells xv xw xl xe xc) 33))) := (Keep.alloc K3.out (.cells (cells xv xw xl xe xc) 33)).2
      clear hbal HBAL her HK4 K3
      go_wp2_with fail
      ((with_reducible refine (HMM.out _).mono ?_); rintro x w5 ⟨rfl, hb⟩)
      have HB5 := Lib.hid (HBB.out.trans (hb.mono HBB.out.size))
      clear hb HBB HMM
      go_wp2_with fail
      go_loopw [10] (fun a wr => ∃ (i : Nat) (x : Int), i ≤ regs.length ∧ Hid (x = (i : Int) + 1) ∧ 1 ≤ x ∧ x ≤ 10 ∧ a = .int .i64 x ∧ Hid (Below w.heap.size w wr)) (fun a _ => regs.length + 1 - (intOf a).toNat)
      case atStart => exact ⟨0, 1, by omega, rfl, by omega, by omega, rfl, HB5⟩
      case round =>
        clear HB5
        obtain ⟨i, x, hi, HI, hx1, hx9, rfl, HB5⟩ := hrel
        by_cases hil : i < regs.length
        · have hxl : x ≤ (regs.length : Int) := by have := HI.out; omega
          have hxb : decide (x ≤ (regs.length : Int)) = true := decide_eq_true hxl
          go_wp2_with fail
          go_loopw [11] (fun b wr => ∃ (k : Nat) (y : Int), k ≤ regs.length ∧ Hid (y = (k : Int) + 1) ∧ 1 ≤ y ∧ y ≤ 10 ∧ b = .int .i64 y ∧ Hid (Below w.heap.size w wr)) (fun b _ => regs.length + 1 - (intOf b).toNat)
          case atStart => exact ⟨0, 1, by omega, rfl, by omega, by omega, rfl, HB5⟩
          case round =>
            clear HB5
            obtain ⟨k, y, hk, HKY, hy1, hy9, rfl, HB5⟩ := hrel
            by_cases hkl : k < regs.length
            · have hyl : y ≤ (regs.length : Int) := by have := HKY.out; omega
              have hIR := HIR.out.below HB5.out
              have eX : x.toNat - 1 = i := by have := HI.out; omega
              have eY : y.toNat - 1 = k := by have := HKY.out; omega
              have eX2 : (x - 1).toNat = i := by have := HI.out; omega
              have eY2 : (y - 1).toNat = k := by have := HKY.out; omega
              obtain ⟨bb, o, rfl, hbb, hcX⟩ := hIR.at_ hil
              obtain ⟨bb', o', e', _, hcY⟩ := hIR.at_ hkl
              obtain ⟨rfl, rfl⟩ : bb = bb' ∧ o = o' := by
                simp at e'
                exact e'
              have HLAW := Lib.hid (HB2.out i k hil hkl)
              have hLX := fun q => load_calls A' C' load x w.heap.size (wr.drewN q) HNL.out (HIL.out.below (below_drewN HB5.out q)) hx1
              have hLY := fun q => load_calls A' C' load y w.heap.size (wr.drewN q) HNL.out (HIL.out.below (below_drewN HB5.out q)) hy1
              rw [eX2] at hLX
              rw [eY2] at hLY
              obtain ⟨va, hva⟩ : ∃ v, regs.getD i 0 = v := ⟨_, rfl⟩
              obtain ⟨vb, hvb⟩ : ∃ v, regs.getD k 0 = v := ⟨_, rfl⟩
              obtain ⟨la, hla⟩ : ∃ v, load.getD i 0 = v := ⟨_, rfl⟩
              obtain ⟨lb, hlb⟩ : ∃ v, load.getD k 0 = v := ⟨_, rfl⟩
              rw [hva, hvb, hla, hlb, ← HI.out, ← HKY.out, ← HMB.out, ← HMB.out] at HLAW
              rw [hva, ← eX] at hcX
              rw [hvb, ← eY] at hcY
              rw [hla] at hLX
              rw [hlb] at hLY
              have HLX : Hid (∀ q, Calls Try.prog 37 #[.slice A' load.length C', .int .i64 x] (wr.drewN q) fun e w' => e = .returned (.int .i64 la) ∧ w' = wr.drewN q) := fun q => (hLX q).mono fun _ _ hh => ⟨hh.1, hh.2.symm⟩
              have HLY : Hid (∀ q, Calls Try.prog 37 #[.slice A' load.length C', .int .i64 y] (wr.drewN q) fun e w' => e = .returned (.int .i64 lb) ∧ w' = wr.drewN q) := fun q => (hLY q).mono fun _ _ hh => ⟨hh.1, hh.2.symm⟩
              have hHX : ∀ q, Calls Try.prog 32 #[.int .u16 MB, .int .i64 x] (wr.drewN q) fun e w' => e = .returned (.bool (hasB MB x)) ∧ w' = wr.drewN q := fun q => (rhas_calls MB x (wr.drewN q) HMU.out).mono fun _ _ hh => ⟨hh.1, hh.2.symm⟩
              have hHY : ∀ q, Calls Try.prog 32 #[.int .u16 MB, .int .i64 y] (wr.drewN q) fun e w' => e = .returned (.bool (hasB MB y)) ∧ w' = wr.drewN q := fun q => (rhas_calls MB y (wr.drewN q) HMU.out).mono fun _ _ hh => ⟨hh.1, hh.2.symm⟩
              have HBN := Lib.hid fun q => below_drewN HB5.out q
              have iX0 : 0 ≤ x - 1 := by omega
              have iY0 : 0 ≤ y - 1 := by omega
              have iX1 : x - 1 < (regs.length : Int) := by omega
              have iY1 : y - 1 < (regs.length : Int) := by omega
              have wX : IntKind.i64.wrap (x - 1) = x - 1 := IntWalk.i64_in _ (by omega)
              have wY : IntKind.i64.wrap (y - 1) = y - 1 := IntWalk.i64_in _ (by omega)
              have HMX : Hid (i + 1 ≤ regs.length ∧ k + 1 ≤ regs.length) := ⟨hil, hkl⟩
              clear hla hlb hva hvb eX eY eX2 eY2 hLX hLY hIR hbb hil hkl hi hk
              by_cases hv : va = vb
              · obtain rfl : va = vb := hv
                cases hx : hasB MB x with
                | true =>
                  rw [hx] at hHX HLAW
                  have HHX := Lib.hid hHX
                  cases hy : hasB MB y with
                  | true =>
                    rw [hy] at hHY
                    have HHY := Lib.hid hHY
                    clear hHX hHY hx hy HLAW
                    go_wp2_with fail
                    go_quiet (first | (go_at_call 32; with_reducible exact Calls.quiet_of_same (HHX.out _)) | (go_at_call 32; with_reducible exact Calls.quiet_of_same (HHY.out _)))
                    clear wX wY
                    go_wp2_with fail
                    go_roundw
                    case rel => exact ⟨k + 1, y + 1, by have := HMX.out; omega, Lib.hid (by have := HKY.out; omega), by omega, by have := HMX.out; have := HKY.out; omega, rfl, Lib.hid (HBN.out _)⟩
                    case measure => simp [intOf]; have := HMX.out; have := HKY.out; omega
                  | false =>
                    rw [hy] at hHY HLAW
                    have HHY := Lib.hid hHY
                    have hlaw := HLAW.out rfl rfl rfl
                    have g1 : decide (lb < la) = false := decide_eq_false (by omega)
                    clear hHX hHY hx hy HLAW
                    by_cases hl : la = lb
                    · obtain rfl : la = lb := hl
                      have g2 : decide (y < x) = false := decide_eq_false (by have := HI.out; have := HKY.out; omega)
                      have g3 : ¬ y < x := by have := HI.out; have := HKY.out; omega
                      clear hlaw
                      go_wp2_with fail
                      go_quiet (first | (go_at_call 32; with_reducible exact Calls.quiet_of_same (HHX.out _)) | (go_at_call 32; with_reducible exact Calls.quiet_of_same (HHY.out _)) | (go_at_call 37; with_reducible exact Calls.quiet_of_same (HLX.out _)) | (go_at_call 37; with_reducible exact Calls.quiet_of_same (HLY.out _)))
                      clear wX wY
                      go_wp2_with fail
                      go_roundw
                      case rel => exact ⟨k + 1, y + 1, by have := HMX.out; omega, Lib.hid (by have := HKY.out; omega), by omega, by have := HMX.out; have := HKY.out; omega, rfl, Lib.hid (HBN.out _)⟩
                      case measure => simp [intOf]; have := HMX.out; have := HKY.out; omega
                    · have g2 : (la == lb) = false := by simpa using hl
                      clear hlaw
                      go_wp2_with fail
                      go_quiet (first | (go_at_call 32; with_reducible exact Calls.quiet_of_same (HHX.out _)) | (go_at_call 32; with_reducible exact Calls.quiet_of_same (HHY.out _)) | (go_at_call 37; with_reducible exact Calls.quiet_of_same (HLX.out _)) | (go_at_call 37; with_reducible exact Calls.quiet_of_same (HLY.out _)))
                      clear wX wY
                      go_wp2_with fail
                      go_roundw
                      case rel => exact ⟨k + 1, y + 1, by have := HMX.out; omega, Lib.hid (by have := HKY.out; omega), by omega, by have := HMX.out; have := HKY.out; omega, rfl, Lib.hid (HBN.out _)⟩
                      case measure => simp [intOf]; have := HMX.out; have := HKY.out; omega
                | false =>
                  rw [hx] at hHX
                  have HHX := Lib.hid hHX
                  clear hHX hHY hx HLAW
                  go_wp2_with fail
                  go_quiet (first | (go_at_call 32; with_reducible exact Calls.quiet_of_same (HHX.out _)))
                  clear wX wY
                  go_wp2_with fail
                  go_roundw
                  case rel => exact ⟨k + 1, y + 1, by have := HMX.out; omega, Lib.hid (by have := HKY.out; omega), by omega, by have := HMX.out; have := HKY.out; omega, rfl, Lib.hid (HBN.out _)⟩
                  case measure => simp [intOf]; have := HMX.out; have := HKY.out; omega
              · have hv' : (va == vb) = false := by simpa using hv
                clear hHX hHY HLAW
                go_wp2_with fail
                go_quiet (fail)
                clear wX wY
                go_wp2_with fail
                go_roundw
                case rel => exact ⟨k + 1, y + 1, by have := HMX.out; omega, Lib.hid (by have := HKY.out; omega), by omega, by have := HMX.out; have := HKY.out; omega, rfl, Lib.hid (HBN.out _)⟩
                case measure => simp [intOf]; have := HMX.out; have := HKY.out; omega
            · have hyl : (regs.length : Int) < y := by have := HKY.out; omega
              go_wp2_with fail
              go_roundw
              case rel => exact ⟨i + 1, x + 1, by omega, Lib.hid (by have := HI.out; omega), by omega, by omega, rfl, HB5⟩
              case measure => simp [intOf]; have := HI.out; omega
        · have hxl : (regs.length : Int) < x := by have := HI.out; omega
          go_wp2_with fail
          go_ret
          exact ⟨rfl, HB5.out⟩
    · have her' : (er == 0) = false := by simpa using her
      have her2 : (er != 0) = true := by simpa using her
      have HBB : Hid (Below w.heap.size w (w3.alloc (.cells (cells xv xw xl xe xc) 33))) := (Keep.alloc K3.out (.cells (cells xv xw xl xe xc) 33)).2
      clear her K3
      go_wp2_with fail
      go_ret
      exact ⟨rfl, HBB.out⟩
end Go.Proofs.Ytcciejglemfebaa
