/- antipodelaw11.ZoneSurvives answers true; memory that was there is as it was. -/
import Derived.Test.YtcciejglemfebaaV1
import Derived.Test.YtcciejglemfebaaZ12
namespace Go.Proofs.Ytcciejglemfebaa
open Go.RowKit

set_option maxHeartbeats 1600000 in
theorem zsurv_calls (A : Option Addr) (regs : List Int) (C : Nat) (v wi l e c what : Int) (w : World) (hl : regs.length ≤ 9223372036854775807) (h : Ints w w.heap.size A regs) (hv : U v) (hw : U wi) :
    Calls Try.prog 14 #[.slice A regs.length C, .agg (cells v wi l e c), .int .i64 what] w fun x w' => x = .returned (.bool true) ∧ Below w.heap.size w w' := by
  have K0 : Hid (Keep w w.heap.size 33 (cells v wi l e c) (w.alloc (.cells (cells v wi l e c) 33))) := Keep.new _ _ _
  have HS := Lib.hid fun (wr : World) (hb : Below w.heap.size w wr) => surv_calls A C regs v wi l e c what wr hl ((h.below hb).more hb.size)
  have HR := Lib.hid fun (wr : World) (hb : Below w.heap.size w wr) => rsurv_calls A C regs v wi l e c what wr hl ((h.below hb).more hb.size) hv hw
  clear h hv hw
  cases hP : survP regs ⟨v, wi, l, e, c⟩ what with
  | mk is wh =>
  rw [hP] at HS HR
  clear hP
  have HS2 : Hid (∀ (wr : World), Below w.heap.size w wr → Calls Try.prog 55 #[.slice A regs.length C, .agg (cells v wi l e c), .int .i64 what] wr fun x w' => x = .returned (.tuple #[.bool is, .int .i64 wh]) ∧ Below wr.heap.size wr w') := HS
  have HR2 : Hid (∀ (wr : World), Below w.heap.size w wr → Calls Try.prog 56 #[.slice A regs.length C, .agg (cells v wi l e c), .int .i64 what] wr fun x w' => x = .returned (.tuple #[.bool is, .int .i64 wh]) ∧ Below wr.heap.size wr w') := HR
  clear HS HR
  by_cases h30 : regs.length ≤ 30
  · go_enter Try.func14, Try.ntmps14
    go_wp2_with fail
    ((with_reducible refine (begun11 _).mono ?_); rintro x w1 ⟨rfl, hb⟩)
    have K1 := Lib.hid (K0.out.call hb)
    obtain ⟨_, x0, x1, x2, x3, x4⟩ := keepS5 K1.out
    have HS3 := Lib.hid (HS2.out _ K1.out.2)
    clear hb K0 HS2
    go_wp2_with fail
    ((with_reducible refine HS3.out.mono ?_); rintro x w2 ⟨rfl, hb⟩)
    have K2 := Lib.hid (K1.out.call hb)
    have HR3 := Lib.hid (HR2.out _ K2.out.2)
    clear hb K1 HR2 x0 x1 x2 x3 x4 HS3
    obtain ⟨_, x0, x1, x2, x3, x4⟩ := keepS5 K2.out
    go_wp2_with fail
    ((with_reducible refine HR3.out.mono ?_); rintro x w3 ⟨rfl, hb⟩)
    have K3 := Lib.hid (K2.out.call hb)
    clear hb K2 HR3
    go_wp2_with fail
    go_ret
    exact ⟨ret_bool (by simp), K3.out.2⟩
  · go_enter Try.func14, Try.ntmps14
    go_wp2_with fail
    ((with_reducible refine (begun11 _).mono ?_); rintro x w1 ⟨rfl, hb⟩)
    have K1 := Lib.hid (K0.out.call hb)
    clear hb K0
    go_wp2_with fail
    go_ret
    exact ⟨rfl, K1.out.2⟩
end Go.Proofs.Ytcciejglemfebaa
