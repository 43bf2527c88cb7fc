/- Package zone's Check, by a contract. -/
import Derived.Test.YtcciejglemfebaaZ7
import Derived.Test.YtcciejglemfebaaZ11
import Derived.Test.YtcciejglemfebaaC1
namespace Go.Proofs.Ytcciejglemfebaa
open Go.RowKit

/-- Check's memory: the zone and the result. -/
def CMem (w : World) (Z : Array Value) (wr : World) : Prop :=
  Block wr w.heap.size 47 Z ∧ Block wr (w.heap.size + 1) 33 (cells 0 0 0 0 0) ∧ Below w.heap.size w wr
theorem CMem.alloc {w wr : World} {Z : Array Value} (h : CMem w Z wr) (o : Obj) : CMem w Z (wr.alloc o) := ⟨h.1.alloc o, h.2.1.alloc o, h.2.2.alloc h.2.2.size o⟩
theorem CMem.below {w wr w2 : World} {Z : Array Value} (h : CMem w Z wr) (hb : Below wr.heap.size wr w2) : CMem w Z w2 :=
  ⟨h.1.below hb h.1.lt, h.2.1.below hb h.2.1.lt, h.2.2.trans (hb.mono h.2.2.size)⟩

set_option maxRecDepth 100000 in
set_option maxHeartbeats 3200000 in
theorem check_calls (A : Option Addr) (C : Nat) (regs : List Int) (a0 : Option Addr) (l0 : List Int) (c0 : Nat) (a1 : Option Addr) (l1 : List Int) (c1 : Nat) (a2 : Option Addr) (l2 : List Int) (c2 : Nat) (ze zc zs : Int) (A' : Option Addr) (C' : Nat) (load : List Int) (w : World)
    (h : Ints w w.heap.size A regs) (h0 : Ints w w.heap.size a0 l0) (h1 : Ints w w.heap.size a1 l1) (h2 : Ints w w.heap.size a2 l2) (h' : Ints w w.heap.size A' load)
    (n : regs.length ≤ 9223372036854775807) (n0 : l0.length ≤ 9223372036854775807) (n1 : l1.length ≤ 9223372036854775807) (n2 : l2.length ≤ 9223372036854775807) (n' : load.length ≤ 9223372036854775807) :
    Calls Try.prog 30 #[.slice A regs.length C, .agg (zcells a0 l0 c0 a1 l1 c1 a2 l2 c2 ze zc zs), .slice A' load.length C'] w fun x w' =>
      x = .returned (valCE (checkP regs load ⟨l0, l1, l2, ze, zc, zs⟩)) ∧ Below w.heap.size w w' := by
  have b2 : Below w.heap.size w ((w.alloc (.cells (zcells a0 l0 c0 a1 l1 c1 a2 l2 c2 ze zc zs) 47)).alloc (.cells (cells 0 0 0 0 0) 33)) := ((Below.refl _ _).alloc (Nat.le_refl _) _).alloc (by simp) _
  have HA := Lib.hid (allot_calls A C regs a0 l0 c0 a1 l1 c1 a2 l2 c2 ze zc zs A' C' load _ ((h.below b2).more b2.size) ((h0.below b2).more b2.size) ((h1.below b2).more b2.size) ((h2.below b2).more b2.size) ((h'.below b2).more b2.size) n n0 n1 n2 n')
  have HCM : Hid (CMem w (zcells a0 l0 c0 a1 l1 c1 a2 l2 c2 ze zc zs) ((w.alloc (.cells (zcells a0 l0 c0 a1 l1 c1 a2 l2 c2 ze zc zs) 47)).alloc (.cells (cells 0 0 0 0 0) 33))) := ⟨(Block.mk_new _ _ _ rfl).alloc _, Block.mk_new _ _ _ (by simp), b2⟩
  have hus := allotP_us regs load ⟨l0, l1, l2, ze, zc, zs⟩
  have HCK : Hid (checkP regs load ⟨l0, l1, l2, ze, zc, zs⟩ = if (allotP regs load ⟨l0, l1, l2, ze, zc, zs⟩).2 ≠ 0 then (zeroC, (allotP regs load ⟨l0, l1, l2, ze, zc, zs⟩).2)
      else if mayC (allotP regs load ⟨l0, l1, l2, ze, zc, zs⟩).1 = false then (zeroC, 11)
      else if (survP regs (allotP regs load ⟨l0, l1, l2, ze, zc, zs⟩).1 zs).1 = false then (zeroC, 12)
      else ((allotP regs load ⟨l0, l1, l2, ze, zc, zs⟩).1, 0)) := rfl
  generalize checkP regs load ⟨l0, l1, l2, ze, zc, zs⟩ = CK at *
  generalize allotP regs load ⟨l0, l1, l2, ze, zc, zs⟩ = AP at *
  obtain ⟨⟨xv, xw, xl, xe, xc⟩, er⟩ := AP
  obtain ⟨u0, u1, u2⟩ := hus
  dsimp only at u0 u1 u2
  have HMY := Lib.hid fun w => cmay_calls xv xw xl xe xc w
  have HSV := Lib.hid fun (wr : World) (hb : Below w.heap.size w wr) => surv_calls A C regs xv xw xl xe xc zs wr n ((h.below hb).more hb.size)
  have HA2 : Hid (Calls Try.prog 31 #[.slice A regs.length C, .agg (zcells a0 l0 c0 a1 l1 c1 a2 l2 c2 ze zc zs), .slice A' load.length C'] ((w.alloc (.cells (zcells a0 l0 c0 a1 l1 c1 a2 l2 c2 ze zc zs) 47)).alloc (.cells (cells 0 0 0 0 0) 33)) fun x w' =>
      x = .returned (.tuple #[.agg (cells xv xw xl xe xc), .int .i64 er]) ∧ Below ((w.alloc (.cells (zcells a0 l0 c0 a1 l1 c1 a2 l2 c2 ze zc zs) 47)).alloc (.cells (cells 0 0 0 0 0) 33)).heap.size ((w.alloc (.cells (zcells a0 l0 c0 a1 l1 c1 a2 l2 c2 ze zc zs) 47)).alloc (.cells (cells 0 0 0 0 0) 33)) w') := HA
  clear h h0 h1 h2 h' n n0 n1 n2 n' b2 HA u0 u1 u2
  by_cases her : er = 0
  · obtain rfl : (0 : Int) = er := her.symm
    have HX : Hid (valCE ((⟨xv, xw, xl, xe, xc⟩ : Cfg), 0) = .tuple #[.agg (cells xv xw xl xe xc), .int .i64 0]) := rfl
    cases hM : mayC ⟨xv, xw, xl, xe, xc⟩ with
    | false =>
      have HF : Hid (CK = (zeroC, 11)) := by show _ = _; rw [HCK.out]; simp [hM]
      rw [hM] at HMY
      clear hM HCK her HSV HX
      go_enter Try.func30, Try.ntmps30
      go_wp2_with fail
      ((with_reducible refine HA2.out.mono ?_); rintro x w3 ⟨rfl, hb⟩)
      have HC3 := Lib.hid (HCM.out.below hb)
      have HC4 := Lib.hid (HC3.out.alloc (.cells (cells xv xw xl xe xc) 33))
      have HX4 : Hid (Block (w3.alloc (.cells (cells xv xw xl xe xc) 33)) w3.heap.size 33 (cells xv xw xl xe xc)) := Block.new _ _ _
      clear hb HCM
      go_wp2_with fail
      ((with_reducible refine (HMY.out _).mono ?_); rintro x w5 ⟨rfl, hb⟩)
      have HC5 := Lib.hid (HC4.out.below hb)
      clear hb HC4 HX4
      have q0 := HC5.out.2.1.cell 0
      have q1 := HC5.out.2.1.cell 1
      have q2 := HC5.out.2.1.cell 2
      have q3 := HC5.out.2.1.cell 3
      have q4 := HC5.out.2.1.cell 4
      have f0 := HC5.out.2.1.frozen 0
      have f1 := HC5.out.2.1.frozen 1
      have f2 := HC5.out.2.1.frozen 2
      have f3 := HC5.out.2.1.frozen 3
      have f4 := HC5.out.2.1.frozen 4
      simp at q0 q1 q2 q3 q4
      go_wp2_with fail
      obtain ⟨w9, hw9⟩ : ∃ w9, wput5 w5 (w.heap.size + 1) (.int .u16 0) (.int .u16 0) (.int .u16 0) (.int .i64 0) (.int .i64 0) = w9 := ⟨_, rfl⟩
      have HB9 : Hid (Below w.heap.size w w9) := by show Below _ _ _; rw [← hw9]; exact below_put5 HC5.out.2.2 (by omega) _ _ _ _ _
      have K9 : Block w9 (w.heap.size + 1) 33 #[.int .u16 0, .int .u16 0, .int .u16 0, .int .i64 0, .int .i64 0] := by rw [← hw9]; exact Block.put5 HC5.out.2.1 _ _ _ _ _
      unfold wput5 at hw9
      rw [hw9]
      have s0 := K9.cell 0
      have s1 := K9.cell 1
      have s2 := K9.cell 2
      have s3 := K9.cell 3
      have s4 := K9.cell 4
      simp at s0 s1 s2 s3 s4
      refine bodyPost_ret (v := valCE (zeroC, 11)) (by simp [results, Try.results30, go_sem, s0, s1, s2, s3, s4, valCE, valC, zeroC]) rfl ⟨?_, HB9.out⟩
      rw [HF.out]
    | true =>
      rw [hM] at HMY
      cases hS : survP regs ⟨xv, xw, xl, xe, xc⟩ zs with
      | mk is wh =>
      have HSV2 : Hid (∀ (wr : World), Below w.heap.size w wr → Calls Try.prog 55 #[.slice A regs.length C, .agg (cells xv xw xl xe xc), .int .i64 zs] wr fun x w' => x = .returned (.tuple #[.bool is, .int .i64 wh]) ∧ Below wr.heap.size wr w') := by
        intro wr hb
        have hh := HSV.out wr hb
        rw [hS] at hh
        exact hh
      cases is with
      | false =>
        have HF : Hid (CK = (zeroC, 12)) := by show _ = _; rw [HCK.out]; simp [hM, hS]
        clear hM HCK her HSV HX hS
        go_enter Try.func30, Try.ntmps30
        go_wp2_with fail
        ((with_reducible refine HA2.out.mono ?_); rintro x w3 ⟨rfl, hb⟩)
        have HC3 := Lib.hid (HCM.out.below hb)
        have HC4 := Lib.hid (HC3.out.alloc (.cells (cells xv xw xl xe xc) 33))
        have HX4 : Hid (Block (w3.alloc (.cells (cells xv xw xl xe xc) 33)) w3.heap.size 33 (cells xv xw xl xe xc)) := Block.new _ _ _
        clear hb HCM
        go_wp2_with fail
        ((with_reducible refine (HMY.out _).mono ?_); rintro x w5 ⟨rfl, hb⟩)
        have HC5 := Lib.hid (HC4.out.below hb)
        have HX5 := Lib.hid (HX4.out.below hb HX4.out.lt)
        clear hb HC4 HX4
        have z5 := HC5.out.1.cell 5
        have x0 := HX5.out.cell 0
        have x1 := HX5.out.cell 1
        have x2 := HX5.out.cell 2
        have x3 := HX5.out.cell 3
        have x4 := HX5.out.cell 4
        simp at z5 x0 x1 x2 x3 x4
        go_wp2_with fail
        have HSV3 := Lib.hid (HSV2.out _ HC5.out.2.2)
        ((with_reducible refine HSV3.out.mono ?_); rintro x w6 ⟨rfl, hb⟩)
        have HC6 := Lib.hid (HC5.out.below hb)
        clear hb HC5 HX5
        have q0 := HC6.out.2.1.cell 0
        have q1 := HC6.out.2.1.cell 1
        have q2 := HC6.out.2.1.cell 2
        have q3 := HC6.out.2.1.cell 3
        have q4 := HC6.out.2.1.cell 4
        have f0 := HC6.out.2.1.frozen 0
        have f1 := HC6.out.2.1.frozen 1
        have f2 := HC6.out.2.1.frozen 2
        have f3 := HC6.out.2.1.frozen 3
        have f4 := HC6.out.2.1.frozen 4
        simp at q0 q1 q2 q3 q4
        go_wp2_with fail
        obtain ⟨w9, hw9⟩ : ∃ w9, wput5 w6 (w.heap.size + 1) (.int .u16 0) (.int .u16 0) (.int .u16 0) (.int .i64 0) (.int .i64 0) = w9 := ⟨_, rfl⟩
        have HB9 : Hid (Below w.heap.size w w9) := by show Below _ _ _; rw [← hw9]; exact below_put5 HC6.out.2.2 (by omega) _ _ _ _ _
        have K9 : Block w9 (w.heap.size + 1) 33 #[.int .u16 0, .int .u16 0, .int .u16 0, .int .i64 0, .int .i64 0] := by rw [← hw9]; exact Block.put5 HC6.out.2.1 _ _ _ _ _
        unfold wput5 at hw9
        rw [hw9]
        have s0 := K9.cell 0
        have s1 := K9.cell 1
        have s2 := K9.cell 2
        have s3 := K9.cell 3
        have s4 := K9.cell 4
        simp at s0 s1 s2 s3 s4
        refine bodyPost_ret (v := valCE (zeroC, 12)) (by simp [results, Try.results30, go_sem, s0, s1, s2, s3, s4, valCE, valC, zeroC]) rfl ⟨?_, HB9.out⟩
        rw [HF.out]
      | true =>
        have HF : Hid (CK = (⟨xv, xw, xl, xe, xc⟩, 0)) := by show _ = _; rw [HCK.out]; simp [hM, hS]
        clear hM HCK her HSV hS
        go_enter Try.func30, Try.ntmps30
        go_wp2_with fail
        ((with_reducible refine HA2.out.mono ?_); rintro x w3 ⟨rfl, hb⟩)
        have HC3 := Lib.hid (HCM.out.below hb)
        have HC4 := Lib.hid (HC3.out.alloc (.cells (cells xv xw xl xe xc) 33))
        have HX4 : Hid (Block (w3.alloc (.cells (cells xv xw xl xe xc) 33)) w3.heap.size 33 (cells xv xw xl xe xc)) := Block.new _ _ _
        clear hb HCM
        go_wp2_with fail
        ((with_reducible refine (HMY.out _).mono ?_); rintro x w5 ⟨rfl, hb⟩)
        have HC5 := Lib.hid (HC4.out.below hb)
        have HX5 := Lib.hid (HX4.out.below hb HX4.out.lt)
        clear hb HC4 HX4
        have z5 := HC5.out.1.cell 5
        have x0 := HX5.out.cell 0
        have x1 := HX5.out.cell 1
        have x2 := HX5.out.cell 2
        have x3 := HX5.out.cell 3
        have x4 := HX5.out.cell 4
        simp at z5 x0 x1 x2 x3 x4
        go_wp2_with fail
        have HSV3 := Lib.hid (HSV2.out _ HC5.out.2.2)
        ((with_reducible refine HSV3.out.mono ?_); rintro x w6 ⟨rfl, hb⟩)
        have HC6 := Lib.hid (HC5.out.below hb)
        have HX6 := Lib.hid (HX5.out.below hb HX5.out.lt)
        clear hb HC5 HX5 x0 x1 x2 x3 x4 z5
        have x0 := HX6.out.cell 0
        have x1 := HX6.out.cell 1
        have x2 := HX6.out.cell 2
        have x3 := HX6.out.cell 3
        have x4 := HX6.out.cell 4
        simp at x0 x1 x2 x3 x4
        have q0 := HC6.out.2.1.cell 0
        have q1 := HC6.out.2.1.cell 1
        have q2 := HC6.out.2.1.cell 2
        have q3 := HC6.out.2.1.cell 3
        have q4 := HC6.out.2.1.cell 4
        have f0 := HC6.out.2.1.frozen 0
        have f1 := HC6.out.2.1.frozen 1
        have f2 := HC6.out.2.1.frozen 2
        have f3 := HC6.out.2.1.frozen 3
        have f4 := HC6.out.2.1.frozen 4
        simp at q0 q1 q2 q3 q4
        go_wp2_with fail
        obtain ⟨w9, hw9⟩ : ∃ w9, wput5 w6 (w.heap.size + 1) (.int .u16 xv) (.int .u16 xw) (.int .u16 xl) (.int .i64 xe) (.int .i64 xc) = w9 := ⟨_, rfl⟩
        have HB9 : Hid (Below w.heap.size w w9) := by show Below _ _ _; rw [← hw9]; exact below_put5 HC6.out.2.2 (by omega) _ _ _ _ _
        have K9 : Block w9 (w.heap.size + 1) 33 #[.int .u16 xv, .int .u16 xw, .int .u16 xl, .int .i64 xe, .int .i64 xc] := by rw [← hw9]; exact Block.put5 HC6.out.2.1 _ _ _ _ _
        unfold wput5 at hw9
        rw [hw9]
        have s0 := K9.cell 0
        have s1 := K9.cell 1
        have s2 := K9.cell 2
        have s3 := K9.cell 3
        have s4 := K9.cell 4
        simp at s0 s1 s2 s3 s4
        refine bodyPost_ret (v := .tuple #[.agg (cells xv xw xl xe xc), .int .i64 0]) (by simp [results, Try.results30, go_sem, s0, s1, s2, s3, s4]) rfl ⟨?_, HB9.out⟩
        rw [HF.out, HX.out]
  · have HF : Hid (CK = (zeroC, er)) := by show _ = _; rw [HCK.out]; simp [her]
    have her' : (er == 0) = false := by simpa using her
    have her2 : (er != 0) = true := by simpa using her
    have HX : Hid (valCE ((zeroC, er) : Cfg × Int) = .tuple #[.agg (cells 0 0 0 0 0), .int .i64 er]) := rfl
    clear HCK her HSV HMY
    go_enter Try.func30, Try.ntmps30
    go_wp2_with fail
    ((with_reducible refine HA2.out.mono ?_); rintro x w3 ⟨rfl, hb⟩)
    have HC3 := Lib.hid (HCM.out.below hb)
    clear hb HCM
    have HC4 := Lib.hid (HC3.out.alloc (.cells (cells xv xw xl xe xc) 33))
    have q0 := HC4.out.2.1.cell 0
    have q1 := HC4.out.2.1.cell 1
    have q2 := HC4.out.2.1.cell 2
    have q3 := HC4.out.2.1.cell 3
    have q4 := HC4.out.2.1.cell 4
    have f0 := HC4.out.2.1.frozen 0
    have f1 := HC4.out.2.1.frozen 1
    have f2 := HC4.out.2.1.frozen 2
    have f3 := HC4.out.2.1.frozen 3
    have f4 := HC4.out.2.1.frozen 4
    simp at q0 q1 q2 q3 q4
    go_wp2_with fail
    obtain ⟨w9, hw9⟩ : ∃ w9, wput5 (w3.alloc (.cells (cells xv xw xl xe xc) 33)) (w.heap.size + 1) (.int .u16 0) (.int .u16 0) (.int .u16 0) (.int .i64 0) (.int .i64 0) = w9 := ⟨_, rfl⟩
    have HB9 : Hid (Below w.heap.size w w9) := by show Below _ _ _; rw [← hw9]; exact below_put5 HC4.out.2.2 (by omega) _ _ _ _ _
    have K9 : Block w9 (w.heap.size + 1) 33 #[.int .u16 0, .int .u16 0, .int .u16 0, .int .i64 0, .int .i64 0] := by rw [← hw9]; exact Block.put5 HC4.out.2.1 _ _ _ _ _
    unfold wput5 at hw9
    rw [hw9]
    have s0 := K9.cell 0
    have s1 := K9.cell 1
    have s2 := K9.cell 2
    have s3 := K9.cell 3
    have s4 := K9.cell 4
    simp at s0 s1 s2 s3 s4
    refine bodyPost_ret (v := .tuple #[.agg (cells 0 0 0 0 0), .int .i64 er]) (by simp [results, Try.results30, go_sem, s0, s1, s2, s3, s4]) rfl ⟨?_, HB9.out⟩
    rw [HF.out, HX.out]
end Go.Proofs.Ytcciejglemfebaa
