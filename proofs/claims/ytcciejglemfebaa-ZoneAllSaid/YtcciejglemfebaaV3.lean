/- antipodelaw11.ZoneAll answers true; memory that was there is as it was. -/
import Derived.Test.YtcciejglemfebaaV1
import Derived.Test.YtcciejglemfebaaZ14
import Derived.Test.YtcciejglemfebaaM1
namespace Go.Proofs.Ytcciejglemfebaa
set_option linter.unusedSimpArgs false
open Go.RowKit

/-- A block of six cells, told cell by cell. -/
theorem keepS6 {w w' : World} {g : Nat} {t : TypeId} {a b c d e f : Value} (h : Keep w g t #[a, b, c, d, e, f] w') :
    Hid (Keep w g t #[a, b, c, d, e, f] w') ∧ w'.cell? ⟨g, 0, none⟩ = some a ∧ w'.cell? ⟨g, 1, none⟩ = some b ∧ w'.cell? ⟨g, 2, none⟩ = some c ∧ w'.cell? ⟨g, 3, none⟩ = some d ∧ w'.cell? ⟨g, 4, none⟩ = some e ∧ w'.cell? ⟨g, 5, none⟩ = some f :=
  ⟨Lib.hid h, h.1.cell 0, h.1.cell 1, h.1.cell 2, h.1.cell 3, h.1.cell 4, h.1.cell 5⟩

set_option maxRecDepth 100000 in
set_option maxHeartbeats 6400000 in
theorem zall_calls (A : Option Addr) (regs : List Int) (C : Nat) (a0 : Option Addr) (l0 : List Int) (c0 : Nat) (a1 : Option Addr) (l1 : List Int) (c1 : Nat) (a2 : Option Addr) (l2 : List Int) (c2 : Nat) (ze zc zs : Int) (A' : Option Addr) (load : List Int) (C' : Nat) (w : World)
    (h : Ints w w.heap.size A regs) (h0 : Ints w w.heap.size a0 l0) (h1 : Ints w w.heap.size a1 l1) (h2 : Ints w w.heap.size a2 l2) (h' : Ints w w.heap.size A' load)
    (n : regs.length ≤ 9223372036854775807) (n0 : l0.length ≤ 9223372036854775807) (n1 : l1.length ≤ 9223372036854775807) (n2 : l2.length ≤ 9223372036854775807) (n' : load.length ≤ 9223372036854775807) :
    Calls Try.prog 13 #[.slice A regs.length C, .agg (zcells a0 l0 c0 a1 l1 c1 a2 l2 c2 ze zc zs), .slice A' load.length C'] w fun x w' => x = .returned (.bool true) ∧ Below w.heap.size w w' := by
  have K0 : Hid (Keep w w.heap.size 47 (zcells a0 l0 c0 a1 l1 c1 a2 l2 c2 ze zc zs) (w.alloc (.cells (zcells a0 l0 c0 a1 l1 c1 a2 l2 c2 ze zc zs) 47))) := Keep.new _ _ _
  have hA := fun (wr : World) (hb : Below w.heap.size w wr) => allot_calls A C regs a0 l0 c0 a1 l1 c1 a2 l2 c2 ze zc zs A' C' load wr ((h.below hb).more hb.size) ((h0.below hb).more hb.size) ((h1.below hb).more hb.size) ((h2.below hb).more hb.size) ((h'.below hb).more hb.size) n n0 n1 n2 n'
  have hB := fun (wr : World) (hb : Below w.heap.size w wr) => rallot_calls A C regs a0 l0 c0 a1 l1 c1 a2 l2 c2 ze zc zs A' C' load wr ((h.below hb).more hb.size) ((h0.below hb).more hb.size) ((h1.below hb).more hb.size) ((h2.below hb).more hb.size) ((h'.below hb).more hb.size) n n0 n1 n2 n'
  have hC := fun (wr : World) (hb : Below w.heap.size w wr) => check_calls A C regs a0 l0 c0 a1 l1 c1 a2 l2 c2 ze zc zs A' C' load wr ((h.below hb).more hb.size) ((h0.below hb).more hb.size) ((h1.below hb).more hb.size) ((h2.below hb).more hb.size) ((h'.below hb).more hb.size) n n0 n1 n2 n'
  have hD := fun (wr : World) (hb : Below w.heap.size w wr) => rcheck_calls A C regs a0 l0 c0 a1 l1 c1 a2 l2 c2 ze zc zs A' C' load wr ((h.below hb).more hb.size) ((h0.below hb).more hb.size) ((h1.below hb).more hb.size) ((h2.below hb).more hb.size) ((h'.below hb).more hb.size) n n0 n1 n2 n'
  have hL := fun (wr : World) => light_calls A C regs a0 l0 c0 a1 l1 c1 a2 l2 c2 ze zc zs A' C' load wr n n0 n1 n2 n'
  have hM := fun (wr : World) (hb : Below w.heap.size w wr) => mayzone_calls a0 l0 c0 a1 l1 c1 a2 l2 c2 ze zc zs wr ((h0.below hb).more hb.size) ((h1.below hb).more hb.size) ((h2.below hb).more hb.size) n0 n1 n2
  have hN := fun (wr : World) (hb : Below w.heap.size w wr) => rmayzone_calls a0 l0 c0 a1 l1 c1 a2 l2 c2 ze zc zs wr ((h0.below hb).more hb.size) ((h1.below hb).more hb.size) ((h2.below hb).more hb.size) n0 n1 n2
  generalize allotP regs load ⟨l0, l1, l2, ze, zc, zs⟩ = AP at hA hB
  generalize checkP regs load ⟨l0, l1, l2, ze, zc, zs⟩ = CP at hC hD
  generalize mayZB ⟨l0, l1, l2, ze, zc, zs⟩ = MZ at hM hN
  obtain ⟨⟨av, aw, al, ae, ac⟩, er⟩ := AP
  obtain ⟨⟨kv, kw, kl, ke, kc⟩, kr⟩ := CP
  have HAL : Hid (∀ wr : World, Below w.heap.size w wr → Calls Try.prog 31 #[.slice A regs.length C, .agg (zcells a0 l0 c0 a1 l1 c1 a2 l2 c2 ze zc zs), .slice A' load.length C'] wr fun x w' => x = .returned (.tuple #[.agg (cells av aw al ae ac), .int .i64 er]) ∧ Below wr.heap.size wr w') := hA
  have HBL : Hid (∀ wr : World, Below w.heap.size w wr → Calls Try.prog 51 #[.slice A regs.length C, .agg (zcells a0 l0 c0 a1 l1 c1 a2 l2 c2 ze zc zs), .slice A' load.length C'] wr fun x w' => x = .returned (.tuple #[.agg (cells av aw al ae ac), .int .i64 er]) ∧ Below wr.heap.size wr w') := hB
  have HCL : Hid (∀ wr : World, Below w.heap.size w wr → Calls Try.prog 30 #[.slice A regs.length C, .agg (zcells a0 l0 c0 a1 l1 c1 a2 l2 c2 ze zc zs), .slice A' load.length C'] wr fun x w' => x = .returned (.tuple #[.agg (cells kv kw kl ke kc), .int .i64 kr]) ∧ Below wr.heap.size wr w') := hC
  have HDL : Hid (∀ wr : World, Below w.heap.size w wr → Calls Try.prog 52 #[.slice A regs.length C, .agg (zcells a0 l0 c0 a1 l1 c1 a2 l2 c2 ze zc zs), .slice A' load.length C'] wr fun x w' => x = .returned (.tuple #[.agg (cells kv kw kl ke kc), .int .i64 kr]) ∧ Below wr.heap.size wr w') := hD
  have HMZ := Lib.hid hM
  have HRZ := Lib.hid hN
  clear hA hB hC hD hM hN h h0 h1 h2 h' n n0 n1 n2 n'
  cases hLT : lightB regs l0 l1 l2 load with
  | false =>
    rw [hLT] at hL
    have HL := Lib.hid hL
    clear hL hLT
    go_enter Try.func13, Try.ntmps13
    go_wp2_with fail
    ((with_reducible refine (begun11 _).mono ?_); rintro x w1 ⟨rfl, hb⟩)
    have K1 := Lib.hid (K0.out.call hb)
    obtain ⟨_, x0, x1, x2, x3, x4, x5⟩ := keepS6 K1.out
    clear hb K0
    go_wp2_with fail
    ((with_reducible refine (HL.out _).mono ?_); rintro x w2 ⟨rfl, hb⟩)
    have K2 := Lib.hid (K1.out.call hb)
    clear hb K1
    go_wp2_with fail
    go_ret
    exact ⟨rfl, K2.out.2⟩
  | true =>
    rw [hLT] at hL
    have HL := Lib.hid hL
    clear hL hLT
    go_enter Try.func13, Try.ntmps13
    go_wp2_with fail
    ((with_reducible refine (begun11 _).mono ?_); rintro x w1 ⟨rfl, hb⟩)
    have K1 := Lib.hid (K0.out.call hb)
    obtain ⟨_, x0, x1, x2, x3, x4, x5⟩ := keepS6 K1.out
    clear hb K0
    go_wp2_with fail
    ((with_reducible refine (HL.out _).mono ?_); rintro x w2 ⟨rfl, hb⟩)
    have HKz := Lib.hid (K1.out.call hb)
    clear hb K1 x0 x1 x2 x3 x4 x5 HL
    obtain ⟨_, x0, x1, x2, x3, x4, x5⟩ := keepS6 HKz.out
    have HX0 := Lib.hid (HAL.out _ HKz.out.2)
    clear HAL
    go_wp2_with fail
    ((with_reducible refine HX0.out.mono ?_); rintro x w3 ⟨rfl, hb⟩)
    clear HX0
    have HY := Lib.hid ((HKz.out.call hb).2)
    have X := Lib.hid ((HKz.out.call hb).alloc (.cells (cells av aw al ae ac) 33))
    clear HKz
    have HKz := X
    clear X
    have HKa : Hid (Keep w w3.heap.size 33 (cells av aw al ae ac) (w3.alloc (.cells (cells av aw al ae ac) 33))) := Keep.mk_new HY.out rfl
    clear hb HY x0 x1 x2 x3 x4 x5
    obtain ⟨_, x0, x1, x2, x3, x4, x5⟩ := keepS6 HKz.out
    have HX0 := Lib.hid (HBL.out _ HKz.out.2)
    clear HBL
    go_wp2_with fail
    ((with_reducible refine HX0.out.mono ?_); rintro x w4 ⟨rfl, hb⟩)
    clear HX0
    have HY := Lib.hid ((HKz.out.call hb).2)
    have X := Lib.hid ((HKz.out.call hb).alloc (.cells (cells av aw al ae ac) 33))
    clear HKz
    have HKz := X
    clear X
    have X := Lib.hid ((HKa.out.call hb).alloc (.cells (cells av aw al ae ac) 33))
    clear HKa
    have HKa := X
    clear X
    have HKb : Hid (Keep w w4.heap.size 33 (cells av aw al ae ac) (w4.alloc (.cells (cells av aw al ae ac) 33))) := Keep.mk_new HY.out rfl
    clear hb HY x0 x1 x2 x3 x4 x5
    obtain ⟨_, x0, x1, x2, x3, x4, x5⟩ := keepS6 HKz.out
    have HX0 := Lib.hid (HCL.out _ HKz.out.2)
    clear HCL
    go_wp2_with fail
    ((with_reducible refine HX0.out.mono ?_); rintro x w5 ⟨rfl, hb⟩)
    clear HX0
    have HY := Lib.hid ((HKz.out.call hb).2)
    have X := Lib.hid ((HKz.out.call hb).alloc (.cells (cells kv kw kl ke kc) 33))
    clear HKz
    have HKz := X
    clear X
    have X := Lib.hid ((HKa.out.call hb).alloc (.cells (cells kv kw kl ke kc) 33))
    clear HKa
    have HKa := X
    clear X
    have X := Lib.hid ((HKb.out.call hb).alloc (.cells (cells kv kw kl ke kc) 33))
    clear HKb
    have HKb := X
    clear X
    have HKc : Hid (Keep w w5.heap.size 33 (cells kv kw kl ke kc) (w5.alloc (.cells (cells kv kw kl ke kc) 33))) := Keep.mk_new HY.out rfl
    clear hb HY x0 x1 x2 x3 x4 x5
    obtain ⟨_, x0, x1, x2, x3, x4, x5⟩ := keepS6 HKz.out
    have HX0 := Lib.hid (HDL.out _ HKz.out.2)
    clear HDL
    go_wp2_with fail
    ((with_reducible refine HX0.out.mono ?_); rintro x w6 ⟨rfl, hb⟩)
    clear HX0
    have HY := Lib.hid ((HKz.out.call hb).2)
    have X := Lib.hid ((HKz.out.call hb).alloc (.cells (cells kv kw kl ke kc) 33))
    clear HKz
    have HKz := X
    clear X
    have X := Lib.hid ((HKa.out.call hb).alloc (.cells (cells kv kw kl ke kc) 33))
    clear HKa
    have HKa := X
    clear X
    have X := Lib.hid ((HKb.out.call hb).alloc (.cells (cells kv kw kl ke kc) 33))
    clear HKb
    have HKb := X
    clear X
    have X := Lib.hid ((HKc.out.call hb).alloc (.cells (cells kv kw kl ke kc) 33))
    clear HKc
    have HKc := X
    clear X
    have HKd : Hid (Keep w w6.heap.size 33 (cells kv kw kl ke kc) (w6.alloc (.cells (cells kv kw kl ke kc) 33))) := Keep.mk_new HY.out rfl
    clear hb HY x0 x1 x2 x3 x4 x5
    obtain ⟨_, x0, x1, x2, x3, x4, x5⟩ := keepS6 HKz.out
    go_wp2_with fail
    refine held_start (n := 26) (S := fun w' => (Hid (Keep w w.heap.size 47 #[.slice a0 l0.length c0, .slice a1 l1.length c1, .slice a2 l2.length c2, .int .i64 ze, .int .i64 zc, .int .i64 zs] w') ∧ w'.cell? ⟨w.heap.size, 0, none⟩ = some (.slice a0 l0.length c0) ∧ w'.cell? ⟨w.heap.size, 1, none⟩ = some (.slice a1 l1.length c1) ∧ w'.cell? ⟨w.heap.size, 2, none⟩ = some (.slice a2 l2.length c2) ∧ w'.cell? ⟨w.heap.size, 3, none⟩ = some (.int .i64 ze) ∧ w'.cell? ⟨w.heap.size, 4, none⟩ = some (.int .i64 zc) ∧ w'.cell? ⟨w.heap.size, 5, none⟩ = some (.int .i64 zs)) ∧ (Hid (Keep w w3.heap.size 33 #[.int .u16 av, .int .u16 aw, .int .u16 al, .int .i64 ae, .int .i64 ac] w') ∧ w'.cell? ⟨w3.heap.size, 0, none⟩ = some (.int .u16 av) ∧ w'.cell? ⟨w3.heap.size, 1, none⟩ = some (.int .u16 aw) ∧ w'.cell? ⟨w3.heap.size, 2, none⟩ = some (.int .u16 al) ∧ w'.cell? ⟨w3.heap.size, 3, none⟩ = some (.int .i64 ae) ∧ w'.cell? ⟨w3.heap.size, 4, none⟩ = some (.int .i64 ac)) ∧ (Hid (Keep w w4.heap.size 33 #[.int .u16 av, .int .u16 aw, .int .u16 al, .int .i64 ae, .int .i64 ac] w') ∧ w'.cell? ⟨w4.heap.size, 0, none⟩ = some (.int .u16 av) ∧ w'.cell? ⟨w4.heap.size, 1, none⟩ = some (.int .u16 aw) ∧ w'.cell? ⟨w4.heap.size, 2, none⟩ = some (.int .u16 al) ∧ w'.cell? ⟨w4.heap.size, 3, none⟩ = some (.int .i64 ae) ∧ w'.cell? ⟨w4.heap.size, 4, none⟩ = some (.int .i64 ac)) ∧ (Hid (Keep w w5.heap.size 33 #[.int .u16 kv, .int .u16 kw, .int .u16 kl, .int .i64 ke, .int .i64 kc] w') ∧ w'.cell? ⟨w5.heap.size, 0, none⟩ = some (.int .u16 kv) ∧ w'.cell? ⟨w5.heap.size, 1, none⟩ = some (.int .u16 kw) ∧ w'.cell? ⟨w5.heap.size, 2, none⟩ = some (.int .u16 kl) ∧ w'.cell? ⟨w5.heap.size, 3, none⟩ = some (.int .i64 ke) ∧ w'.cell? ⟨w5.heap.size, 4, none⟩ = some (.int .i64 kc)) ∧ (Hid (Keep w w6.heap.size 33 #[.int .u16 kv, .int .u16 kw, .int .u16 kl, .int .i64 ke, .int .i64 kc] w') ∧ w'.cell? ⟨w6.heap.size, 0, none⟩ = some (.int .u16 kv) ∧ w'.cell? ⟨w6.heap.size, 1, none⟩ = some (.int .u16 kw) ∧ w'.cell? ⟨w6.heap.size, 2, none⟩ = some (.int .u16 kl) ∧ w'.cell? ⟨w6.heap.size, 3, none⟩ = some (.int .i64 ke) ∧ w'.cell? ⟨w6.heap.size, 4, none⟩ = some (.int .i64 kc))) #[false, false, false, false, false, false, false, false, false, false, false, false, false, false, false, false, false, false, false, false, false, false, false, false, false, false] (by kernel_rfl) rfl rfl ⟨keepS6 (Keep.drew (Hid.out HKz)), keepS5 (Keep.drew (Hid.out HKa)), keepS5 (Keep.drew (Hid.out HKb)), keepS5 (Keep.drew (Hid.out HKc)), keepS5 (Keep.drew (Hid.out HKd))⟩ (fun hHeld => ?_)
    refine held_on (i := 0) (N := (some 50)) (v := ?_) #[true, false, false, false, false, false, false, false, false, false, false, false, false, false, false, false, false, false, false, false, false, false, false, false, false, false] rfl rfl (by kernel_rfl) (fun _ _ _ h => h) (by rfl) ?_ (by assumption) ?_
    rotate_left; (intro w hSw; (try dsimp only at hSw); go_simp); (try with_reducible rfl); (simp only [Act.put, List.setIfInBounds_toArray, List.set_cons_zero, List.set_cons_succ])
    refine held_on (i := 1) (N := (some 51)) (v := ?_) #[true, true, false, false, false, false, false, false, false, false, false, false, false, false, false, false, false, false, false, false, false, false, false, false, false, false] rfl rfl (by kernel_rfl) (fun _ _ _ h => h) (by rfl) ?_ (by assumption) ?_
    rotate_left; (intro w hSw; (try dsimp only at hSw); go_simp); (try with_reducible rfl); (simp only [Act.put, List.setIfInBounds_toArray, List.set_cons_zero, List.set_cons_succ])
    refine held_on (i := 2) (N := (some 52)) (v := ?_) #[true, true, true, false, false, false, false, false, false, false, false, false, false, false, false, false, false, false, false, false, false, false, false, false, false, false] rfl rfl (by kernel_rfl) (fun _ _ _ h => h) (by rfl) ?_ (by assumption) ?_
    rotate_left; (intro w hSw; (try dsimp only at hSw); go_simp); (try with_reducible rfl); (simp only [Act.put, List.setIfInBounds_toArray, List.set_cons_zero, List.set_cons_succ])
    refine held_on (i := 3) (N := (some 53)) (v := ?_) #[true, true, true, true, false, false, false, false, false, false, false, false, false, false, false, false, false, false, false, false, false, false, false, false, false, false] rfl rfl (by kernel_rfl) (fun _ _ _ h => h) (by rfl) ?_ (by assumption) ?_
    rotate_left; (intro w hSw; (try dsimp only at hSw); go_simp); (try with_reducible rfl); (simp only [Act.put, List.setIfInBounds_toArray, List.set_cons_zero, List.set_cons_succ])
    refine held_on (i := 4) (N := (some 54)) (v := ?_) #[true, true, true, true, true, false, false, false, false, false, false, false, false, false, false, false, false, false, false, false, false, false, false, false, false, false] rfl rfl (by kernel_rfl) (fun _ _ _ h => h) (by rfl) ?_ (by assumption) ?_
    rotate_left; (intro w hSw; (try dsimp only at hSw); go_simp); (try with_reducible rfl); (simp only [Act.put, List.setIfInBounds_toArray, List.set_cons_zero, List.set_cons_succ])
    refine held_on (i := 5) (N := (some 55)) (v := ?_) #[true, true, true, true, true, true, false, false, false, false, false, false, false, false, false, false, false, false, false, false, false, false, false, false, false, false] rfl rfl (by kernel_rfl) (fun _ _ _ h => h) (by rfl) ?_ (by assumption) ?_
    rotate_left; (intro w hSw; (try dsimp only at hSw); go_simp); (try with_reducible rfl); (simp only [Act.put, List.setIfInBounds_toArray, List.set_cons_zero, List.set_cons_succ])
    refine held_on (i := 6) (N := (some 56)) (v := ?_) #[true, true, true, true, true, true, true, false, false, false, false, false, false, false, false, false, false, false, false, false, false, false, false, false, false, false] rfl rfl (by kernel_rfl) (fun _ _ _ h => h) (by rfl) ?_ (by assumption) ?_
    rotate_left; (intro w hSw; (try dsimp only at hSw); go_simp); (try with_reducible rfl); (simp only [Act.put, List.setIfInBounds_toArray, List.set_cons_zero, List.set_cons_succ])
    refine held_on (i := 7) (N := (some 57)) (v := ?_) #[true, true, true, true, true, true, true, true, false, false, false, false, false, false, false, false, false, false, false, false, false, false, false, false, false, false] rfl rfl (by kernel_rfl) (fun _ _ _ h => h) (by rfl) ?_ (by assumption) ?_
    rotate_left; (intro w hSw; (try dsimp only at hSw); go_simp); (try with_reducible rfl); (simp only [Act.put, List.setIfInBounds_toArray, List.set_cons_zero, List.set_cons_succ])
    refine held_on (i := 8) (N := (some 58)) (v := ?_) #[true, true, true, true, true, true, true, true, true, false, false, false, false, false, false, false, false, false, false, false, false, false, false, false, false, false] rfl rfl (by kernel_rfl) (fun _ _ _ h => h) (by rfl) ?_ (by assumption) ?_
    rotate_left; (intro w hSw; (try dsimp only at hSw); go_simp); (try with_reducible rfl); (simp only [Act.put, List.setIfInBounds_toArray, List.set_cons_zero, List.set_cons_succ])
    refine held_on (i := 9) (N := (some 59)) (v := ?_) #[true, true, true, true, true, true, true, true, true, true, false, false, false, false, false, false, false, false, false, false, false, false, false, false, false, false] rfl rfl (by kernel_rfl) (fun _ _ _ h => h) (by rfl) ?_ (by assumption) ?_
    rotate_left; (intro w hSw; (try dsimp only at hSw); go_simp); (try with_reducible rfl); (simp only [Act.put, List.setIfInBounds_toArray, List.set_cons_zero, List.set_cons_succ])
    refine held_on (i := 10) (N := (some 60)) (v := ?_) #[true, true, true, true, true, true, true, true, true, true, true, false, false, false, false, false, false, false, false, false, false, false, false, false, false, false] rfl rfl (by kernel_rfl) (fun _ _ _ h => h) (by rfl) ?_ (by assumption) ?_
    rotate_left; (intro w hSw; (try dsimp only at hSw); go_simp); (try with_reducible rfl); (simp only [Act.put, List.setIfInBounds_toArray, List.set_cons_zero, List.set_cons_succ])
    refine held_on (i := 11) (N := (some 61)) (v := ?_) #[true, true, true, true, true, true, true, true, true, true, true, true, false, false, false, false, false, false, false, false, false, false, false, false, false, false] rfl rfl (by kernel_rfl) (fun _ _ _ h => h) (by rfl) ?_ (by assumption) ?_
    rotate_left; (intro w hSw; (try dsimp only at hSw); go_simp); (try with_reducible rfl); (simp only [Act.put, List.setIfInBounds_toArray, List.set_cons_zero, List.set_cons_succ])
    refine held_on (i := 12) (N := (some 62)) (v := ?_) #[true, true, true, true, true, true, true, true, true, true, true, true, true, false, false, false, false, false, false, false, false, false, false, false, false, false] rfl rfl (by kernel_rfl) (fun _ _ _ h => h) (by rfl) ?_ (by assumption) ?_
    rotate_left; (intro w hSw; (try dsimp only at hSw); go_simp); (try with_reducible rfl); (simp only [Act.put, List.setIfInBounds_toArray, List.set_cons_zero, List.set_cons_succ])
    refine held_on (i := 13) (N := (some 63)) (v := ?_) #[true, true, true, true, true, true, true, true, true, true, true, true, true, true, false, false, false, false, false, false, false, false, false, false, false, false] rfl rfl (by kernel_rfl) (fun _ _ _ h => h) (by rfl) ?_ (by assumption) ?_
    rotate_left; (intro w hSw; (try dsimp only at hSw); go_simp); (try with_reducible rfl); (simp only [Act.put, List.setIfInBounds_toArray, List.set_cons_zero, List.set_cons_succ])
    refine held_on (i := 14) (N := (some 64)) (v := ?_) #[true, true, true, true, true, true, true, true, true, true, true, true, true, true, true, false, false, false, false, false, false, false, false, false, false, false] rfl rfl (by kernel_rfl) (fun _ _ _ h => h) (by rfl) ?_ (by assumption) ?_
    rotate_left; (intro w hSw; (try dsimp only at hSw); go_simp); (try with_reducible rfl); (simp only [Act.put, List.setIfInBounds_toArray, List.set_cons_zero, List.set_cons_succ])
    refine held_on (i := 15) (N := (some 65)) (v := ?_) #[true, true, true, true, true, true, true, true, true, true, true, true, true, true, true, true, false, false, false, false, false, false, false, false, false, false] rfl rfl (by kernel_rfl) (fun _ _ _ h => h) (by rfl) ?_ (by assumption) ?_
    rotate_left; (intro w hSw; (try dsimp only at hSw); go_simp); (try with_reducible rfl); (simp only [Act.put, List.setIfInBounds_toArray, List.set_cons_zero, List.set_cons_succ])
    refine held_on (i := 16) (N := (some 66)) (v := ?_) #[true, true, true, true, true, true, true, true, true, true, true, true, true, true, true, true, true, false, false, false, false, false, false, false, false, false] rfl rfl (by kernel_rfl) (fun _ _ _ h => h) (by rfl) ?_ (by assumption) ?_
    rotate_left; (intro w hSw; (try dsimp only at hSw); go_simp); (try with_reducible rfl); (simp only [Act.put, List.setIfInBounds_toArray, List.set_cons_zero, List.set_cons_succ])
    refine held_on (i := 17) (N := (some 67)) (v := ?_) #[true, true, true, true, true, true, true, true, true, true, true, true, true, true, true, true, true, true, false, false, false, false, false, false, false, false] rfl rfl (by kernel_rfl) (fun _ _ _ h => h) (by rfl) ?_ (by assumption) ?_
    rotate_left; (intro w hSw; (try dsimp only at hSw); go_simp); (try with_reducible rfl); (simp only [Act.put, List.setIfInBounds_toArray, List.set_cons_zero, List.set_cons_succ])
    refine held_on (i := 18) (N := (some 68)) (v := ?_) #[true, true, true, true, true, true, true, true, true, true, true, true, true, true, true, true, true, true, true, false, false, false, false, false, false, false] rfl rfl (by kernel_rfl) (fun _ _ _ h => h) (by rfl) ?_ (by assumption) ?_
    rotate_left; (intro w hSw; (try dsimp only at hSw); go_simp); (try with_reducible rfl); (simp only [Act.put, List.setIfInBounds_toArray, List.set_cons_zero, List.set_cons_succ])
    refine held_on (i := 19) (N := (some 69)) (v := ?_) #[true, true, true, true, true, true, true, true, true, true, true, true, true, true, true, true, true, true, true, true, false, false, false, false, false, false] rfl rfl (by kernel_rfl) (fun _ _ _ h => h) (by rfl) ?_ (by assumption) ?_
    rotate_left; (intro w hSw; (try dsimp only at hSw); go_simp); (try with_reducible rfl); (simp only [Act.put, List.setIfInBounds_toArray, List.set_cons_zero, List.set_cons_succ])
    refine held_on (i := 21) (N := (some 71)) (v := ?_) #[true, true, true, true, true, true, true, true, true, true, true, true, true, true, true, true, true, true, true, true, false, true, false, false, false, false] rfl rfl (by kernel_rfl) (fun _ _ _ h => h) (by rfl) ?_ (by assumption) ?_
    rotate_left; (intro w hSw; (try dsimp only at hSw); go_simp); (try with_reducible rfl); (simp only [Act.put, List.setIfInBounds_toArray, List.set_cons_zero, List.set_cons_succ])
    refine held_run (i := 20) #[true, true, true, true, true, true, true, true, true, true, true, true, true, true, true, true, true, true, true, true, true, true, false, false, false, false] rfl (by kernel_rfl) (by rfl) (fun K hK => ?_)
    go_simp
    have HXX := Lib.hid (HMZ.out _ (Hid.out hHeld.1.1).2)
    ((with_reducible refine HXX.out.mono ?_); rintro x w7 ⟨rfl, hb⟩)
    clear HXX
    refine hK.out _ _ ⟨keepS6 (Keep.call (Hid.out hHeld.1.1) hb), keepS5 (Keep.call (Hid.out hHeld.2.1.1) hb), keepS5 (Keep.call (Hid.out hHeld.2.2.1.1) hb), keepS5 (Keep.call (Hid.out hHeld.2.2.2.1.1) hb), keepS5 (Keep.call (Hid.out hHeld.2.2.2.2.1) hb)⟩ (fun hHeld => ?_); clear hK K; (try simp only [Act.put, List.setIfInBounds_toArray, List.set_cons_zero, List.set_cons_succ])
    refine held_run (i := 22) #[true, true, true, true, true, true, true, true, true, true, true, true, true, true, true, true, true, true, true, true, true, true, true, false, false, false] rfl (by kernel_rfl) (by rfl) (fun K hK => ?_)
    go_simp
    have HXX := Lib.hid (HRZ.out _ (Hid.out hHeld.1.1).2)
    ((with_reducible refine HXX.out.mono ?_); rintro x w7 ⟨rfl, hb⟩)
    clear HXX
    refine hK.out _ _ ⟨keepS6 (Keep.call (Hid.out hHeld.1.1) hb), keepS5 (Keep.call (Hid.out hHeld.2.1.1) hb), keepS5 (Keep.call (Hid.out hHeld.2.2.1.1) hb), keepS5 (Keep.call (Hid.out hHeld.2.2.2.1.1) hb), keepS5 (Keep.call (Hid.out hHeld.2.2.2.2.1) hb)⟩ (fun hHeld => ?_); clear hK K; (try simp only [Act.put, List.setIfInBounds_toArray, List.set_cons_zero, List.set_cons_succ])
    refine held_on (i := 23) (N := (some 73)) (v := ?_) #[true, true, true, true, true, true, true, true, true, true, true, true, true, true, true, true, true, true, true, true, true, true, true, true, false, false] rfl rfl (by kernel_rfl) (fun _ _ _ h => h) (by rfl) ?_ (by assumption) ?_
    rotate_left; (intro w hSw; (try dsimp only at hSw); go_simp); (try with_reducible rfl); (simp only [Act.put, List.setIfInBounds_toArray, List.set_cons_zero, List.set_cons_succ])
    refine held_on (i := 24) (N := (some 74)) (v := ?_) #[true, true, true, true, true, true, true, true, true, true, true, true, true, true, true, true, true, true, true, true, true, true, true, true, true, false] rfl rfl (by kernel_rfl) (fun _ _ _ h => h) (by rfl) ?_ (by assumption) ?_
    rotate_left; (intro w hSw; (try dsimp only at hSw); go_simp); (try with_reducible rfl); (simp only [Act.put, List.setIfInBounds_toArray, List.set_cons_zero, List.set_cons_succ])
    refine held_on (i := 25) (N := (some 6)) (v := ?_) #[true, true, true, true, true, true, true, true, true, true, true, true, true, true, true, true, true, true, true, true, true, true, true, true, true, true] rfl rfl (by kernel_rfl) (fun _ _ _ h => h) (by rfl) ?_ (by assumption) ?_
    rotate_left; (intro w hSw; (try dsimp only at hSw); go_simp); (try with_reducible rfl); (simp only [Act.put, List.setIfInBounds_toArray, List.set_cons_zero, List.set_cons_succ])
    refine held_done (by kernel_rfl) ?_
    show Exit.then _ _ _ _ _
    have HK9 := hHeld.1.1
    clear hHeld
    go_wp2_with fail
    go_ret
    exact ⟨ret_bool (by simp), HK9.out.2⟩
end Go.Proofs.Ytcciejglemfebaa
