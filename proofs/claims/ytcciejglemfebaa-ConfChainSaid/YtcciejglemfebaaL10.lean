/- antipodelaw10.ConfChain answers true; memory that was there is as it was. -/
import Derived.Test.YtcciejglemfebaaC3
import Derived.Test.YtcciejglemfebaaC4
import Derived.Test.YtcciejglemfebaaM5
import Derived.Test.YtcciejglemfebaaR1
import Derived.Test.YtcciejglemfebaaP13
import Derived.Deep.CutBlock
namespace Go.Proofs.Ytcciejglemfebaa
set_option linter.unusedSimpArgs false
open Go.RowKit

theorem part_at {w wr : World} {bb oo : Nat} {L : List Cfg} (h : ∀ k u, (csV L)[k]? = some u → w.cell? ⟨bb, oo + k, none⟩ = some u) (hb : bb < w.heap.size) (hr : Below w.heap.size w wr) {p : Nat} (hp : p < L.length) :
    Part w bb (oo + p * 5) (cCells (L.getD p zeroC)) wr := by
  refine ⟨hb, fun k u hu => (hr.cell hb).trans ?_, hr⟩
  have hk : k < 5 := (List.getElem?_eq_some_iff.1 hu).1
  rw [Nat.add_assoc]
  exact h _ _ ((cs_at L p k hp hk).trans hu)

set_option maxHeartbeats 12800000 in
set_option maxRecDepth 20000 in
theorem chain_calls (cv cw cl ce cc : Int) (A : Option Addr) (L : List Cfg) (cap : Nat) (a b : Int) (w : World) (hlen : L.length ≤ maxLen) (HR : Hid (Row w w.heap.size A (csV L))) (hua : U a) (hub : U b) :
    Calls Try.prog 10 #[.agg (cells cv cw cl ce cc), .slice A L.length cap, .int .u16 a, .int .u16 b] w fun x w' => x = .returned (.bool true) ∧ Below w.heap.size w w' := by
  have hc := fun w => cmay_calls cv cw cl ce cc w
  have HK0 : Hid (Keep w w.heap.size 33 (cells cv cw cl ce cc) (w.alloc (.cells (cells cv cw cl ce cc) 33))) := Lib.hid (Keep.new _ _ _)
  by_cases h10 : (10 : Int) < L.length
  · clear hc
    go_enter Try.func10, Try.ntmps10
    go_wp2_with fail
    refine (begun10 _).mono ?_; rintro x w2 ⟨rfl, hb⟩
    have X0 := Lib.hid (Keep.call (Hid.out HK0) hb)
    clear hb HK0
    have HK0 := X0; clear X0
    obtain ⟨_, d00, d01, d02, d03, d04⟩ := keepS5 (Hid.out HK0)
    go_wp2_with fail
    go_ret
    exact ⟨rfl, HK0.out.2⟩
  cases hm : mayC ⟨cv, cw, cl, ce, cc⟩ with
  | false =>
    rw [hm] at hc
    have HC := Lib.hid hc
    clear hc hm
    go_enter Try.func10, Try.ntmps10
    go_wp2_with fail
    refine (begun10 _).mono ?_; rintro x w2 ⟨rfl, hb⟩
    have X0 := Lib.hid (Keep.call (Hid.out HK0) hb)
    clear hb HK0
    have HK0 := X0; clear X0
    obtain ⟨_, d00, d01, d02, d03, d04⟩ := keepS5 (Hid.out HK0)
    go_wp2_with fail
    refine (HC.out _).mono ?_; rintro x w2 ⟨rfl, hb⟩
    have X0 := Lib.hid (Keep.call (Hid.out HK0) hb)
    clear hb HK0
    have HK0 := X0; clear X0
    obtain ⟨_, d00, d01, d02, d03, d04⟩ := keepS5 (Hid.out HK0)
    go_wp2_with fail
    go_ret
    exact ⟨rfl, HK0.out.2⟩
  | true =>
    rw [hm] at hc
    have HC := Lib.hid hc
    have HM := Lib.hid hm
    clear hc hm
    go_enter Try.func10, Try.ntmps10
    go_wp2_with fail
    refine (begun10 _).mono ?_; rintro x w2 ⟨rfl, hb⟩
    have X0 := Lib.hid (Keep.call (Hid.out HK0) hb)
    clear hb HK0
    have HK0 := X0; clear X0
    obtain ⟨_, d00, d01, d02, d03, d04⟩ := keepS5 (Hid.out HK0)
    go_wp2_with fail
    refine (HC.out _).mono ?_; rintro x w2 ⟨rfl, hb⟩
    have X0 := Lib.hid (Keep.call (Hid.out HK0) hb)
    clear hb HK0
    have HK0 := X0; clear X0
    obtain ⟨_, d00, d01, d02, d03, d04⟩ := keepS5 (Hid.out HK0)
    have hlt : w.heap.size < w2.heap.size := HK0.out.1.lt
    have HKj : Hid (Keep w w2.heap.size 38 #[.int .u16 cv, .int .u16 cw, .int .u16 cl, .int .i64 ce, .int .i64 cc, .int .u16 0, .int .u16 0, .int .u16 0, .int .i64 0, .int .i64 0, .bool false] (w2.alloc (.cells #[.int .u16 cv, .int .u16 cw, .int .u16 cl, .int .i64 ce, .int .i64 cc, .int .u16 0, .int .u16 0, .int .u16 0, .int .i64 0, .int .i64 0, .bool false] 38))) := Lib.hid (Keep.mk_new HK0.out.2 rfl)
    have X0 := Lib.hid (HK0.out.alloc (.cells #[.int .u16 cv, .int .u16 cw, .int .u16 cl, .int .i64 ce, .int .i64 cc, .int .u16 0, .int .u16 0, .int .u16 0, .int .i64 0, .int .i64 0, .bool false] 38))
    clear HK0
    have HK0 := X0
    clear X0
    go_wp2
    clear d00 d01 d02 d03 d04
    generalize hg9 : w2.heap.size = g9 at *
    go_loopw [10] (fun v wr => ∃ (p : Nat) (xv xl xe xc : Int), p ≤ L.length ∧ v = .int .i64 p ∧ Hid (mayC ⟨xv, cw, xl, xe, xc⟩ = true) ∧ Hid (Keep w w.heap.size 33 (cells cv cw cl ce cc) wr) ∧ Hid (Keep w g9 38 #[.int .u16 xv, .int .u16 cw, .int .u16 xl, .int .i64 xe, .int .i64 xc, .int .u16 0, .int .u16 0, .int .u16 0, .int .i64 0, .int .i64 0, .bool false] wr)) (fun v _ => L.length - (intOf v).toNat)
    case atStart => exact ⟨0, cv, cl, ce, cc, Nat.zero_le _, rfl, HM, HK0, HKj⟩
    case round =>
      clear HK0 HKj HM
      obtain ⟨p, xv, xl, xe, xc, hp, rfl, HM, HK0, HKj⟩ := hrel
      by_cases hlp : p < L.length
      · have hlp' : (p : Int) < L.length := by omega
        obtain ⟨bb, oo, rfl, hbB, hrow⟩ := HR.out (by
          intro h0
          have := congrArg List.length h0
          cases L with
          | nil => simp at hlp
          | cons a L => simp [csV, cCells] at this)
        have hpart := part_at hrow hbB HK0.out.2 hlp
        clear hrow
        generalize L.getD p zeroC = T at hpart
        obtain ⟨tv, tw, tl, te, tc⟩ := T
        have HT : Hid (Part w bb (oo + p * 5) [.int .u16 tv, .int .u16 tw, .int .u16 tl, .int .i64 te, .int .i64 tc] wr) := Lib.hid hpart
        clear hpart
        obtain ⟨_, k0, k1, k2, k3, k4⟩ := keepS5 HK0.out
        obtain ⟨_, j0, j1, j2, j3, j4, j5, j6, j7, j8, j9, j10⟩ := keepS11 HKj.out
        obtain ⟨_, t0, t1, t2, t3, t4⟩ := keepP5 HT.out
        have hch := fun w => change_calls xv cw xl xe xc 0 0 0 0 0 false tv tw tl te tc w
        have hok := @change_ok ⟨⟨xv, cw, xl, xe, xc⟩, ⟨0, 0, 0, 0, 0⟩, false⟩ ⟨tv, tw, tl, te, tc⟩
        have hwt := @change_wit ⟨⟨xv, cw, xl, xe, xc⟩, ⟨0, 0, 0, 0, 0⟩, false⟩ ⟨tv, tw, tl, te, tc⟩
        generalize changeJ _ _ = N at hch hok hwt
        obtain ⟨⟨⟨nv, nw, nl, ne, nc⟩, ⟨nnv, nnw, nnl, nne, nnc⟩, nt⟩, en⟩ := N
        simp only [valJ] at hch
        have HCH := Lib.hid hch
        have HOK := Lib.hid hok
        have HWT := Lib.hid hwt
        clear hch hok hwt
        go_upto_region 9 with fail
        go_cut [11, 12] (fun v11 v12 w' => ∃ g11 : Nat, v11 = .pointer (some ⟨g11, 0, none⟩) ∧ v12 = .int .i64 en ∧ Hid (Keep w g11 38 #[.int .u16 nv, .int .u16 nw, .int .u16 nl, .int .i64 ne, .int .i64 nc, .int .u16 nnv, .int .u16 nnw, .int .u16 nnl, .int .i64 nne, .int .i64 nnc, .bool nt] w') ∧ Hid (Keep w w.heap.size 33 (cells cv cw cl ce cc) w') ∧ Hid (Keep w g9 38 #[.int .u16 xv, .int .u16 cw, .int .u16 xl, .int .i64 xe, .int .i64 xc, .int .u16 0, .int .u16 0, .int .u16 0, .int .i64 0, .int .i64 0, .bool false] w') ∧ Hid (Part w bb (oo + p * 5) [.int .u16 tv, .int .u16 tw, .int .u16 tl, .int .i64 te, .int .i64 tc] w'))
        case first =>
          refine held_start (n := 12) (S := fun w' => (Hid (Keep w w.heap.size 33 #[.int .u16 cv, .int .u16 cw, .int .u16 cl, .int .i64 ce, .int .i64 cc] w') ∧ w'.cell? ⟨w.heap.size, 0, none⟩ = some (.int .u16 cv) ∧ w'.cell? ⟨w.heap.size, 1, none⟩ = some (.int .u16 cw) ∧ w'.cell? ⟨w.heap.size, 2, none⟩ = some (.int .u16 cl) ∧ w'.cell? ⟨w.heap.size, 3, none⟩ = some (.int .i64 ce) ∧ w'.cell? ⟨w.heap.size, 4, none⟩ = some (.int .i64 cc)) ∧ (Hid (Keep w g9 38 #[.int .u16 xv, .int .u16 cw, .int .u16 xl, .int .i64 xe, .int .i64 xc, .int .u16 0, .int .u16 0, .int .u16 0, .int .i64 0, .int .i64 0, .bool false] w') ∧ w'.cell? ⟨g9, 0, none⟩ = some (.int .u16 xv) ∧ w'.cell? ⟨g9, 1, none⟩ = some (.int .u16 cw) ∧ w'.cell? ⟨g9, 2, none⟩ = some (.int .u16 xl) ∧ w'.cell? ⟨g9, 3, none⟩ = some (.int .i64 xe) ∧ w'.cell? ⟨g9, 4, none⟩ = some (.int .i64 xc) ∧ w'.cell? ⟨g9, 5, none⟩ = some (.int .u16 0) ∧ w'.cell? ⟨g9, 6, none⟩ = some (.int .u16 0) ∧ w'.cell? ⟨g9, 7, none⟩ = some (.int .u16 0) ∧ w'.cell? ⟨g9, 8, none⟩ = some (.int .i64 0) ∧ w'.cell? ⟨g9, 9, none⟩ = some (.int .i64 0) ∧ w'.cell? ⟨g9, 10, none⟩ = some (.bool false)) ∧ (Hid (Part w bb (oo + p * 5) [.int .u16 tv, .int .u16 tw, .int .u16 tl, .int .i64 te, .int .i64 tc] w') ∧ w'.cell? ⟨bb, oo + p * 5, none⟩ = some (.int .u16 tv) ∧ w'.cell? ⟨bb, oo + p * 5 + 1, none⟩ = some (.int .u16 tw) ∧ w'.cell? ⟨bb, oo + p * 5 + 2, none⟩ = some (.int .u16 tl) ∧ w'.cell? ⟨bb, oo + p * 5 + 3, none⟩ = some (.int .i64 te) ∧ w'.cell? ⟨bb, oo + p * 5 + 4, none⟩ = some (.int .i64 tc))) #[false, false, false, false, false, false, false, false, false, false, false, false] (by kernel_rfl) rfl rfl (⟨keepS5 (Keep.drew (Hid.out HK0)), keepS11 (Keep.drew (Hid.out HKj)), keepP5 (Part.drew (Hid.out HT))⟩) (fun hHeld => ?_)
          refine held_on (i := 0) (N := (some 35)) (v := ?_) #[true, false, false, false, false, false, false, false, false, false, false, false] rfl rfl (by kernel_rfl) (fun _ _ _ h => h) (by rfl) ?_ (by assumption) ?_
          rotate_left; (intro w hSw; (try dsimp only at hSw); go_simp); (try with_reducible rfl); (simp only [Act.put, List.setIfInBounds_toArray, List.set_cons_zero, List.set_cons_succ])
          refine held_on (i := 1) (N := (some 36)) (v := ?_) #[true, true, false, false, false, false, false, false, false, false, false, false] rfl rfl (by kernel_rfl) (fun _ _ _ h => h) (by rfl) ?_ (by assumption) ?_
          rotate_left; (intro w hSw; (try dsimp only at hSw); go_simp); (try with_reducible rfl); (simp only [Act.put, List.setIfInBounds_toArray, List.set_cons_zero, List.set_cons_succ])
          refine held_on (i := 2) (N := (some 37)) (v := ?_) #[true, true, true, false, false, false, false, false, false, false, false, false] rfl rfl (by kernel_rfl) (fun _ _ _ h => h) (by rfl) ?_ (by assumption) ?_
          rotate_left; (intro w hSw; (try dsimp only at hSw); go_simp); (try with_reducible rfl); (simp only [Act.put, List.setIfInBounds_toArray, List.set_cons_zero, List.set_cons_succ])
          refine held_on (i := 3) (N := (some 38)) (v := ?_) #[true, true, true, true, false, false, false, false, false, false, false, false] rfl rfl (by kernel_rfl) (fun _ _ _ h => h) (by rfl) ?_ (by assumption) ?_
          rotate_left; (intro w hSw; (try dsimp only at hSw); go_simp); (try with_reducible rfl); (simp only [Act.put, List.setIfInBounds_toArray, List.set_cons_zero, List.set_cons_succ])
          refine held_on (i := 4) (N := (some 39)) (v := ?_) #[true, true, true, true, true, false, false, false, false, false, false, false] rfl rfl (by kernel_rfl) (fun _ _ _ h => h) (by rfl) ?_ (by assumption) ?_
          rotate_left; (intro w hSw; (try dsimp only at hSw); go_simp); (try with_reducible rfl); (simp only [Act.put, List.setIfInBounds_toArray, List.set_cons_zero, List.set_cons_succ])
          refine held_two (i := 5) (j := 9) #[true, true, true, true, true, true, false, false, false, false, false, false] #[true, true, true, true, true, false, false, false, false, true, false, false] rfl rfl (by kernel_rfl) (by rfl) (by rfl) (fun K hK => ?_) (fun K hK => ?_)
          · go_simp
            refine (HCH.out _).mono ?_; rintro x w5 ⟨rfl, hb⟩
            refine hK.out _ _ (⟨keepS5 (Keep.call (Hid.out hHeld.1.1) hb), keepS11 (Keep.call (Hid.out hHeld.2.1.1) hb), keepP5 (Part.call (Hid.out hHeld.2.2.1) hb)⟩) (fun hHeld => ?_); clear hK K; (try simp only [Act.put, List.setIfInBounds_toArray, List.set_cons_zero, List.set_cons_succ])
            refine held_on (i := 6) (N := (some 34)) (v := ?_) #[true, true, true, true, true, true, true, false, false, false, false, false] rfl rfl (by kernel_rfl) (fun _ _ _ h => h) (by rfl) ?_ (by assumption) ?_
            rotate_left; (intro w hSw; (try dsimp only at hSw); go_simp); (try with_reducible rfl); (simp only [Act.put, List.setIfInBounds_toArray, List.set_cons_zero, List.set_cons_succ])
            refine held_on (i := 7) (N := (some 41)) (v := ?_) #[true, true, true, true, true, true, true, true, false, false, false, false] rfl rfl (by kernel_rfl) (fun _ _ _ h => h) (by rfl) ?_ (by assumption) ?_
            rotate_left; (intro w hSw; (try dsimp only at hSw); go_simp); (try with_reducible rfl); (simp only [Act.put, List.setIfInBounds_toArray, List.set_cons_zero, List.set_cons_succ])
            refine held_on (i := 8) (N := (some 42)) (v := ?_) #[true, true, true, true, true, true, true, true, true, false, false, false] rfl rfl (by kernel_rfl) (fun _ _ _ h => h) (by rfl) ?_ (by assumption) ?_
            rotate_left; (intro w hSw; (try dsimp only at hSw); go_simp); (try with_reducible rfl); (simp only [Act.put, List.setIfInBounds_toArray, List.set_cons_zero, List.set_cons_succ])
            refine held_run (i := 9) #[true, true, true, true, true, true, true, true, true, true, false, false] rfl (by kernel_rfl) (by rfl) (fun K hK => ?_)
            go_simp
            have P0 := hHeld
            refine hK.out _ _ (⟨keepS5 (Keep.alloc (Hid.out hHeld.1.1) _), keepS11 (Keep.alloc (Hid.out hHeld.2.1.1) _), keepP5 (Part.alloc (Hid.out hHeld.2.2.1) _)⟩) (fun hHeld => ?_); clear hK K; (try simp only [Act.put, List.setIfInBounds_toArray, List.set_cons_zero, List.set_cons_succ])
            refine held_run (i := 10) #[true, true, true, true, true, true, true, true, true, true, true, false] rfl (by kernel_rfl) (by rfl) (fun K hK => ?_)
            go_simp
            have HN := Lib.hid (Keep.mk_new (w := w) (t := 38) (cs := #[.int .u16 nv, .int .u16 nw, .int .u16 nl, .int .i64 ne, .int .i64 nc, .int .u16 nnv, .int .u16 nnw, .int .u16 nnl, .int .i64 nne, .int .i64 nnc, .bool nt]) (Hid.out P0.1.1).2 rfl)
            refine hK.out _ _ (⟨keepS5 (Keep.alloc (Hid.out P0.1.1) _), keepS11 (Keep.alloc (Hid.out P0.2.1.1) _), keepP5 (Part.alloc (Hid.out P0.2.2.1) _)⟩) (fun hHeld => ?_); clear hK K; (try simp only [Act.put, List.setIfInBounds_toArray, List.set_cons_zero, List.set_cons_succ])
            refine held_on (i := 11) (N := (some 12)) (v := ?_) #[true, true, true, true, true, true, true, true, true, true, true, true] rfl rfl (by kernel_rfl) (fun _ _ _ h => h) (by rfl) ?_ (by assumption) ?_
            rotate_left; (intro w hSw; (try dsimp only at hSw); go_simp); (try with_reducible rfl); (simp only [Act.put, List.setIfInBounds_toArray, List.set_cons_zero, List.set_cons_succ])
            refine held_done (by kernel_rfl) ?_
            show Exit.then _ _ _ _ _
            go_wp2_with fail
            go_meet
            exact ⟨_, rfl, rfl, HN, Lib.hid (Hid.out hHeld.1.1), Lib.hid (Hid.out hHeld.2.1.1), Lib.hid (Hid.out hHeld.2.2.1)⟩
          · go_simp
            have HN := Lib.hid (Keep.mk_new (w := w) (g := wr.heap.size) (t := 38) (cs := #[.int .u16 0, .int .u16 0, .int .u16 0, .int .i64 0, .int .i64 0, .int .u16 0, .int .u16 0, .int .u16 0, .int .i64 0, .int .i64 0, .bool false]) (Hid.out hHeld.1.1).2 rfl)
            have hge : w.heap.size < wr.heap.size := (Hid.out hHeld.1.1).1.lt
            have hne0 : w.heap.size ≠ wr.heap.size := Nat.ne_of_lt (Hid.out hHeld.1.1).1.lt
            have hne9 : g9 ≠ wr.heap.size := Nat.ne_of_lt (Hid.out hHeld.2.1.1).1.lt
            refine hK.out _ _ (⟨keepS5 (Keep.alloc (Hid.out hHeld.1.1) _), keepS11 (Keep.alloc (Hid.out hHeld.2.1.1) _), keepP5 (Part.alloc (Hid.out hHeld.2.2.1) _)⟩) (fun hHeld => ?_); clear hK K; (try simp only [Act.put, List.setIfInBounds_toArray, List.set_cons_zero, List.set_cons_succ])
            refine held_run (i := 5) #[true, true, true, true, true, true, false, false, false, true, false, false] rfl (by kernel_rfl) (by rfl) (fun K hK => ?_)
            go_simp
            refine (HCH.out _).mono ?_; rintro x w5 ⟨rfl, hb⟩
            have HN := Lib.hid (Keep.call HN.out hb)
            obtain ⟨_, n0, n1, n2, n3, n4, n5, n6, n7, n8, n9, n10⟩ := keepS11 HN.out
            have f0 := HN.out.1.frozen 0
            have f1 := HN.out.1.frozen 1
            have f2 := HN.out.1.frozen 2
            have f3 := HN.out.1.frozen 3
            have f4 := HN.out.1.frozen 4
            have f5 := HN.out.1.frozen 5
            have f6 := HN.out.1.frozen 6
            have f7 := HN.out.1.frozen 7
            have f8 := HN.out.1.frozen 8
            have f9 := HN.out.1.frozen 9
            have f10 := HN.out.1.frozen 10
            refine hK.out _ _ (⟨keepS5 (Keep.call (Hid.out hHeld.1.1) hb), keepS11 (Keep.call (Hid.out hHeld.2.1.1) hb), keepP5 (Part.call (Hid.out hHeld.2.2.1) hb)⟩) (fun hHeld => ?_); clear hK K; (try simp only [Act.put, List.setIfInBounds_toArray, List.set_cons_zero, List.set_cons_succ])
            refine held_on (i := 6) (N := (some 34)) (v := ?_) #[true, true, true, true, true, true, true, false, false, true, false, false] rfl rfl (by kernel_rfl) (fun _ _ _ h => h) (by rfl) ?_ (by assumption) ?_
            rotate_left; (intro w hSw; (try dsimp only at hSw); go_simp); (try with_reducible rfl); (simp only [Act.put, List.setIfInBounds_toArray, List.set_cons_zero, List.set_cons_succ])
            refine held_on (i := 7) (N := (some 41)) (v := ?_) #[true, true, true, true, true, true, true, true, false, true, false, false] rfl rfl (by kernel_rfl) (fun _ _ _ h => h) (by rfl) ?_ (by assumption) ?_
            rotate_left; (intro w hSw; (try dsimp only at hSw); go_simp); (try with_reducible rfl); (simp only [Act.put, List.setIfInBounds_toArray, List.set_cons_zero, List.set_cons_succ])
            refine held_on (i := 8) (N := (some 42)) (v := ?_) #[true, true, true, true, true, true, true, true, true, true, false, false] rfl rfl (by kernel_rfl) (fun _ _ _ h => h) (by rfl) ?_ (by assumption) ?_
            rotate_left; (intro w hSw; (try dsimp only at hSw); go_simp); (try with_reducible rfl); (simp only [Act.put, List.setIfInBounds_toArray, List.set_cons_zero, List.set_cons_succ])
            refine held_run (i := 10) #[true, true, true, true, true, true, true, true, true, true, true, false] rfl (by kernel_rfl) (by rfl) (fun K hK => ?_)
            go_simp
            have HN := Lib.hid (Keep.put11 HN.out (Nat.le_of_lt hge) (.int .u16 nv) (.int .u16 nw) (.int .u16 nl) (.int .i64 ne) (.int .i64 nc) (.int .u16 nnv) (.int .u16 nnw) (.int .u16 nnl) (.int .i64 nne) (.int .i64 nnc) (.bool nt))
            refine hK.out _ _ (⟨keepS5 (Keep.far11 (Hid.out hHeld.1.1) (Nat.le_of_lt hge) hne0 _ _ _ _ _ _ _ _ _ _ _), keepS11 (Keep.far11 (Hid.out hHeld.2.1.1) (Nat.le_of_lt hge) hne9 _ _ _ _ _ _ _ _ _ _ _), keepP5 (Part.far11 (Hid.out hHeld.2.2.1) (Nat.le_of_lt hge) _ _ _ _ _ _ _ _ _ _ _)⟩) (fun hHeld => ?_); clear hK K; (try simp only [Act.put, List.setIfInBounds_toArray, List.set_cons_zero, List.set_cons_succ])
            refine held_on (i := 11) (N := (some 12)) (v := ?_) #[true, true, true, true, true, true, true, true, true, true, true, true] rfl rfl (by kernel_rfl) (fun _ _ _ h => h) (by rfl) ?_ (by assumption) ?_
            rotate_left; (intro w hSw; (try dsimp only at hSw); go_simp); (try with_reducible rfl); (simp only [Act.put, List.setIfInBounds_toArray, List.set_cons_zero, List.set_cons_succ])
            refine held_done (by kernel_rfl) ?_
            show Exit.then _ _ _ _ _
            go_wp2_with fail
            go_meet
            exact ⟨_, rfl, rfl, HN, Lib.hid (Hid.out hHeld.1.1), Lib.hid (Hid.out hHeld.2.1.1), Lib.hid (Hid.out hHeld.2.2.1)⟩
        case rest =>
          clear HK0 HKj HT k0 k1 k2 k3 k4 j0 j1 j2 j3 j4 j5 j6 j7 j8 j9 j10 t0 t1 t2 t3 t4
          obtain ⟨g11, rfl, rfl, HN, HK0, HKj, HT⟩ := hcut
          by_cases hen : en = 0
          · obtain ⟨hX, _, hmT⟩ := HOK.out hen
            have hwt := HWT.out hen
            have hX := hX.symm
            simp only [Prod.mk.injEq, Jnt.mk.injEq, Cfg.mk.injEq] at hX
            obtain ⟨⟨⟨rfl, rfl, rfl, rfl, rfl⟩, ⟨rfl, rfl, rfl, rfl, rfl⟩, rfl⟩, rfl⟩ := hX
            dsimp only at hwt
            have hwt := hwt.symm
            subst hwt
            have hmJ : mayJ ⟨⟨xv, cw, xl, xe, xc⟩, ⟨0, 0, 0, 0, 0⟩, false⟩ = true := mayJ_one HM.out
            have hsh := shares_list (j := ⟨⟨xv, cw, xl, xe, xc⟩, ⟨0, 0, 0, 0, 0⟩, false⟩) (t := ⟨tv, cw, tl, te, tc⟩) hmJ hmT
            have S1 := Lib.hid (hsh 1 0 (by omega) (by omega) (by omega))
            have S2 := Lib.hid (hsh 1 2 (by omega) (by omega) (by omega))
            have hn1 := fun w => mayj_calls xv cw xl xe xc tv cw tl te tc true w
            have hn2 := fun w => mayj_calls tv cw tl te tc 0 0 0 0 0 false w
            rw [show mayJ ⟨⟨xv, cw, xl, xe, xc⟩, ⟨tv, cw, tl, te, tc⟩, true⟩ = true from mayJ_two HM.out hmT] at hn1
            rw [show mayJ ⟨⟨tv, cw, tl, te, tc⟩, ⟨0, 0, 0, 0, 0⟩, false⟩ = true from mayJ_one hmT] at hn2
            have hf := fun w => final_calls xv cw xl xe xc tv cw tl te tc true w
            rw [show finalJ ⟨⟨xv, cw, xl, xe, xc⟩, ⟨tv, cw, tl, te, tc⟩, true⟩ = ⟨⟨tv, cw, tl, te, tc⟩, ⟨0, 0, 0, 0, 0⟩, false⟩ from rfl] at hf
            have ha2 := fun w => change_calls xv cw xl xe xc tv cw tl te tc true tv cw tl te tc w
            rw [show changeJ ⟨⟨xv, cw, xl, xe, xc⟩, ⟨tv, cw, tl, te, tc⟩, true⟩ ⟨tv, cw, tl, te, tc⟩ = (zeroJ, 10) from rfl] at ha2
            simp only [valJ] at hf
            simp only [valJ, zeroJ, zeroC] at ha2
            have HN1 := Lib.hid hn1
            have HN2 := Lib.hid hn2
            have HF := Lib.hid hf
            have HA2 := Lib.hid ha2
            have HMT := Lib.hid hmT
            clear hn1 hn2 hf ha2 hsh hmJ hmT hen HOK HWT HCH HM
            obtain ⟨_, n0, n1, n2, n3, n4, n5, n6, n7, n8, n9, n10⟩ := keepS11 HN.out
            go_wp2_with fail
            refine (HF.out _).mono ?_; rintro x w5 ⟨rfl, hb5⟩
            have X1 := Lib.hid ((HN.out.call hb5).alloc (.cells #[.int .u16 tv, .int .u16 cw, .int .u16 tl, .int .i64 te, .int .i64 tc, .int .u16 0, .int .u16 0, .int .u16 0, .int .i64 0, .int .i64 0, .bool false] 38))
            have X2 := Lib.hid ((HK0.out.call hb5).alloc (.cells #[.int .u16 tv, .int .u16 cw, .int .u16 tl, .int .i64 te, .int .i64 tc, .int .u16 0, .int .u16 0, .int .u16 0, .int .i64 0, .int .i64 0, .bool false] 38))
            have X3 := Lib.hid ((HKj.out.call hb5).alloc (.cells #[.int .u16 tv, .int .u16 cw, .int .u16 tl, .int .i64 te, .int .i64 tc, .int .u16 0, .int .u16 0, .int .u16 0, .int .i64 0, .int .i64 0, .bool false] 38))
            have X4 := Lib.hid ((HT.out.call hb5).alloc (.cells #[.int .u16 tv, .int .u16 cw, .int .u16 tl, .int .i64 te, .int .i64 tc, .int .u16 0, .int .u16 0, .int .u16 0, .int .i64 0, .int .i64 0, .bool false] 38))
            have HKf : Hid (Keep w w5.heap.size 38 #[.int .u16 tv, .int .u16 cw, .int .u16 tl, .int .i64 te, .int .i64 tc, .int .u16 0, .int .u16 0, .int .u16 0, .int .i64 0, .int .i64 0, .bool false] (w5.alloc (.cells #[.int .u16 tv, .int .u16 cw, .int .u16 tl, .int .i64 te, .int .i64 tc, .int .u16 0, .int .u16 0, .int .u16 0, .int .i64 0, .int .i64 0, .bool false] 38))) := Lib.hid (Keep.mk_new (HN.out.call hb5).2 rfl)
            clear HN HK0 HKj HT hb5 n0 n1 n2 n3 n4 n5 n6 n7 n8 n9 n10
            have HN := X1
            have HK0 := X2
            have HKj := X3
            have HT := X4
            clear X1 X2 X3 X4
            go_upto_region 12 with fail
            generalize w5.heap.size = g13 at *
            refine held_start (n := 36) (S := fun w' => (Hid (Keep w w.heap.size 33 #[.int .u16 cv, .int .u16 cw, .int .u16 cl, .int .i64 ce, .int .i64 cc] w') ∧ w'.cell? ⟨w.heap.size, 0, none⟩ = some (.int .u16 cv) ∧ w'.cell? ⟨w.heap.size, 1, none⟩ = some (.int .u16 cw) ∧ w'.cell? ⟨w.heap.size, 2, none⟩ = some (.int .u16 cl) ∧ w'.cell? ⟨w.heap.size, 3, none⟩ = some (.int .i64 ce) ∧ w'.cell? ⟨w.heap.size, 4, none⟩ = some (.int .i64 cc)) ∧ (Hid (Keep w g9 38 #[.int .u16 xv, .int .u16 cw, .int .u16 xl, .int .i64 xe, .int .i64 xc, .int .u16 0, .int .u16 0, .int .u16 0, .int .i64 0, .int .i64 0, .bool false] w') ∧ w'.cell? ⟨g9, 0, none⟩ = some (.int .u16 xv) ∧ w'.cell? ⟨g9, 1, none⟩ = some (.int .u16 cw) ∧ w'.cell? ⟨g9, 2, none⟩ = some (.int .u16 xl) ∧ w'.cell? ⟨g9, 3, none⟩ = some (.int .i64 xe) ∧ w'.cell? ⟨g9, 4, none⟩ = some (.int .i64 xc) ∧ w'.cell? ⟨g9, 5, none⟩ = some (.int .u16 0) ∧ w'.cell? ⟨g9, 6, none⟩ = some (.int .u16 0) ∧ w'.cell? ⟨g9, 7, none⟩ = some (.int .u16 0) ∧ w'.cell? ⟨g9, 8, none⟩ = some (.int .i64 0) ∧ w'.cell? ⟨g9, 9, none⟩ = some (.int .i64 0) ∧ w'.cell? ⟨g9, 10, none⟩ = some (.bool false)) ∧ (Hid (Keep w g11 38 #[.int .u16 xv, .int .u16 cw, .int .u16 xl, .int .i64 xe, .int .i64 xc, .int .u16 tv, .int .u16 cw, .int .u16 tl, .int .i64 te, .int .i64 tc, .bool true] w') ∧ w'.cell? ⟨g11, 0, none⟩ = some (.int .u16 xv) ∧ w'.cell? ⟨g11, 1, none⟩ = some (.int .u16 cw) ∧ w'.cell? ⟨g11, 2, none⟩ = some (.int .u16 xl) ∧ w'.cell? ⟨g11, 3, none⟩ = some (.int .i64 xe) ∧ w'.cell? ⟨g11, 4, none⟩ = some (.int .i64 xc) ∧ w'.cell? ⟨g11, 5, none⟩ = some (.int .u16 tv) ∧ w'.cell? ⟨g11, 6, none⟩ = some (.int .u16 cw) ∧ w'.cell? ⟨g11, 7, none⟩ = some (.int .u16 tl) ∧ w'.cell? ⟨g11, 8, none⟩ = some (.int .i64 te) ∧ w'.cell? ⟨g11, 9, none⟩ = some (.int .i64 tc) ∧ w'.cell? ⟨g11, 10, none⟩ = some (.bool true)) ∧ (Hid (Keep w g13 38 #[.int .u16 tv, .int .u16 cw, .int .u16 tl, .int .i64 te, .int .i64 tc, .int .u16 0, .int .u16 0, .int .u16 0, .int .i64 0, .int .i64 0, .bool false] w') ∧ w'.cell? ⟨g13, 0, none⟩ = some (.int .u16 tv) ∧ w'.cell? ⟨g13, 1, none⟩ = some (.int .u16 cw) ∧ w'.cell? ⟨g13, 2, none⟩ = some (.int .u16 tl) ∧ w'.cell? ⟨g13, 3, none⟩ = some (.int .i64 te) ∧ w'.cell? ⟨g13, 4, none⟩ = some (.int .i64 tc) ∧ w'.cell? ⟨g13, 5, none⟩ = some (.int .u16 0) ∧ w'.cell? ⟨g13, 6, none⟩ = some (.int .u16 0) ∧ w'.cell? ⟨g13, 7, none⟩ = some (.int .u16 0) ∧ w'.cell? ⟨g13, 8, none⟩ = some (.int .i64 0) ∧ w'.cell? ⟨g13, 9, none⟩ = some (.int .i64 0) ∧ w'.cell? ⟨g13, 10, none⟩ = some (.bool false)) ∧ (Hid (Part w bb (oo + p * 5) [.int .u16 tv, .int .u16 cw, .int .u16 tl, .int .i64 te, .int .i64 tc] w') ∧ w'.cell? ⟨bb, oo + p * 5, none⟩ = some (.int .u16 tv) ∧ w'.cell? ⟨bb, oo + p * 5 + 1, none⟩ = some (.int .u16 cw) ∧ w'.cell? ⟨bb, oo + p * 5 + 2, none⟩ = some (.int .u16 tl) ∧ w'.cell? ⟨bb, oo + p * 5 + 3, none⟩ = some (.int .i64 te) ∧ w'.cell? ⟨bb, oo + p * 5 + 4, none⟩ = some (.int .i64 tc))) #[false, false, false, false, false, false, false, false, false, false, false, false, false, false, false, false, false, false, false, false, false, false, false, false, false, false, false, false, false, false, false, false, false, false, false, false] (by kernel_rfl) rfl rfl (⟨keepS5 (Keep.drew (Hid.out HK0)), keepS11 (Keep.drew (Hid.out HKj)), keepS11 (Keep.drew (Hid.out HN)), keepS11 (Keep.drew (Hid.out HKf)), keepP5 (Part.drew (Hid.out HT))⟩) (fun hHeld => ?_)
            refine held_on (i := 0) (N := (some 47)) (v := ?_) #[true, false, false, false, false, false, false, false, false, false, false, false, false, false, false, false, false, false, false, false, false, false, false, false, false, false, false, false, false, false, false, false, false, false, false, false] rfl rfl (by kernel_rfl) (fun _ _ _ h => h) (by rfl) ?_ (by assumption) ?_
            rotate_left; (intro w hSw; (try dsimp only at hSw); go_simp); (try with_reducible rfl); (simp only [Act.put, List.setIfInBounds_toArray, List.set_cons_zero, List.set_cons_succ])
            refine held_run (i := 1) #[true, true, false, false, false, false, false, false, false, false, false, false, false, false, false, false, false, false, false, false, false, false, false, false, false, false, false, false, false, false, false, false, false, false, false, false] rfl (by kernel_rfl) (by rfl) (fun K hK => ?_)
            go_simp
            refine (HN1.out _).mono ?_; rintro x w6 ⟨rfl, hb⟩
            refine hK.out _ _ (⟨keepS5 (Keep.call (Hid.out hHeld.1.1) hb), keepS11 (Keep.call (Hid.out hHeld.2.1.1) hb), keepS11 (Keep.call (Hid.out hHeld.2.2.1.1) hb), keepS11 (Keep.call (Hid.out hHeld.2.2.2.1.1) hb), keepP5 (Part.call (Hid.out hHeld.2.2.2.2.1) hb)⟩) (fun hHeld => ?_); clear hK K; (try simp only [Act.put, List.setIfInBounds_toArray, List.set_cons_zero, List.set_cons_succ])
            refine held_on (i := 2) (N := (some 49)) (v := ?_) #[true, true, true, false, false, false, false, false, false, false, false, false, false, false, false, false, false, false, false, false, false, false, false, false, false, false, false, false, false, false, false, false, false, false, false, false] rfl rfl (by kernel_rfl) (fun _ _ _ h => h) (by rfl) ?_ (by assumption) ?_
            rotate_left; (intro w hSw; (try dsimp only at hSw); go_simp); (try with_reducible rfl); (simp only [Act.put, List.setIfInBounds_toArray, List.set_cons_zero, List.set_cons_succ])
            refine held_on (i := 3) (N := (some 50)) (v := ?_) #[true, true, true, true, false, false, false, false, false, false, false, false, false, false, false, false, false, false, false, false, false, false, false, false, false, false, false, false, false, false, false, false, false, false, false, false] rfl rfl (by kernel_rfl) (fun _ _ _ h => h) (by rfl) ?_ (by assumption) ?_
            rotate_left; (intro w hSw; (try dsimp only at hSw); go_simp); (try with_reducible rfl); (simp only [Act.put, List.setIfInBounds_toArray, List.set_cons_zero, List.set_cons_succ])
            refine held_on (i := 4) (N := (some 51)) (v := ?_) #[true, true, true, true, true, false, false, false, false, false, false, false, false, false, false, false, false, false, false, false, false, false, false, false, false, false, false, false, false, false, false, false, false, false, false, false] rfl rfl (by kernel_rfl) (fun _ _ _ h => h) (by rfl) ?_ (by assumption) ?_
            rotate_left; (intro w hSw; (try dsimp only at hSw); go_simp); (try with_reducible rfl); (simp only [Act.put, List.setIfInBounds_toArray, List.set_cons_zero, List.set_cons_succ])
            refine held_run (i := 5) #[true, true, true, true, true, true, false, false, false, false, false, false, false, false, false, false, false, false, false, false, false, false, false, false, false, false, false, false, false, false, false, false, false, false, false, false] rfl (by kernel_rfl) (by rfl) (fun K hK => ?_)
            go_simp
            refine (HN2.out _).mono ?_; rintro x w6 ⟨rfl, hb⟩
            refine hK.out _ _ (⟨keepS5 (Keep.call (Hid.out hHeld.1.1) hb), keepS11 (Keep.call (Hid.out hHeld.2.1.1) hb), keepS11 (Keep.call (Hid.out hHeld.2.2.1.1) hb), keepS11 (Keep.call (Hid.out hHeld.2.2.2.1.1) hb), keepP5 (Part.call (Hid.out hHeld.2.2.2.2.1) hb)⟩) (fun hHeld => ?_); clear hK K; (try simp only [Act.put, List.setIfInBounds_toArray, List.set_cons_zero, List.set_cons_succ])
            refine held_on (i := 6) (N := (some 53)) (v := ?_) #[true, true, true, true, true, true, true, false, false, false, false, false, false, false, false, false, false, false, false, false, false, false, false, false, false, false, false, false, false, false, false, false, false, false, false, false] rfl rfl (by kernel_rfl) (fun _ _ _ h => h) (by rfl) ?_ (by assumption) ?_
            rotate_left; (intro w hSw; (try dsimp only at hSw); go_simp); (try with_reducible rfl); (simp only [Act.put, List.setIfInBounds_toArray, List.set_cons_zero, List.set_cons_succ])
            refine held_on (i := 7) (N := (some 54)) (v := ?_) #[true, true, true, true, true, true, true, true, false, false, false, false, false, false, false, false, false, false, false, false, false, false, false, false, false, false, false, false, false, false, false, false, false, false, false, false] rfl rfl (by kernel_rfl) (fun _ _ _ h => h) (by rfl) ?_ (by assumption) ?_
            rotate_left; (intro w hSw; (try dsimp only at hSw); go_simp); (try with_reducible rfl); (simp only [Act.put, List.setIfInBounds_toArray, List.set_cons_zero, List.set_cons_succ])
            refine held_on (i := 8) (N := (some 55)) (v := ?_) #[true, true, true, true, true, true, true, true, true, false, false, false, false, false, false, false, false, false, false, false, false, false, false, false, false, false, false, false, false, false, false, false, false, false, false, false] rfl rfl (by kernel_rfl) (fun _ _ _ h => h) (by rfl) ?_ (by assumption) ?_
            rotate_left; (intro w hSw; (try dsimp only at hSw); go_simp); (try with_reducible rfl); (simp only [Act.put, List.setIfInBounds_toArray, List.set_cons_zero, List.set_cons_succ])
            refine held_on (i := 9) (N := (some 56)) (v := ?_) #[true, true, true, true, true, true, true, true, true, true, false, false, false, false, false, false, false, false, false, false, false, false, false, false, false, false, false, false, false, false, false, false, false, false, false, false] rfl rfl (by kernel_rfl) (fun _ _ _ h => h) (by rfl) ?_ (by assumption) ?_
            rotate_left; (intro w hSw; (try dsimp only at hSw); go_simp); (try with_reducible rfl); (simp only [Act.put, List.setIfInBounds_toArray, List.set_cons_zero, List.set_cons_succ])
            refine held_on (i := 10) (N := (some 57)) (v := ?_) #[true, true, true, true, true, true, true, true, true, true, true, false, false, false, false, false, false, false, false, false, false, false, false, false, false, false, false, false, false, false, false, false, false, false, false, false] rfl rfl (by kernel_rfl) (fun _ _ _ h => h) (by rfl) ?_ (by assumption) ?_
            rotate_left; (intro w hSw; (try dsimp only at hSw); go_simp); (try with_reducible rfl); (simp only [Act.put, List.setIfInBounds_toArray, List.set_cons_zero, List.set_cons_succ])
            refine held_on (i := 11) (N := (some 58)) (v := ?_) #[true, true, true, true, true, true, true, true, true, true, true, true, false, false, false, false, false, false, false, false, false, false, false, false, false, false, false, false, false, false, false, false, false, false, false, false] rfl rfl (by kernel_rfl) (fun _ _ _ h => h) (by rfl) ?_ (by assumption) ?_
            rotate_left; (intro w hSw; (try dsimp only at hSw); go_simp); (try with_reducible rfl); (simp only [Act.put, List.setIfInBounds_toArray, List.set_cons_zero, List.set_cons_succ])
            refine held_on (i := 12) (N := (some 59)) (v := ?_) #[true, true, true, true, true, true, true, true, true, true, true, true, true, false, false, false, false, false, false, false, false, false, false, false, false, false, false, false, false, false, false, false, false, false, false, false] rfl rfl (by kernel_rfl) (fun _ _ _ h => h) (by rfl) ?_ (by assumption) ?_
            rotate_left; (intro w hSw; (try dsimp only at hSw); go_simp); (try with_reducible rfl); (simp only [Act.put, List.setIfInBounds_toArray, List.set_cons_zero, List.set_cons_succ])
            refine held_on (i := 13) (N := (some 60)) (v := ?_) #[true, true, true, true, true, true, true, true, true, true, true, true, true, true, false, false, false, false, false, false, false, false, false, false, false, false, false, false, false, false, false, false, false, false, false, false] rfl rfl (by kernel_rfl) (fun _ _ _ h => h) (by rfl) ?_ (by assumption) ?_
            rotate_left; (intro w hSw; (try dsimp only at hSw); go_simp); (try with_reducible rfl); (simp only [Act.put, List.setIfInBounds_toArray, List.set_cons_zero, List.set_cons_succ])
            refine held_on (i := 14) (N := (some 61)) (v := ?_) #[true, true, true, true, true, true, true, true, true, true, true, true, true, true, true, false, false, false, false, false, false, false, false, false, false, false, false, false, false, false, false, false, false, false, false, false] rfl rfl (by kernel_rfl) (fun _ _ _ h => h) (by rfl) ?_ (by assumption) ?_
            rotate_left; (intro w hSw; (try dsimp only at hSw); go_simp); (try with_reducible rfl); (simp only [Act.put, List.setIfInBounds_toArray, List.set_cons_zero, List.set_cons_succ])
            refine held_on (i := 15) (N := (some 62)) (v := ?_) #[true, true, true, true, true, true, true, true, true, true, true, true, true, true, true, true, false, false, false, false, false, false, false, false, false, false, false, false, false, false, false, false, false, false, false, false] rfl rfl (by kernel_rfl) (fun _ _ _ h => h) (by rfl) ?_ (by assumption) ?_
            rotate_left; (intro w hSw; (try dsimp only at hSw); go_simp); (try with_reducible rfl); (simp only [Act.put, List.setIfInBounds_toArray, List.set_cons_zero, List.set_cons_succ])
            refine held_on (i := 16) (N := (some 63)) (v := ?_) #[true, true, true, true, true, true, true, true, true, true, true, true, true, true, true, true, true, false, false, false, false, false, false, false, false, false, false, false, false, false, false, false, false, false, false, false] rfl rfl (by kernel_rfl) (fun _ _ _ h => h) (by rfl) ?_ (by assumption) ?_
            rotate_left; (intro w hSw; (try dsimp only at hSw); go_simp); (try with_reducible rfl); (simp only [Act.put, List.setIfInBounds_toArray, List.set_cons_zero, List.set_cons_succ])
            refine held_on (i := 17) (N := (some 64)) (v := ?_) #[true, true, true, true, true, true, true, true, true, true, true, true, true, true, true, true, true, true, false, false, false, false, false, false, false, false, false, false, false, false, false, false, false, false, false, false] rfl rfl (by kernel_rfl) (fun _ _ _ h => h) (by rfl) ?_ (by assumption) ?_
            rotate_left; (intro w hSw; (try dsimp only at hSw); go_simp); (try with_reducible rfl); (simp only [Act.put, List.setIfInBounds_toArray, List.set_cons_zero, List.set_cons_succ])
            refine held_on (i := 18) (N := (some 65)) (v := ?_) #[true, true, true, true, true, true, true, true, true, true, true, true, true, true, true, true, true, true, true, false, false, false, false, false, false, false, false, false, false, false, false, false, false, false, false, false] rfl rfl (by kernel_rfl) (fun _ _ _ h => h) (by rfl) ?_ (by assumption) ?_
            rotate_left; (intro w hSw; (try dsimp only at hSw); go_simp); (try with_reducible rfl); (simp only [Act.put, List.setIfInBounds_toArray, List.set_cons_zero, List.set_cons_succ])
            refine held_on (i := 19) (N := (some 66)) (v := ?_) #[true, true, true, true, true, true, true, true, true, true, true, true, true, true, true, true, true, true, true, true, false, false, false, false, false, false, false, false, false, false, false, false, false, false, false, false] rfl rfl (by kernel_rfl) (fun _ _ _ h => h) (by rfl) ?_ (by assumption) ?_
            rotate_left; (intro w hSw; (try dsimp only at hSw); go_simp); (try with_reducible rfl); (simp only [Act.put, List.setIfInBounds_toArray, List.set_cons_zero, List.set_cons_succ])
            refine held_on (i := 20) (N := (some 67)) (v := ?_) #[true, true, true, true, true, true, true, true, true, true, true, true, true, true, true, true, true, true, true, true, true, false, false, false, false, false, false, false, false, false, false, false, false, false, false, false] rfl rfl (by kernel_rfl) (fun _ _ _ h => h) (by rfl) ?_ (by assumption) ?_
            rotate_left; (intro w hSw; (try dsimp only at hSw); go_simp); (try with_reducible rfl); (simp only [Act.put, List.setIfInBounds_toArray, List.set_cons_zero, List.set_cons_succ])
            refine held_on (i := 21) (N := (some 68)) (v := ?_) #[true, true, true, true, true, true, true, true, true, true, true, true, true, true, true, true, true, true, true, true, true, true, false, false, false, false, false, false, false, false, false, false, false, false, false, false] rfl rfl (by kernel_rfl) (fun _ _ _ h => h) (by rfl) ?_ (by assumption) ?_
            rotate_left; (intro w hSw; (try dsimp only at hSw); go_simp); (try with_reducible rfl); (simp only [Act.put, List.setIfInBounds_toArray, List.set_cons_zero, List.set_cons_succ])
            refine held_on (i := 22) (N := (some 69)) (v := ?_) #[true, true, true, true, true, true, true, true, true, true, true, true, true, true, true, true, true, true, true, true, true, true, true, false, false, false, false, false, false, false, false, false, false, false, false, false] rfl rfl (by kernel_rfl) (fun _ _ _ h => h) (by rfl) ?_ (by assumption) ?_
            rotate_left; (intro w hSw; (try dsimp only at hSw); go_simp); (try with_reducible rfl); (simp only [Act.put, List.setIfInBounds_toArray, List.set_cons_zero, List.set_cons_succ])
            refine held_on (i := 23) (N := (some 70)) (v := ?_) #[true, true, true, true, true, true, true, true, true, true, true, true, true, true, true, true, true, true, true, true, true, true, true, true, false, false, false, false, false, false, false, false, false, false, false, false] rfl rfl (by kernel_rfl) (fun _ _ _ h => h) (by rfl) ?_ (by assumption) ?_
            rotate_left; (intro w hSw; (try dsimp only at hSw); go_simp); (try with_reducible rfl); (simp only [Act.put, List.setIfInBounds_toArray, List.set_cons_zero, List.set_cons_succ])
            refine held_on (i := 24) (N := (some 71)) (v := ?_) #[true, true, true, true, true, true, true, true, true, true, true, true, true, true, true, true, true, true, true, true, true, true, true, true, true, false, false, false, false, false, false, false, false, false, false, false] rfl rfl (by kernel_rfl) (fun _ _ _ h => h) (by rfl) ?_ (by assumption) ?_
            rotate_left; (intro w hSw; (try dsimp only at hSw); go_simp); (try with_reducible rfl); (simp only [Act.put, List.setIfInBounds_toArray, List.set_cons_zero, List.set_cons_succ])
            refine held_on (i := 25) (N := (some 72)) (v := ?_) #[true, true, true, true, true, true, true, true, true, true, true, true, true, true, true, true, true, true, true, true, true, true, true, true, true, true, false, false, false, false, false, false, false, false, false, false] rfl rfl (by kernel_rfl) (fun _ _ _ h => h) (by rfl) ?_ (by assumption) ?_
            rotate_left; (intro w hSw; (try dsimp only at hSw); go_simp); (try with_reducible rfl); (simp only [Act.put, List.setIfInBounds_toArray, List.set_cons_zero, List.set_cons_succ])
            refine held_on (i := 26) (N := (some 73)) (v := ?_) #[true, true, true, true, true, true, true, true, true, true, true, true, true, true, true, true, true, true, true, true, true, true, true, true, true, true, true, false, false, false, false, false, false, false, false, false] rfl rfl (by kernel_rfl) (fun _ _ _ h => h) (by rfl) ?_ (by assumption) ?_
            rotate_left; (intro w hSw; (try dsimp only at hSw); go_simp); (try with_reducible rfl); (simp only [Act.put, List.setIfInBounds_toArray, List.set_cons_zero, List.set_cons_succ])
            refine held_on (i := 27) (N := (some 74)) (v := ?_) #[true, true, true, true, true, true, true, true, true, true, true, true, true, true, true, true, true, true, true, true, true, true, true, true, true, true, true, true, false, false, false, false, false, false, false, false] rfl rfl (by kernel_rfl) (fun _ _ _ h => h) (by rfl) ?_ (by assumption) ?_
            rotate_left; (intro w hSw; (try dsimp only at hSw); go_simp); (try with_reducible rfl); (simp only [Act.put, List.setIfInBounds_toArray, List.set_cons_zero, List.set_cons_succ])
            refine held_on (i := 28) (N := (some 75)) (v := ?_) #[true, true, true, true, true, true, true, true, true, true, true, true, true, true, true, true, true, true, true, true, true, true, true, true, true, true, true, true, true, false, false, false, false, false, false, false] rfl rfl (by kernel_rfl) (fun _ _ _ h => h) (by rfl) ?_ (by assumption) ?_
            rotate_left; (intro w hSw; (try dsimp only at hSw); go_simp); (try with_reducible rfl); (simp only [Act.put, List.setIfInBounds_toArray, List.set_cons_zero, List.set_cons_succ])
            refine held_on (i := 29) (N := (some 76)) (v := ?_) #[true, true, true, true, true, true, true, true, true, true, true, true, true, true, true, true, true, true, true, true, true, true, true, true, true, true, true, true, true, true, false, false, false, false, false, false] rfl rfl (by kernel_rfl) (fun _ _ _ h => h) (by rfl) ?_ (by assumption) ?_
            rotate_left; (intro w hSw; (try dsimp only at hSw); go_simp); (try with_reducible rfl); (simp only [Act.put, List.setIfInBounds_toArray, List.set_cons_zero, List.set_cons_succ])
            refine held_on (i := 30) (N := (some 77)) (v := ?_) #[true, true, true, true, true, true, true, true, true, true, true, true, true, true, true, true, true, true, true, true, true, true, true, true, true, true, true, true, true, true, true, false, false, false, false, false] rfl rfl (by kernel_rfl) (fun _ _ _ h => h) (by rfl) ?_ (by assumption) ?_
            rotate_left; (intro w hSw; (try dsimp only at hSw); go_simp); (try with_reducible rfl); (simp only [Act.put, List.setIfInBounds_toArray, List.set_cons_zero, List.set_cons_succ])
            refine held_on (i := 31) (N := (some 78)) (v := ?_) #[true, true, true, true, true, true, true, true, true, true, true, true, true, true, true, true, true, true, true, true, true, true, true, true, true, true, true, true, true, true, true, true, false, false, false, false] rfl rfl (by kernel_rfl) (fun _ _ _ h => h) (by rfl) ?_ (by assumption) ?_
            rotate_left; (intro w hSw; (try dsimp only at hSw); go_simp); (try with_reducible rfl); (simp only [Act.put, List.setIfInBounds_toArray, List.set_cons_zero, List.set_cons_succ])
            refine held_on (i := 32) (N := (some 79)) (v := ?_) #[true, true, true, true, true, true, true, true, true, true, true, true, true, true, true, true, true, true, true, true, true, true, true, true, true, true, true, true, true, true, true, true, true, false, false, false] rfl rfl (by kernel_rfl) (fun _ _ _ h => h) (by rfl) ?_ (by assumption) ?_
            rotate_left; (intro w hSw; (try dsimp only at hSw); go_simp); (try with_reducible rfl); (simp only [Act.put, List.setIfInBounds_toArray, List.set_cons_zero, List.set_cons_succ])
            refine held_on (i := 33) (N := (some 80)) (v := ?_) #[true, true, true, true, true, true, true, true, true, true, true, true, true, true, true, true, true, true, true, true, true, true, true, true, true, true, true, true, true, true, true, true, true, true, false, false] rfl rfl (by kernel_rfl) (fun _ _ _ h => h) (by rfl) ?_ (by assumption) ?_
            rotate_left; (intro w hSw; (try dsimp only at hSw); go_simp); (try with_reducible rfl); (simp only [Act.put, List.setIfInBounds_toArray, List.set_cons_zero, List.set_cons_succ])
            refine held_on (i := 34) (N := (some 81)) (v := ?_) #[true, true, true, true, true, true, true, true, true, true, true, true, true, true, true, true, true, true, true, true, true, true, true, true, true, true, true, true, true, true, true, true, true, true, true, false] rfl rfl (by kernel_rfl) (fun _ _ _ h => h) (by rfl) ?_ (by assumption) ?_
            rotate_left; (intro w hSw; (try dsimp only at hSw); go_simp); (try with_reducible rfl); (simp only [Act.put, List.setIfInBounds_toArray, List.set_cons_zero, List.set_cons_succ])
            refine held_on (i := 35) (N := (some 82)) (v := ?_) #[true, true, true, true, true, true, true, true, true, true, true, true, true, true, true, true, true, true, true, true, true, true, true, true, true, true, true, true, true, true, true, true, true, true, true, true] rfl rfl (by kernel_rfl) (fun _ _ _ h => h) (by rfl) ?_ (by assumption) ?_
            rotate_left; (intro w hSw; (try dsimp only at hSw); go_simp); (try with_reducible rfl); (simp only [Act.put, List.setIfInBounds_toArray, List.set_cons_zero, List.set_cons_succ])
            refine held_done (by kernel_rfl) ?_
            have X0 := Lib.hid (Hid.out hHeld.1.1)
            have X1 := Lib.hid (Hid.out hHeld.2.1.1)
            have X2 := Lib.hid (Hid.out hHeld.2.2.1.1)
            have X3 := Lib.hid (Hid.out hHeld.2.2.2.1.1)
            have X4 := Lib.hid (Hid.out hHeld.2.2.2.2.1)
            clear hHeld HK0 HKj HN HKf HT
            have HK0 := X0; clear X0
            have HKj := X1; clear X1
            have HN := X2; clear X2
            have HKf := X3; clear X3
            have HT := X4; clear X4
            obtain ⟨_, k0, k1, k2, k3, k4⟩ := keepS5 HK0.out
            obtain ⟨_, j0, j1, j2, j3, j4, j5, j6, j7, j8, j9, j10⟩ := keepS11 HKj.out
            obtain ⟨_, n0, n1, n2, n3, n4, n5, n6, n7, n8, n9, n10⟩ := keepS11 HN.out
            obtain ⟨_, f0, f1, f2, f3, f4, f5, f6, f7, f8, f9, f10⟩ := keepS11 HKf.out
            obtain ⟨_, t0, t1, t2, t3, t4⟩ := keepP5 HT.out
            show Exit.then _ _ _ _ _
            go_upto_region 14 with fail
            go_cut [101] (fun v w' => v = .bool false ∧ Hid (Keep w w.heap.size 33 (cells cv cw cl ce cc) w') ∧ Hid (Keep w g9 38 #[.int .u16 xv, .int .u16 cw, .int .u16 xl, .int .i64 xe, .int .i64 xc, .int .u16 0, .int .u16 0, .int .u16 0, .int .i64 0, .int .i64 0, .bool false] w') ∧ Hid (Keep w g11 38 #[.int .u16 xv, .int .u16 cw, .int .u16 xl, .int .i64 xe, .int .i64 xc, .int .u16 tv, .int .u16 cw, .int .u16 tl, .int .i64 te, .int .i64 tc, .bool true] w') ∧ Hid (Keep w g13 38 #[.int .u16 tv, .int .u16 cw, .int .u16 tl, .int .i64 te, .int .i64 tc, .int .u16 0, .int .u16 0, .int .u16 0, .int .i64 0, .int .i64 0, .bool false] w') ∧ Hid (Part w bb (oo + p * 5) [.int .u16 tv, .int .u16 cw, .int .u16 tl, .int .i64 te, .int .i64 tc] w'))
            case first =>
              cases hE : electsJ ⟨⟨xv, cw, xl, xe, xc⟩, ⟨tv, cw, tl, te, tc⟩, true⟩ a with
              | false =>
                have HE0 := fun w => elects_calls xv cw xl xe xc tv cw tl te tc true a w
                rw [hE] at HE0
                have HE := Lib.hid HE0
                clear HE0
                clear hE
                go_wp2_with fail
                refine (HE.out _).mono ?_; rintro x w6 ⟨rfl, hb⟩
                have X0 := Lib.hid (Keep.call HK0.out hb)
                have X1 := Lib.hid (Keep.call HKj.out hb)
                have X2 := Lib.hid (Keep.call HN.out hb)
                have X3 := Lib.hid (Keep.call HKf.out hb)
                have X4 := Lib.hid (Part.call HT.out hb)
                clear hb HK0 HKj HN HKf HT k0 k1 k2 k3 k4 j0 j1 j2 j3 j4 j5 j6 j7 j8 j9 j10 n0 n1 n2 n3 n4 n5 n6 n7 n8 n9 n10 f0 f1 f2 f3 f4 f5 f6 f7 f8 f9 f10 t0 t1 t2 t3 t4
                have HK0 := X0; clear X0
                have HKj := X1; clear X1
                have HN := X2; clear X2
                have HKf := X3; clear X3
                have HT := X4; clear X4
                obtain ⟨_, k0, k1, k2, k3, k4⟩ := keepS5 HK0.out
                obtain ⟨_, j0, j1, j2, j3, j4, j5, j6, j7, j8, j9, j10⟩ := keepS11 HKj.out
                obtain ⟨_, n0, n1, n2, n3, n4, n5, n6, n7, n8, n9, n10⟩ := keepS11 HN.out
                obtain ⟨_, f0, f1, f2, f3, f4, f5, f6, f7, f8, f9, f10⟩ := keepS11 HKf.out
                obtain ⟨_, t0, t1, t2, t3, t4⟩ := keepP5 HT.out
                go_wp2_with fail
                go_meet
                exact ⟨rfl, HK0, HKj, HN, HKf, HT⟩
              | true =>
                have HE0 := fun w => elects_calls xv cw xl xe xc tv cw tl te tc true a w
                rw [hE] at HE0
                have HE := Lib.hid HE0
                clear HE0
                cases h1 : commitsJ ⟨⟨xv, cw, xl, xe, xc⟩, ⟨0, 0, 0, 0, 0⟩, false⟩ b with
                | true =>
                  have HC10 := fun w => commits_calls xv cw xl xe xc 0 0 0 0 0 false b w
                  rw [h1] at HC10
                  have HC1 := Lib.hid HC10
                  clear HC10
                  have hz : (msk (inter a b) == 0) = false := by simpa using S1.out.commit' hE h1
                  clear hE h1
                  go_wp2_with fail
                  refine (HE.out _).mono ?_; rintro x w6 ⟨rfl, hb⟩
                  have X0 := Lib.hid (Keep.call HK0.out hb)
                  have X1 := Lib.hid (Keep.call HKj.out hb)
                  have X2 := Lib.hid (Keep.call HN.out hb)
                  have X3 := Lib.hid (Keep.call HKf.out hb)
                  have X4 := Lib.hid (Part.call HT.out hb)
                  clear hb HK0 HKj HN HKf HT k0 k1 k2 k3 k4 j0 j1 j2 j3 j4 j5 j6 j7 j8 j9 j10 n0 n1 n2 n3 n4 n5 n6 n7 n8 n9 n10 f0 f1 f2 f3 f4 f5 f6 f7 f8 f9 f10 t0 t1 t2 t3 t4
                  have HK0 := X0; clear X0
                  have HKj := X1; clear X1
                  have HN := X2; clear X2
                  have HKf := X3; clear X3
                  have HT := X4; clear X4
                  obtain ⟨_, k0, k1, k2, k3, k4⟩ := keepS5 HK0.out
                  obtain ⟨_, j0, j1, j2, j3, j4, j5, j6, j7, j8, j9, j10⟩ := keepS11 HKj.out
                  obtain ⟨_, n0, n1, n2, n3, n4, n5, n6, n7, n8, n9, n10⟩ := keepS11 HN.out
                  obtain ⟨_, f0, f1, f2, f3, f4, f5, f6, f7, f8, f9, f10⟩ := keepS11 HKf.out
                  obtain ⟨_, t0, t1, t2, t3, t4⟩ := keepP5 HT.out
                  go_wp2_with fail
                  refine (HC1.out _).mono ?_; rintro x w6 ⟨rfl, hb⟩
                  have X0 := Lib.hid (Keep.call HK0.out hb)
                  have X1 := Lib.hid (Keep.call HKj.out hb)
                  have X2 := Lib.hid (Keep.call HN.out hb)
                  have X3 := Lib.hid (Keep.call HKf.out hb)
                  have X4 := Lib.hid (Part.call HT.out hb)
                  clear hb HK0 HKj HN HKf HT k0 k1 k2 k3 k4 j0 j1 j2 j3 j4 j5 j6 j7 j8 j9 j10 n0 n1 n2 n3 n4 n5 n6 n7 n8 n9 n10 f0 f1 f2 f3 f4 f5 f6 f7 f8 f9 f10 t0 t1 t2 t3 t4
                  have HK0 := X0; clear X0
                  have HKj := X1; clear X1
                  have HN := X2; clear X2
                  have HKf := X3; clear X3
                  have HT := X4; clear X4
                  obtain ⟨_, k0, k1, k2, k3, k4⟩ := keepS5 HK0.out
                  obtain ⟨_, j0, j1, j2, j3, j4, j5, j6, j7, j8, j9, j10⟩ := keepS11 HKj.out
                  obtain ⟨_, n0, n1, n2, n3, n4, n5, n6, n7, n8, n9, n10⟩ := keepS11 HN.out
                  obtain ⟨_, f0, f1, f2, f3, f4, f5, f6, f7, f8, f9, f10⟩ := keepS11 HKf.out
                  obtain ⟨_, t0, t1, t2, t3, t4⟩ := keepP5 HT.out
                  go_wp2_with fail
                  refine (rmeet_calls _ _ _ hua hub).mono ?_; rintro x w6 ⟨rfl, rfl⟩
                  go_wp2_with fail
                  go_meet
                  exact ⟨rfl, HK0, HKj, HN, HKf, HT⟩
                | false =>
                  have HC10 := fun w => commits_calls xv cw xl xe xc 0 0 0 0 0 false b w
                  rw [h1] at HC10
                  have HC1 := Lib.hid HC10
                  clear HC10
                  cases h2 : commitsJ ⟨⟨tv, cw, tl, te, tc⟩, ⟨0, 0, 0, 0, 0⟩, false⟩ b with
                  | true =>
                    have HC20 := fun w => commits_calls tv cw tl te tc 0 0 0 0 0 false b w
                    rw [h2] at HC20
                    have HC2 := Lib.hid HC20
                    clear HC20
                    have hz : (msk (inter a b) == 0) = false := by simpa using S2.out.commit' hE h2
                    clear hE h1 h2
                    go_wp2_with fail
                    refine (HE.out _).mono ?_; rintro x w6 ⟨rfl, hb⟩
                    have X0 := Lib.hid (Keep.call HK0.out hb)
                    have X1 := Lib.hid (Keep.call HKj.out hb)
                    have X2 := Lib.hid (Keep.call HN.out hb)
                    have X3 := Lib.hid (Keep.call HKf.out hb)
                    have X4 := Lib.hid (Part.call HT.out hb)
                    clear hb HK0 HKj HN HKf HT k0 k1 k2 k3 k4 j0 j1 j2 j3 j4 j5 j6 j7 j8 j9 j10 n0 n1 n2 n3 n4 n5 n6 n7 n8 n9 n10 f0 f1 f2 f3 f4 f5 f6 f7 f8 f9 f10 t0 t1 t2 t3 t4
                    have HK0 := X0; clear X0
                    have HKj := X1; clear X1
                    have HN := X2; clear X2
                    have HKf := X3; clear X3
                    have HT := X4; clear X4
                    obtain ⟨_, k0, k1, k2, k3, k4⟩ := keepS5 HK0.out
                    obtain ⟨_, j0, j1, j2, j3, j4, j5, j6, j7, j8, j9, j10⟩ := keepS11 HKj.out
                    obtain ⟨_, n0, n1, n2, n3, n4, n5, n6, n7, n8, n9, n10⟩ := keepS11 HN.out
                    obtain ⟨_, f0, f1, f2, f3, f4, f5, f6, f7, f8, f9, f10⟩ := keepS11 HKf.out
                    obtain ⟨_, t0, t1, t2, t3, t4⟩ := keepP5 HT.out
                    go_wp2_with fail
                    refine (HC1.out _).mono ?_; rintro x w6 ⟨rfl, hb⟩
                    have X0 := Lib.hid (Keep.call HK0.out hb)
                    have X1 := Lib.hid (Keep.call HKj.out hb)
                    have X2 := Lib.hid (Keep.call HN.out hb)
                    have X3 := Lib.hid (Keep.call HKf.out hb)
                    have X4 := Lib.hid (Part.call HT.out hb)
                    clear hb HK0 HKj HN HKf HT k0 k1 k2 k3 k4 j0 j1 j2 j3 j4 j5 j6 j7 j8 j9 j10 n0 n1 n2 n3 n4 n5 n6 n7 n8 n9 n10 f0 f1 f2 f3 f4 f5 f6 f7 f8 f9 f10 t0 t1 t2 t3 t4
                    have HK0 := X0; clear X0
                    have HKj := X1; clear X1
                    have HN := X2; clear X2
                    have HKf := X3; clear X3
                    have HT := X4; clear X4
                    obtain ⟨_, k0, k1, k2, k3, k4⟩ := keepS5 HK0.out
                    obtain ⟨_, j0, j1, j2, j3, j4, j5, j6, j7, j8, j9, j10⟩ := keepS11 HKj.out
                    obtain ⟨_, n0, n1, n2, n3, n4, n5, n6, n7, n8, n9, n10⟩ := keepS11 HN.out
                    obtain ⟨_, f0, f1, f2, f3, f4, f5, f6, f7, f8, f9, f10⟩ := keepS11 HKf.out
                    obtain ⟨_, t0, t1, t2, t3, t4⟩ := keepP5 HT.out
                    go_wp2_with fail
                    refine (HC2.out _).mono ?_; rintro x w6 ⟨rfl, hb⟩
                    have X0 := Lib.hid (Keep.call HK0.out hb)
                    have X1 := Lib.hid (Keep.call HKj.out hb)
                    have X2 := Lib.hid (Keep.call HN.out hb)
                    have X3 := Lib.hid (Keep.call HKf.out hb)
                    have X4 := Lib.hid (Part.call HT.out hb)
                    clear hb HK0 HKj HN HKf HT k0 k1 k2 k3 k4 j0 j1 j2 j3 j4 j5 j6 j7 j8 j9 j10 n0 n1 n2 n3 n4 n5 n6 n7 n8 n9 n10 f0 f1 f2 f3 f4 f5 f6 f7 f8 f9 f10 t0 t1 t2 t3 t4
                    have HK0 := X0; clear X0
                    have HKj := X1; clear X1
                    have HN := X2; clear X2
                    have HKf := X3; clear X3
                    have HT := X4; clear X4
                    obtain ⟨_, k0, k1, k2, k3, k4⟩ := keepS5 HK0.out
                    obtain ⟨_, j0, j1, j2, j3, j4, j5, j6, j7, j8, j9, j10⟩ := keepS11 HKj.out
                    obtain ⟨_, n0, n1, n2, n3, n4, n5, n6, n7, n8, n9, n10⟩ := keepS11 HN.out
                    obtain ⟨_, f0, f1, f2, f3, f4, f5, f6, f7, f8, f9, f10⟩ := keepS11 HKf.out
                    obtain ⟨_, t0, t1, t2, t3, t4⟩ := keepP5 HT.out
                    go_wp2_with fail
                    refine (rmeet_calls _ _ _ hua hub).mono ?_; rintro x w6 ⟨rfl, rfl⟩
                    go_wp2_with fail
                    go_meet
                    exact ⟨rfl, HK0, HKj, HN, HKf, HT⟩
                  | false =>
                    have HC20 := fun w => commits_calls tv cw tl te tc 0 0 0 0 0 false b w
                    rw [h2] at HC20
                    have HC2 := Lib.hid HC20
                    clear HC20
                    clear hE h1 h2
                    go_wp2_with fail
                    refine (HE.out _).mono ?_; rintro x w6 ⟨rfl, hb⟩
                    have X0 := Lib.hid (Keep.call HK0.out hb)
                    have X1 := Lib.hid (Keep.call HKj.out hb)
                    have X2 := Lib.hid (Keep.call HN.out hb)
                    have X3 := Lib.hid (Keep.call HKf.out hb)
                    have X4 := Lib.hid (Part.call HT.out hb)
                    clear hb HK0 HKj HN HKf HT k0 k1 k2 k3 k4 j0 j1 j2 j3 j4 j5 j6 j7 j8 j9 j10 n0 n1 n2 n3 n4 n5 n6 n7 n8 n9 n10 f0 f1 f2 f3 f4 f5 f6 f7 f8 f9 f10 t0 t1 t2 t3 t4
                    have HK0 := X0; clear X0
                    have HKj := X1; clear X1
                    have HN := X2; clear X2
                    have HKf := X3; clear X3
                    have HT := X4; clear X4
                    obtain ⟨_, k0, k1, k2, k3, k4⟩ := keepS5 HK0.out
                    obtain ⟨_, j0, j1, j2, j3, j4, j5, j6, j7, j8, j9, j10⟩ := keepS11 HKj.out
                    obtain ⟨_, n0, n1, n2, n3, n4, n5, n6, n7, n8, n9, n10⟩ := keepS11 HN.out
                    obtain ⟨_, f0, f1, f2, f3, f4, f5, f6, f7, f8, f9, f10⟩ := keepS11 HKf.out
                    obtain ⟨_, t0, t1, t2, t3, t4⟩ := keepP5 HT.out
                    go_wp2_with fail
                    refine (HC1.out _).mono ?_; rintro x w6 ⟨rfl, hb⟩
                    have X0 := Lib.hid (Keep.call HK0.out hb)
                    have X1 := Lib.hid (Keep.call HKj.out hb)
                    have X2 := Lib.hid (Keep.call HN.out hb)
                    have X3 := Lib.hid (Keep.call HKf.out hb)
                    have X4 := Lib.hid (Part.call HT.out hb)
                    clear hb HK0 HKj HN HKf HT k0 k1 k2 k3 k4 j0 j1 j2 j3 j4 j5 j6 j7 j8 j9 j10 n0 n1 n2 n3 n4 n5 n6 n7 n8 n9 n10 f0 f1 f2 f3 f4 f5 f6 f7 f8 f9 f10 t0 t1 t2 t3 t4
                    have HK0 := X0; clear X0
                    have HKj := X1; clear X1
                    have HN := X2; clear X2
                    have HKf := X3; clear X3
                    have HT := X4; clear X4
                    obtain ⟨_, k0, k1, k2, k3, k4⟩ := keepS5 HK0.out
                    obtain ⟨_, j0, j1, j2, j3, j4, j5, j6, j7, j8, j9, j10⟩ := keepS11 HKj.out
                    obtain ⟨_, n0, n1, n2, n3, n4, n5, n6, n7, n8, n9, n10⟩ := keepS11 HN.out
                    obtain ⟨_, f0, f1, f2, f3, f4, f5, f6, f7, f8, f9, f10⟩ := keepS11 HKf.out
                    obtain ⟨_, t0, t1, t2, t3, t4⟩ := keepP5 HT.out
                    go_wp2_with fail
                    refine (HC2.out _).mono ?_; rintro x w6 ⟨rfl, hb⟩
                    have X0 := Lib.hid (Keep.call HK0.out hb)
                    have X1 := Lib.hid (Keep.call HKj.out hb)
                    have X2 := Lib.hid (Keep.call HN.out hb)
                    have X3 := Lib.hid (Keep.call HKf.out hb)
                    have X4 := Lib.hid (Part.call HT.out hb)
                    clear hb HK0 HKj HN HKf HT k0 k1 k2 k3 k4 j0 j1 j2 j3 j4 j5 j6 j7 j8 j9 j10 n0 n1 n2 n3 n4 n5 n6 n7 n8 n9 n10 f0 f1 f2 f3 f4 f5 f6 f7 f8 f9 f10 t0 t1 t2 t3 t4
                    have HK0 := X0; clear X0
                    have HKj := X1; clear X1
                    have HN := X2; clear X2
                    have HKf := X3; clear X3
                    have HT := X4; clear X4
                    obtain ⟨_, k0, k1, k2, k3, k4⟩ := keepS5 HK0.out
                    obtain ⟨_, j0, j1, j2, j3, j4, j5, j6, j7, j8, j9, j10⟩ := keepS11 HKj.out
                    obtain ⟨_, n0, n1, n2, n3, n4, n5, n6, n7, n8, n9, n10⟩ := keepS11 HN.out
                    obtain ⟨_, f0, f1, f2, f3, f4, f5, f6, f7, f8, f9, f10⟩ := keepS11 HKf.out
                    obtain ⟨_, t0, t1, t2, t3, t4⟩ := keepP5 HT.out
                    go_wp2_with fail
                    go_meet
                    exact ⟨rfl, HK0, HKj, HN, HKf, HT⟩
            case rest =>
              clear HK0 HKj HN HKf HT k0 k1 k2 k3 k4 j0 j1 j2 j3 j4 j5 j6 j7 j8 j9 j10 n0 n1 n2 n3 n4 n5 n6 n7 n8 n9 n10 f0 f1 f2 f3 f4 f5 f6 f7 f8 f9 f10 t0 t1 t2 t3 t4
              obtain ⟨rfl, HK0, HKj, HN, HKf, HT⟩ := hcut
              go_upto_region 16 with fail
              go_cut [15] (fun v w' => v = .int .i64 10 ∧ Hid (Keep w w.heap.size 33 (cells cv cw cl ce cc) w') ∧ Hid (Keep w g9 38 #[.int .u16 xv, .int .u16 cw, .int .u16 xl, .int .i64 xe, .int .i64 xc, .int .u16 0, .int .u16 0, .int .u16 0, .int .i64 0, .int .i64 0, .bool false] w') ∧ Hid (Keep w g13 38 #[.int .u16 tv, .int .u16 cw, .int .u16 tl, .int .i64 te, .int .i64 tc, .int .u16 0, .int .u16 0, .int .u16 0, .int .i64 0, .int .i64 0, .bool false] w'))
              case first =>
                obtain ⟨_, k0, k1, k2, k3, k4⟩ := keepS5 HK0.out
                obtain ⟨_, k0, k1, k2, k3, k4⟩ := keepS5 HK0.out
                obtain ⟨_, j0, j1, j2, j3, j4, j5, j6, j7, j8, j9, j10⟩ := keepS11 HKj.out
                obtain ⟨_, n0, n1, n2, n3, n4, n5, n6, n7, n8, n9, n10⟩ := keepS11 HN.out
                obtain ⟨_, f0, f1, f2, f3, f4, f5, f6, f7, f8, f9, f10⟩ := keepS11 HKf.out
                obtain ⟨_, t0, t1, t2, t3, t4⟩ := keepP5 HT.out
                refine held_start (n := 12) (S := fun w' => (Hid (Keep w w.heap.size 33 #[.int .u16 cv, .int .u16 cw, .int .u16 cl, .int .i64 ce, .int .i64 cc] w') ∧ w'.cell? ⟨w.heap.size, 0, none⟩ = some (.int .u16 cv) ∧ w'.cell? ⟨w.heap.size, 1, none⟩ = some (.int .u16 cw) ∧ w'.cell? ⟨w.heap.size, 2, none⟩ = some (.int .u16 cl) ∧ w'.cell? ⟨w.heap.size, 3, none⟩ = some (.int .i64 ce) ∧ w'.cell? ⟨w.heap.size, 4, none⟩ = some (.int .i64 cc)) ∧ (Hid (Keep w g9 38 #[.int .u16 xv, .int .u16 cw, .int .u16 xl, .int .i64 xe, .int .i64 xc, .int .u16 0, .int .u16 0, .int .u16 0, .int .i64 0, .int .i64 0, .bool false] w') ∧ w'.cell? ⟨g9, 0, none⟩ = some (.int .u16 xv) ∧ w'.cell? ⟨g9, 1, none⟩ = some (.int .u16 cw) ∧ w'.cell? ⟨g9, 2, none⟩ = some (.int .u16 xl) ∧ w'.cell? ⟨g9, 3, none⟩ = some (.int .i64 xe) ∧ w'.cell? ⟨g9, 4, none⟩ = some (.int .i64 xc) ∧ w'.cell? ⟨g9, 5, none⟩ = some (.int .u16 0) ∧ w'.cell? ⟨g9, 6, none⟩ = some (.int .u16 0) ∧ w'.cell? ⟨g9, 7, none⟩ = some (.int .u16 0) ∧ w'.cell? ⟨g9, 8, none⟩ = some (.int .i64 0) ∧ w'.cell? ⟨g9, 9, none⟩ = some (.int .i64 0) ∧ w'.cell? ⟨g9, 10, none⟩ = some (.bool false)) ∧ (Hid (Keep w g11 38 #[.int .u16 xv, .int .u16 cw, .int .u16 xl, .int .i64 xe, .int .i64 xc, .int .u16 tv, .int .u16 cw, .int .u16 tl, .int .i64 te, .int .i64 tc, .bool true] w') ∧ w'.cell? ⟨g11, 0, none⟩ = some (.int .u16 xv) ∧ w'.cell? ⟨g11, 1, none⟩ = some (.int .u16 cw) ∧ w'.cell? ⟨g11, 2, none⟩ = some (.int .u16 xl) ∧ w'.cell? ⟨g11, 3, none⟩ = some (.int .i64 xe) ∧ w'.cell? ⟨g11, 4, none⟩ = some (.int .i64 xc) ∧ w'.cell? ⟨g11, 5, none⟩ = some (.int .u16 tv) ∧ w'.cell? ⟨g11, 6, none⟩ = some (.int .u16 cw) ∧ w'.cell? ⟨g11, 7, none⟩ = some (.int .u16 tl) ∧ w'.cell? ⟨g11, 8, none⟩ = some (.int .i64 te) ∧ w'.cell? ⟨g11, 9, none⟩ = some (.int .i64 tc) ∧ w'.cell? ⟨g11, 10, none⟩ = some (.bool true)) ∧ (Hid (Keep w g13 38 #[.int .u16 tv, .int .u16 cw, .int .u16 tl, .int .i64 te, .int .i64 tc, .int .u16 0, .int .u16 0, .int .u16 0, .int .i64 0, .int .i64 0, .bool false] w') ∧ w'.cell? ⟨g13, 0, none⟩ = some (.int .u16 tv) ∧ w'.cell? ⟨g13, 1, none⟩ = some (.int .u16 cw) ∧ w'.cell? ⟨g13, 2, none⟩ = some (.int .u16 tl) ∧ w'.cell? ⟨g13, 3, none⟩ = some (.int .i64 te) ∧ w'.cell? ⟨g13, 4, none⟩ = some (.int .i64 tc) ∧ w'.cell? ⟨g13, 5, none⟩ = some (.int .u16 0) ∧ w'.cell? ⟨g13, 6, none⟩ = some (.int .u16 0) ∧ w'.cell? ⟨g13, 7, none⟩ = some (.int .u16 0) ∧ w'.cell? ⟨g13, 8, none⟩ = some (.int .i64 0) ∧ w'.cell? ⟨g13, 9, none⟩ = some (.int .i64 0) ∧ w'.cell? ⟨g13, 10, none⟩ = some (.bool false)) ∧ (Hid (Part w bb (oo + p * 5) [.int .u16 tv, .int .u16 cw, .int .u16 tl, .int .i64 te, .int .i64 tc] w') ∧ w'.cell? ⟨bb, oo + p * 5, none⟩ = some (.int .u16 tv) ∧ w'.cell? ⟨bb, oo + p * 5 + 1, none⟩ = some (.int .u16 cw) ∧ w'.cell? ⟨bb, oo + p * 5 + 2, none⟩ = some (.int .u16 tl) ∧ w'.cell? ⟨bb, oo + p * 5 + 3, none⟩ = some (.int .i64 te) ∧ w'.cell? ⟨bb, oo + p * 5 + 4, none⟩ = some (.int .i64 tc))) #[false, false, false, false, false, false, false, false, false, false, false, false] (by kernel_rfl) rfl rfl (⟨keepS5 (Keep.drew (Hid.out HK0)), keepS11 (Keep.drew (Hid.out HKj)), keepS11 (Keep.drew (Hid.out HN)), keepS11 (Keep.drew (Hid.out HKf)), keepP5 (Part.drew (Hid.out HT))⟩) (fun hHeld => ?_)
                refine held_on (i := 0) (N := (some 103)) (v := ?_) #[true, false, false, false, false, false, false, false, false, false, false, false] rfl rfl (by kernel_rfl) (fun _ _ _ h => h) (by rfl) ?_ (by assumption) ?_
                rotate_left; (intro w hSw; (try dsimp only at hSw); go_simp); (try with_reducible rfl); (simp only [Act.put, List.setIfInBounds_toArray, List.set_cons_zero, List.set_cons_succ])
                refine held_on (i := 1) (N := (some 104)) (v := ?_) #[true, true, false, false, false, false, false, false, false, false, false, false] rfl rfl (by kernel_rfl) (fun _ _ _ h => h) (by rfl) ?_ (by assumption) ?_
                rotate_left; (intro w hSw; (try dsimp only at hSw); go_simp); (try with_reducible rfl); (simp only [Act.put, List.setIfInBounds_toArray, List.set_cons_zero, List.set_cons_succ])
                refine held_on (i := 2) (N := (some 105)) (v := ?_) #[true, true, true, false, false, false, false, false, false, false, false, false] rfl rfl (by kernel_rfl) (fun _ _ _ h => h) (by rfl) ?_ (by assumption) ?_
                rotate_left; (intro w hSw; (try dsimp only at hSw); go_simp); (try with_reducible rfl); (simp only [Act.put, List.setIfInBounds_toArray, List.set_cons_zero, List.set_cons_succ])
                refine held_on (i := 3) (N := (some 106)) (v := ?_) #[true, true, true, true, false, false, false, false, false, false, false, false] rfl rfl (by kernel_rfl) (fun _ _ _ h => h) (by rfl) ?_ (by assumption) ?_
                rotate_left; (intro w hSw; (try dsimp only at hSw); go_simp); (try with_reducible rfl); (simp only [Act.put, List.setIfInBounds_toArray, List.set_cons_zero, List.set_cons_succ])
                refine held_on (i := 4) (N := (some 107)) (v := ?_) #[true, true, true, true, true, false, false, false, false, false, false, false] rfl rfl (by kernel_rfl) (fun _ _ _ h => h) (by rfl) ?_ (by assumption) ?_
                rotate_left; (intro w hSw; (try dsimp only at hSw); go_simp); (try with_reducible rfl); (simp only [Act.put, List.setIfInBounds_toArray, List.set_cons_zero, List.set_cons_succ])
                refine held_two (i := 5) (j := 9) #[true, true, true, true, true, true, false, false, false, false, false, false] #[true, true, true, true, true, false, false, false, false, true, false, false] rfl rfl (by kernel_rfl) (by rfl) (by rfl) (fun K hK => ?_) (fun K hK => ?_)
                · go_simp
                  refine (HA2.out _).mono ?_; rintro x w5 ⟨rfl, hb⟩
                  refine hK.out _ _ (⟨keepS5 (Keep.call (Hid.out hHeld.1.1) hb), keepS11 (Keep.call (Hid.out hHeld.2.1.1) hb), keepS11 (Keep.call (Hid.out hHeld.2.2.1.1) hb), keepS11 (Keep.call (Hid.out hHeld.2.2.2.1.1) hb), keepP5 (Part.call (Hid.out hHeld.2.2.2.2.1) hb)⟩) (fun hHeld => ?_); clear hK K; (try simp only [Act.put, List.setIfInBounds_toArray, List.set_cons_zero, List.set_cons_succ])
                  refine held_on (i := 6) (N := (some 102)) (v := ?_) #[true, true, true, true, true, true, true, false, false, false, false, false] rfl rfl (by kernel_rfl) (fun _ _ _ h => h) (by rfl) ?_ (by assumption) ?_
                  rotate_left; (intro w hSw; (try dsimp only at hSw); go_simp); (try with_reducible rfl); (simp only [Act.put, List.setIfInBounds_toArray, List.set_cons_zero, List.set_cons_succ])
                  refine held_on (i := 7) (N := (some 109)) (v := ?_) #[true, true, true, true, true, true, true, true, false, false, false, false] rfl rfl (by kernel_rfl) (fun _ _ _ h => h) (by rfl) ?_ (by assumption) ?_
                  rotate_left; (intro w hSw; (try dsimp only at hSw); go_simp); (try with_reducible rfl); (simp only [Act.put, List.setIfInBounds_toArray, List.set_cons_zero, List.set_cons_succ])
                  refine held_on (i := 8) (N := (some 110)) (v := ?_) #[true, true, true, true, true, true, true, true, true, false, false, false] rfl rfl (by kernel_rfl) (fun _ _ _ h => h) (by rfl) ?_ (by assumption) ?_
                  rotate_left; (intro w hSw; (try dsimp only at hSw); go_simp); (try with_reducible rfl); (simp only [Act.put, List.setIfInBounds_toArray, List.set_cons_zero, List.set_cons_succ])
                  refine held_run (i := 9) #[true, true, true, true, true, true, true, true, true, true, false, false] rfl (by kernel_rfl) (by rfl) (fun K hK => ?_)
                  go_simp
                  have P0 := hHeld
                  refine hK.out _ _ (⟨keepS5 (Keep.alloc (Hid.out hHeld.1.1) _), keepS11 (Keep.alloc (Hid.out hHeld.2.1.1) _), keepS11 (Keep.alloc (Hid.out hHeld.2.2.1.1) _), keepS11 (Keep.alloc (Hid.out hHeld.2.2.2.1.1) _), keepP5 (Part.alloc (Hid.out hHeld.2.2.2.2.1) _)⟩) (fun hHeld => ?_); clear hK K; (try simp only [Act.put, List.setIfInBounds_toArray, List.set_cons_zero, List.set_cons_succ])
                  refine held_run (i := 10) #[true, true, true, true, true, true, true, true, true, true, true, false] rfl (by kernel_rfl) (by rfl) (fun K hK => ?_)
                  go_simp
                  have HN := Lib.hid (Keep.mk_new (w := w) (t := 38) (cs := #[.int .u16 0, .int .u16 0, .int .u16 0, .int .i64 0, .int .i64 0, .int .u16 0, .int .u16 0, .int .u16 0, .int .i64 0, .int .i64 0, .bool false]) (Hid.out P0.1.1).2 rfl)
                  refine hK.out _ _ (⟨keepS5 (Keep.alloc (Hid.out P0.1.1) _), keepS11 (Keep.alloc (Hid.out P0.2.1.1) _), keepS11 (Keep.alloc (Hid.out P0.2.2.1.1) _), keepS11 (Keep.alloc (Hid.out P0.2.2.2.1.1) _), keepP5 (Part.alloc (Hid.out P0.2.2.2.2.1) _)⟩) (fun hHeld => ?_); clear hK K; (try simp only [Act.put, List.setIfInBounds_toArray, List.set_cons_zero, List.set_cons_succ])
                  refine held_on (i := 11) (N := (some 15)) (v := ?_) #[true, true, true, true, true, true, true, true, true, true, true, true] rfl rfl (by kernel_rfl) (fun _ _ _ h => h) (by rfl) ?_ (by assumption) ?_
                  rotate_left; (intro w hSw; (try dsimp only at hSw); go_simp); (try with_reducible rfl); (simp only [Act.put, List.setIfInBounds_toArray, List.set_cons_zero, List.set_cons_succ])
                  refine held_done (by kernel_rfl) ?_
                  show Exit.then _ _ _ _ _
                  go_wp2_with fail
                  go_meet
                  exact ⟨rfl, Lib.hid (Hid.out hHeld.1.1), Lib.hid (Hid.out hHeld.2.1.1), Lib.hid (Hid.out hHeld.2.2.2.1.1)⟩
                · go_simp
                  have HN := Lib.hid (Keep.mk_new (w := w) (g := wc.heap.size) (t := 38) (cs := #[.int .u16 0, .int .u16 0, .int .u16 0, .int .i64 0, .int .i64 0, .int .u16 0, .int .u16 0, .int .u16 0, .int .i64 0, .int .i64 0, .bool false]) (Hid.out hHeld.1.1).2 rfl)
                  have hge : w.heap.size < wc.heap.size := (Hid.out hHeld.1.1).1.lt
                  have hne0 : w.heap.size ≠ wc.heap.size := Nat.ne_of_lt (Hid.out hHeld.1.1).1.lt
                  have hne9 : g9 ≠ wc.heap.size := Nat.ne_of_lt (Hid.out hHeld.2.1.1).1.lt
                  have hne11 : g11 ≠ wc.heap.size := Nat.ne_of_lt (Hid.out hHeld.2.2.1.1).1.lt
                  have hne13 : g13 ≠ wc.heap.size := Nat.ne_of_lt (Hid.out hHeld.2.2.2.1.1).1.lt
                  refine hK.out _ _ (⟨keepS5 (Keep.alloc (Hid.out hHeld.1.1) _), keepS11 (Keep.alloc (Hid.out hHeld.2.1.1) _), keepS11 (Keep.alloc (Hid.out hHeld.2.2.1.1) _), keepS11 (Keep.alloc (Hid.out hHeld.2.2.2.1.1) _), keepP5 (Part.alloc (Hid.out hHeld.2.2.2.2.1) _)⟩) (fun hHeld => ?_); clear hK K; (try simp only [Act.put, List.setIfInBounds_toArray, List.set_cons_zero, List.set_cons_succ])
                  refine held_run (i := 5) #[true, true, true, true, true, true, false, false, false, true, false, false] rfl (by kernel_rfl) (by rfl) (fun K hK => ?_)
                  go_simp
                  refine (HA2.out _).mono ?_; rintro x w5 ⟨rfl, hb⟩
                  have HN := Lib.hid (Keep.call HN.out hb)
                  obtain ⟨_, n0, n1, n2, n3, n4, n5, n6, n7, n8, n9, n10⟩ := keepS11 HN.out
                  have f0 := HN.out.1.frozen 0
                  have f1 := HN.out.1.frozen 1
                  have f2 := HN.out.1.frozen 2
                  have f3 := HN.out.1.frozen 3
                  have f4 := HN.out.1.frozen 4
                  have f5 := HN.out.1.frozen 5
                  have f6 := HN.out.1.frozen 6
                  have f7 := HN.out.1.frozen 7
                  have f8 := HN.out.1.frozen 8
                  have f9 := HN.out.1.frozen 9
                  have f10 := HN.out.1.frozen 10
                  refine hK.out _ _ (⟨keepS5 (Keep.call (Hid.out hHeld.1.1) hb), keepS11 (Keep.call (Hid.out hHeld.2.1.1) hb), keepS11 (Keep.call (Hid.out hHeld.2.2.1.1) hb), keepS11 (Keep.call (Hid.out hHeld.2.2.2.1.1) hb), keepP5 (Part.call (Hid.out hHeld.2.2.2.2.1) hb)⟩) (fun hHeld => ?_); clear hK K; (try simp only [Act.put, List.setIfInBounds_toArray, List.set_cons_zero, List.set_cons_succ])
                  refine held_on (i := 6) (N := (some 102)) (v := ?_) #[true, true, true, true, true, true, true, false, false, true, false, false] rfl rfl (by kernel_rfl) (fun _ _ _ h => h) (by rfl) ?_ (by assumption) ?_
                  rotate_left; (intro w hSw; (try dsimp only at hSw); go_simp); (try with_reducible rfl); (simp only [Act.put, List.setIfInBounds_toArray, List.set_cons_zero, List.set_cons_succ])
                  refine held_on (i := 7) (N := (some 109)) (v := ?_) #[true, true, true, true, true, true, true, true, false, true, false, false] rfl rfl (by kernel_rfl) (fun _ _ _ h => h) (by rfl) ?_ (by assumption) ?_
                  rotate_left; (intro w hSw; (try dsimp only at hSw); go_simp); (try with_reducible rfl); (simp only [Act.put, List.setIfInBounds_toArray, List.set_cons_zero, List.set_cons_succ])
                  refine held_on (i := 8) (N := (some 110)) (v := ?_) #[true, true, true, true, true, true, true, true, true, true, false, false] rfl rfl (by kernel_rfl) (fun _ _ _ h => h) (by rfl) ?_ (by assumption) ?_
                  rotate_left; (intro w hSw; (try dsimp only at hSw); go_simp); (try with_reducible rfl); (simp only [Act.put, List.setIfInBounds_toArray, List.set_cons_zero, List.set_cons_succ])
                  refine held_run (i := 10) #[true, true, true, true, true, true, true, true, true, true, true, false] rfl (by kernel_rfl) (by rfl) (fun K hK => ?_)
                  go_simp
                  have HN := Lib.hid (Keep.put11 HN.out (Nat.le_of_lt hge) (.int .u16 0) (.int .u16 0) (.int .u16 0) (.int .i64 0) (.int .i64 0) (.int .u16 0) (.int .u16 0) (.int .u16 0) (.int .i64 0) (.int .i64 0) (.bool false))
                  refine hK.out _ _ (⟨keepS5 (Keep.far11 (Hid.out hHeld.1.1) (Nat.le_of_lt hge) hne0 _ _ _ _ _ _ _ _ _ _ _), keepS11 (Keep.far11 (Hid.out hHeld.2.1.1) (Nat.le_of_lt hge) hne9 _ _ _ _ _ _ _ _ _ _ _), keepS11 (Keep.far11 (Hid.out hHeld.2.2.1.1) (Nat.le_of_lt hge) hne11 _ _ _ _ _ _ _ _ _ _ _), keepS11 (Keep.far11 (Hid.out hHeld.2.2.2.1.1) (Nat.le_of_lt hge) hne13 _ _ _ _ _ _ _ _ _ _ _), keepP5 (Part.far11 (Hid.out hHeld.2.2.2.2.1) (Nat.le_of_lt hge) _ _ _ _ _ _ _ _ _ _ _)⟩) (fun hHeld => ?_); clear hK K; (try simp only [Act.put, List.setIfInBounds_toArray, List.set_cons_zero, List.set_cons_succ])
                  refine held_on (i := 11) (N := (some 15)) (v := ?_) #[true, true, true, true, true, true, true, true, true, true, true, true] rfl rfl (by kernel_rfl) (fun _ _ _ h => h) (by rfl) ?_ (by assumption) ?_
                  rotate_left; (intro w hSw; (try dsimp only at hSw); go_simp); (try with_reducible rfl); (simp only [Act.put, List.setIfInBounds_toArray, List.set_cons_zero, List.set_cons_succ])
                  refine held_done (by kernel_rfl) ?_
                  show Exit.then _ _ _ _ _
                  go_wp2_with fail
                  go_meet
                  exact ⟨rfl, Lib.hid (Hid.out hHeld.1.1), Lib.hid (Hid.out hHeld.2.1.1), Lib.hid (Hid.out hHeld.2.2.2.1.1)⟩
              case rest =>
                clear HK0 HKj HN HKf HT
                obtain ⟨rfl, HK0, HKj, HKf⟩ := hcut
                obtain ⟨_, j0, j1, j2, j3, j4, j5, j6, j7, j8, j9, j10⟩ := keepS11 HKj.out
                obtain ⟨_, f0, f1, f2, f3, f4, f5, f6, f7, f8, f9, f10⟩ := keepS11 HKf.out
                have z0 := HKj.out.1.frozen 0
                have z1 := HKj.out.1.frozen 1
                have z2 := HKj.out.1.frozen 2
                have z3 := HKj.out.1.frozen 3
                have z4 := HKj.out.1.frozen 4
                have z5 := HKj.out.1.frozen 5
                have z6 := HKj.out.1.frozen 6
                have z7 := HKj.out.1.frozen 7
                have z8 := HKj.out.1.frozen 8
                have z9 := HKj.out.1.frozen 9
                have z10 := HKj.out.1.frozen 10
                go_wp2_with fail
                go_roundw
                case rel => exact ⟨p + 1, tv, tl, te, tc, by omega, by go_num, HMT, Lib.hid (Keep.far11 HK0.out (Nat.le_of_lt hlt) (Nat.ne_of_lt hlt) _ _ _ _ _ _ _ _ _ _ _), Lib.hid (Keep.put11 HKj.out (Nat.le_of_lt hlt) _ _ _ _ _ _ _ _ _ _ _)⟩
                case measure => simp [intOf]; omega
          · have hen1 : (en != 0) = true := by simpa using hen
            go_wp2_with fail
            go_roundw
            case rel => exact ⟨p + 1, xv, xl, xe, xc, by omega, by go_num, HM, HK0, HKj⟩
            case measure => simp [intOf]; omega
      · go_wp2
        go_ret
        exact ⟨rfl, HK0.out.2⟩
end Go.Proofs.Ytcciejglemfebaa
