/- antipodelaw10.ConfHolds answers true; memory that was there is as it was. -/
import Derived.Test.YtcciejglemfebaaC4
import Derived.Test.YtcciejglemfebaaM4
import Derived.Deep.CutBlock
namespace Go.Proofs.Ytcciejglemfebaa
set_option linter.unusedSimpArgs false
open Go.RowKit

/-- Whichever stand beside each other in the list share a configuration. -/
def LawH (L : List Jnt) : Prop := ∀ p q : Nat, p < L.length → q < L.length → ¬ (p - q > 1 ∨ q - p > 1) → Shares (L.getD p zeroJ) (L.getD q zeroJ)

theorem joint_info : (Try.prog.info? 38).map (fun i => (i.zero, i.size, i.bytes)) = some (some (.agg #[.int .u16 0, .int .u16 0, .int .u16 0, .int .i64 0, .int .i64 0, .int .u16 0, .int .u16 0, .int .u16 0, .int .i64 0, .int .i64 0, .bool false]), 11, 56) := by kernel_rfl

set_option maxHeartbeats 12800000 in
set_option maxRecDepth 20000 in
theorem holds_calls (jv jw jl je jc jnv jnw jnl jne jnc : Int) (jt : Bool) (tv tw tl te tc a b : Int) (w : World) :
    Calls Try.prog 9 #[.agg (jcells jv jw jl je jc jnv jnw jnl jne jnc jt), .agg (cells tv tw tl te tc), .int .u16 a, .int .u16 b] w fun x w' => x = .returned (.bool true) ∧ Below w.heap.size w w' := by
  obtain ⟨i0, hi, hz0, hz1, hz2⟩ := info_parts joint_info
  have hm1 := fun w => mayj_calls jv jw jl je jc jnv jnw jnl jne jnc jt w
  have HKj : Hid (Keep w w.heap.size 38 (jcells jv jw jl je jc jnv jnw jnl jne jnc jt) ((w.alloc (.cells (jcells jv jw jl je jc jnv jnw jnl jne jnc jt) 38)).alloc (.cells (cells tv tw tl te tc) 33))) := Lib.hid ((Keep.new _ _ _).alloc _)
  have HKt : Hid (Keep w (w.heap.size + 1) 33 (cells tv tw tl te tc) ((w.alloc (.cells (jcells jv jw jl je jc jnv jnw jnl jne jnc jt) 38)).alloc (.cells (cells tv tw tl te tc) 33))) := Lib.hid (Keep.mk_new ((Below.refl _ _).alloc (Nat.le_refl _) _) (by simp))
  cases hj : mayJ ⟨⟨jv, jw, jl, je, jc⟩, ⟨jnv, jnw, jnl, jne, jnc⟩, jt⟩ with
  | false =>
    rw [hj] at hm1
    have HM1 := Lib.hid hm1
    clear hm1 hj
    go_enter Try.func9, Try.ntmps9
    go_wp2_with fail
    refine (begun10 _).mono ?_; rintro x w2 ⟨rfl, hb⟩
    have X0 := Lib.hid (Keep.call (Hid.out HKj) hb)
    have X1 := Lib.hid (Keep.call (Hid.out HKt) hb)
    clear hb HKj HKt
    have HKj := X0; clear X0
    obtain ⟨_, d00, d01, d02, d03, d04, d05, d06, d07, d08, d09, d010⟩ := keepS11 (Hid.out HKj)
    have HKt := X1; clear X1
    obtain ⟨_, d10, d11, d12, d13, d14⟩ := keepS5 (Hid.out HKt)
    go_wp2_with fail
    refine (HM1.out _).mono ?_; rintro x w2 ⟨rfl, hb⟩
    have X0 := Lib.hid (Keep.call (Hid.out HKj) hb)
    have X1 := Lib.hid (Keep.call (Hid.out HKt) hb)
    clear hb HKj HKt
    have HKj := X0; clear X0
    obtain ⟨_, d00, d01, d02, d03, d04, d05, d06, d07, d08, d09, d010⟩ := keepS11 (Hid.out HKj)
    have HKt := X1; clear X1
    obtain ⟨_, d10, d11, d12, d13, d14⟩ := keepS5 (Hid.out HKt)
    go_wp2_with fail
    go_ret
    exact ⟨rfl, (Hid.out HKj).2⟩
  | true =>
    rw [hj] at hm1
    have HM1 := Lib.hid hm1
    have hok := @change_ok ⟨⟨jv, jw, jl, je, jc⟩, ⟨jnv, jnw, jnl, jne, jnc⟩, jt⟩ ⟨tv, tw, tl, te, tc⟩
    have hc1 := fun w => change_calls jv jw jl je jc jnv jnw jnl jne jnc jt tv tw tl te tc w
    generalize changeJ _ _ = X at hc1 hok
    obtain ⟨⟨⟨xv, xw, xl, xe, xc⟩, ⟨xnv, xnw, xnl, xne, xnc⟩, xt⟩, xn⟩ := X
    simp only [valJ] at hc1
    have HC1 := Lib.hid hc1
    have HOK := Lib.hid hok
    have HJ := Lib.hid hj
    clear hm1 hj hc1 hok
    go_enter Try.func9, Try.ntmps9
    go_wp2_with fail
    refine (begun10 _).mono ?_; rintro x w2 ⟨rfl, hb⟩
    have X0 := Lib.hid (Keep.call (Hid.out HKj) hb)
    have X1 := Lib.hid (Keep.call (Hid.out HKt) hb)
    clear hb HKj HKt
    have HKj := X0; clear X0
    obtain ⟨_, d00, d01, d02, d03, d04, d05, d06, d07, d08, d09, d010⟩ := keepS11 (Hid.out HKj)
    have HKt := X1; clear X1
    obtain ⟨_, d10, d11, d12, d13, d14⟩ := keepS5 (Hid.out HKt)
    go_wp2_with fail
    refine (HM1.out _).mono ?_; rintro x w2 ⟨rfl, hb⟩
    have X0 := Lib.hid (Keep.call (Hid.out HKj) hb)
    have X1 := Lib.hid (Keep.call (Hid.out HKt) hb)
    clear hb HKj HKt
    have HKj := X0; clear X0
    obtain ⟨_, d00, d01, d02, d03, d04, d05, d06, d07, d08, d09, d010⟩ := keepS11 (Hid.out HKj)
    have HKt := X1; clear X1
    obtain ⟨_, d10, d11, d12, d13, d14⟩ := keepS5 (Hid.out HKt)
    go_wp2_with fail
    refine (HC1.out _).mono ?_; rintro x w3 ⟨rfl, hb⟩
    have hKj := (Hid.out HKj).call hb
    have hKt := (Hid.out HKt).call hb
    have hKx : Keep w w3.heap.size 38 (jcells xv xw xl xe xc xnv xnw xnl xne xnc xt) (w3.alloc (.cells (jcells xv xw xl xe xc xnv xnw xnl xne xnc xt) 38)) := Keep.mk_new hKj.2 rfl
    have z1 := hKj.1.lt
    have z2 := hKt.1.lt
    obtain ⟨_, e0, e1, e2, e3, e4, e5, e6, e7, e8, e9, e10⟩ := keepS11 hKj
    clear hKt HKj HKt hb
    go_upto_if 32 with fail
    have hown0 : World.ownsRow _ w.heap.size 38 11 _ 1 (jCells ⟨⟨jv, jw, jl, je, jc⟩, ⟨jnv, jnw, jnl, jne, jnc⟩, jt⟩) := World.ownsRow_lit (w3.alloc (.cells (jcells xv xw xl xe xc xnv xnw xnl xne xnc xt) 38)) (jcells jv jw jl je jc jnv jnw jnl jne jnc jt) 1 (base := w.heap.size) (e := 38) (size := 11) (by have := hKj.2.size; simp; omega) (by unfold maxLen; omega) rfl
    rw [World.size_alloc] at hown0
    have HO := Lib.hid hown0
    have HKx := Lib.hid (hKx.alloc (.cells (jcells jv jw jl je jc jnv jnw jnl jne jnc jt) 38))
    have hgb := hKj.2.size
    clear hKx hown0 hKj z1 z2
    go_cut [11] (fun v w' => ∃ (L : List Jnt) (A : Option Addr) (c : Nat), v = .slice A L.length c ∧ 1 ≤ L.length ∧ L.length ≤ 3 ∧ Hid (LawH L) ∧ Hid (Row w' w'.heap.size A (jsV L)) ∧ Below w.heap.size w w')
    case first =>
      by_cases hx : xn = 0
      · obtain ⟨hX, h2, hm⟩ := HOK.out hx
        simp only [Prod.mk.injEq, Jnt.mk.injEq, Cfg.mk.injEq] at hX
        obtain ⟨⟨⟨rfl, rfl, rfl, rfl, rfl⟩, ⟨rfl, rfl, rfl, rfl, rfl⟩, rfl⟩, rfl⟩ := hX
        have hmn := mayJ_two (may_old HJ.out) hm
        have hmf := mayJ_one hm
        have hn1 := fun w => mayj_calls xv xw xl xe xc xnv xnw xnl xne xnc true w
        have hn2 := fun w => mayj_calls xnv xnw xnl xne xnc 0 0 0 0 0 false w
        rw [show mayJ ⟨⟨xv, xw, xl, xe, xc⟩, ⟨xnv, xnw, xnl, xne, xnc⟩, true⟩ = true from hmn] at hn1
        rw [show mayJ ⟨⟨xnv, xnw, xnl, xne, xnc⟩, ⟨0, 0, 0, 0, 0⟩, false⟩ = true from hmf] at hn2
        have hf := fun w => final_calls xv xw xl xe xc xnv xnw xnl xne xnc true w
        rw [show finalJ ⟨⟨xv, xw, xl, xe, xc⟩, ⟨xnv, xnw, xnl, xne, xnc⟩, true⟩ = ⟨⟨xnv, xnw, xnl, xne, xnc⟩, ⟨0, 0, 0, 0, 0⟩, false⟩ from rfl] at hf
        simp only [valJ] at hf
        have HN1 := Lib.hid hn1
        have HN2 := Lib.hid hn2
        have HF := Lib.hid hf
        have HS := Lib.hid (shares_list HJ.out hm)
        clear h2 hm hmn hmf hn1 hn2 hf hx
        go_wp2_with fail
        refine held_start (n := 7) (S := fun w' => (Hid (Keep w w3.heap.size 38 #[.int .u16 xv, .int .u16 xw, .int .u16 xl, .int .i64 xe, .int .i64 xc, .int .u16 xnv, .int .u16 xnw, .int .u16 xnl, .int .i64 xne, .int .i64 xnc, .bool true] w') ∧ w'.cell? ⟨w3.heap.size, 0, none⟩ = some (.int .u16 xv) ∧ w'.cell? ⟨w3.heap.size, 1, none⟩ = some (.int .u16 xw) ∧ w'.cell? ⟨w3.heap.size, 2, none⟩ = some (.int .u16 xl) ∧ w'.cell? ⟨w3.heap.size, 3, none⟩ = some (.int .i64 xe) ∧ w'.cell? ⟨w3.heap.size, 4, none⟩ = some (.int .i64 xc) ∧ w'.cell? ⟨w3.heap.size, 5, none⟩ = some (.int .u16 xnv) ∧ w'.cell? ⟨w3.heap.size, 6, none⟩ = some (.int .u16 xnw) ∧ w'.cell? ⟨w3.heap.size, 7, none⟩ = some (.int .u16 xnl) ∧ w'.cell? ⟨w3.heap.size, 8, none⟩ = some (.int .i64 xne) ∧ w'.cell? ⟨w3.heap.size, 9, none⟩ = some (.int .i64 xnc) ∧ w'.cell? ⟨w3.heap.size, 10, none⟩ = some (.bool true))) #[false, false, false, false, false, false, false] (by kernel_rfl) rfl rfl (keepS11 (Keep.drew (Hid.out HKx))) (fun hHeld => ?_)
        refine held_on (i := 0) (N := (some 33)) (v := ?_) #[true, false, false, false, false, false, false] rfl rfl (by kernel_rfl) (fun _ _ _ h => h) (by rfl) ?_ (by assumption) ?_
        rotate_left; (intro w hSw; (try dsimp only at hSw); go_simp); (try with_reducible rfl); (simp only [Act.put, List.setIfInBounds_toArray, List.set_cons_zero, List.set_cons_succ])
        refine held_on (i := 1) (N := (some 34)) (v := ?_) #[true, true, false, false, false, false, false] rfl rfl (by kernel_rfl) (fun _ _ _ h => h) (by rfl) ?_ (by assumption) ?_
        rotate_left; (intro w hSw; (try dsimp only at hSw); go_simp); (try with_reducible rfl); (simp only [Act.put, List.setIfInBounds_toArray, List.set_cons_zero, List.set_cons_succ])
        refine held_on (i := 2) (N := (some 35)) (v := ?_) #[true, true, true, false, false, false, false] rfl rfl (by kernel_rfl) (fun _ _ _ h => h) (by rfl) ?_ (by assumption) ?_
        rotate_left; (intro w hSw; (try dsimp only at hSw); go_simp); (try with_reducible rfl); (simp only [Act.put, List.setIfInBounds_toArray, List.set_cons_zero, List.set_cons_succ])
        refine held_run (i := 3) #[true, true, true, true, false, false, false] rfl (by kernel_rfl) (by rfl) (fun K hK => ?_)
        go_simp
        refine (HF.out _).mono ?_; rintro x w4 ⟨rfl, hb⟩; have HO4 := Lib.hid (own_below (own_drew HO.out) hb)
        refine hK.out _ _ (keepS11 (Keep.call (Hid.out hHeld.1) hb)) (fun hHeld => ?_); clear hK K; (try simp only [Act.put, List.setIfInBounds_toArray, List.set_cons_zero, List.set_cons_succ])
        refine held_run (i := 4) #[true, true, true, true, true, false, false] rfl (by kernel_rfl) (by rfl) (fun K hK => ?_)
        go_simp
        skip
        refine hK.out _ _ (keepS11 (Keep.alloc (Hid.out hHeld.1) _)) (fun hHeld => ?_); clear hK K; (try simp only [Act.put, List.setIfInBounds_toArray, List.set_cons_zero, List.set_cons_succ])
        refine held_run (i := 5) #[true, true, true, true, true, true, false] rfl (by kernel_rfl) (by rfl) (fun K hK => ?_)
        refine wp_append_own _ (.tmp 33) (.tmp 37) 57 rfl w.heap.size 38 i0 _ 11 56 Try.underlying57 hi hz0 hz1 hz2 rfl (by decide) (.slice (some ⟨w3.heap.size + 1, 0, none⟩) 1 1) 1 _ rfl (HO4.out.alloc _) ⟨w4.heap.size, 0, none⟩ 2 2 (jCells ⟨⟨xv, xw, xl, xe, xc⟩, ⟨xnv, xnw, xnl, xne, xnc⟩, true⟩ ++ jCells ⟨⟨xnv, xnw, xnl, xne, xnc⟩, ⟨0, 0, 0, 0, 0⟩, false⟩) rfl rfl (news_new w4 _ 38) ?_ (by unfold maxLen; omega) (by omega) (by have := (Hid.out hHeld.1).2.size; exact this) ?_
        · intro u hu
          rcases List.mem_append.1 hu with h | h <;> exact jCells_one _ u h
        intro v' w6 hown6 hgrow _
        have HO6 := Lib.hid hown6
        have HG := Lib.hid hgrow
        clear hown6 hgrow
        refine hK.out _ _ (keepS11 (Keep.grown (Hid.out hHeld.1) HG.out (by simp [Value.ownBlock]) (by intro k hk; simp [Value.ownBlock] at hk; omega))) (fun hHeld => ?_); clear hK K; (try simp only [Act.put, List.setIfInBounds_toArray, List.set_cons_zero, List.set_cons_succ])
        refine held_on (i := 6) (N := (some 11)) (v := ?_) #[true, true, true, true, true, true, true] rfl rfl (by kernel_rfl) (fun _ _ _ h => h) (by rfl) ?_ (by assumption) ?_
        rotate_left; (intro w hSw; (try dsimp only at hSw); go_simp); (try with_reducible rfl); (simp only [Act.put, List.setIfInBounds_toArray, List.set_cons_zero, List.set_cons_succ])
        refine held_done (by kernel_rfl) ?_
        have HKx1 := Lib.hid (Hid.out hHeld.1)
        clear hHeld HKx HO
        obtain ⟨_, m0, m1, m2, m3, m4, m5, m6, m7, m8, m9, m10⟩ := keepS11 HKx1.out
        show Exit.then _ _ _ _ _
        go_wp2_with fail
        refine (HN1.out _).mono ?_; rintro x w7 ⟨rfl, hb7⟩
        have hK7 := HKx1.out.call hb7
        have hO7 := own_below HO6.out hb7
        have HK7 := Lib.hid hK7
        have HO7 := Lib.hid hO7
        clear HKx1 HO6 hb7 hO7
        obtain ⟨_, n0, n1, n2, n3, n4, n5, n6, n7, n8, n9, n10⟩ := keepS11 hK7
        clear hK7
        go_wp2_with fail
        refine (HF.out _).mono ?_; rintro x w8 ⟨rfl, hb8⟩
        have HO8 := Lib.hid (own_below HO7.out hb8)
        have HB8 := Lib.hid (HK7.out.2.trans (hb8.mono HK7.out.2.size))
        clear HK7 HO7 hb8
        go_wp2_with fail
        refine (HN2.out _).mono ?_; rintro x w9 ⟨rfl, hb9⟩
        have HO9 := Lib.hid (own_below HO8.out hb9)
        have HB9 := Lib.hid (HB8.out.trans (hb9.mono HB8.out.size))
        clear HO8 HB8 hb9
        go_wp2_with fail
        go_meet
        obtain ⟨A, c, hv, _, hrow⟩ := row_of_own HO9.out
        refine ⟨[⟨⟨xv, xw, xl, xe, xc⟩, ⟨jnv, jnw, jnl, jne, jnc⟩, jt⟩, ⟨⟨xv, xw, xl, xe, xc⟩, ⟨xnv, xnw, xnl, xne, xnc⟩, true⟩, ⟨⟨xnv, xnw, xnl, xne, xnc⟩, zeroC, false⟩], A, c, hv, by simp, by simp, ?_, ?_, HB9.out⟩
        · exact Lib.hid fun p q hp hq => HS.out p q hp hq
        · exact Lib.hid (by simpa [jsV, zeroC] using hrow)
      · have hx' : (xn == 0) = false := by simpa using hx
        clear hx
        go_wp2_with fail
        go_meet
        obtain ⟨A, c, hv, _, hrow⟩ := row_of_own HO.out
        refine ⟨[⟨⟨jv, jw, jl, je, jc⟩, ⟨jnv, jnw, jnl, jne, jnc⟩, jt⟩], A, c, hv, by simp, by simp, ?_, ?_, HKx.out.2⟩
        · refine Lib.hid fun p q hp hq _ => ?_
          obtain rfl : p = 0 := by simp at hp; omega
          obtain rfl : q = 0 := by simp at hq; omega
          exact Shares.self HJ.out
        · exact Lib.hid (by simpa [jsV] using hrow)
    case rest =>
      obtain ⟨L, A, c, rfl, hL1, hL3, HL, HR, hbc⟩ := hcut
      obtain ⟨bb, oo, rfl, hbB, hrow⟩ := HR.out (by
        intro h0
        have := congrArg List.length h0
        cases L with
        | nil => simp at hL1
        | cons a L => simp [jsV, jCells] at this)
      have HRow := Lib.hid hrow
      clear HR hrow HKx HO HOK HJ HM1 HC1
      generalize bits .and .u16 a 1022 = ma at *
      generalize bits .and .u16 b 1022 = mb at *
      go_wp2
      go_loopw [12] (fun v wr => ∃ p : Nat, p ≤ L.length ∧ v = .int .i64 p ∧ Below w.heap.size w wr ∧ Below wc.heap.size wc wr) (fun v _ => L.length - (intOf v).toNat)
      case atStart => exact ⟨0, Nat.zero_le _, rfl, hbc, Below.refl _ _⟩
      case round =>
        obtain ⟨p, hp, rfl, hb1, hb2⟩ := hrel
        by_cases hlp : p < L.length
        · obtain ⟨wo, rfl⟩ : ∃ wo : World, wo = wr := ⟨_, rfl⟩
          have hlp' : (p : Int) < L.length := by omega
          go_wp2
          go_loopw [13] (fun v wr => ∃ q : Nat, q ≤ L.length ∧ v = .int .i64 q ∧ Below w.heap.size w wr ∧ Below wc.heap.size wc wr) (fun v _ => L.length - (intOf v).toNat)
          case atStart => exact ⟨0, Nat.zero_le _, rfl, hb1, hb2⟩
          case round =>
            obtain ⟨q, hq, rfl, hb3, hb4⟩ := hrel
            by_cases hlq : q < L.length
            · have hlq' : (q : Int) < L.length := by omega
              by_cases hfar : p - q > 1 ∨ q - p > 1
              · by_cases hf1 : (1 : Int) < (p : Int) - q
                · go_wp2
                  go_roundw
                  case rel => exact ⟨q + 1, by omega, by go_num, hb3, hb4⟩
                  case measure => simp [intOf]; omega
                · have hf2 : (1 : Int) < (q : Int) - p := by omega
                  go_wp2
                  go_roundw
                  case rel => exact ⟨q + 1, by omega, by go_num, hb3, hb4⟩
                  case measure => simp [intOf]; omega
              · have hf1 : ¬ (1 : Int) < (p : Int) - q := by omega
                have hf2 : ¬ (1 : Int) < (q : Int) - p := by omega
                obtain ⟨X, hX⟩ : ∃ X, X = L.getD p zeroJ := ⟨_, rfl⟩
                obtain ⟨Y, hY⟩ : ∃ Y, Y = L.getD q zeroJ := ⟨_, rfl⟩
                have HSh : Hid (Shares X Y) := Lib.hid (by rw [hX, hY]; exact HL.out p q hlp hlq hfar)
                have hcX : ∀ m, m < 11 → wr.cell? ⟨bb, oo + (p * 11 + m), none⟩ = (jCells X)[m]? := fun m hm => by rw [hX]; exact (hb4.cell hbB).trans (js_cells HRow.out hlp m hm)
                have hcY : ∀ m, m < 11 → wr.cell? ⟨bb, oo + (q * 11 + m), none⟩ = (jCells Y)[m]? := fun m hm => by rw [hY]; exact (hb4.cell hbB).trans (js_cells HRow.out hlq m hm)
                have HX := Lib.hid hcX
                have HY := Lib.hid hcY
                have hbw : bb < wr.heap.size := Nat.lt_of_lt_of_le hbB hb4.size
                clear hcX hcY hX hY
                obtain ⟨⟨xv, xw, xl, xe, xc⟩, ⟨xnv, xnw, xnl, xne, xnc⟩, xt⟩ := X
                obtain ⟨⟨yv, yw, yl, ye, yc⟩, ⟨ynv, ynw, ynl, yne, ync⟩, yt⟩ := Y
                have x0 : wr.cell? ⟨bb, oo + p * 11, none⟩ = some (.int .u16 xv) := (HX.out 0 (by omega))
                have x1 : wr.cell? ⟨bb, oo + p * 11 + 1, none⟩ = some (.int .u16 xw) := (HX.out 1 (by omega))
                have x2 : wr.cell? ⟨bb, oo + p * 11 + 2, none⟩ = some (.int .u16 xl) := (HX.out 2 (by omega))
                have x3 : wr.cell? ⟨bb, oo + p * 11 + 3, none⟩ = some (.int .i64 xe) := (HX.out 3 (by omega))
                have x4 : wr.cell? ⟨bb, oo + p * 11 + 4, none⟩ = some (.int .i64 xc) := (HX.out 4 (by omega))
                have x5 : wr.cell? ⟨bb, oo + p * 11 + 5, none⟩ = some (.int .u16 xnv) := (HX.out 5 (by omega))
                have x6 : wr.cell? ⟨bb, oo + p * 11 + 6, none⟩ = some (.int .u16 xnw) := (HX.out 6 (by omega))
                have x7 : wr.cell? ⟨bb, oo + p * 11 + 7, none⟩ = some (.int .u16 xnl) := (HX.out 7 (by omega))
                have x8 : wr.cell? ⟨bb, oo + p * 11 + 8, none⟩ = some (.int .i64 xne) := (HX.out 8 (by omega))
                have x9 : wr.cell? ⟨bb, oo + p * 11 + 9, none⟩ = some (.int .i64 xnc) := (HX.out 9 (by omega))
                have x10 : wr.cell? ⟨bb, oo + p * 11 + 10, none⟩ = some (.bool xt) := (HX.out 10 (by omega))
                cases hE : electsJ ⟨⟨xv, xw, xl, xe, xc⟩, ⟨xnv, xnw, xnl, xne, xnc⟩, xt⟩ ma with
                | false =>
                  have he := fun w => elects_calls xv xw xl xe xc xnv xnw xnl xne xnc xt ma w
                  rw [hE] at he
                  have HE := Lib.hid he
                  clear he hE
                  go_wp2_with fail
                  refine (HE.out _).mono ?_; rintro x w4 ⟨rfl, hbx⟩
                  have hb5 := hb3.trans (hbx.mono hb3.size)
                  have hb6 := hb4.trans (hbx.mono hb4.size)
                  clear hbx
                  go_wp2_with fail
                  go_roundw
                  case rel => exact ⟨q + 1, by omega, by go_num, hb5, hb6⟩
                  case measure => simp [intOf]; omega
                | true =>
                  have he := fun w => elects_calls xv xw xl xe xc xnv xnw xnl xne xnc xt ma w
                  rw [hE] at he
                  have HE := Lib.hid he
                  clear he
                  have hS1 := fun h => (HSh.out.commit (b := mb) hE h)
                  have hS2 := fun h => (HSh.out.elect (b := mb) hE h)
                  have HS1 := Lib.hid hS1
                  have HS2 := Lib.hid hS2
                  clear hS1 hS2 hE
                  go_wp2_with fail
                  refine (HE.out _).mono ?_; rintro x w4 ⟨rfl, hbx⟩
                  have hb5 := hb3.trans (hbx.mono hb3.size)
                  have hb6 := hb4.trans (hbx.mono hb4.size)
                  have HY4 : Hid (∀ m, m < 11 → w4.cell? ⟨bb, oo + (q * 11 + m), none⟩ = (jCells ⟨⟨yv, yw, yl, ye, yc⟩, ⟨ynv, ynw, ynl, yne, ync⟩, yt⟩)[m]?) := Lib.hid fun m hm => (hbx.cell hbw).trans (HY.out m hm)
                  have hbw4 : bb < w4.heap.size := Nat.lt_of_lt_of_le hbw hbx.size
                  clear hbx
                  have y0 : w4.cell? ⟨bb, oo + q * 11, none⟩ = some (.int .u16 yv) := (HY4.out 0 (by omega))
                  have y1 : w4.cell? ⟨bb, oo + q * 11 + 1, none⟩ = some (.int .u16 yw) := (HY4.out 1 (by omega))
                  have y2 : w4.cell? ⟨bb, oo + q * 11 + 2, none⟩ = some (.int .u16 yl) := (HY4.out 2 (by omega))
                  have y3 : w4.cell? ⟨bb, oo + q * 11 + 3, none⟩ = some (.int .i64 ye) := (HY4.out 3 (by omega))
                  have y4 : w4.cell? ⟨bb, oo + q * 11 + 4, none⟩ = some (.int .i64 yc) := (HY4.out 4 (by omega))
                  have y5 : w4.cell? ⟨bb, oo + q * 11 + 5, none⟩ = some (.int .u16 ynv) := (HY4.out 5 (by omega))
                  have y6 : w4.cell? ⟨bb, oo + q * 11 + 6, none⟩ = some (.int .u16 ynw) := (HY4.out 6 (by omega))
                  have y7 : w4.cell? ⟨bb, oo + q * 11 + 7, none⟩ = some (.int .u16 ynl) := (HY4.out 7 (by omega))
                  have y8 : w4.cell? ⟨bb, oo + q * 11 + 8, none⟩ = some (.int .i64 yne) := (HY4.out 8 (by omega))
                  have y9 : w4.cell? ⟨bb, oo + q * 11 + 9, none⟩ = some (.int .i64 ync) := (HY4.out 9 (by omega))
                  have y10 : w4.cell? ⟨bb, oo + q * 11 + 10, none⟩ = some (.bool yt) := (HY4.out 10 (by omega))
                  cases hC : commitsJ ⟨⟨yv, yw, yl, ye, yc⟩, ⟨ynv, ynw, ynl, yne, ync⟩, yt⟩ mb with
                  | true =>
                    have hz : (bits .and .u16 ma mb == 0) = false := by simpa using HS1.out hC
                    have hz1 : ¬ (bits .and .u16 ma mb = 0) := by simpa using HS1.out hC
                    have hcm := fun w => commits_calls yv yw yl ye yc ynv ynw ynl yne ync yt mb w
                    rw [hC] at hcm
                    have HC := Lib.hid hcm
                    clear hcm hC
                    go_wp2_with fail
                    refine (HC.out _).mono ?_; rintro x w5 ⟨rfl, hbx⟩
                    have hb7 := hb5.trans (hbx.mono hb5.size)
                    have hb8 := hb6.trans (hbx.mono hb6.size)
                    have z0 : w5.cell? ⟨bb, oo + q * 11, none⟩ = some (.int .u16 yv) := (hbx.cell hbw4).trans y0
                    have z1 : w5.cell? ⟨bb, oo + q * 11 + 1, none⟩ = some (.int .u16 yw) := (hbx.cell hbw4).trans y1
                    have z2 : w5.cell? ⟨bb, oo + q * 11 + 2, none⟩ = some (.int .u16 yl) := (hbx.cell hbw4).trans y2
                    have z3 : w5.cell? ⟨bb, oo + q * 11 + 3, none⟩ = some (.int .i64 ye) := (hbx.cell hbw4).trans y3
                    have z4 : w5.cell? ⟨bb, oo + q * 11 + 4, none⟩ = some (.int .i64 yc) := (hbx.cell hbw4).trans y4
                    have z5 : w5.cell? ⟨bb, oo + q * 11 + 5, none⟩ = some (.int .u16 ynv) := (hbx.cell hbw4).trans y5
                    have z6 : w5.cell? ⟨bb, oo + q * 11 + 6, none⟩ = some (.int .u16 ynw) := (hbx.cell hbw4).trans y6
                    have z7 : w5.cell? ⟨bb, oo + q * 11 + 7, none⟩ = some (.int .u16 ynl) := (hbx.cell hbw4).trans y7
                    have z8 : w5.cell? ⟨bb, oo + q * 11 + 8, none⟩ = some (.int .i64 yne) := (hbx.cell hbw4).trans y8
                    have z9 : w5.cell? ⟨bb, oo + q * 11 + 9, none⟩ = some (.int .i64 ync) := (hbx.cell hbw4).trans y9
                    have z10 : w5.cell? ⟨bb, oo + q * 11 + 10, none⟩ = some (.bool yt) := (hbx.cell hbw4).trans y10
                    clear hbx
                    cases hD : electsJ ⟨⟨yv, yw, yl, ye, yc⟩, ⟨ynv, ynw, ynl, yne, ync⟩, yt⟩ mb with
                    | true =>
                      have hz : (bits .and .u16 ma mb == 0) = false := by simpa using HS2.out hD
                      have hz1 : ¬ (bits .and .u16 ma mb = 0) := by simpa using HS2.out hD
                      have hel := fun w => elects_calls yv yw yl ye yc ynv ynw ynl yne ync yt mb w
                      rw [hD] at hel
                      have HD := Lib.hid hel
                      clear hel hD
                      go_wp2_with fail
                      refine (HD.out _).mono ?_; rintro x w6 ⟨rfl, hbx⟩
                      have hb9 := hb7.trans (hbx.mono hb7.size)
                      have hb10 := hb8.trans (hbx.mono hb8.size)
                      clear hbx
                      go_wp2_with fail
                      go_roundw
                      case rel => exact ⟨q + 1, by omega, by go_num, hb9, hb10⟩
                      case measure => simp [intOf]; omega
                    | false =>
                      have hel := fun w => elects_calls yv yw yl ye yc ynv ynw ynl yne ync yt mb w
                      rw [hD] at hel
                      have HD := Lib.hid hel
                      clear hel hD
                      go_wp2_with fail
                      refine (HD.out _).mono ?_; rintro x w6 ⟨rfl, hbx⟩
                      have hb9 := hb7.trans (hbx.mono hb7.size)
                      have hb10 := hb8.trans (hbx.mono hb8.size)
                      clear hbx
                      go_wp2_with fail
                      go_roundw
                      case rel => exact ⟨q + 1, by omega, by go_num, hb9, hb10⟩
                      case measure => simp [intOf]; omega
                  | false =>
                    have hcm := fun w => commits_calls yv yw yl ye yc ynv ynw ynl yne ync yt mb w
                    rw [hC] at hcm
                    have HC := Lib.hid hcm
                    clear hcm hC
                    go_wp2_with fail
                    refine (HC.out _).mono ?_; rintro x w5 ⟨rfl, hbx⟩
                    have hb7 := hb5.trans (hbx.mono hb5.size)
                    have hb8 := hb6.trans (hbx.mono hb6.size)
                    have z0 : w5.cell? ⟨bb, oo + q * 11, none⟩ = some (.int .u16 yv) := (hbx.cell hbw4).trans y0
                    have z1 : w5.cell? ⟨bb, oo + q * 11 + 1, none⟩ = some (.int .u16 yw) := (hbx.cell hbw4).trans y1
                    have z2 : w5.cell? ⟨bb, oo + q * 11 + 2, none⟩ = some (.int .u16 yl) := (hbx.cell hbw4).trans y2
                    have z3 : w5.cell? ⟨bb, oo + q * 11 + 3, none⟩ = some (.int .i64 ye) := (hbx.cell hbw4).trans y3
                    have z4 : w5.cell? ⟨bb, oo + q * 11 + 4, none⟩ = some (.int .i64 yc) := (hbx.cell hbw4).trans y4
                    have z5 : w5.cell? ⟨bb, oo + q * 11 + 5, none⟩ = some (.int .u16 ynv) := (hbx.cell hbw4).trans y5
                    have z6 : w5.cell? ⟨bb, oo + q * 11 + 6, none⟩ = some (.int .u16 ynw) := (hbx.cell hbw4).trans y6
                    have z7 : w5.cell? ⟨bb, oo + q * 11 + 7, none⟩ = some (.int .u16 ynl) := (hbx.cell hbw4).trans y7
                    have z8 : w5.cell? ⟨bb, oo + q * 11 + 8, none⟩ = some (.int .i64 yne) := (hbx.cell hbw4).trans y8
                    have z9 : w5.cell? ⟨bb, oo + q * 11 + 9, none⟩ = some (.int .i64 ync) := (hbx.cell hbw4).trans y9
                    have z10 : w5.cell? ⟨bb, oo + q * 11 + 10, none⟩ = some (.bool yt) := (hbx.cell hbw4).trans y10
                    clear hbx
                    cases hD : electsJ ⟨⟨yv, yw, yl, ye, yc⟩, ⟨ynv, ynw, ynl, yne, ync⟩, yt⟩ mb with
                    | true =>
                      have hz : (bits .and .u16 ma mb == 0) = false := by simpa using HS2.out hD
                      have hz1 : ¬ (bits .and .u16 ma mb = 0) := by simpa using HS2.out hD
                      have hel := fun w => elects_calls yv yw yl ye yc ynv ynw ynl yne ync yt mb w
                      rw [hD] at hel
                      have HD := Lib.hid hel
                      clear hel hD
                      go_wp2_with fail
                      refine (HD.out _).mono ?_; rintro x w6 ⟨rfl, hbx⟩
                      have hb9 := hb7.trans (hbx.mono hb7.size)
                      have hb10 := hb8.trans (hbx.mono hb8.size)
                      clear hbx
                      go_wp2_with fail
                      go_roundw
                      case rel => exact ⟨q + 1, by omega, by go_num, hb9, hb10⟩
                      case measure => simp [intOf]; omega
                    | false =>
                      have hel := fun w => elects_calls yv yw yl ye yc ynv ynw ynl yne ync yt mb w
                      rw [hD] at hel
                      have HD := Lib.hid hel
                      clear hel hD
                      go_wp2_with fail
                      refine (HD.out _).mono ?_; rintro x w6 ⟨rfl, hbx⟩
                      have hb9 := hb7.trans (hbx.mono hb7.size)
                      have hb10 := hb8.trans (hbx.mono hb8.size)
                      clear hbx
                      go_wp2_with fail
                      go_roundw
                      case rel => exact ⟨q + 1, by omega, by go_num, hb9, hb10⟩
                      case measure => simp [intOf]; omega
            · go_wp2
              go_roundw
              case rel => exact ⟨p + 1, by omega, by go_num, hb3, hb4⟩
              case measure => simp [intOf]; omega
        · go_wp2
          go_ret
          exact ⟨rfl, hb1⟩
end Go.Proofs.Ytcciejglemfebaa
