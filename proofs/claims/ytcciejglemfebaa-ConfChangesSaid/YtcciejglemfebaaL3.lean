/- antipodelaw10.ConfChanges answers true; memory that was there is as it was. -/
import Derived.Test.YtcciejglemfebaaR7
import Derived.Test.YtcciejglemfebaaC4
namespace Go.Proofs.Ytcciejglemfebaa
open Go.RowKit

set_option maxHeartbeats 6400000 in
set_option maxRecDepth 20000 in
theorem changes_calls (jv jw jl je jc jnv jnw jnl jne jnc : Int) (jt : Bool) (tv tw tl te tc : Int) (w : World) (h1 : U jv) (h2 : U jw) (h3 : U jl) (h4 : U jnv) (h5 : U jnw) (h6 : U jnl) (h7 : U tv) (h8 : U tw) (h9 : U tl) :
    Calls Try.prog 5 #[.agg (jcells jv jw jl je jc jnv jnw jnl jne jnc jt), .agg (cells tv tw tl te tc)] w fun x w' => x = .returned (.bool true) ∧ Below w.heap.size w w' := by
  have HM := Lib.hid fun w => rmayj_calls jv jw jl je jc jnv jnw jnl jne jnc jt w h1 h2 h3 h4 h5 h6
  have hc1 := fun w => change_calls jv jw jl je jc jnv jnw jnl jne jnc jt tv tw tl te tc w
  have hc2 := fun w => rchange_calls jv jw jl je jc jnv jnw jnl jne jnc jt tv tw tl te tc w h1 h3 h7 h8 h9
  have hf1 := fun w => final_calls jv jw jl je jc jnv jnw jnl jne jnc jt w
  have hf2 := fun w => rfinal_calls jv jw jl je jc jnv jnw jnl jne jnc jt w
  clear h1 h2 h3 h4 h5 h6 h7 h8 h9
  generalize mayJ _ = M at HM
  generalize changeJ _ _ = X at hc1 hc2
  generalize finalJ _ = F at hf1 hf2
  obtain ⟨⟨⟨xv, xw, xl, xe, xc⟩, ⟨xnv, xnw, xnl, xne, xnc⟩, xt⟩, xn⟩ := X
  obtain ⟨⟨fv, fw, fl, fe, fc⟩, ⟨fnv, fnw, fnl, fne, fnc⟩, ft⟩ := F
  have hg1 := fun w => final_calls xv xw xl xe xc xnv xnw xnl xne xnc xt w
  have hg2 := fun w => rfinal_calls xv xw xl xe xc xnv xnw xnl xne xnc xt w
  generalize finalJ _ = G at hg1 hg2
  obtain ⟨⟨gv, gw, gl, ge, gc⟩, ⟨gnv, gnw, gnl, gne, gnc⟩, gt⟩ := G
  simp only [valJ] at hc1 hc2 hf1 hf2 hg1 hg2
  have HC1 := Lib.hid hc1
  have HC2 := Lib.hid hc2
  have HF1 := Lib.hid hf1
  have HF2 := Lib.hid hf2
  have HG1 := Lib.hid hg1
  have HG2 := Lib.hid hg2
  clear hc1 hc2 hf1 hf2 hg1 hg2
  go_enter Try.func5, Try.ntmps5
  go_wp2_with fail
  refine (begun10 _).mono ?_; rintro x w1 ⟨rfl, hb⟩
  have hKj : Keep w w.heap.size 38 (jcells jv jw jl je jc jnv jnw jnl jne jnc jt) w1 := ((Keep.new w 38 _).alloc _).call hb
  have hKt : Keep w (w.heap.size + 1) 33 (cells tv tw tl te tc) w1 := (Keep.mk_new ((Below.refl _ _).alloc (Nat.le_refl _) _) (by simp)).call hb
  have HKj := Lib.hid hKj
  have HKt := Lib.hid hKt
  obtain ⟨_, a0, a1, a2, a3, a4, a5, a6, a7, a8, a9, a10⟩ := keepS11 hKj
  obtain ⟨_, b0, b1, b2, b3, b4⟩ := keepS5 hKt
  clear hKj hKt hb
  go_wp2_with fail
  refine (HM.out _).mono ?_; rintro x w2 ⟨rfl, hb⟩
  have hKj := HKj.out.call hb
  have hKt := HKt.out.call hb
  clear HKj HKt
  have HKj := Lib.hid hKj
  have HKt := Lib.hid hKt
  clear hb
  cases M with
  | false =>
    go_wp2_with fail
    go_ret
    exact ⟨rfl, hKj.2⟩
  | true =>
    obtain ⟨_, a0, a1, a2, a3, a4, a5, a6, a7, a8, a9, a10⟩ := keepS11 hKj
    obtain ⟨_, b0, b1, b2, b3, b4⟩ := keepS5 hKt
    clear hKj hKt
    go_wp2_with fail
    refine (HC1.out _).mono ?_; rintro x w3 ⟨rfl, hb⟩
    have hKj := HKj.out.call hb
    have hKt := HKt.out.call hb
    have hKx : Keep w w3.heap.size 38 (jcells xv xw xl xe xc xnv xnw xnl xne xnc xt) (w3.alloc (.cells (jcells xv xw xl xe xc xnv xnw xnl xne xnc xt) 38)) := Keep.mk_new hKj.2 rfl
    have z1 := hKj.1.lt
    have z2 := hKt.1.lt
    have HKj1 := Lib.hid (hKj.alloc (.cells (jcells xv xw xl xe xc xnv xnw xnl xne xnc xt) 38))
    have HKt1 := Lib.hid (hKt.alloc (.cells (jcells xv xw xl xe xc xnv xnw xnl xne xnc xt) 38))
    have HKx1 := Lib.hid hKx
    obtain ⟨_, a0, a1, a2, a3, a4, a5, a6, a7, a8, a9, a10⟩ := keepS11 hKj
    obtain ⟨_, b0, b1, b2, b3, b4⟩ := keepS5 hKt
    clear hKj hKt hKx HKj HKt hb
    go_wp2_with fail
    refine (HC2.out _).mono ?_; rintro x w4 ⟨rfl, hb⟩
    have hKj := HKj1.out.call hb
    have hKx := HKx1.out.call hb
    generalize w3.heap.size = g1 at *
    have z3 := hKj.1.lt
    have z4 := hKx.1.lt
    have HKj := Lib.hid (hKj.alloc (.cells (jcells xv xw xl xe xc xnv xnw xnl xne xnc xt) 38))
    have HKx := Lib.hid (hKx.alloc (.cells (jcells xv xw xl xe xc xnv xnw xnl xne xnc xt) 38))
    have HKy : Hid (Keep w w4.heap.size 38 (jcells xv xw xl xe xc xnv xnw xnl xne xnc xt) (w4.alloc (.cells (jcells xv xw xl xe xc xnv xnw xnl xne xnc xt) 38))) := Lib.hid (Keep.mk_new hKj.2 rfl)
    clear hKj hKx HKj1 HKt1 HKx1 hb
    go_wp2_with fail
    generalize hg2 : w4.heap.size = g2 at *
    clear hg2
    generalize w4.alloc (.cells (jcells xv xw xl xe xc xnv xnw xnl xne xnc xt) 38) = w5 at *
    refine held_start (n := 23) (S := fun w' => (Hid (Keep w w.heap.size 38 #[.int .u16 jv, .int .u16 jw, .int .u16 jl, .int .i64 je, .int .i64 jc, .int .u16 jnv, .int .u16 jnw, .int .u16 jnl, .int .i64 jne, .int .i64 jnc, .bool jt] w') ∧ w'.cell? ⟨w.heap.size, 0, none⟩ = some (.int .u16 jv) ∧ w'.cell? ⟨w.heap.size, 1, none⟩ = some (.int .u16 jw) ∧ w'.cell? ⟨w.heap.size, 2, none⟩ = some (.int .u16 jl) ∧ w'.cell? ⟨w.heap.size, 3, none⟩ = some (.int .i64 je) ∧ w'.cell? ⟨w.heap.size, 4, none⟩ = some (.int .i64 jc) ∧ w'.cell? ⟨w.heap.size, 5, none⟩ = some (.int .u16 jnv) ∧ w'.cell? ⟨w.heap.size, 6, none⟩ = some (.int .u16 jnw) ∧ w'.cell? ⟨w.heap.size, 7, none⟩ = some (.int .u16 jnl) ∧ w'.cell? ⟨w.heap.size, 8, none⟩ = some (.int .i64 jne) ∧ w'.cell? ⟨w.heap.size, 9, none⟩ = some (.int .i64 jnc) ∧ w'.cell? ⟨w.heap.size, 10, none⟩ = some (.bool jt)) ∧ (Hid (Keep w g1 38 #[.int .u16 xv, .int .u16 xw, .int .u16 xl, .int .i64 xe, .int .i64 xc, .int .u16 xnv, .int .u16 xnw, .int .u16 xnl, .int .i64 xne, .int .i64 xnc, .bool xt] w') ∧ w'.cell? ⟨g1, 0, none⟩ = some (.int .u16 xv) ∧ w'.cell? ⟨g1, 1, none⟩ = some (.int .u16 xw) ∧ w'.cell? ⟨g1, 2, none⟩ = some (.int .u16 xl) ∧ w'.cell? ⟨g1, 3, none⟩ = some (.int .i64 xe) ∧ w'.cell? ⟨g1, 4, none⟩ = some (.int .i64 xc) ∧ w'.cell? ⟨g1, 5, none⟩ = some (.int .u16 xnv) ∧ w'.cell? ⟨g1, 6, none⟩ = some (.int .u16 xnw) ∧ w'.cell? ⟨g1, 7, none⟩ = some (.int .u16 xnl) ∧ w'.cell? ⟨g1, 8, none⟩ = some (.int .i64 xne) ∧ w'.cell? ⟨g1, 9, none⟩ = some (.int .i64 xnc) ∧ w'.cell? ⟨g1, 10, none⟩ = some (.bool xt)) ∧ (Hid (Keep w g2 38 #[.int .u16 xv, .int .u16 xw, .int .u16 xl, .int .i64 xe, .int .i64 xc, .int .u16 xnv, .int .u16 xnw, .int .u16 xnl, .int .i64 xne, .int .i64 xnc, .bool xt] w') ∧ w'.cell? ⟨g2, 0, none⟩ = some (.int .u16 xv) ∧ w'.cell? ⟨g2, 1, none⟩ = some (.int .u16 xw) ∧ w'.cell? ⟨g2, 2, none⟩ = some (.int .u16 xl) ∧ w'.cell? ⟨g2, 3, none⟩ = some (.int .i64 xe) ∧ w'.cell? ⟨g2, 4, none⟩ = some (.int .i64 xc) ∧ w'.cell? ⟨g2, 5, none⟩ = some (.int .u16 xnv) ∧ w'.cell? ⟨g2, 6, none⟩ = some (.int .u16 xnw) ∧ w'.cell? ⟨g2, 7, none⟩ = some (.int .u16 xnl) ∧ w'.cell? ⟨g2, 8, none⟩ = some (.int .i64 xne) ∧ w'.cell? ⟨g2, 9, none⟩ = some (.int .i64 xnc) ∧ w'.cell? ⟨g2, 10, none⟩ = some (.bool xt))) #[false, false, false, false, false, false, false, false, false, false, false, false, false, false, false, false, false, false, false, false, false, false, false] (by kernel_rfl) rfl rfl ⟨keepS11 (Keep.drew (Hid.out HKj)), keepS11 (Keep.drew (Hid.out HKx)), keepS11 (Keep.drew (Hid.out HKy))⟩ (fun hHeld => ?_)
    refine held_on (i := 0) (N := (some 26)) (v := ?_) #[true, false, false, false, false, false, false, false, false, false, false, false, false, false, false, false, false, false, false, false, false, false, false] rfl rfl (by kernel_rfl) (fun _ _ _ h => h) (by rfl) ?_ (by assumption) ?_
    rotate_left; (intro w hSw; (try dsimp only at hSw); go_simp); (try with_reducible rfl); (simp only [Act.put, List.setIfInBounds_toArray, List.set_cons_zero, List.set_cons_succ])
    refine held_on (i := 1) (N := (some 27)) (v := ?_) #[true, true, false, false, false, false, false, false, false, false, false, false, false, false, false, false, false, false, false, false, false, false, false] rfl rfl (by kernel_rfl) (fun _ _ _ h => h) (by rfl) ?_ (by assumption) ?_
    rotate_left; (intro w hSw; (try dsimp only at hSw); go_simp); (try with_reducible rfl); (simp only [Act.put, List.setIfInBounds_toArray, List.set_cons_zero, List.set_cons_succ])
    refine held_on (i := 2) (N := (some 28)) (v := ?_) #[true, true, true, false, false, false, false, false, false, false, false, false, false, false, false, false, false, false, false, false, false, false, false] rfl rfl (by kernel_rfl) (fun _ _ _ h => h) (by rfl) ?_ (by assumption) ?_
    rotate_left; (intro w hSw; (try dsimp only at hSw); go_simp); (try with_reducible rfl); (simp only [Act.put, List.setIfInBounds_toArray, List.set_cons_zero, List.set_cons_succ])
    refine held_on (i := 3) (N := (some 29)) (v := ?_) #[true, true, true, true, false, false, false, false, false, false, false, false, false, false, false, false, false, false, false, false, false, false, false] rfl rfl (by kernel_rfl) (fun _ _ _ h => h) (by rfl) ?_ (by assumption) ?_
    rotate_left; (intro w hSw; (try dsimp only at hSw); go_simp); (try with_reducible rfl); (simp only [Act.put, List.setIfInBounds_toArray, List.set_cons_zero, List.set_cons_succ])
    refine held_on (i := 4) (N := (some 30)) (v := ?_) #[true, true, true, true, true, false, false, false, false, false, false, false, false, false, false, false, false, false, false, false, false, false, false] rfl rfl (by kernel_rfl) (fun _ _ _ h => h) (by rfl) ?_ (by assumption) ?_
    rotate_left; (intro w hSw; (try dsimp only at hSw); go_simp); (try with_reducible rfl); (simp only [Act.put, List.setIfInBounds_toArray, List.set_cons_zero, List.set_cons_succ])
    refine held_on (i := 5) (N := (some 31)) (v := ?_) #[true, true, true, true, true, true, false, false, false, false, false, false, false, false, false, false, false, false, false, false, false, false, false] rfl rfl (by kernel_rfl) (fun _ _ _ h => h) (by rfl) ?_ (by assumption) ?_
    rotate_left; (intro w hSw; (try dsimp only at hSw); go_simp); (try with_reducible rfl); (simp only [Act.put, List.setIfInBounds_toArray, List.set_cons_zero, List.set_cons_succ])
    refine held_on (i := 6) (N := (some 32)) (v := ?_) #[true, true, true, true, true, true, true, false, false, false, false, false, false, false, false, false, false, false, false, false, false, false, false] rfl rfl (by kernel_rfl) (fun _ _ _ h => h) (by rfl) ?_ (by assumption) ?_
    rotate_left; (intro w hSw; (try dsimp only at hSw); go_simp); (try with_reducible rfl); (simp only [Act.put, List.setIfInBounds_toArray, List.set_cons_zero, List.set_cons_succ])
    refine held_on (i := 7) (N := (some 33)) (v := ?_) #[true, true, true, true, true, true, true, true, false, false, false, false, false, false, false, false, false, false, false, false, false, false, false] rfl rfl (by kernel_rfl) (fun _ _ _ h => h) (by rfl) ?_ (by assumption) ?_
    rotate_left; (intro w hSw; (try dsimp only at hSw); go_simp); (try with_reducible rfl); (simp only [Act.put, List.setIfInBounds_toArray, List.set_cons_zero, List.set_cons_succ])
    refine held_on (i := 8) (N := (some 34)) (v := ?_) #[true, true, true, true, true, true, true, true, true, false, false, false, false, false, false, false, false, false, false, false, false, false, false] rfl rfl (by kernel_rfl) (fun _ _ _ h => h) (by rfl) ?_ (by assumption) ?_
    rotate_left; (intro w hSw; (try dsimp only at hSw); go_simp); (try with_reducible rfl); (simp only [Act.put, List.setIfInBounds_toArray, List.set_cons_zero, List.set_cons_succ])
    refine held_on (i := 9) (N := (some 35)) (v := ?_) #[true, true, true, true, true, true, true, true, true, true, false, false, false, false, false, false, false, false, false, false, false, false, false] rfl rfl (by kernel_rfl) (fun _ _ _ h => h) (by rfl) ?_ (by assumption) ?_
    rotate_left; (intro w hSw; (try dsimp only at hSw); go_simp); (try with_reducible rfl); (simp only [Act.put, List.setIfInBounds_toArray, List.set_cons_zero, List.set_cons_succ])
    refine held_on (i := 11) (N := (some 37)) (v := ?_) #[true, true, true, true, true, true, true, true, true, true, false, true, false, false, false, false, false, false, false, false, false, false, false] rfl rfl (by kernel_rfl) (fun _ _ _ h => h) (by rfl) ?_ (by assumption) ?_
    rotate_left; (intro w hSw; (try dsimp only at hSw); go_simp); (try with_reducible rfl); (simp only [Act.put, List.setIfInBounds_toArray, List.set_cons_zero, List.set_cons_succ])
    refine held_run (i := 10) #[true, true, true, true, true, true, true, true, true, true, true, true, false, false, false, false, false, false, false, false, false, false, false] rfl (by kernel_rfl) (by rfl) (fun K hK => ?_)
    go_simp
    refine (HF1.out _).mono ?_; rintro x w9 ⟨rfl, hb⟩
    refine hK.out _ _ ⟨keepS11 (Keep.call (Hid.out hHeld.1.1) hb), keepS11 (Keep.call (Hid.out hHeld.2.1.1) hb), keepS11 (Keep.call (Hid.out hHeld.2.2.1) hb)⟩ (fun hHeld => ?_); clear hK K; (try simp only [Act.put, List.setIfInBounds_toArray, List.set_cons_zero, List.set_cons_succ])
    refine held_run (i := 12) #[true, true, true, true, true, true, true, true, true, true, true, true, true, false, false, false, false, false, false, false, false, false, false] rfl (by kernel_rfl) (by rfl) (fun K hK => ?_)
    go_simp
    refine (HF2.out _).mono ?_; rintro x w9 ⟨rfl, hb⟩
    refine hK.out _ _ ⟨keepS11 (Keep.call (Hid.out hHeld.1.1) hb), keepS11 (Keep.call (Hid.out hHeld.2.1.1) hb), keepS11 (Keep.call (Hid.out hHeld.2.2.1) hb)⟩ (fun hHeld => ?_); clear hK K; (try simp only [Act.put, List.setIfInBounds_toArray, List.set_cons_zero, List.set_cons_succ])
    refine held_on (i := 13) (N := (some 39)) (v := ?_) #[true, true, true, true, true, true, true, true, true, true, true, true, true, true, false, false, false, false, false, false, false, false, false] rfl rfl (by kernel_rfl) (fun _ _ _ h => h) (by rfl) ?_ (by assumption) ?_
    rotate_left; (intro w hSw; (try dsimp only at hSw); go_simp); (try with_reducible rfl); (simp only [Act.put, List.setIfInBounds_toArray, List.set_cons_zero, List.set_cons_succ])
    refine held_on (i := 14) (N := (some 40)) (v := ?_) #[true, true, true, true, true, true, true, true, true, true, true, true, true, true, true, false, false, false, false, false, false, false, false] rfl rfl (by kernel_rfl) (fun _ _ _ h => h) (by rfl) ?_ (by assumption) ?_
    rotate_left; (intro w hSw; (try dsimp only at hSw); go_simp); (try with_reducible rfl); (simp only [Act.put, List.setIfInBounds_toArray, List.set_cons_zero, List.set_cons_succ])
    refine held_on (i := 15) (N := (some 41)) (v := ?_) #[true, true, true, true, true, true, true, true, true, true, true, true, true, true, true, true, false, false, false, false, false, false, false] rfl rfl (by kernel_rfl) (fun _ _ _ h => h) (by rfl) ?_ (by assumption) ?_
    rotate_left; (intro w hSw; (try dsimp only at hSw); go_simp); (try with_reducible rfl); (simp only [Act.put, List.setIfInBounds_toArray, List.set_cons_zero, List.set_cons_succ])
    refine held_on (i := 16) (N := (some 42)) (v := ?_) #[true, true, true, true, true, true, true, true, true, true, true, true, true, true, true, true, true, false, false, false, false, false, false] rfl rfl (by kernel_rfl) (fun _ _ _ h => h) (by rfl) ?_ (by assumption) ?_
    rotate_left; (intro w hSw; (try dsimp only at hSw); go_simp); (try with_reducible rfl); (simp only [Act.put, List.setIfInBounds_toArray, List.set_cons_zero, List.set_cons_succ])
    refine held_on (i := 18) (N := (some 44)) (v := ?_) #[true, true, true, true, true, true, true, true, true, true, true, true, true, true, true, true, true, false, true, false, false, false, false] rfl rfl (by kernel_rfl) (fun _ _ _ h => h) (by rfl) ?_ (by assumption) ?_
    rotate_left; (intro w hSw; (try dsimp only at hSw); go_simp); (try with_reducible rfl); (simp only [Act.put, List.setIfInBounds_toArray, List.set_cons_zero, List.set_cons_succ])
    refine held_run (i := 17) #[true, true, true, true, true, true, true, true, true, true, true, true, true, true, true, true, true, true, true, false, false, false, false] rfl (by kernel_rfl) (by rfl) (fun K hK => ?_)
    go_simp
    refine (HG1.out _).mono ?_; rintro x w9 ⟨rfl, hb⟩
    refine hK.out _ _ ⟨keepS11 (Keep.call (Hid.out hHeld.1.1) hb), keepS11 (Keep.call (Hid.out hHeld.2.1.1) hb), keepS11 (Keep.call (Hid.out hHeld.2.2.1) hb)⟩ (fun hHeld => ?_); clear hK K; (try simp only [Act.put, List.setIfInBounds_toArray, List.set_cons_zero, List.set_cons_succ])
    refine held_run (i := 19) #[true, true, true, true, true, true, true, true, true, true, true, true, true, true, true, true, true, true, true, true, false, false, false] rfl (by kernel_rfl) (by rfl) (fun K hK => ?_)
    go_simp
    refine (HG2.out _).mono ?_; rintro x w9 ⟨rfl, hb⟩
    refine hK.out _ _ ⟨keepS11 (Keep.call (Hid.out hHeld.1.1) hb), keepS11 (Keep.call (Hid.out hHeld.2.1.1) hb), keepS11 (Keep.call (Hid.out hHeld.2.2.1) hb)⟩ (fun hHeld => ?_); clear hK K; (try simp only [Act.put, List.setIfInBounds_toArray, List.set_cons_zero, List.set_cons_succ])
    refine held_on (i := 20) (N := (some 46)) (v := ?_) #[true, true, true, true, true, true, true, true, true, true, true, true, true, true, true, true, true, true, true, true, true, false, false] rfl rfl (by kernel_rfl) (fun _ _ _ h => h) (by rfl) ?_ (by assumption) ?_
    rotate_left; (intro w hSw; (try dsimp only at hSw); go_simp); (try with_reducible rfl); (simp only [Act.put, List.setIfInBounds_toArray, List.set_cons_zero, List.set_cons_succ])
    refine held_on (i := 21) (N := (some 47)) (v := ?_) #[true, true, true, true, true, true, true, true, true, true, true, true, true, true, true, true, true, true, true, true, true, true, false] rfl rfl (by kernel_rfl) (fun _ _ _ h => h) (by rfl) ?_ (by assumption) ?_
    rotate_left; (intro w hSw; (try dsimp only at hSw); go_simp); (try with_reducible rfl); (simp only [Act.put, List.setIfInBounds_toArray, List.set_cons_zero, List.set_cons_succ])
    refine held_on (i := 22) (N := (some 4)) (v := ?_) #[true, true, true, true, true, true, true, true, true, true, true, true, true, true, true, true, true, true, true, true, true, true, true] rfl rfl (by kernel_rfl) (fun _ _ _ h => h) (by rfl) ?_ (by assumption) ?_
    rotate_left; (intro w hSw; (try dsimp only at hSw); go_simp); (try with_reducible rfl); (simp only [Act.put, List.setIfInBounds_toArray, List.set_cons_zero, List.set_cons_succ])
    refine held_done (by kernel_rfl) ?_
    show Exit.then _ _ _ _ _
    go_wp2_with fail
    go_ret
    exact ⟨rfl, (Hid.out hHeld.1.1).2⟩
end Go.Proofs.Ytcciejglemfebaa
