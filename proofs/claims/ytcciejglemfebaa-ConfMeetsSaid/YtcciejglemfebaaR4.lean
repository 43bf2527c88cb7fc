/- The document's answer: whether all quorums of two configurations meet, by a contract. -/
import Derived.Test.YtcciejglemfebaaR3
import Derived.Test.YtcciejglemfebaaM1
namespace Go.Proofs.Ytcciejglemfebaa
open Go.RowKit

set_option maxHeartbeats 3200000 in
theorem rmeet10_calls (v wi l e c v' wi' l' e' c' : Int) (w : World) (hv : U v) (hw : U wi) (hv' : U v') (hw' : U wi') :
    Calls Try.prog 21 #[.agg (cells v wi l e c), .agg (cells v' wi' l' e' c')] w fun x w' =>
      x = .returned (.bool (meetR ⟨v, wi, l, e, c⟩ ⟨v', wi', l', e', c'⟩)) ∧ Below w.heap.size w w' := by
  have HV := Lib.hid hv
  have HW := Lib.hid hw
  have HV' := Lib.hid hv'
  have HW' := Lib.hid hw'
  have HQ1 : Hid (U (votesR ⟨v, wi, l, e, c⟩)) := Lib.hid (votesR_u _)
  have HQ2 : Hid (U (votesR ⟨v', wi', l', e', c'⟩)) := Lib.hid (votesR_u _)
  clear hv hw hv' hw'
  go_enter Try.func21, Try.ntmps21
  go_wp2_with fail
  refine held_start (n := 12) (S := fun w' => w'.cell? ⟨w.heap.size, 0, none⟩ = some (.int .u16 v) ∧ w'.cell? ⟨w.heap.size, 1, none⟩ = some (.int .u16 wi) ∧ w'.cell? ⟨w.heap.size, 2, none⟩ = some (.int .u16 l) ∧ w'.cell? ⟨w.heap.size, 3, none⟩ = some (.int .i64 e) ∧ w'.cell? ⟨w.heap.size, 4, none⟩ = some (.int .i64 c) ∧ w'.cell? ⟨(w.heap.size + 1), 0, none⟩ = some (.int .u16 v') ∧ w'.cell? ⟨(w.heap.size + 1), 1, none⟩ = some (.int .u16 wi') ∧ w'.cell? ⟨(w.heap.size + 1), 2, none⟩ = some (.int .u16 l') ∧ w'.cell? ⟨(w.heap.size + 1), 3, none⟩ = some (.int .i64 e') ∧ w'.cell? ⟨(w.heap.size + 1), 4, none⟩ = some (.int .i64 c')) #[false, false, false, false, false, false, false, false, false, false, false, false] (by kernel_rfl) rfl rfl (by (try dsimp only); go_keep) (fun hHeld => ?_)
  refine held_on (i := 0) (N := (some 9)) (v := ?_) #[true, false, false, false, false, false, false, false, false, false, false, false] rfl rfl (by kernel_rfl) (fun _ _ _ h => h) (by rfl) ?_ (by assumption) ?_
  rotate_left; (intro w hSw; (try dsimp only at hSw); go_simp); (try with_reducible rfl); (simp only [Act.put, List.setIfInBounds_toArray, List.set_cons_zero, List.set_cons_succ])
  refine held_on (i := 2) (N := (some 11)) (v := ?_) #[true, false, true, false, false, false, false, false, false, false, false, false] rfl rfl (by kernel_rfl) (fun _ _ _ h => h) (by rfl) ?_ (by assumption) ?_
  rotate_left; (intro w hSw; (try dsimp only at hSw); go_simp); (try with_reducible rfl); (simp only [Act.put, List.setIfInBounds_toArray, List.set_cons_zero, List.set_cons_succ])
  refine held_on (i := 3) (N := (some 12)) (v := ?_) #[true, false, true, true, false, false, false, false, false, false, false, false] rfl rfl (by kernel_rfl) (fun _ _ _ h => h) (by rfl) ?_ (by assumption) ?_
  rotate_left; (intro w hSw; (try dsimp only at hSw); go_simp); (try with_reducible rfl); (simp only [Act.put, List.setIfInBounds_toArray, List.set_cons_zero, List.set_cons_succ])
  refine held_on (i := 5) (N := (some 14)) (v := ?_) #[true, false, true, true, false, true, false, false, false, false, false, false] rfl rfl (by kernel_rfl) (fun _ _ _ h => h) (by rfl) ?_ (by assumption) ?_
  rotate_left; (intro w hSw; (try dsimp only at hSw); go_simp); (try with_reducible rfl); (simp only [Act.put, List.setIfInBounds_toArray, List.set_cons_zero, List.set_cons_succ])
  refine held_on (i := 7) (N := (some 16)) (v := ?_) #[true, false, true, true, false, true, false, true, false, false, false, false] rfl rfl (by kernel_rfl) (fun _ _ _ h => h) (by rfl) ?_ (by assumption) ?_
  rotate_left; (intro w hSw; (try dsimp only at hSw); go_simp); (try with_reducible rfl); (simp only [Act.put, List.setIfInBounds_toArray, List.set_cons_zero, List.set_cons_succ])
  refine held_on (i := 8) (N := (some 17)) (v := ?_) #[true, false, true, true, false, true, false, true, true, false, false, false] rfl rfl (by kernel_rfl) (fun _ _ _ h => h) (by rfl) ?_ (by assumption) ?_
  rotate_left; (intro w hSw; (try dsimp only at hSw); go_simp); (try with_reducible rfl); (simp only [Act.put, List.setIfInBounds_toArray, List.set_cons_zero, List.set_cons_succ])
  refine held_run (i := 1) #[true, true, true, true, false, true, false, true, true, false, false, false] rfl (by kernel_rfl) (by rfl) (fun K hK => ?_)
  go_simp
  refine (rvotes_calls _ _ _ _ _ _ HV.out HW.out).mono ?_; rintro x w2 ⟨rfl, rfl⟩
  refine hK.out _ _ (by (try dsimp only); go_keep) (fun hHeld => ?_); clear hK K; (try simp only [Act.put, List.setIfInBounds_toArray, List.set_cons_zero, List.set_cons_succ])
  refine held_run (i := 4) #[true, true, true, true, true, true, false, true, true, false, false, false] rfl (by kernel_rfl) (by rfl) (fun K hK => ?_)
  go_simp
  refine (rquorums_calls _ _ _ HQ1.out).mono ?_; rintro x w3 ⟨A1, c1, rfl, hrow1, hb3⟩; have p3 := fun o => (bcell hb3).1 w.heap.size o (by first | (simp; done) | (simp; omega)); have q3 := fun o => (bcell hb3).1 (w.heap.size + 1) o (by first | (simp; done) | (simp; omega)); have z3 : w.heap.size + 1 < w3.heap.size := by (have := hb3.size; simp at this; omega)
  refine hK.out _ _ (by (try dsimp only); go_keep) (fun hHeld => ?_); clear hK K; (try simp only [Act.put, List.setIfInBounds_toArray, List.set_cons_zero, List.set_cons_succ])
  refine held_run (i := 6) #[true, true, true, true, true, true, true, true, true, false, false, false] rfl (by kernel_rfl) (by rfl) (fun K hK => ?_)
  go_simp
  refine (rvotes_calls _ _ _ _ _ _ HV'.out HW'.out).mono ?_; rintro x w4 ⟨rfl, rfl⟩
  refine hK.out _ _ (by (try dsimp only); go_keep) (fun hHeld => ?_); clear hK K; (try simp only [Act.put, List.setIfInBounds_toArray, List.set_cons_zero, List.set_cons_succ])
  refine held_run (i := 9) #[true, true, true, true, true, true, true, true, true, true, false, false] rfl (by kernel_rfl) (by rfl) (fun K hK => ?_)
  go_simp
  refine (rquorums_calls _ _ _ HQ2.out).mono ?_; rintro x w5 ⟨A2, c2, rfl, hrow2, hb5⟩; have p5 := fun o => (bcell hb5).1 w.heap.size o (by first | (simp; done) | (simp; omega)); have q5 := fun o => (bcell hb5).1 (w.heap.size + 1) o (by first | (simp; done) | (simp; omega))
  refine hK.out _ _ (by (try dsimp only); go_keep) (fun hHeld => ?_); clear hK K; (try simp only [Act.put, List.setIfInBounds_toArray, List.set_cons_zero, List.set_cons_succ])
  refine held_on (i := 10) (N := (some 5)) (v := ?_) #[true, true, true, true, true, true, true, true, true, true, true, false] rfl rfl (by kernel_rfl) (fun _ _ _ h => h) (by rfl) ?_ (by assumption) ?_
  rotate_left; (intro w hSw; (try dsimp only at hSw); go_simp); (try with_reducible rfl); (simp only [Act.put, List.setIfInBounds_toArray, List.set_cons_zero, List.set_cons_succ])
  refine held_on (i := 11) (N := (some 6)) (v := ?_) #[true, true, true, true, true, true, true, true, true, true, true, true] rfl rfl (by kernel_rfl) (fun _ _ _ h => h) (by rfl) ?_ (by assumption) ?_
  rotate_left; (intro w hSw; (try dsimp only at hSw); go_simp); (try with_reducible rfl); (simp only [Act.put, List.setIfInBounds_toArray, List.set_cons_zero, List.set_cons_succ])
  refine held_done (by kernel_rfl) ?_
  have hl1 := quorumsR_len (votesR ⟨v, wi, l, e, c⟩) e
  have hl2 := quorumsR_len (votesR ⟨v', wi', l', e', c'⟩) c'
  have hu1 : ∀ x ∈ quorumsR (votesR ⟨v, wi, l, e, c⟩) e, U x := fun x h => quorums_u h
  have hu2 : ∀ x ∈ quorumsR (votesR ⟨v', wi', l', e', c'⟩) c', U x := fun x h => quorums_u h
  have hb35 : Below w3.heap.size w3 w5 := ((Below.refl _ _).alloc (Nat.le_refl _) _).trans (hb5.mono (by simp))
  have hr1 : Row w5 w5.heap.size A1 (setsV (quorumsR (votesR ⟨v, wi, l, e, c⟩) e)) := (hrow1.below hb35).more hb35.size
  have hbw : Below w.heap.size w w5 := by
    have g2 : Below w.heap.size w w3 := ((((((Below.refl _ _).alloc (Nat.le_refl _) _).alloc (by simp) _).drew).alloc (by simp; omega) _)).trans (hb3.mono (by simp; omega))
    exact g2.trans (hb35.mono (by omega))
  have HM : Hid (meetR ⟨v, wi, l, e, c⟩ ⟨v', wi', l', e', c'⟩ = meetB (quorumsR (votesR ⟨v, wi, l, e, c⟩) e) (quorumsR (votesR ⟨v', wi', l', e', c'⟩) c')) := Lib.hid rfl
  generalize quorumsR (votesR ⟨v, wi, l, e, c⟩) e = l1 at *
  generalize quorumsR (votesR ⟨v', wi', l', e', c'⟩) c' = l2 at *
  have R1 := Lib.hid hr1
  have R2 := Lib.hid hrow2
  have U1 := Lib.hid hu1
  have U2 := Lib.hid hu2
  clear hr1 hrow2 hu1 hu2 hrow1 p3 q3 p5 q5 hb3 hb5 hb35 HQ1 HQ2 HV HW HV' HW' z3 hHeld
  go_wp2
  go_loopw [7] (fun i wr => ∃ k : Nat, k ≤ l1.length ∧ i = .int .i64 k ∧ Hid (meetB (l1.take k) l2 = true) ∧ Below w.heap.size w wr ∧ Below w5.heap.size w5 wr) (fun i _ => l1.length - (intOf i).toNat)
  case atStart => exact ⟨0, Nat.zero_le _, rfl, rfl, hbw, Below.refl _ _⟩
  case round =>
    obtain ⟨k, hk, rfl, HK, hb, hb5⟩ := hrel
    by_cases hlt : k < l1.length
    · obtain ⟨wo, rfl⟩ : ∃ wo : World, wo = wr := ⟨_, rfl⟩
      have HT := Lib.hid (meetB_take (y := l2) hlt)
      obtain ⟨b1, o1, rfl, hB1, hc1⟩ := R1.out.at_ (sets_at hlt)
      have UX : Hid (U (l1.getD k 0)) := U1.out _ (by simp [List.getD, List.getElem?_eq_getElem hlt])
      have HF : Hid (∀ m, m < l2.length → msk (inter (l1.getD k 0) (l2.getD m 0)) = 0 → meetB l1 l2 = false) := Lib.hid fun m hm hz => meetB_false hlt hm hz
      generalize l1.getD k 0 = x1 at *
      go_wp2
      go_loopw [8] (fun j wr => ∃ m : Nat, m ≤ l2.length ∧ j = .int .i64 m ∧ Hid ((l2.take m).all (fun b => msk (inter x1 b) != 0) = true) ∧ Below w.heap.size w wr ∧ Below w5.heap.size w5 wr) (fun j _ => l2.length - (intOf j).toNat)
      case atStart => exact ⟨0, Nat.zero_le _, rfl, rfl, hb, hb5⟩
      case round =>
        obtain ⟨m, hm, rfl, HJ, hbi, hbi5⟩ := hrel
        by_cases hlm : m < l2.length
        · obtain ⟨b2, o2, rfl, hB2, hc2⟩ := R2.out.at_ (sets_at hlm)
          have UY : Hid (U (l2.getD m 0)) := U2.out _ (by simp [List.getD, List.getElem?_eq_getElem hlm])
          have HTJ := Lib.hid (all_take (p := fun b => msk (inter x1 b) != 0) hlm)
          have HFJ := Lib.hid (HF.out m hlm)
          generalize l2.getD m 0 = x2 at *
          have d1 : wr.cell? ⟨b1, o1 + k, none⟩ = some (.int .u16 x1) := (hbi5.cell (p := ⟨b1, o1 + k, none⟩) hB1).trans hc1
          have d2 : wr.cell? ⟨b2, o2 + m, none⟩ = some (.int .u16 x2) := (hbi5.cell (p := ⟨b2, o2 + m, none⟩) hB2).trans hc2
          clear hc1 hc2
          by_cases hz : msk (inter x1 x2) = 0
          · have hz1 : (msk (inter x1 x2) == 0) = true := by simpa using hz
            have HE : Hid (meetB l1 l2 = false) := Lib.hid (HFJ.out hz)
            clear hz
            go_wp2_with fail
            go_quiet ((go_at_call 35; exact Calls.quiet_of_same ((rmeet_calls _ _ _ UX.out UY.out).mono fun _ _ hh => ⟨hh.1, hh.2.symm⟩)))
            go_wp2
            go_ret
            exact ⟨ret_bool (HM.out.trans HE.out).symm, below_drewN hbi _⟩
          · have hz1 : (msk (inter x1 x2) == 0) = false := by simpa using hz
            have HN : Hid ((l2.take (m + 1)).all (fun b => msk (inter x1 b) != 0) = true) := by show _ = _; rw [HTJ.out, HJ.out]; simpa using hz
            clear hz HTJ
            go_wp2_with fail
            go_quiet ((go_at_call 35; exact Calls.quiet_of_same ((rmeet_calls _ _ _ UX.out UY.out).mono fun _ _ hh => ⟨hh.1, hh.2.symm⟩)))
            go_wp2
            go_roundw
            case rel => exact ⟨m + 1, by omega, by go_num, HN, below_drewN hbi _, below_drewN hbi5 _⟩
            case measure => simp [intOf]; omega
        · obtain rfl : m = l2.length := by omega
          have HN : Hid (meetB (l1.take (k + 1)) l2 = true) := by
            have := HJ.out
            rw [List.take_length] at this
            show _ = _
            rw [HT.out, HK.out, this]
            rfl
          go_wp2
          go_roundw
          case rel => exact ⟨k + 1, by omega, by go_num, HN, hbi, hbi5⟩
          case measure => simp [intOf]; omega
    · obtain rfl : k = l1.length := by omega
      have HN : Hid (meetB l1 l2 = true) := by
        have := HK.out
        rw [List.take_length] at this
        exact this
      go_wp2
      go_ret
      exact ⟨ret_bool (HM.out.trans HN.out).symm, hb⟩
end Go.Proofs.Ytcciejglemfebaa
