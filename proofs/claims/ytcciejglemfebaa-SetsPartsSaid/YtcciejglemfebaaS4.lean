/- What antipodelaw9.begun and antipodelaw9.SetsParts answer: true; memory that was there is as it was. -/
import Derived.Test.YtcciejglemfebaaS3
namespace Go.Proofs.Ytcciejglemfebaa
open Go.RowKit

theorem of_31 (b : Nat) (c : Nat) (w : World) (h0 : w.cell? ⟨b, 0, none⟩ = some (.int .i64 3)) (h1 : w.cell? ⟨b, 1, none⟩ = some (.int .i64 1)) :
    Calls Try.prog 57 #[.slice (some ⟨b, 0, none⟩) 2 c] w fun e w' => e = .returned (.tuple #[.int .u16 10, .int .i64 0]) ∧ w = w' := by
  have h : Ints w (b + 1) (some ⟨b, 0, none⟩) [3, 1] := fun _ => ⟨b, 0, rfl, by omega, fun k hk => by
    have : k = 0 ∨ k = 1 := by simp at hk; omega
    rcases this with rfl | rfl
    · exact h0
    · exact h1⟩
  have e : ofGo 0 [3, 1] = (10, 0) := by decide +kernel
  have c := of_calls (some ⟨b, 0, none⟩) c [3, 1] (b + 1) w (by simp) h
  rw [e] at c
  exact c

theorem count_10 (w : World) : Calls Try.prog 16 #[.int .u16 10] w fun e w' => e = .returned (.int .i64 2) ∧ Drawn w w' := by
  have c := count_calls 10 w
  rw [show cnt 10 = 2 from by decide +kernel] at c
  exact c

theorem has_10_3 (w : World) : Calls Try.prog 58 #[.int .u16 10, .int .i64 3] w fun e w' => e = .returned (.bool true) ∧ w = w' := by
  have c := has_calls 10 3 w
  rw [show hasB 10 3 = true from by decide +kernel] at c
  exact c

theorem subsets_10 (b : Nat) (w : World) (hB : Block w b 28 #[.int .i64 0, .int .i64 (-1), .int .i64 (-1), .bool true, .int .u16 10]) :
    Calls Try.prog 17 #[.int .u16 10, .func (Fn.func 18) #[.pointer (some ⟨b, 0, none⟩)] #[]] w fun e w' => e = .returned (.tuple #[]) ∧
      w'.cell? ⟨b, 0, none⟩ = some (.int .i64 4) ∧ Below b w w' := by
  refine (subsets_calls 10 10 (by decide +kernel) (by decide) 4 (by decide +kernel) (by decide) b (-1) w hB).mono ?_
  rintro e w' ⟨rfl, ⟨last, h⟩, hb⟩
  exact ⟨rfl, h.cell 0, hb⟩

set_option maxHeartbeats 800000 in
theorem begun9 (w : World) : Calls Try.prog 15 #[] w fun e w' => e = .returned (.bool true) ∧ Below w.heap.size w w' := by
  go_enter Try.func15, Try.ntmps15
  go_wp2_with fail
  refine (of_31 _ _ _ ?_ ?_).mono ?_
  · simp [go_sem]
  · simp [go_sem]
  rintro e w' ⟨rfl, rfl⟩
  go_wp2_with fail
  refine (subsets_10 _ _ ?_).mono ?_
  · exact Block.mk_new _ _ _ (by simp)
  rintro e w1 ⟨rfl, hc, hb⟩
  go_wp2_with (first | (go_at_call 16; refine (count_10 _).mono ?_; rintro e w2 ⟨rfl, m, rfl⟩) | (go_at_call 58; refine (has_10_3 _).mono ?_; rintro e w3 ⟨rfl, rfl⟩))
  go_ret
  exact ⟨rfl, below_drewN ((((Below.refl _ _).alloc (Nat.le_refl _) _).alloc (by simp) _).trans (hb.mono (by simp))) _⟩

theorem subsets_nil (s : Int) (w : World) : Calls Try.prog 17 #[.int .u16 s, .nilFunc] w fun e w' => e = .returned (.tuple #[]) ∧ w = w' := by
  have hq : ∀ w', Sem.run Try.prog (binOp .eql 30 .nilFunc .nilFunc) w' = .ok (.bool true) w' := fun _ => by kernel_rfl
  go_enter Try.func17, Try.ntmps17
  go_wp2
  refine bodyPost_ret (results_none rfl _ _ _) rfl ?_
  exact ⟨rfl, rfl⟩

/-- The counter behind it: its count, that all was well; what was there stays. -/
theorem subsets_all (S : Nat) (s : Int) (hs : inter s 1022 = (S : Int)) (hS : S ≤ 1022) (N : Nat) (hok : okFrom S N 0 = true) (hN : N ≤ 1000) (b : Nat) (stop T : Int) (hT : told stop N = T) (w : World)
    (hB : Block w b 28 #[.int .i64 0, .int .i64 (-1), .int .i64 stop, .bool true, .int .u16 S]) :
    Calls Try.prog 17 #[.int .u16 s, .func (Fn.func 18) #[.pointer (some ⟨b, 0, none⟩)] #[]] w fun e w' => e = .returned (.tuple #[]) ∧
      w'.cell? ⟨b, 0, none⟩ = some (.int .i64 T) ∧ w'.cell? ⟨b, 3, none⟩ = some (.bool true) ∧ Below b w w' := by
  subst hT
  refine (subsets_calls S s hs hS N hok hN b stop w hB).mono ?_
  rintro e w' ⟨rfl, ⟨last, h⟩, hb⟩
  exact ⟨rfl, h.cell 0, h.cell 3, hb⟩

set_option maxHeartbeats 800000 in
theorem parts_calls (s stop : Int) (w : World) (hs : U s) :
    Calls Try.prog 3 #[.int .u16 s, .int .i64 stop] w fun e w' => e = .returned (.bool true) ∧ Below w.heap.size w w' := by
  obtain ⟨n, hn, rfl⟩ : ∃ n : Nat, n < 65536 ∧ s = (n : Int) := ⟨s.toNat, by have := hs.2; omega, by have := hs.1; omega⟩
  obtain ⟨i, hi, hS⟩ := mask_even n
  have hcnt := cntN_cnt n hn
  have hok := okFrom_all i hi
  have hmask : bits .and .u16 (n : Int) 1022 = (((n &&& 1022 : Nat)) : Int) := u16_and_nat n 1022 hn (by decide)
  rw [← hS] at hok
  have hSle : n &&& 1022 ≤ 1022 := Nat.and_le_right
  generalize n &&& 1022 = S at *
  have hc9 : cntN S ≤ 9 := List.countP_le_length
  have hcount : ∀ w, Calls Try.prog 16 #[.int .u16 (n : Int)] w fun e w' => e = .returned (.int .i64 ((cntN S : Nat) : Int)) ∧ Drawn w w' := by
    rw [hcnt]
    exact count_calls _
  generalize cntN S = c at *
  have HCO := Lib.hid hcount
  have HOK := Lib.hid hok
  clear hcount hok hcnt hS hi hs
  go_enter Try.func3, Try.ntmps3
  go_wp2_with (go_at_call 15; refine (begun9 _).mono ?_; rintro e w1 ⟨rfl, hb1⟩)
  go_loopw [6, 7] (fun v u wr => ∃ k p : Nat, k ≤ c ∧ u = .int .i64 k ∧ v = .int .i64 p ∧ Hid (p = 2 ^ k) ∧ Below w.heap.size w wr) (fun _ u _ => c - (intOf u).toNat)
  case atStart => exact ⟨0, 1, Nat.zero_le _, rfl, rfl, rfl, hb1⟩
  case round =>
    obtain ⟨k, p, hk, rfl, rfl, HP, hb⟩ := hrel
    have hp : p ≤ 512 := by
      rw [HP.out]
      exact Nat.pow_le_pow_right (by omega) (show k ≤ 9 by omega)
    by_cases hlt : k < c
    · have hk1 : k + 1 ≤ c := hlt
      have HP1 : Hid (p * 2 = 2 ^ (k + 1)) := by show _ = _; rw [HP.out, Nat.pow_succ]
      have HL : Hid (k < c) := hlt
      go_wp2_with (go_at_call 16; refine (HCO.out _).mono ?_; rintro e w2 ⟨rfl, m, rfl⟩)
      go_roundw
      case rel => exact ⟨k + 1, p * 2, by omega, by go_num, by go_num, HP1, below_drewN hb m⟩
      case measure => simp [intOf]; omega
    · obtain rfl : k = c := by omega
      have hok' : okFrom S p 0 = true := by rw [HP.out]; exact HOK.out
      have HOK' := Lib.hid hok'
      have HM := Lib.hid hmask
      clear hok' hmask HOK
      by_cases h1 : 1 ≤ stop
      · by_cases h2 : stop ≤ p
        · have hT : Hid (told stop p = stop) := by show _ = _; unfold told; rw [if_pos ⟨h1, h2⟩]
          go_wp2_with (go_at_call 16; refine (HCO.out _).mono ?_; rintro e w2 ⟨rfl, m, rfl⟩)
          refine (subsets_all S _ HM.out hSle p HOK'.out (by omega) wr.heap.size stop _ hT.out _ ?_).mono ?_
          · exact Block.mk_new _ _ _ (by simp)
          rintro e w3 ⟨rfl, d0, d3, hb3⟩
          clear hT
          go_wp2_with (go_at_call 17; refine (subsets_nil _ _).mono ?_; rintro e w2 ⟨rfl, rfl⟩)
          go_ret
          exact ⟨rfl, (below_drewN hb m).trans (((Below.refl _ _).alloc (by simpa using hb.size) _).trans (hb3.mono (by simpa using hb.size)))⟩
        · have hT : Hid (told stop p = p) := by show _ = _; unfold told; rw [if_neg (by omega)]
          go_wp2_with (go_at_call 16; refine (HCO.out _).mono ?_; rintro e w2 ⟨rfl, m, rfl⟩)
          refine (subsets_all S _ HM.out hSle p HOK'.out (by omega) wr.heap.size stop _ hT.out _ ?_).mono ?_
          · exact Block.mk_new _ _ _ (by simp)
          rintro e w3 ⟨rfl, d0, d3, hb3⟩
          clear hT
          go_wp2_with (go_at_call 17; refine (subsets_nil _ _).mono ?_; rintro e w2 ⟨rfl, rfl⟩)
          go_ret
          exact ⟨rfl, (below_drewN hb m).trans (((Below.refl _ _).alloc (by simpa using hb.size) _).trans (hb3.mono (by simpa using hb.size)))⟩
      · have hT : Hid (told stop p = p) := by show _ = _; unfold told; rw [if_neg (by omega)]
        go_wp2_with (go_at_call 16; refine (HCO.out _).mono ?_; rintro e w2 ⟨rfl, m, rfl⟩)
        refine (subsets_all S _ HM.out hSle p HOK'.out (by omega) wr.heap.size stop _ hT.out _ ?_).mono ?_
        · exact Block.mk_new _ _ _ (by simp)
        rintro e w3 ⟨rfl, d0, d3, hb3⟩
        clear hT
        go_wp2_with (go_at_call 17; refine (subsets_nil _ _).mono ?_; rintro e w2 ⟨rfl, rfl⟩)
        go_ret
        exact ⟨rfl, (below_drewN hb m).trans (((Below.refl _ _).alloc (by simpa using hb.size) _).trans (hb3.mono (by simpa using hb.size)))⟩
end Go.Proofs.Ytcciejglemfebaa
