/- The document's answer: Subsets, quorums, Votes, each by a contract. -/
import Derived.Test.YtcciejglemfebaaR2
import Derived.Test.YtcciejglemfebaaM2
import Derived.Test.YtcciejglemfebaaP6
import Derived.Test.YtcciejglemfebaaC1
namespace Go.Proofs.Ytcciejglemfebaa
open Go.RowKit

theorem set_info : (Try.prog.info? 23).map (fun i => (i.zero, i.size, i.bytes)) = some (some (.int .u16 0), 1, 2) := by kernel_rfl

set_option maxHeartbeats 1600000 in
set_option maxRecDepth 20000 in
theorem rsubsets_calls (s : Int) (w : World) (hs : U s) :
    Calls Try.prog 84 #[.int .u16 s] w fun e w' => ∃ A c, e = .returned (.slice A (subsets s).length c) ∧ Row w' w'.heap.size A (setsV (subsets s)) ∧ Below w.heap.size w w' := by
  obtain ⟨i0, hi, hz0, hz1, hz2⟩ := info_parts set_info
  have HS := Lib.hid hs
  clear hs
  go_enter Try.func84, Try.ntmps84
  go_wp2
  go_loopw [3, 4] (fun v i wr => ∃ k : Nat, k ≤ 1024 ∧ i = .int .i64 k ∧ wr.ownsRow w.heap.size 23 1 v (subsUp s k).length (setsV (subsUp s k)) ∧ Below w.heap.size w wr) (fun _ i _ => 1024 - (intOf i).toNat)
  case atStart => exact ⟨0, by omega, rfl, World.ownsRow_nil _ _ _ _, Below.refl _ _⟩
  case round =>
    obtain ⟨k, hk, rfl, hown, hb⟩ := hrel
    have hlen := subsUp_len s k
    by_cases hlt : k < 1024
    · have HU : Hid (U (k : Int)) := ⟨by omega, by omega⟩
      cases h1 : mayB (k : Int) with
      | false =>
        have HN : Hid (subsUp s (k + 1) = subsUp s k) := subsUp_off (by unfold subP; rw [h1]; rfl)
        go_wp2_with fail
        refine (rmay_calls _ _ HU.out).mono ?_; rintro e w1 ⟨rfl, hb1⟩
        have HO : Hid (w1.ownsRow w.heap.size 23 1 _ (subsUp s k).length (setsV (subsUp s k))) := own_below hown hb1
        clear hown
        go_wp2_with fail
        go_roundw
        case rel => exact ⟨k + 1, by omega, by go_num, by rw [HN.out]; exact HO.out, hb.trans (hb1.mono hb.size)⟩
        case measure => simp [intOf]; omega
      | true =>
        cases h2 : (msk (inter (k : Int) s) == (k : Int)) with
        | false =>
          have HN : Hid (subsUp s (k + 1) = subsUp s k) := subsUp_off (by unfold subP; rw [h1, h2]; rfl)
          go_wp2_with fail
          refine (rmay_calls _ _ HU.out).mono ?_; rintro e w1 ⟨rfl, hb1⟩
          have HO : Hid (w1.ownsRow w.heap.size 23 1 _ (subsUp s k).length (setsV (subsUp s k))) := own_below hown hb1
          clear hown
          go_wp2_with fail
          refine (rmeet_calls _ _ _ HU.out HS.out).mono ?_; rintro e w2 ⟨rfl, rfl⟩
          go_wp2_with fail
          go_roundw
          case rel => exact ⟨k + 1, by omega, by go_num, by rw [HN.out]; exact HO.out, hb.trans (hb1.mono hb.size)⟩
          case measure => simp [intOf]; omega
        | true =>
          have HN : Hid (subsUp s (k + 1) = subsUp s k ++ [(k : Int)]) := subsUp_on (by unfold subP; rw [h1, h2]; rfl)
          go_wp2_with fail
          refine (rmay_calls _ _ HU.out).mono ?_; rintro e w1 ⟨rfl, hb1⟩
          have hown1 := own_below hown hb1
          have hb2 : Below w.heap.size w w1 := hb.trans (hb1.mono hb.size)
          clear hown hb hb1
          go_wp2_with fail
          refine (rmeet_calls _ _ _ HU.out HS.out).mono ?_; rintro e w2 ⟨rfl, rfl⟩
          go_wp2_with (at_builtin; refine wpList_append_own _ rfl _ _ 52 rfl w.heap.size 23 i0 (.int .u16 0) 1 2 Try.underlying52 hi hz0 hz1 hz2 rfl (by decide) _ _ _ rfl (hown1.alloc _) ⟨w1.heap.size, 0, none⟩ 1 1 [.int .u16 (k : Int)] rfl rfl ?c1 ?c2 ?c3 ?c4 ?c5 ?_)
          case c1 =>
            intro j u hj
            match j, hj with
            | 0, hj => simp at hj; subst hj; simp [Addr.add]
          case c2 => intro u hu; simp at hu; subst hu; rfl
          case c3 => unfold maxLen; omega
          case c4 => omega
          case c5 => have := hb2.size; simp; omega
          intro v' w3 hown' hgrow _
          have hb3 : Below w.heap.size w w3 := below_append hb2 hown1 (Nat.le_refl _) hb2.size hgrow
          have HO : Hid (w3.ownsRow w.heap.size 23 1 v' (subsUp s (k + 1)).length (setsV (subsUp s (k + 1)))) := by
            show World.ownsRow _ _ _ _ _ _ _
            rw [HN.out, List.length_append, setsV_app]
            exact hown'
          clear hown' hgrow hown1 hb2
          go_wp2
          go_roundw
          case rel => exact ⟨k + 1, by omega, by go_num, HO.out, hb3⟩
          case measure => simp [intOf]; omega
    · obtain rfl : k = 1024 := by omega
      obtain ⟨A, c, rfl, _, hint⟩ := row_of_own hown
      go_wp2
      go_ret
      exact ⟨A, c, rfl, hint, hb⟩
theorem take_filter {p : Int → Bool} {l : List Int} {k : Nat} (h : k < l.length) :
    (l.take (k + 1)).filter p = if p (l.getD k 0) then (l.take k).filter p ++ [l.getD k 0] else (l.take k).filter p := by
  rw [List.take_succ_eq_append_getElem h, List.filter_append]
  have e : l.getD k 0 = l[k] := by simp [List.getD, List.getElem?_eq_getElem h]
  rw [e]
  cases hp : p l[k] <;> simp [hp]

set_option maxHeartbeats 1600000 in
theorem rquorums_calls (s n : Int) (w : World) (hs : U s) :
    Calls Try.prog 61 #[.int .u16 s, .int .i64 n] w fun e w' => ∃ A c, e = .returned (.slice A (quorumsR s n).length c) ∧ Row w' w'.heap.size A (setsV (quorumsR s n)) ∧ Below w.heap.size w w' := by
  obtain ⟨i0, hi, hz0, hz1, hz2⟩ := info_parts set_info
  have hsub := rsubsets_calls s w hs
  have hu : ∀ x ∈ subsets s, U x := fun x h => subsets_u h
  have hlen : (subsets s).length ≤ 1024 := subsUp_len s 1024
  unfold quorumsR
  generalize subsets s = l at *
  have HS := Lib.hid hsub
  have HU := Lib.hid hu
  clear hs hsub hu
  go_enter Try.func61, Try.ntmps61
  go_wp2_with fail
  refine HS.out.mono ?_
  rintro e w1 ⟨A, c, rfl, hrow, hb1⟩
  have HR := Lib.hid hrow
  clear hrow HS
  go_wp2_with fail
  go_loopw [5, 7] (fun v i wr => ∃ k : Nat, k ≤ l.length ∧ i = .int .i64 k ∧ wr.ownsRow w1.heap.size 23 1 v (ofSize n (l.take k)).length (setsV (ofSize n (l.take k))) ∧ Below w1.heap.size w1 wr) (fun _ i _ => l.length - (intOf i).toNat)
  case atStart => exact ⟨0, by omega, rfl, World.ownsRow_nil _ _ _ _, Below.refl _ _⟩
  case round =>
    obtain ⟨k, hk, rfl, hown, hb⟩ := hrel
    have hlen2 : (ofSize n (l.take k)).length ≤ k := Nat.le_trans (List.length_filter_le _ _) (List.length_take_le _ _)
    by_cases hlt : k < l.length
    · obtain ⟨b, o, rfl, hbB, hc1⟩ := (HR.out.below hb).at_ (sets_at hlt)
      have HX : Hid (U (l.getD k 0)) := HU.out _ (by simp [List.getD, List.getElem?_eq_getElem hlt])
      have HT := Lib.hid (take_filter (p := fun x => cnt x == n) hlt)
      cases h1 : (cnt (l.getD k 0) == n) with
      | false =>
        have HN : Hid (ofSize n (l.take (k + 1)) = ofSize n (l.take k)) := by show _ = _; unfold ofSize; rw [HT.out, if_neg (by rw [h1]; exact Bool.false_ne_true)]
        generalize l.getD k 0 = x at *
        clear HT
        go_wp2_with fail
        refine (rcount_calls _ _ HX.out).mono ?_; rintro e w2 ⟨rfl, hb2⟩
        have HO : Hid (w2.ownsRow w1.heap.size 23 1 _ (ofSize n (l.take k)).length (setsV (ofSize n (l.take k)))) := own_below hown hb2
        have hb3 : Below w1.heap.size w1 w2 := hb.trans (hb2.mono hb.size)
        clear hown hb2
        go_wp2_with fail
        go_roundw
        case rel => exact ⟨k + 1, by omega, by go_num, by rw [HN.out]; exact HO.out, hb3⟩
        case measure => simp [intOf]; omega
      | true =>
        have HN : Hid (ofSize n (l.take (k + 1)) = ofSize n (l.take k) ++ [l.getD k 0]) := by show _ = _; unfold ofSize; rw [HT.out, if_pos h1]
        generalize l.getD k 0 = x at *
        clear HT
        go_wp2_with fail
        refine (rcount_calls _ _ HX.out).mono ?_; rintro e w2 ⟨rfl, hb2⟩
        have hown1 := own_below hown hb2
        have hb3 : Below w1.heap.size w1 w2 := hb.trans (hb2.mono hb.size)
        have hc2 : w2.cell? ⟨b, o + k, none⟩ = some (.int .u16 x) := (hb2.cell (p := ⟨b, o + k, none⟩) (by have := hb.size; show b < _; omega)).trans hc1
        clear hown hb2 hb hc1
        go_wp2_with (at_builtin; refine wpList_append_own _ rfl _ _ 52 rfl w1.heap.size 23 i0 (.int .u16 0) 1 2 Try.underlying52 hi hz0 hz1 hz2 rfl (by decide) _ _ _ rfl (hown1.alloc _) ⟨w2.heap.size, 0, none⟩ 1 1 [.int .u16 x] rfl rfl ?c1 ?c2 ?c3 ?c4 ?c5 ?_)
        case c1 =>
          intro j u hj
          match j, hj with
          | 0, hj => simp at hj; subst hj; simp [Addr.add]
        case c2 => intro u hu; simp at hu; subst hu; rfl
        case c3 => unfold maxLen; omega
        case c4 => omega
        case c5 => have := hb3.size; simp; omega
        intro v' w3 hown' hgrow _
        have hb4 : Below w1.heap.size w1 w3 := below_append hb3 hown1 (Nat.le_refl _) hb3.size hgrow
        have HO : Hid (w3.ownsRow w1.heap.size 23 1 v' (ofSize n (l.take (k + 1))).length (setsV (ofSize n (l.take (k + 1))))) := by
          show World.ownsRow _ _ _ _ _ _ _
          rw [HN.out, List.length_append, setsV_app]
          exact hown'
        clear hown' hgrow hown1 hb3
        go_wp2
        go_roundw
        case rel => exact ⟨k + 1, by omega, by go_num, HO.out, hb4⟩
        case measure => simp [intOf]; omega
    · obtain rfl : k = l.length := by omega
      rw [List.take_length] at hown
      obtain ⟨A', c', rfl, _, hint⟩ := row_of_own hown
      go_wp2
      go_ret
      exact ⟨A', c', rfl, hint, hb1.trans (hb.mono hb1.size)⟩

theorem rvotes_calls (v wi l e c : Int) (w : World) (hv : U v) (hw : U wi) :
    Calls Try.prog 62 #[.agg (cells v wi l e c)] w fun x w' => x = .returned (.int .u16 (votesR ⟨v, wi, l, e, c⟩)) ∧ w.alloc (.cells (cells v wi l e c) 33) = w' := by
  go_enter Try.func62, Try.ntmps62
  go_wp2_with fail
  refine (rjoin_calls _ _ _ hv hw).mono ?_; rintro e w2 ⟨rfl, rfl⟩
  go_wp2_with fail
  go_ret
  exact ⟨rfl, rfl⟩
end Go.Proofs.Ytcciejglemfebaa
