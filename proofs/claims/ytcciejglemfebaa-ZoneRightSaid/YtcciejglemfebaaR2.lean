/- The document's answer to sets (List, Count, May), each by a contract. -/
import Derived.Test.YtcciejglemfebaaR1
import Derived.Test.YtcciejglemfebaaP5
import Derived.Test.YtcciejglemfebaaM0
namespace Go.Proofs.Ytcciejglemfebaa
open Go.RowKit

theorem int_info : (Try.prog.info? 3).map (fun i => (i.zero, i.size, i.bytes)) = some (some (.int .i64 0), 1, 8) := by kernel_rfl

/-- A row of whole numbers of the call's own, as a slice that reads as a list. -/
theorem ints_of_own {w : World} {base : Nat} {v : Value} {l : List Int} (h : w.ownsRow base 3 1 v l.length (l.map (Value.int .i64))) :
    ∃ A c, v = .slice A l.length c ∧ l.length ≤ c ∧ Ints w w.heap.size A l := by
  rcases h.2 with ⟨hv, hn⟩ | ⟨g, cap, cur, hv, _, hg, hnc, _, _, _⟩
  · exact ⟨none, 0, by rw [hv, hn], by omega, by rw [List.eq_nil_of_length_eq_zero hn]; exact Ints.nil_⟩
  · subst hv
    refine ⟨_, cap, rfl, hnc, fun _ => ⟨g, 0, rfl, ?_, fun k hk => ?_⟩⟩
    · exact Block.lt (t := 3) (cs := cur) hg
    · rw [Nat.zero_add, h.cellAt k (by omega), List.getElem?_map]
      simp [List.getElem?_eq_getElem hk, List.getD]

set_option maxHeartbeats 800000 in
theorem rlist_calls (s : Int) (w : World) (hs : U s) :
    Calls Try.prog 74 #[.int .u16 s] w fun e w' => ∃ A c, e = .returned (.slice A (listOf s).length c) ∧ (listOf s).length ≤ c ∧ Ints w' w'.heap.size A (listOf s) ∧ Below w.heap.size w w' := by
  obtain ⟨i0, hi, hz0, hz1, hz2⟩ := info_parts int_info
  have HS := Lib.hid hs
  clear hs
  go_enter Try.func74, Try.ntmps74
  go_wp2
  go_loopw [3, 4] (fun v i wr => ∃ k : Nat, k ≤ 9 ∧ i = .int .i64 ((k : Int) + 1) ∧ wr.ownsRow w.heap.size 3 1 v (listUp s k).length ((listUp s k).map (Value.int .i64)) ∧ Below w.heap.size w wr) (fun _ i _ => 10 - (intOf i).toNat)
  case atStart => exact ⟨0, by omega, rfl, World.ownsRow_nil _ _ _ _, Below.refl _ _⟩
  case round =>
    obtain ⟨k, hk, rfl, hown, hb⟩ := hrel
    have hlen := listUp_len s k
    by_cases hlt : k < 9
    · cases h1 : hasB s ((k : Int) + 1) with
      | false =>
        have HN : Hid (listUp s (k + 1) = listUp s k) := listUp_off h1
        go_wp2_with (go_at_call 32; refine (rhas_calls _ _ _ HS.out).mono ?_; rintro e w' ⟨rfl, rfl⟩)
        go_roundw
        case rel => exact ⟨k + 1, by omega, by go_num, by rw [HN.out]; exact hown, hb⟩
        case measure => simp [intOf]; omega
      | true =>
        have HN : Hid (listUp s (k + 1) = listUp s k ++ [(k : Int) + 1]) := listUp_on h1
        go_wp2_with (first
          | (go_at_call 32; refine (rhas_calls _ _ _ HS.out).mono ?_; rintro e w' ⟨rfl, rfl⟩)
          | (at_builtin; refine wpList_append_own _ rfl _ _ 45 rfl w.heap.size 3 i0 (.int .i64 0) 1 8 Try.underlying45 hi hz0 hz1 hz2 rfl (by decide) _ _ _ rfl (hown.alloc _) ⟨wr.heap.size, 0, none⟩ 1 1 [.int .i64 ((k : Int) + 1)] rfl rfl ?c1 ?c2 ?c3 ?c4 ?c5 ?_))
        case c1 =>
          intro j u hj
          match j, hj with
          | 0, hj => simp at hj; subst hj; simp [Addr.add]
        case c2 => intro u hu; simp at hu; subst hu; rfl
        case c3 => unfold maxLen; omega
        case c4 => omega
        case c5 => have := hb.size; simp; omega
        intro v' w1 hown' hgrow _
        have hb1 : Below w.heap.size w w1 := (hb.alloc hb.size _).grown hgrow (by have := hb.size; simp; omega) (fun j hj => (hown.lt j hj).1)
        have HO : Hid (w1.ownsRow w.heap.size 3 1 v' (listUp s (k + 1)).length ((listUp s (k + 1)).map (Value.int .i64))) := by
          show World.ownsRow _ _ _ _ _ _ _
          rw [HN.out, List.length_append, List.map_append]
          exact hown'
        clear hown' hgrow hown hb
        go_wp2
        go_roundw
        case rel => exact ⟨k + 1, by omega, by go_num, HO.out, hb1⟩
        case measure => simp [intOf]; omega
    · obtain rfl : k = 9 := by omega
      obtain ⟨A, c, rfl, hc, hint⟩ := ints_of_own hown
      go_wp2
      go_ret
      exact ⟨A, c, rfl, hc, hint, hb⟩
theorem rcount_calls (s : Int) (w : World) (hs : U s) :
    Calls Try.prog 44 #[.int .u16 s] w fun e w' => e = .returned (.int .i64 (cnt s)) ∧ Below w.heap.size w w' := by
  have HL := Lib.hid (listOf_len s)
  go_enter Try.func44, Try.ntmps44
  go_wp2_with fail
  refine (rlist_calls s _ hs).mono ?_
  rintro e w1 ⟨A, c, rfl, hc, hint, hb⟩
  go_wp2_with fail
  go_ret
  exact ⟨ret_int HL.out, hb⟩

theorem powers_step {l : List Int} {k : Nat} (h : k < l.length) : powers (l.take (k + 1)) = powers (l.take k) + one (l.getD k 0) := by
  rw [List.take_succ_eq_append_getElem h, powers_snoc]
  simp [List.getD, List.getElem?_eq_getElem h]

set_option maxHeartbeats 800000 in
theorem rmay_calls (s : Int) (w : World) (hs : U s) :
    Calls Try.prog 70 #[.int .u16 s] w fun e w' => e = .returned (.bool (mayB s)) ∧ Below w.heap.size w w' := by
  rw [← powers_may hs]
  have hle := listOf_le s
  have hnode : ∀ n ∈ listOf s, 1 ≤ n ∧ n ≤ 9 := fun n h => listOf_node h
  have hlist := rlist_calls s w hs
  generalize listOf s = l at *
  have HN := Lib.hid hnode
  have HL := Lib.hid hlist
  have s1 := hs.1
  have s2 := hs.2
  clear hnode hlist hs
  go_enter Try.func70, Try.ntmps70
  go_wp2_with fail
  refine HL.out.mono ?_
  rintro e w1 ⟨A, c, rfl, hc, hint, hb⟩
  have HI := Lib.hid hint
  clear hint HL
  go_wp2_with fail
  go_loop [3, 5] (fun v i => ∃ k : Nat, k ≤ l.length ∧ i = .int .i64 k ∧ v = .int .i64 (powers (l.take k))) (fun _ i => l.length - (intOf i).toNat)
  case atStart => exact ⟨0, Nat.zero_le _, rfl, rfl⟩
  case round =>
    obtain ⟨k, hk, rfl, rfl⟩ := hrel
    by_cases hlt : k < l.length
    · obtain ⟨b, o, rfl, hbB, hc1⟩ := HI.out.at_ hlt
      have HS := Lib.hid (powers_step hlt)
      have hp := powers_bound (l.take k) (fun n hn => HN.out n (List.mem_of_mem_take hn))
      have hn1 : 1 ≤ l.getD k 0 ∧ l.getD k 0 ≤ 9 := HN.out _ (by simp [List.getD, List.getElem?_eq_getElem hlt])
      have hb1 := one_bound hn1
      have hl2 : ((l.take k).length : Int) ≤ 9 := by have := List.length_take_le k l; omega
      have p1 : 0 ≤ powers (l.take k) := hp.1
      have p2 : powers (l.take k) ≤ 10000 := by have := hp.2; omega
      have HB := Lib.hid (bit_calls (l.getD k 0))
      generalize powers (l.take k) = x at *
      generalize l.getD k 0 = n at *
      generalize one n = b2 at *
      have q1 := hb1.1
      have q2 := hb1.2
      clear hp hn1 hb1 hl2
      go_wp2_with (go_at_call 60; refine (HB.out _).mono ?_; rintro e w' ⟨rfl, rfl⟩)
      go_round
      case rel => exact ⟨k + 1, by omega, by go_num, by rw [HS.out]⟩
      case measure => simp [intOf]; omega
    · obtain rfl : k = l.length := by omega
      go_wp2
      go_ret
      exact ⟨rfl, hb⟩
end Go.Proofs.Ytcciejglemfebaa
