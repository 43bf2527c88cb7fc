/- The document's List, its row the call's own; words for two rows side by side. -/
import Derived.Test.YtcciejglemfebaaDoorD3
namespace Go.Proofs.YtcciejglemfebaaDoor
open Go.RowKit

set_option maxHeartbeats 800000 in
theorem rlist_own (s : Int) (w : World) (hs : U s) :
    Calls Tryd.prog 9 #[.int .u16 s] w fun e w' => ∃ v, e = .returned v ∧ w'.ownsRow w.heap.size 3 1 v (listOf s).length ((listOf s).map (Value.int .i64)) ∧ Below w.heap.size w w' := by
  obtain ⟨i0, hi, hz0, hz1, hz2⟩ := info_parts int_info
  have HS := Lib.hid hs
  clear hs
  go_enter Tryd.func9, Tryd.ntmps9
  go_wp2
  go_loopw [3, 4] (fun v i wr => ∃ k : Nat, k ≤ 9 ∧ i = .int .i64 ((k : Int) + 1) ∧ wr.ownsRow w.heap.size 3 1 v (listUp s k).length ((listUp s k).map (Value.int .i64)) ∧ Below w.heap.size w wr) (fun _ i _ => 10 - (intOf i).toNat)
  case atStart => exact ⟨0, by omega, rfl, World.ownsRow_nil _ _ _ _, Below.refl _ _⟩
  case round =>
    obtain ⟨k, hk, rfl, hown, hb⟩ := hrel
    have hlen := listUp_len s k
    by_cases hlt : k < 9
    · cases h1 : hasB s ((k : Int) + 1) with
      | false =>
        have HN : Hid (listUp s (k + 1) = listUp s k) := listUp_off h1
        go_wp2_with (go_at_call 12; refine (rhas_calls _ _ _ HS.out).mono ?_; rintro e w' ⟨rfl, rfl⟩)
        go_roundw
        case rel => exact ⟨k + 1, by omega, by go_num, by rw [HN.out]; exact hown, hb⟩
        case measure => simp [intOf]; omega
      | true =>
        have HN : Hid (listUp s (k + 1) = listUp s k ++ [(k : Int) + 1]) := listUp_on h1
        go_wp2_with (first
          | (go_at_call 12; refine (rhas_calls _ _ _ HS.out).mono ?_; rintro e w' ⟨rfl, rfl⟩)
          | (at_builtin; refine wpList_append_own _ rfl _ _ 22 rfl w.heap.size 3 i0 (.int .i64 0) 1 8 Tryd.underlying22 hi hz0 hz1 hz2 rfl (by decide) _ _ _ rfl (hown.alloc _) ⟨wr.heap.size, 0, none⟩ 1 1 [.int .i64 ((k : Int) + 1)] rfl rfl ?c1 ?c2 ?c3 ?c4 ?c5 ?_))
        case c1 =>
          intro j u hj
          match j, hj with
          | 0, hj => simp at hj; subst hj; simp [Addr.add]
        case c2 => intro u hu; simp at hu; subst hu; rfl
        case c3 => unfold maxLen; omega
        case c4 => omega
        case c5 => have := hb.size; simp; omega
        intro v' w1 hown' hgrow _
        have hb1 : Below w.heap.size w w1 := (hb.alloc hb.size _).grown hgrow (by have := hb.size; simp; omega) (fun j hj => (hown.lt j hj).1)
        have HO : Hid (w1.ownsRow w.heap.size 3 1 v' (listUp s (k + 1)).length ((listUp s (k + 1)).map (Value.int .i64))) := by
          show World.ownsRow _ _ _ _ _ _ _
          rw [HN.out, List.length_append, List.map_append]
          exact hown'
        clear hown' hgrow hown hb
        go_wp2
        go_roundw
        case rel => exact ⟨k + 1, by omega, by go_num, HO.out, hb1⟩
        case measure => simp [intOf]; omega
    · obtain rfl : k = 9 := by omega
      go_wp2
      go_ret
      exact ⟨_, rfl, hown, hb⟩

/-- A row of whole numbers at the beginning of a block of its own, from block lo on. -/
def Cells0 (w : World) (lo : Nat) (A : Option Addr) (L : List Int) : Prop :=
  L ≠ [] → ∃ g cur, A = some ⟨g, 0, none⟩ ∧ lo ≤ g ∧ Block w g 3 cur ∧ ∀ j, j < L.length → cur[j]? = some (.int .i64 (L.getD j 0))

theorem cells0_of_own {w : World} {base : Nat} {v : Value} {L : List Int} (h : w.ownsRow base 3 1 v L.length (L.map (Value.int .i64))) :
    ∃ A c, v = .slice A L.length c ∧ Cells0 w base A L := by
  rcases h.2 with ⟨hv, hn⟩ | ⟨g, cap, cur, hv, hlo, hg, hnc, _, hsz, htk⟩
  · exact ⟨none, 0, by rw [hv, hn], fun hne => absurd (List.eq_nil_of_length_eq_zero hn) hne⟩
  · refine ⟨_, cap, hv, fun _ => ⟨g, cur, rfl, hlo, hg, fun j hj => ?_⟩⟩
    have e : (cur.toList.take (L.length * 1))[j]? = some (.int .i64 (L.getD j 0)) := by
      rw [htk, List.getElem?_map]
      simp [List.getElem?_eq_getElem hj, List.getD]
    rw [List.getElem?_take, if_pos (by omega)] at e
    simpa using e
theorem Cells0.below {w w' : World} {lo : Nat} {A : Option Addr} {L : List Int} (h : Cells0 w lo A L) (hb : Below w.heap.size w w') : Cells0 w' lo A L := fun hn => by
  obtain ⟨g, cur, e, hlo, hB, hc⟩ := h hn
  exact ⟨g, cur, e, hlo, hB.below hb hB.lt, hc⟩
theorem Cells0.drewN {w : World} {lo : Nat} {A : Option Addr} {L : List Int} (h : Cells0 w lo A L) (n : Nat) : Cells0 (w.drewN n) lo A L := h

/-- Two rows side by side, of the first only what stands from k on. -/
def Two (w : World) (lo : Nat) (A B : Option Addr) (L : List Int) (k : Nat) : Prop :=
  k < L.length → ∃ ga ca gb cb, A = some ⟨ga, 0, none⟩ ∧ B = some ⟨gb, 0, none⟩ ∧ ga ≠ gb ∧ lo ≤ ga ∧ Block w ga 3 ca ∧ Block w gb 3 cb ∧
    (∀ j, k ≤ j → j < L.length → ca[j]? = some (.int .i64 (L.getD j 0))) ∧ ∀ j, j < L.length → cb[j]? = some (.int .i64 (L.getD j 0))
theorem two_of {w1 w : World} {lo mid : Nat} {A B : Option Addr} {L : List Int} (h1 : Cells0 w1 lo A L) (hb : Below w1.heap.size w1 w) (hm : w1.heap.size ≤ mid) (h2 : Cells0 w mid B L) : Two w lo A B L 0 := fun hk => by
  have hn : L ≠ [] := by rintro rfl; simp at hk
  obtain ⟨ga, ca, ea, ha, hA, hca⟩ := h1 hn
  obtain ⟨gb, cb, eb, hb', hB, hcb⟩ := h2 hn
  have := hA.lt
  exact ⟨ga, ca, gb, cb, ea, eb, by omega, ha, hA.below hb hA.lt, hB, fun j _ h => hca j h, hcb⟩
theorem Two.below {w w' : World} {lo k : Nat} {A B : Option Addr} {L : List Int} (h : Two w lo A B L k) (hb : Below w.heap.size w w') : Two w' lo A B L k := fun hk => by
  obtain ⟨ga, ca, gb, cb, ea, eb, hne, hlo, hA, hB, hca, hcb⟩ := h hk
  exact ⟨ga, ca, gb, cb, ea, eb, hne, hlo, hA.below hb hA.lt, hB.below hb hB.lt, hca, hcb⟩
theorem Two.drewN {w : World} {lo k : Nat} {A B : Option Addr} {L : List Int} (h : Two w lo A B L k) (n : Nat) : Two (w.drewN n) lo A B L k := h
end Go.Proofs.YtcciejglemfebaaDoor
