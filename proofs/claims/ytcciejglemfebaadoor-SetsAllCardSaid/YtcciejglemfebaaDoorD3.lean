/- Package sets' List by a contract: the nodes, rising; the row is the call's own. -/
import Derived.Test.YtcciejglemfebaaDoorD2
namespace Go.Proofs.YtcciejglemfebaaDoor
open Go.RowKit

theorem even_of {a : Nat} (h : a &&& 1022 = a) : a % 2 = 0 := by
  have : a.testBit 0 = false := by rw [← h, Nat.testBit_and]; simp
  rw [Nat.testBit_zero] at this
  simp at this
  exact this

set_option maxHeartbeats 800000 in
theorem list_calls (s : Int) (w : World) (hs : U s) (hT : Hid (Tab w)) :
    Calls Tryd.prog 8 #[.int .u16 s] w fun e w' => ∃ v, e = .returned v ∧ w'.ownsRow w.heap.size 3 1 v (listOf s).length ((listOf s).map (Value.int .i64)) ∧ Below w.heap.size w w' := by
  obtain ⟨i0, hi, hz0, hz1, hz2⟩ := info_parts int_info
  obtain ⟨a, ha, hm, hand⟩ := msk_nat hs
  have he := even_of hand
  have hl := lst_list ha he
  rw [← hm, listOf_msk] at hl
  have HS : Hid (lst 10 a = listOf s) := hl
  have hle := listOf_le s
  generalize listOf s = L at HS hle ⊢
  have hm' : bits .and .u16 s 1022 = (a : Int) := hm
  clear hm hl hand hs
  go_enter Tryd.func8, Tryd.ntmps8
  go_wp2
  go_loopw [0, 3] (fun i v wr => ∃ (x : Nat) (pre : List Int), x < 1024 ∧ x % 2 = 0 ∧ i = .int .u16 (x : Int) ∧ Hid (pre ++ lst 10 x = L) ∧ wr.ownsRow w.heap.size 3 1 v pre.length (pre.map (Value.int .i64)) ∧ Below w.heap.size w wr) (fun i _ _ => (intOf i).toNat)
  case atStart => exact ⟨a, [], ha, he, rfl, HS, World.ownsRow_nil _ _ _ _, Below.refl _ _⟩
  case round =>
    clear HS
    obtain ⟨x, pre, hx, hxe, rfl, HP, hown, hb⟩ := hrel
    by_cases h0 : x = 0
    · subst h0
      have e : pre = L := by rw [← HP.out, lst_zero, List.append_nil]
      subst e
      go_wp2
      go_ret
      exact ⟨_, rfl, hown, hb⟩
    · have hz : ((x : Int) != 0) = true := by simpa using h0
      obtain ⟨_, _, hnext, hlt, heven, hlst⟩ := low hx hxe h0
      rw [show IntKind.u16.wrap ((x : Int) - 1) = (x : Int) - 1 from by rw [IntKind.wrap_u16]; omega] at hnext
      have hTr : Hid (Tab wr) := Lib.hid (hT.out.below hb hT.out.1)
      have HZ := Lib.hid fun w h => tz_calls x w hx hxe h0 h
      have hplen : pre.length < 9 := by
        have := congrArg List.length HP.out
        rw [hlst, List.length_append, List.length_cons] at this
        omega
      have HN : Hid ((pre ++ [(tz x : Int)]) ++ lst 10 (x &&& (x - 1)) = L) := Lib.hid (by rw [← HP.out, hlst, List.append_assoc]; rfl)
      generalize (tz x : Int) = z at *
      generalize hy : (x &&& (x - 1)) = y at *
      clear hlst HP
      go_wp2_with fail
      refine (HZ.out _ hTr).mono ?_; rintro e w1 ⟨rfl, rfl⟩
      go_wp2_with (at_builtin; refine wpList_append_own _ rfl _ _ 22 rfl w.heap.size 3 i0 (.int .i64 0) 1 8 Tryd.underlying22 hi hz0 hz1 hz2 rfl (by decide) _ _ _ rfl (hown.alloc _) ⟨wr.heap.size, 0, none⟩ 1 1 [.int .i64 z] rfl rfl ?c1 ?c2 ?c3 ?c4 ?c5 ?_)
      case c1 =>
        intro j u hj
        match j, hj with
        | 0, hj => simp at hj; subst hj; simp [Addr.add]
      case c2 => intro u hu; simp at hu; subst hu; rfl
      case c3 => unfold maxLen; omega
      case c4 => omega
      case c5 => have := hb.size; simp; omega
      intro v' w1 hown' hgrow _
      have hb1 : Below w.heap.size w w1 := (hb.alloc hb.size _).grown hgrow (by have := hb.size; simp; omega) (fun j hj => (hown.lt j hj).1)
      have HO : Hid (w1.ownsRow w.heap.size 3 1 v' (pre ++ [z]).length ((pre ++ [z]).map (Value.int .i64))) := by
        show World.ownsRow _ _ _ _ _ _ _
        rw [List.length_append, List.map_append]
        exact hown'
      clear hown' hgrow hown hb
      go_wp2
      go_roundw
      case rel => exact ⟨y, pre ++ [z], by omega, heven, rfl, HN, HO.out, hb1⟩
      case measure => simp [intOf]; omega
end Go.Proofs.YtcciejglemfebaaDoor
