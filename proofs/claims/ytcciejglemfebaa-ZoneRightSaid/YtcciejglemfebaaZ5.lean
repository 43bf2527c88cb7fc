/- The document's MayZone, by a contract. -/
import Derived.Test.YtcciejglemfebaaZ4
namespace Go.Proofs.Ytcciejglemfebaa
open Go.RowKit

/-- The document's table of three lists. -/
abbrev zT3 (a0 : Option Addr) (l0 : List Int) (c0 : Nat) (a1 : Option Addr) (l1 : List Int) (c1 : Nat) (a2 : Option Addr) (l2 : List Int) (c2 : Nat) : List Sl :=
  [⟨a0, l0, c0⟩, ⟨a1, l1, c1⟩, ⟨a2, l2, c2⟩]
def okE (e c s : Int) : Bool := decide (0 ≤ e) && decide (e ≤ 9) && decide (0 ≤ c) && decide (c ≤ 9) && decide (0 ≤ s) && decide (s ≤ 2)
theorem zT3_all (a0 : Option Addr) (l0 : List Int) (c0 : Nat) (a1 : Option Addr) (l1 : List Int) (c1 : Nat) (a2 : Option Addr) (l2 : List Int) (c2 : Nat) (e c s : Int) :
    mayZB ⟨l0, l1, l2, e, c, s⟩ = ((zT3 a0 l0 c0 a1 l1 c1 a2 l2 c2).all (fun x => listOkB x.l) && okE e c s) := by
  simp [mayZB, okE, okN, Bool.and_assoc]

def zW3 (w : World) (Z : Array Value) (T : Array Value) : World := (w.alloc (.cells Z 47)).alloc (.cells T 45)
theorem zW3_facts {w w1 : World} {Z T : Array Value} (h : zW3 w Z T = w1) :
    (∀ k, w1.cell? ⟨w.heap.size + 1, k, none⟩ = T[k]?) ∧ (∀ k, w1.cell? ⟨w.heap.size, k, none⟩ = Z[k]?) ∧ Below w.heap.size w w1 := by
  subst h
  unfold zW3
  have k1 : Block (w.alloc (.cells Z 47)) w.heap.size 47 Z := Block.mk_new _ _ _ rfl
  have k4 : Block ((w.alloc (.cells Z 47)).alloc (.cells T 45)) (w.heap.size + 1) 45 T := Block.mk_new _ _ _ (by simp)
  exact ⟨fun k => k4.cell k, fun k => (k1.alloc _).cell k, ((Below.refl _ _).alloc (Nat.le_refl _) _).alloc (by simp) _⟩

theorem zT3_in {w w1 : World} {a0 : Option Addr} {l0 : List Int} {c0 : Nat} {a1 : Option Addr} {l1 : List Int} {c1 : Nat} {a2 : Option Addr} {l2 : List Int} {c2 : Nat}
    (h0 : Ints w w.heap.size a0 l0) (h1 : Ints w w.heap.size a1 l1) (h2 : Ints w w.heap.size a2 l2) (n0 : l0.length ≤ 9223372036854775807) (n1 : l1.length ≤ 9223372036854775807) (n2 : l2.length ≤ 9223372036854775807)
    (hb : Below w.heap.size w w1) : ∀ k, k < 3 → Sl.In w1 w1.heap.size ((zT3 a0 l0 c0 a1 l1 c1 a2 l2 c2).getD k noSl) := by
  intro k hk
  have hle := hb.size
  match k, hk with
  | 0, _ => exact ⟨(h0.below hb).more hle, n0⟩
  | 1, _ => exact ⟨(h1.below hb).more hle, n1⟩
  | 2, _ => exact ⟨(h2.below hb).more hle, n2⟩
  | k + 3, hk => omega

set_option maxRecDepth 100000 in
set_option maxHeartbeats 3200000 in
theorem rmayzone_calls (a0 : Option Addr) (l0 : List Int) (c0 : Nat) (a1 : Option Addr) (l1 : List Int) (c1 : Nat) (a2 : Option Addr) (l2 : List Int) (c2 : Nat) (e c s : Int) (w : World)
    (h0 : Ints w w.heap.size a0 l0) (h1 : Ints w w.heap.size a1 l1) (h2 : Ints w w.heap.size a2 l2) (n0 : l0.length ≤ 9223372036854775807) (n1 : l1.length ≤ 9223372036854775807) (n2 : l2.length ≤ 9223372036854775807) :
    Calls Try.prog 54 #[.agg (zcells a0 l0 c0 a1 l1 c1 a2 l2 c2 e c s)] w fun x w' => x = .returned (.bool (mayZB ⟨l0, l1, l2, e, c, s⟩)) ∧ Below w.heap.size w w' := by
  have HIN := Lib.hid fun w1 => zT3_in (w := w) (w1 := w1) (c0 := c0) (c1 := c1) (c2 := c2) h0 h1 h2 n0 n1 n2
  have HALL := Lib.hid (zT3_all a0 l0 c0 a1 l1 c1 a2 l2 c2 e c s)
  clear h0 h1 h2 n0 n1 n2
  generalize mayZB ⟨l0, l1, l2, e, c, s⟩ = M at *
  go_enter Try.func54, Try.ntmps54
  go_wp2_with fail
  obtain ⟨w1, hw1⟩ : ∃ w1, zW3 w (zcells a0 l0 c0 a1 l1 c1 a2 l2 c2 e c s) #[.slice a0 l0.length c0, .slice a1 l1.length c1, .slice a2 l2.length c2] = w1 := ⟨_, rfl⟩
  obtain ⟨f1, f2, f5⟩ := zW3_facts hw1
  have HT := Lib.hid (HIN.out w1 f5)
  have hs3 := f2 3
  have hs4 := f2 4
  have hs5 := f2 5
  have HB := Lib.hid f5
  have HC : Hid (∀ k, k < 3 → w1.cell? ⟨w.heap.size + 1, k, none⟩ = some ((zT3 a0 l0 c0 a1 l1 c1 a2 l2 c2).getD k noSl).val) := by
    intro k hk
    rw [f1 k]
    match k, hk with
    | 0, _ => rfl
    | 1, _ => rfl
    | 2, _ => rfl
    | k + 3, hk => omega
  unfold zW3 at hw1
  rw [hw1]
  have hTl : (zT3 a0 l0 c0 a1 l1 c1 a2 l2 c2).length = 3 := rfl
  have HTL := Lib.hid hTl
  clear f1 f2 f5 hw1 HIN hTl
  generalize zT3 a0 l0 c0 a1 l1 c1 a2 l2 c2 = T at *
  simp at hs3 hs4 hs5
  go_loop [4] (fun i => ∃ k : Nat, k ≤ 3 ∧ i = .int .i64 (k : Int) ∧ Hid ((T.drop k).all (fun x => listOkB x.l) = T.all (fun x => listOkB x.l))) (fun i => 3 - (intOf i).toNat)
  case atStart => exact ⟨0, by omega, rfl, rfl⟩
  case round =>
    obtain ⟨k, hk, rfl, HR⟩ := hrel
    by_cases hlt : k < 3
    · obtain ⟨⟨A, L, C⟩, hTk⟩ : ∃ x, T.getD k noSl = x := ⟨_, rfl⟩
      have hc := HC.out k hlt
      have hin := HT.out k hlt
      have HD := Lib.hid (sl_drop (T := T) (k := k) (by rw [HTL.out]; exact hlt) (fun x => listOkB x.l))
      rw [hTk] at hc hin HD
      obtain ⟨hI, hL⟩ := hin
      dsimp only at hI hL
      have HI := Lib.hid hI
      clear hTk hI
      simp only [Sl.val] at hc
      by_cases h4 : L.length ≤ 4
      · go_wp2_with fail
        go_loop [5] (fun i => ∃ j : Nat, j ≤ L.length ∧ i = .int .i64 (j : Int) ∧ Hid ((L.drop j).all okN = L.all okN)) (fun i => L.length - (intOf i).toNat)
        case atStart => exact ⟨0, by omega, rfl, rfl⟩
        case round =>
          obtain ⟨j, hj, rfl, HJ⟩ := hrel
          by_cases hjl : j < L.length
          · obtain ⟨b, o, rfl, hb, hcj⟩ := HI.out.at_ hjl
            have HDJ := Lib.hid (all_drop hjl okN)
            generalize L.getD j 0 = n at *
            by_cases ok : 0 ≤ n ∧ n ≤ 9
            · obtain ⟨p0, p9⟩ := ok
              have HN : Hid ((L.drop (j + 1)).all okN = L.all okN) := by
                show _ = _
                rw [← HJ.out, HDJ.out, show okN n = true from by simp [okN, p0, p9], Bool.true_and]
              clear HJ HDJ
              go_wp2_with fail
              go_round
              case rel => exact ⟨j + 1, by omega, by go_num, HN⟩
              case measure => simp [intOf]; omega
            · have HF : Hid (M = false) := by
                show _ = _
                have e1 : L.all okN = false := by rw [← HJ.out, HDJ.out, show okN n = false from by simp [okN]; omega]; rfl
                rw [HALL.out, ← HR.out, HD.out]
                simp [listOkB, e1]
              clear HJ HDJ HR HD
              by_cases p0 : n < 0
              · go_wp2_with fail
                go_ret
                rw [HF.out]; exact ⟨rfl, HB.out⟩
              · have p9 : 9 < n := by omega
                clear ok
                go_wp2_with fail
                go_ret
                rw [HF.out]; exact ⟨rfl, HB.out⟩
          · have HN : Hid ((T.drop (k + 1)).all (fun x => listOkB x.l) = T.all (fun x => listOkB x.l)) := by
              show _ = _
              have e1 : L.all okN = true := by rw [← HJ.out, List.drop_eq_nil_of_le (by omega)]; rfl
              rw [← HR.out, HD.out]
              simp [listOkB, e1, h4]
            clear HJ HR HD
            go_wp2_with fail
            go_round
            case rel => exact ⟨k + 1, by omega, by go_num, HN⟩
            case measure => simp [intOf]; omega
      · have HF : Hid (M = false) := by
          show _ = _
          rw [HALL.out, ← HR.out, HD.out]
          simp [listOkB, h4]
        clear HR HD
        go_wp2_with fail
        go_ret
        rw [HF.out]; exact ⟨rfl, HB.out⟩
    · have HF : Hid (M = okE e c s) := by
        show _ = _
        rw [HALL.out, ← HR.out, List.drop_eq_nil_of_le (by rw [HTL.out]; omega)]
        rfl
      clear HR
      by_cases t0 : 0 ≤ e
      · by_cases t1 : e ≤ 9
        · by_cases t2 : 0 ≤ c
          · by_cases t3 : c ≤ 9
            · by_cases t4 : 0 ≤ s
              · by_cases t5 : s ≤ 2
                · have HG : Hid (M = true) := by show _ = _; rw [HF.out]; simp [okE, t0, t1, t2, t3, t4, t5]
                  clear HF
                  go_wp2_with fail
                  go_ret
                  rw [HG.out]; exact ⟨rfl, HB.out⟩
                · have HG : Hid (M = false) := by show _ = _; rw [HF.out]; simp [okE, t5]
                  clear HF
                  go_wp2_with fail
                  go_ret
                  rw [HG.out]; exact ⟨rfl, HB.out⟩
              · have HG : Hid (M = false) := by show _ = _; rw [HF.out]; simp [okE, t4]
                clear HF
                go_wp2_with fail
                go_ret
                rw [HG.out]; exact ⟨rfl, HB.out⟩
            · have HG : Hid (M = false) := by show _ = _; rw [HF.out]; simp [okE, t3]
              clear HF
              go_wp2_with fail
              go_ret
              rw [HG.out]; exact ⟨rfl, HB.out⟩
          · have HG : Hid (M = false) := by show _ = _; rw [HF.out]; simp [okE, t2]
            clear HF
            go_wp2_with fail
            go_ret
            rw [HG.out]; exact ⟨rfl, HB.out⟩
        · have HG : Hid (M = false) := by show _ = _; rw [HF.out]; simp [okE, t1]
          clear HF
          go_wp2_with fail
          go_ret
          rw [HG.out]; exact ⟨rfl, HB.out⟩
      · have HG : Hid (M = false) := by show _ = _; rw [HF.out]; simp [okE, t0]
        clear HF
        go_wp2_with fail
        go_ret
        rw [HG.out]; exact ⟨rfl, HB.out⟩
end Go.Proofs.Ytcciejglemfebaa
