/- Zones as data, and MayZone of package zone and of the document's answer, each by a contract. -/
import Derived.Test.YtcciejglemfebaaZ1
import Derived.Test.YtcciejglemfebaaM5
namespace Go.Proofs.Ytcciejglemfebaa
open Go.RowKit

/-- A zone: how many of each, region by region; quorums; what it survives. -/
structure Zn where
  v : List Int
  w : List Int
  l : List Int
  e : Int
  c : Int
  s : Int

def okN (n : Int) : Bool := decide (0 ≤ n) && decide (n ≤ 9)
def listOkB (l : List Int) : Bool := decide (l.length ≤ 4) && l.all okN
/-- May a zone be? -/
def mayZB (z : Zn) : Bool := listOkB z.v && listOkB z.w && listOkB z.l && okN z.e && okN z.c && (decide (0 ≤ z.s) && decide (z.s ≤ 2))

/-- A slice as it lies: where, what it holds, its room. -/
structure Sl where
  a : Option Addr
  l : List Int
  c : Nat
abbrev Sl.val (x : Sl) : Value := .slice x.a x.l.length x.c
/-- It reads as its list, below B. -/
def Sl.In (w : World) (B : Nat) (x : Sl) : Prop := Ints w B x.a x.l ∧ x.l.length ≤ 9223372036854775807

/-- A zone's three slices and three numbers. -/
abbrev zcells (a0 : Option Addr) (l0 : List Int) (c0 : Nat) (a1 : Option Addr) (l1 : List Int) (c1 : Nat) (a2 : Option Addr) (l2 : List Int) (c2 : Nat) (e c s : Int) : Array Value :=
  #[.slice a0 l0.length c0, .slice a1 l1.length c1, .slice a2 l2.length c2, .int .i64 e, .int .i64 c, .int .i64 s]


theorem all_one (n : Int) : listOkB [n] = okN n := by simp [listOkB]

/-- The program's table of five lists. -/
abbrev zT (g : Nat) (a0 : Option Addr) (l0 : List Int) (c0 : Nat) (a1 : Option Addr) (l1 : List Int) (c1 : Nat) (a2 : Option Addr) (l2 : List Int) (c2 : Nat) (e c : Int) : List Sl :=
  [⟨a0, l0, c0⟩, ⟨a1, l1, c1⟩, ⟨a2, l2, c2⟩, ⟨some ⟨g + 1, 0, none⟩, [e], 1⟩, ⟨some ⟨g + 1 + 1, 0, none⟩, [c], 1⟩]
def noSl : Sl := ⟨none, [], 0⟩
theorem zT_all (g : Nat) (a0 : Option Addr) (l0 : List Int) (c0 : Nat) (a1 : Option Addr) (l1 : List Int) (c1 : Nat) (a2 : Option Addr) (l2 : List Int) (c2 : Nat) (e c s : Int) :
    mayZB ⟨l0, l1, l2, e, c, s⟩ = ((zT g a0 l0 c0 a1 l1 c1 a2 l2 c2 e c).all (fun x => listOkB x.l) && (decide (0 ≤ s) && decide (s ≤ 2))) := by
  simp [mayZB, all_one, Bool.and_assoc]

theorem sl_drop {T : List Sl} {k : Nat} (h : k < T.length) (f : Sl → Bool) : (T.drop k).all f = (f (T.getD k noSl) && (T.drop (k + 1)).all f) := by
  rw [List.drop_eq_getElem_cons h, List.all_cons]
  simp [List.getD, List.getElem?_eq_getElem h]

/-- A list of whole numbers that ints_one tells of: one number in a block. -/
theorem ints_one {w : World} {g B : Nat} {n : Int} (h : w.cell? ⟨g, 0, none⟩ = some (.int .i64 n)) (hB : g < B) : Ints w B (some ⟨g, 0, none⟩) [n] := fun _ =>
  ⟨g, 0, rfl, hB, fun k hk => by
    have : k = 0 := by simpa using hk
    subst this
    simpa using h⟩

/-- The world in which the table lies. -/
def zW (w : World) (Z : Array Value) (e c : Int) (T : Array Value) : World :=
  (((w.alloc (.cells Z 47)).alloc (.cells #[.int .i64 e] 3)).alloc (.cells #[.int .i64 c] 3)).alloc (.cells T 45)

theorem zW_facts {w w1 : World} {Z T : Array Value} {e c : Int} (h : zW w Z e c T = w1) :
    (∀ k, w1.cell? ⟨w.heap.size + 1 + 1 + 1, k, none⟩ = T[k]?) ∧ (∀ k, w1.cell? ⟨w.heap.size, k, none⟩ = Z[k]?) ∧ w1.cell? ⟨w.heap.size + 1, 0, none⟩ = some (.int .i64 e) ∧ w1.cell? ⟨w.heap.size + 1 + 1, 0, none⟩ = some (.int .i64 c) ∧
      Below w.heap.size w w1 ∧ w1.heap.size = w.heap.size + 1 + 1 + 1 + 1 := by
  subst h
  unfold zW
  have k1 : Block (w.alloc (.cells Z 47)) w.heap.size 47 Z := Block.mk_new _ _ _ rfl
  have k2 : Block ((w.alloc (.cells Z 47)).alloc (.cells #[.int .i64 e] 3)) (w.heap.size + 1) 3 #[.int .i64 e] := Block.mk_new _ _ _ (by simp)
  have k3 : Block (((w.alloc (.cells Z 47)).alloc (.cells #[.int .i64 e] 3)).alloc (.cells #[.int .i64 c] 3)) (w.heap.size + 1 + 1) 3 #[.int .i64 c] := Block.mk_new _ _ _ (by simp)
  have k4 : Block ((((w.alloc (.cells Z 47)).alloc (.cells #[.int .i64 e] 3)).alloc (.cells #[.int .i64 c] 3)).alloc (.cells T 45)) (w.heap.size + 1 + 1 + 1) 45 T := Block.mk_new _ _ _ (by simp)
  refine ⟨fun k => k4.cell k, fun k => (((k1.alloc _).alloc _).alloc _).cell k, ((k2.alloc _).alloc _).cell 0, (k3.alloc _).cell 0, ?_, by simp⟩
  exact ((((Below.refl _ _).alloc (Nat.le_refl _) _).alloc (by simp) _).alloc (by simp; omega) _).alloc (by simp; omega) _

theorem zT_in {w w1 : World} {a0 : Option Addr} {l0 : List Int} {c0 : Nat} {a1 : Option Addr} {l1 : List Int} {c1 : Nat} {a2 : Option Addr} {l2 : List Int} {c2 : Nat} {e c : Int}
    (h0 : Ints w w.heap.size a0 l0) (h1 : Ints w w.heap.size a1 l1) (h2 : Ints w w.heap.size a2 l2) (n0 : l0.length ≤ 9223372036854775807) (n1 : l1.length ≤ 9223372036854775807) (n2 : l2.length ≤ 9223372036854775807)
    (he : w1.cell? ⟨w.heap.size + 1, 0, none⟩ = some (.int .i64 e)) (hc : w1.cell? ⟨w.heap.size + 1 + 1, 0, none⟩ = some (.int .i64 c)) (hb : Below w.heap.size w w1) (hs : w1.heap.size = w.heap.size + 1 + 1 + 1 + 1) :
    ∀ k, k < 5 → Sl.In w1 w1.heap.size ((zT w.heap.size a0 l0 c0 a1 l1 c1 a2 l2 c2 e c).getD k noSl) := by
  intro k hk
  have hle := hb.size
  match k, hk with
  | 0, _ => exact ⟨(h0.below hb).more hle, n0⟩
  | 1, _ => exact ⟨(h1.below hb).more hle, n1⟩
  | 2, _ => exact ⟨(h2.below hb).more hle, n2⟩
  | 3, _ => exact ⟨ints_one he (by omega), by simp⟩
  | 4, _ => exact ⟨ints_one hc (by omega), by simp⟩
  | k + 5, hk => omega

set_option maxHeartbeats 3200000 in
theorem mayzone_calls (a0 : Option Addr) (l0 : List Int) (c0 : Nat) (a1 : Option Addr) (l1 : List Int) (c1 : Nat) (a2 : Option Addr) (l2 : List Int) (c2 : Nat) (e c s : Int) (w : World)
    (h0 : Ints w w.heap.size a0 l0) (h1 : Ints w w.heap.size a1 l1) (h2 : Ints w w.heap.size a2 l2) (n0 : l0.length ≤ 9223372036854775807) (n1 : l1.length ≤ 9223372036854775807) (n2 : l2.length ≤ 9223372036854775807) :
    Calls Try.prog 53 #[.agg (zcells a0 l0 c0 a1 l1 c1 a2 l2 c2 e c s)] w fun x w' => x = .returned (.bool (mayZB ⟨l0, l1, l2, e, c, s⟩)) ∧ Below w.heap.size w w' := by
  have HIN := Lib.hid fun w1 => zT_in (w := w) (w1 := w1) (c0 := c0) (c1 := c1) (c2 := c2) (e := e) (c := c) h0 h1 h2 n0 n1 n2
  have HALL := Lib.hid (zT_all w.heap.size a0 l0 c0 a1 l1 c1 a2 l2 c2 e c s)
  clear h0 h1 h2 n0 n1 n2
  generalize mayZB ⟨l0, l1, l2, e, c, s⟩ = M at *
  go_enter Try.func53, Try.ntmps53
  go_wp2_with fail
  obtain ⟨w1, hw1⟩ : ∃ w1, zW w (zcells a0 l0 c0 a1 l1 c1 a2 l2 c2 e c s) e c #[.slice a0 l0.length c0, .slice a1 l1.length c1, .slice a2 l2.length c2, .slice (some ⟨w.heap.size + 1, 0, none⟩) 1 1, .slice (some ⟨w.heap.size + 1 + 1, 0, none⟩) 1 1] = w1 := ⟨_, rfl⟩
  obtain ⟨f1, f2, f3, f4, f5, f6⟩ := zW_facts hw1
  have HT := Lib.hid (HIN.out w1 f3 f4 f5 f6)
  have hs5 := f2 5
  have HB := Lib.hid f5
  have HC : Hid (∀ k, k < 5 → w1.cell? ⟨w.heap.size + 1 + 1 + 1, k, none⟩ = some ((zT w.heap.size a0 l0 c0 a1 l1 c1 a2 l2 c2 e c).getD k noSl).val) := by
    intro k hk
    rw [f1 k]
    match k, hk with
    | 0, _ => rfl
    | 1, _ => rfl
    | 2, _ => rfl
    | 3, _ => rfl
    | 4, _ => rfl
    | k + 5, hk => omega
  unfold zW at hw1
  rw [hw1]
  have hTl : (zT w.heap.size a0 l0 c0 a1 l1 c1 a2 l2 c2 e c).length = 5 := rfl
  have HTL := Lib.hid hTl
  clear f1 f2 f3 f4 f5 f6 hw1 HIN hTl
  generalize zT w.heap.size a0 l0 c0 a1 l1 c1 a2 l2 c2 e c = T at *
  simp at hs5
  go_loop [21] (fun i => ∃ k : Nat, k ≤ 5 ∧ i = .int .i64 (k : Int) ∧ Hid ((T.drop k).all (fun x => listOkB x.l) = T.all (fun x => listOkB x.l))) (fun i => 5 - (intOf i).toNat)
  case atStart => exact ⟨0, by omega, rfl, rfl⟩
  case round =>
    obtain ⟨k, hk, rfl, HR⟩ := hrel
    by_cases hlt : k < 5
    · obtain ⟨⟨A, L, C⟩, hTk⟩ : ∃ x, T.getD k noSl = x := ⟨_, rfl⟩
      have hc := HC.out k hlt
      have hin := HT.out k hlt
      have HD := Lib.hid (sl_drop (T := T) (k := k) (by rw [HTL.out]; exact hlt) (fun x => listOkB x.l))
      rw [hTk] at hc hin HD
      obtain ⟨hI, hL⟩ := hin
      dsimp only at hI hL
      have HI := Lib.hid hI
      clear hTk hI
      simp only [Sl.val] at hc
      by_cases h4 : L.length ≤ 4
      · go_wp2_with fail
        go_loop [30] (fun i => ∃ j : Nat, j ≤ L.length ∧ i = .int .i64 (j : Int) ∧ Hid ((L.drop j).all okN = L.all okN)) (fun i => L.length - (intOf i).toNat)
        case atStart => exact ⟨0, by omega, rfl, rfl⟩
        case round =>
          obtain ⟨j, hj, rfl, HJ⟩ := hrel
          by_cases hjl : j < L.length
          · obtain ⟨b, o, rfl, hb, hcj⟩ := HI.out.at_ hjl
            have HDJ := Lib.hid (all_drop hjl okN)
            generalize L.getD j 0 = n at *
            by_cases ok : 0 ≤ n ∧ n ≤ 9
            · obtain ⟨p0, p9⟩ := ok
              have HN : Hid ((L.drop (j + 1)).all okN = L.all okN) := by
                show _ = _
                rw [← HJ.out, HDJ.out, show okN n = true from by simp [okN, p0, p9], Bool.true_and]
              clear HJ HDJ
              go_wp2_with fail
              go_round
              case rel => exact ⟨j + 1, by omega, by go_num, HN⟩
              case measure => simp [intOf]; omega
            · have HF : Hid (M = false) := by
                show _ = _
                have e1 : L.all okN = false := by rw [← HJ.out, HDJ.out, show okN n = false from by simp [okN]; omega]; rfl
                rw [HALL.out, ← HR.out, HD.out]
                simp [listOkB, e1]
              clear HJ HDJ HR HD
              by_cases p0 : n < 0
              · go_wp2_with fail
                go_ret
                rw [HF.out]; exact ⟨rfl, HB.out⟩
              · have p9 : 9 < n := by omega
                clear ok
                go_wp2_with fail
                go_ret
                rw [HF.out]; exact ⟨rfl, HB.out⟩
          · have HN : Hid ((T.drop (k + 1)).all (fun x => listOkB x.l) = T.all (fun x => listOkB x.l)) := by
              show _ = _
              have e1 : L.all okN = true := by rw [← HJ.out, List.drop_eq_nil_of_le (by omega)]; rfl
              rw [← HR.out, HD.out]
              simp [listOkB, e1, h4]
            clear HJ HR HD
            go_wp2_with fail
            go_round
            case rel => exact ⟨k + 1, by omega, by go_num, HN⟩
            case measure => simp [intOf]; omega
      · have HF : Hid (M = false) := by
          show _ = _
          rw [HALL.out, ← HR.out, HD.out]
          simp [listOkB, h4]
        clear HR HD
        go_wp2_with fail
        go_ret
        rw [HF.out]; exact ⟨rfl, HB.out⟩
    · have HF : Hid (M = (decide (0 ≤ s) && decide (s ≤ 2))) := by
        show _ = _
        rw [HALL.out, ← HR.out, List.drop_eq_nil_of_le (by rw [HTL.out]; omega)]
        rfl
      clear HR
      by_cases s0 : 0 ≤ s
      · go_wp2_with fail
        go_ret
        rw [HF.out]; exact ⟨ret_bool (by simp [s0]), HB.out⟩
      · rw [decide_eq_false s0, Bool.false_and] at HF
        go_wp2_with fail
        go_ret
        rw [HF.out]; exact ⟨rfl, HB.out⟩
end Go.Proofs.Ytcciejglemfebaa
