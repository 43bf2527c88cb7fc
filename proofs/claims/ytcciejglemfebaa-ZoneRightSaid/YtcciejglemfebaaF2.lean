/- Words for the rows of chapter 11: what a slice of whole numbers, and a zone, that came in are in memory. -/
import Derived.Test.YtcciejglemfebaaF1
import Derived.Test.YtcciejglemfebaaM0
namespace Go.Proofs.Ytcciejglemfebaa
open Go.ChangeShapes Go.WideShapes Go.ChangeAt Go.RowKit

theorem Try.cells47 : Try.prog.cellsOf 47 = 6 := by kernel_rfl
theorem Try.cells45 : Try.prog.cellsOf 45 = 1 := by kernel_rfl

section
variable {H : Type} {enc : TypeId × Value → H} {w : World} {base : Nat} {spare : Nat → Bool} {held : Bool} {fuel : Nat} {cs : List Value} {x : DataW H × List MemPlace}

theorem nums_form (h : DataW.trod enc Try.prog w base spare held fuel 45 cs = some x) :
    ∃ (a : Option Addr) (L : List Int) (cap : Nat), cs = [.slice a L.length cap] ∧ L.length ≤ maxLen ∧ Ints w w.heap.size a L := by
  rcases Deep.open_slice1 Try.underlying45 Try.cells3 h with ⟨hc, _⟩ | ⟨x, l, c, m, n, V, D, Pl, hc, hb, hl, hcm, hm, _, hel⟩
  · exact ⟨none, [], 0, hc, by unfold maxLen; simp, fun hn => absurd rfl hn⟩
  · have hlm : l ≤ m := by rw [hm]; split <;> omega
    have key : ∀ i, i < l → ∃ y : Int, w.cell? (x.add i) = some (.int .i64 y) := by
      intro i hi
      obtain ⟨h1, h2⟩ := hel i (by omega)
      obtain ⟨y, e, _, _⟩ := DataW.trod_int Try.underlying3 h2
      simp only [List.cons.injEq, and_true] at e
      exact ⟨y, by rw [h1, e]⟩
    obtain ⟨f, hf'⟩ := Deep.choose_lt (α := Int) key
    refine ⟨some x, (List.range l).map f, c, by rw [hc]; simp, by simp; omega, fun hn => ?_⟩
    have hpos : 0 < l := by
      rcases Nat.eq_zero_or_pos l with h0 | h0
      · subst h0; exact absurd (by simp) hn
      · exact h0
    have hx : w.cell? x = some (.int .i64 (f 0)) := by
      have := hf' 0 hpos
      simpa [Addr.add] using this
    obtain ⟨hs, hlt⟩ := spot_none hx
    obtain ⟨b, o, s⟩ := x
    dsimp only at hs hlt
    subst hs
    refine ⟨b, o, rfl, hlt, fun k hk => ?_⟩
    have hk' : k < l := by simpa using hk
    have e := hf' k hk'
    have ea : (⟨b, o, none⟩ : Addr).add k = ⟨b, o + k, none⟩ := by
      unfold Addr.add
      split
      · rename_i h0; subst h0; rfl
      · rfl
    rw [← ea, e]
    simp [List.getD, hk']

theorem list6 {α : Type} {l : List α} (h : l.length = 6) : ∃ a b c d e f, l = [a, b, c, d, e, f] := by
  match l, h with
  | [a, b, c, d, e, f], _ => exact ⟨a, b, c, d, e, f, rfl⟩

theorem zone_form (h : DataW.trod enc Try.prog w base spare held fuel 47 cs = some x) :
    ∃ a0 l0 c0 a1 l1 c1 a2 l2 c2 ze zc zs, cs = [.slice a0 (l0 : List Int).length c0, .slice a1 (l1 : List Int).length c1, .slice a2 (l2 : List Int).length c2, .int .i64 ze, .int .i64 zc, .int .i64 zs] ∧
      (l0.length ≤ maxLen ∧ l1.length ≤ maxLen ∧ l2.length ≤ maxLen) ∧ Ints w w.heap.size a0 l0 ∧ Ints w w.heap.size a1 l1 ∧ Ints w w.heap.size a2 l2 := by
  obtain ⟨xs, n, _, _, hlen, hxl, hf⟩ := DataW.trod_struct Try.underlying47 h
  rw [Try.cells47] at hlen
  obtain ⟨c0, c1, c2, c3, c4, c5, rfl⟩ := list6 hlen
  have hx6 : xs.length = 6 := hxl
  obtain ⟨y0, e0⟩ := some_of_lt (l := xs) (i := 0) (by omega)
  obtain ⟨y1, e1⟩ := some_of_lt (l := xs) (i := 1) (by omega)
  obtain ⟨y2, e2⟩ := some_of_lt (l := xs) (i := 2) (by omega)
  obtain ⟨y3, e3⟩ := some_of_lt (l := xs) (i := 3) (by omega)
  obtain ⟨y4, e4⟩ := some_of_lt (l := xs) (i := 4) (by omega)
  obtain ⟨y5, e5⟩ := some_of_lt (l := xs) (i := 5) (by omega)
  have f0 : DataW.trod enc Try.prog w base spare held n 45 ((List.drop 0 [c0, c1, c2, c3, c4, c5]).take (Try.prog.cellsOf 45)) = some y0 := (hf 0 _ rfl).trans e0
  have f1 : DataW.trod enc Try.prog w base spare held n 45 ((List.drop 1 [c0, c1, c2, c3, c4, c5]).take (Try.prog.cellsOf 45)) = some y1 := (hf 1 _ rfl).trans e1
  have f2 : DataW.trod enc Try.prog w base spare held n 45 ((List.drop 2 [c0, c1, c2, c3, c4, c5]).take (Try.prog.cellsOf 45)) = some y2 := (hf 2 _ rfl).trans e2
  have f3 : DataW.trod enc Try.prog w base spare held n 3 ((List.drop 3 [c0, c1, c2, c3, c4, c5]).take (Try.prog.cellsOf 3)) = some y3 := (hf 3 _ rfl).trans e3
  have f4 : DataW.trod enc Try.prog w base spare held n 3 ((List.drop 4 [c0, c1, c2, c3, c4, c5]).take (Try.prog.cellsOf 3)) = some y4 := (hf 4 _ rfl).trans e4
  have f5 : DataW.trod enc Try.prog w base spare held n 3 ((List.drop 5 [c0, c1, c2, c3, c4, c5]).take (Try.prog.cellsOf 3)) = some y5 := (hf 5 _ rfl).trans e5
  simp only [Try.cells45, Try.cells3, List.drop_zero, List.drop_succ_cons, List.take_succ_cons, List.take_zero] at f0 f1 f2 f3 f4 f5
  obtain ⟨a0, l0, k0, g0, m0, i0⟩ := nums_form f0
  obtain ⟨a1, l1, k1, g1, m1, i1⟩ := nums_form f1
  obtain ⟨a2, l2, k2, g2, m2, i2⟩ := nums_form f2
  obtain ⟨n3, g3, _, _⟩ := DataW.trod_int Try.underlying3 f3
  obtain ⟨n4, g4, _, _⟩ := DataW.trod_int Try.underlying3 f4
  obtain ⟨n5, g5, _, _⟩ := DataW.trod_int Try.underlying3 f5
  simp only [List.cons.injEq, and_true] at g0 g1 g2 g3 g4 g5
  subst g0 g1 g2 g3 g4 g5
  exact ⟨a0, l0, k0, a1, l1, k1, a2, l2, k2, n3, n4, n5, rfl, ⟨m0, m1, m2⟩, i0, i1, i2⟩
end

section
variable {H : Type} {enc : TypeId × Value → H} {w : World} {base : Nat} {spare : Nat → Bool} {held : Bool} {b0 : Nat} {v : Value} {d : DataW H} {p : List MemPlace} {r : Reach}

theorem open_nums {a : Option Addr} {len cap : Nat} (h : DataW.Trod enc Try.prog w base spare held 45 (.slice a len cap) d p) :
    ∃ L : List Int, L.length = len ∧ len ≤ maxLen ∧ Ints w w.heap.size a L := by
  obtain ⟨fuel, hf⟩ := h
  obtain ⟨a', L, cap', hc, hm, hi⟩ := nums_form hf
  simp [Value.cells] at hc
  obtain ⟨rfl, rfl, rfl⟩ := hc
  exact ⟨L, rfl, hm, hi⟩

theorem open_zone (hv : Value.okWide Try.prog w r b0 47 v) (h : DataW.Trod enc Try.prog w base spare held 47 v d p) :
    ∃ a0 l0 c0 a1 l1 c1 a2 l2 c2 ze zc zs, v = .agg #[.slice a0 (l0 : List Int).length c0, .slice a1 (l1 : List Int).length c1, .slice a2 (l2 : List Int).length c2, .int .i64 ze, .int .i64 zc, .int .i64 zs] ∧
      (l0.length ≤ maxLen ∧ l1.length ≤ maxLen ∧ l2.length ≤ maxLen) ∧ Ints w w.heap.size a0 l0 ∧ Ints w w.heap.size a1 l1 ∧ Ints w w.heap.size a2 l2 := by
  obtain ⟨cs, rfl, _⟩ := okWide_struct Try.underlying47 hv
  obtain ⟨fuel, hf⟩ := h
  obtain ⟨a0, l0, c0, a1, l1, c1, a2, l2, c2, ze, zc, zs, k, u⟩ := zone_form hf
  have k' : cs.toList = _ := k
  exact ⟨a0, l0, c0, a1, l1, c1, a2, l2, c2, ze, zc, zs, by rw [← Array.toArray_toList (xs := cs), k'], u⟩
end
end Go.Proofs.Ytcciejglemfebaa
