/- Words for the rows: what a configuration, and a joint, that came in is as a value. -/
import Derived.Test.YtcciejglemfebaaProg
import Derived.Test.YtcciejglemfebaaP0
import Derived.WalkKit
import Derived.ProofKit
import Derived.OpenShut
import Derived.ChangeOld
import Derived.Below
namespace Go.Proofs.Ytcciejglemfebaa
open Go.ChangeShapes Go.WideShapes Go.ChangeAt Go.RowKit

theorem Try.own : ownKnob Try.prog.godebug = none := by kernel_rfl
theorem Try.laidOut : laidOutB Try.prog = true := by kernel_rfl

theorem u16_of_wf {n : Int} (h : (Lit.int .u16 n).wf = true) : U n := by
  have hmin : IntKind.u16.min = 0 := rfl
  have hmax : IntKind.u16.max = 65535 := rfl
  simp only [Lit.wf, Bool.and_eq_true, decide_eq_true_eq] at h
  unfold U
  omega

theorem Try.cells33 : Try.prog.cellsOf 33 = 5 := by kernel_rfl
theorem Try.cells38 : Try.prog.cellsOf 38 = 11 := by kernel_rfl
theorem Try.cells23 : Try.prog.cellsOf 23 = 1 := by kernel_rfl
theorem Try.cells3 : Try.prog.cellsOf 3 = 1 := by kernel_rfl
theorem Try.cells4 : Try.prog.cellsOf 4 = 1 := by kernel_rfl

section
variable {H : Type} {enc : TypeId × Value → H} {w : World} {base : Nat} {spare : Nat → Bool} {held : Bool} {fuel : Nat} {cs : List Value} {x : DataW H × List MemPlace}

theorem list5 {α : Type} {l : List α} (h : l.length = 5) : ∃ a b c d e, l = [a, b, c, d, e] := by
  match l, h with
  | [a, b, c, d, e], _ => exact ⟨a, b, c, d, e, rfl⟩
theorem list11 {α : Type} {l : List α} (h : l.length = 11) : ∃ a b c d e a' b' c' d' e' f, l = [a, b, c, d, e, a', b', c', d', e', f] := by
  match l, h with
  | [a, b, c, d, e, a', b', c', d', e', f], _ => exact ⟨a, b, c, d, e, a', b', c', d', e', f, rfl⟩
theorem some_of_lt {α : Type} {l : List α} {i : Nat} (h : i < l.length) : ∃ a, l[i]? = some a := ⟨_, List.getElem?_eq_getElem h⟩

theorem cfg_form (h : DataW.trod enc Try.prog w base spare held fuel 33 cs = some x) :
    ∃ v wi l e c, cs = [.int .u16 v, .int .u16 wi, .int .u16 l, .int .i64 e, .int .i64 c] ∧ U v ∧ U wi ∧ U l := by
  obtain ⟨xs, n, _, _, hlen, hxl, hf⟩ := DataW.trod_struct Try.underlying33 h
  rw [Try.cells33] at hlen
  obtain ⟨c0, c1, c2, c3, c4, rfl⟩ := list5 hlen
  have hx5 : xs.length = 5 := hxl
  obtain ⟨y0, e0⟩ := some_of_lt (l := xs) (i := 0) (by omega)
  obtain ⟨y1, e1⟩ := some_of_lt (l := xs) (i := 1) (by omega)
  obtain ⟨y2, e2⟩ := some_of_lt (l := xs) (i := 2) (by omega)
  obtain ⟨y3, e3⟩ := some_of_lt (l := xs) (i := 3) (by omega)
  obtain ⟨y4, e4⟩ := some_of_lt (l := xs) (i := 4) (by omega)
  have f0 : DataW.trod enc Try.prog w base spare held n 23 ((List.drop 0 [c0, c1, c2, c3, c4]).take (Try.prog.cellsOf 23)) = some y0 := (hf 0 _ rfl).trans e0
  have f1 : DataW.trod enc Try.prog w base spare held n 23 ((List.drop 1 [c0, c1, c2, c3, c4]).take (Try.prog.cellsOf 23)) = some y1 := (hf 1 _ rfl).trans e1
  have f2 : DataW.trod enc Try.prog w base spare held n 23 ((List.drop 2 [c0, c1, c2, c3, c4]).take (Try.prog.cellsOf 23)) = some y2 := (hf 2 _ rfl).trans e2
  have f3 : DataW.trod enc Try.prog w base spare held n 3 ((List.drop 3 [c0, c1, c2, c3, c4]).take (Try.prog.cellsOf 3)) = some y3 := (hf 3 _ rfl).trans e3
  have f4 : DataW.trod enc Try.prog w base spare held n 3 ((List.drop 4 [c0, c1, c2, c3, c4]).take (Try.prog.cellsOf 3)) = some y4 := (hf 4 _ rfl).trans e4
  simp only [Try.cells23, Try.cells3, List.drop_zero, List.drop_succ_cons, List.take_succ_cons, List.take_zero] at f0 f1 f2 f3 f4
  obtain ⟨a0, k0, _, w0⟩ := DataW.trod_int Try.underlying23 f0
  obtain ⟨a1, k1, _, w1⟩ := DataW.trod_int Try.underlying23 f1
  obtain ⟨a2, k2, _, w2⟩ := DataW.trod_int Try.underlying23 f2
  obtain ⟨a3, k3, _, _⟩ := DataW.trod_int Try.underlying3 f3
  obtain ⟨a4, k4, _, _⟩ := DataW.trod_int Try.underlying3 f4
  simp only [List.cons.injEq, and_true] at k0 k1 k2 k3 k4
  subst k0 k1 k2 k3 k4
  exact ⟨a0, a1, a2, a3, a4, rfl, u16_of_wf w0, u16_of_wf w1, u16_of_wf w2⟩

theorem joint_form (h : DataW.trod enc Try.prog w base spare held fuel 38 cs = some x) :
    ∃ v wi l e c v' wi' l' e' c' two, cs = [.int .u16 v, .int .u16 wi, .int .u16 l, .int .i64 e, .int .i64 c, .int .u16 v', .int .u16 wi', .int .u16 l', .int .i64 e', .int .i64 c', .bool two] ∧ U v ∧ U wi ∧ U l ∧ U v' ∧ U wi' ∧ U l' := by
  obtain ⟨xs, n, _, _, hlen, hxl, hf⟩ := DataW.trod_struct Try.underlying38 h
  rw [Try.cells38] at hlen
  obtain ⟨c0, c1, c2, c3, c4, d0, d1, d2, d3, d4, f, rfl⟩ := list11 hlen
  have hx3 : xs.length = 3 := hxl
  obtain ⟨y0, e0⟩ := some_of_lt (l := xs) (i := 0) (by omega)
  obtain ⟨y1, e1⟩ := some_of_lt (l := xs) (i := 1) (by omega)
  obtain ⟨y2, e2⟩ := some_of_lt (l := xs) (i := 2) (by omega)
  have f0 : DataW.trod enc Try.prog w base spare held n 33 ((List.drop 0 [c0, c1, c2, c3, c4, d0, d1, d2, d3, d4, f]).take (Try.prog.cellsOf 33)) = some y0 := (hf 0 _ rfl).trans e0
  have f1 : DataW.trod enc Try.prog w base spare held n 33 ((List.drop 5 [c0, c1, c2, c3, c4, d0, d1, d2, d3, d4, f]).take (Try.prog.cellsOf 33)) = some y1 := (hf 1 _ rfl).trans e1
  have f2 : DataW.trod enc Try.prog w base spare held n 4 ((List.drop 10 [c0, c1, c2, c3, c4, d0, d1, d2, d3, d4, f]).take (Try.prog.cellsOf 4)) = some y2 := (hf 2 _ rfl).trans e2
  simp only [Try.cells33, Try.cells4, List.drop_zero, List.drop_succ_cons, List.take_succ_cons, List.take_zero] at f0 f1 f2
  obtain ⟨v, wi, l, e, c, k0, u0, u1, u2⟩ := cfg_form f0
  obtain ⟨v', wi', l', e', c', k1, u3, u4, u5⟩ := cfg_form f1
  obtain ⟨t, k2, _⟩ := DataW.trod_bool Try.underlying4 f2
  simp only [List.cons.injEq, and_true] at k0 k1 k2
  obtain ⟨rfl, rfl, rfl, rfl, rfl⟩ := k0
  obtain ⟨rfl, rfl, rfl, rfl, rfl⟩ := k1
  subst k2
  exact ⟨v, wi, l, e, c, v', wi', l', e', c', t, rfl, u0, u1, u2, u3, u4, u5⟩
end

section
variable {H : Type} {enc : TypeId × Value → H} {w : World} {base : Nat} {spare : Nat → Bool} {held : Bool} {b0 : Nat} {v : Value} {d : DataW H} {p : List MemPlace} {r : Reach}

theorem open_cfg (hv : Value.okWide Try.prog w r b0 33 v) (h : DataW.Trod enc Try.prog w base spare held 33 v d p) :
    ∃ x wi l e c, v = .agg #[.int .u16 x, .int .u16 wi, .int .u16 l, .int .i64 e, .int .i64 c] ∧ U x ∧ U wi ∧ U l := by
  obtain ⟨cs, rfl, _⟩ := okWide_struct Try.underlying33 hv
  obtain ⟨fuel, hf⟩ := h
  obtain ⟨x, wi, l, e, c, k, u0, u1, u2⟩ := cfg_form hf
  have k' : cs.toList = _ := k
  exact ⟨x, wi, l, e, c, by rw [← Array.toArray_toList (xs := cs), k'], u0, u1, u2⟩

theorem open_joint (hv : Value.okWide Try.prog w r b0 38 v) (h : DataW.Trod enc Try.prog w base spare held 38 v d p) :
    ∃ x wi l e c x' wi' l' e' c' two, v = .agg #[.int .u16 x, .int .u16 wi, .int .u16 l, .int .i64 e, .int .i64 c, .int .u16 x', .int .u16 wi', .int .u16 l', .int .i64 e', .int .i64 c', .bool two] ∧ U x ∧ U wi ∧ U l ∧ U x' ∧ U wi' ∧ U l' := by
  obtain ⟨cs, rfl, _⟩ := okWide_struct Try.underlying38 hv
  obtain ⟨fuel, hf⟩ := h
  obtain ⟨x, wi, l, e, c, x', wi', l', e', c', two, k, u⟩ := joint_form hf
  have k' : cs.toList = _ := k
  exact ⟨x, wi, l, e, c, x', wi', l', e', c', two, by rw [← Array.toArray_toList (xs := cs), k'], u⟩
end
end Go.Proofs.Ytcciejglemfebaa
