/- Words for the rows: what a slice of configurations that came in is in memory. -/
import Derived.Test.YtcciejglemfebaaF0
import Derived.Test.YtcciejglemfebaaM4
import Derived.Deep.Slices
namespace Go.Proofs.Ytcciejglemfebaa
open Go.ChangeShapes Go.WideShapes Go.ChangeAt Go.RowKit

section
variable {H : Type} {enc : TypeId × Value → H} {w : World} {base : Nat} {spare : Nat → Bool} {held : Bool}

theorem spot_none {a : Addr} {v : Value} (h : w.cell? a = some v) : a.spot = none ∧ a.block < w.heap.size := by
  unfold World.cell? at h
  split at h
  · rename_i c _ _ hb
    split at h
    · cases h
    · rename_i hs
      refine ⟨by cases hsp : a.spot with | none => rfl | some x => simp [hsp] at hs, ?_⟩
      exact (Array.getElem?_eq_some_iff.1 hb).1
  · cases h

theorem flat_pick {α : Type} (f : α → List Value) (n : Nat) (hn : 0 < n) (hf : ∀ a, (f a).length = n) (d : α) (L : List α) {k : Nat} {u : Value} (h : (L.flatMap f)[k]? = some u) :
    k / n < L.length ∧ (f (L.getD (k / n) d))[k % n]? = some u := by
  have hl : (L.flatMap f).length = L.length * n := by
    clear h
    induction L with
    | nil => simp
    | cons a L ih => rw [List.flatMap_cons, List.length_append, ih, hf, List.length_cons, Nat.succ_mul]; omega
  have hk : k < L.length * n := by rw [← hl]; exact (List.getElem?_eq_some_iff.1 h).1
  have hi : k / n < L.length := Nat.div_lt_of_lt_mul (by rw [Nat.mul_comm]; exact hk)
  refine ⟨hi, ?_⟩
  have e := flat_at f n hf d L (k / n) (k % n) hi (Nat.mod_lt _ hn)
  rw [show k / n * n + k % n = k from by rw [Nat.mul_comm]; exact Nat.div_add_mod k n] at e
  rw [← e, h]

theorem open_cfgs {a : Option Addr} {len cap : Nat} {d : DataW H} {p : List MemPlace} (h : DataW.Trod enc Try.prog w base spare held 59 (.slice a len cap) d p) :
    ∃ L : List Cfg, L.length = len ∧ len ≤ maxLen ∧ Row w w.heap.size a (csV L) := by
  obtain ⟨fuel, hf⟩ := h
  rcases Deep.open_slice Try.underlying59 hf with ⟨hc, _⟩ | ⟨x, l, c, m, n, D, Pl, hc, hb, hl, hcm, hm, _, hel⟩
  · simp [Value.cells] at hc
    obtain ⟨rfl, rfl, rfl⟩ := hc
    exact ⟨[], rfl, by unfold maxLen; omega, fun hn => absurd rfl hn⟩
  · simp [Value.cells] at hc
    obtain ⟨rfl, rfl, rfl⟩ := hc
    have hlm : len ≤ m := by rw [hm]; split <;> omega
    have key : ∀ i, i < len → ∃ y : Cfg, ∀ k, k < 5 → w.cell? (x.add (i * 5 + k)) = (cCells y)[k]? := by
      intro i hi
      obtain ⟨cs', h1, h2⟩ := hel i (by omega)
      obtain ⟨v, wi, l', e, c', rfl, _⟩ := cfg_form h2
      rw [Try.cells33] at h1
      obtain ⟨_, _, h3⟩ := World.cells?_some h1
      refine ⟨⟨v, wi, l', e, c'⟩, fun k hk => ?_⟩
      rw [← Deep.add_add]
      exact h3 k hk
    have hch := Classical.axiomOfChoice (r := fun (i : Fin len) (y : Cfg) => ∀ k, k < 5 → w.cell? (x.add (i.1 * 5 + k)) = (cCells y)[k]?) (fun i => key i.1 i.2)
    obtain ⟨f, hf'⟩ := hch
    refine ⟨List.ofFn f, by simp, by omega, fun hn => ?_⟩
    have hpos : 0 < len := by
      rcases Nat.eq_zero_or_pos len with h0 | h0
      · subst h0; exact absurd (by simp [csV]) hn
      · exact h0
    have hx : w.cell? x = (cCells (f ⟨0, hpos⟩))[0]? := by
      have := hf' ⟨0, hpos⟩ 0 (by omega)
      simpa [Addr.add] using this
    obtain ⟨hs, hlt⟩ := spot_none (v := .int .u16 (f ⟨0, hpos⟩).v) (hx.trans rfl)
    obtain ⟨b, o, s⟩ := x
    dsimp only at hs hlt
    subst hs
    refine ⟨b, o, rfl, hlt, fun k u hu => ?_⟩
    obtain ⟨h1, h2⟩ := flat_pick cCells 5 (by omega) (fun _ => rfl) zeroC (List.ofFn f) hu
    rw [List.length_ofFn] at h1
    have e := hf' ⟨k / 5, h1⟩ (k % 5) (Nat.mod_lt _ (by omega))
    have eg : (List.ofFn f).getD (k / 5) zeroC = f ⟨k / 5, h1⟩ := by
      rw [List.getD_eq_getElem?_getD, List.getElem?_eq_getElem (by simpa using h1)]
      simp
    rw [eg] at h2
    have ea : (⟨b, o, none⟩ : Addr).add (k / 5 * 5 + k % 5) = ⟨b, o + k, none⟩ := by
      rw [show k / 5 * 5 + k % 5 = k from by omega]
      unfold Addr.add
      split
      · rename_i h0; subst h0; rfl
      · rfl
    rw [← ea]
    exact e.trans h2
end
end Go.Proofs.Ytcciejglemfebaa
