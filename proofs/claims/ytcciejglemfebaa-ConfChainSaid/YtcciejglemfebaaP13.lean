/- Plain: what elects meets what commits in a node, where a configuration is shared; and what a change that is taken keeps. -/
import Derived.Test.YtcciejglemfebaaP11
namespace Go.Proofs.Ytcciejglemfebaa
open Go

theorem meet_count' {V a b : Int} {E C : Int} (hE : E ≤ cnt (inter V a)) (hC : C ≤ cnt (inter V b)) (h : cnt V < E + C) : msk (inter a b) ≠ 0 := by
  intro h0
  have e4 := msk_zero.1 h0
  have e1 := cnt_union (inter V a) (inter V b)
  have e2 : cnt (union (inter V a) (inter V b)) ≤ cnt V := cnt_mono fun i _ ht => by
    rw [tb_union, tb_inter, tb_inter, Bool.or_eq_true, Bool.and_eq_true, Bool.and_eq_true] at ht
    rcases ht with ht | ht <;> exact ht.1
  have e3 : cnt (inter (inter V a) (inter V b)) ≤ cnt (inter a b) := cnt_mono fun i _ ht => by
    rw [tb_inter, tb_inter, tb_inter, Bool.and_eq_true, Bool.and_eq_true, Bool.and_eq_true] at ht
    rw [tb_inter, ht.1.2, ht.2.2]
    rfl
  omega

theorem Shares.commit' {p q : Jnt} (h : Shares p q) {a b : Int} (ha : electsJ p a = true) (hb : commitsJ q b = true) : msk (inter a b) ≠ 0 := by
  obtain ⟨⟨v, w, l, e, c⟩, hm, h1, _, h3⟩ := h
  obtain ⟨_, _, _, _, _, _, _, _, _, _, _, hc, _⟩ := (mayC_iff _ _ _ _ _).1 hm
  have ha' := h1 a ha
  have hb' := h3 b hb
  unfold electsC at ha'
  unfold commitsC at hb'
  rw [Bool.and_eq_true] at hb'
  have h2 : e ≤ cnt (inter (union v w) a) := of_decide_eq_true ha'
  have h3 : c ≤ cnt (inter (union v w) b) := of_decide_eq_true hb'.1
  exact meet_count' (V := union v w) h2 h3 (by omega)

theorem change_wit {j : Jnt} {t : Cfg} (h : (changeJ j t).2 = 0) : t.w = j.old.w := by
  unfold changeJ at h
  split at h
  · simp at h
  · split at h
    · simp at h
    · split at h
      · simp at h
      · rename_i hc
        exact Decidable.byContradiction fun hne => hc (.inl hne)

end Go.Proofs.Ytcciejglemfebaa
