/- Plain: what Allot answers: region by region, first the voters, then the witnesses, then the learners. -/
import Derived.Test.YtcciejglemfebaaZ4
namespace Go.Proofs.Ytcciejglemfebaa
open Go

/-- Three sets: voters, witnesses, learners. -/
structure S3 where
  v : Int
  w : Int
  l : Int
deriving DecidableEq

def S3.all (s : S3) : Int := union (union s.v s.w) s.l
def S3.at (s : S3) : Nat → Int
  | 0 => s.v
  | 1 => s.w
  | _ => s.l
def S3.put (s : S3) (x : Int) : Nat → S3
  | 0 => ⟨x, s.w, s.l⟩
  | 1 => ⟨s.v, x, s.l⟩
  | _ => ⟨s.v, s.w, x⟩
def Zn.at (z : Zn) : Nat → List Int
  | 0 => z.v
  | 1 => z.w
  | _ => z.l

/-- What one region adds to one of the three sets. -/
def stepA (regs load : List Int) (z : Zn) (r i : Nat) (s : S3) : Option S3 :=
  match takeGo regs load (r : Int) s.all ((z.at i).getD r 0).toNat 0 with
  | none => none
  | some g => some (s.put (union (s.at i) g) i)

/-- So many steps from step p on: step p is region p / 3, set p % 3. -/
def allotGo (regs load : List Int) (z : Zn) : Nat → Nat → S3 → Option S3
  | 0, _, s => some s
  | m + 1, p, s =>
    match stepA regs load z (p / 3) (p % 3) s with
    | none => none
    | some s' => allotGo regs load z m (p + 1) s'

def orMost (e m : Int) : Int := if e = 0 then m else e
def mostOf (s : S3) : Int := cnt (union s.v s.w) / 2 + 1
def cfgOf (z : Zn) (s : S3) : Cfg := ⟨s.v, s.w, s.l, orMost z.e (mostOf s), orMost z.c (mostOf s)⟩

/-- What Allot answers. -/
def allotP (regs load : List Int) (z : Zn) : Cfg × Int :=
  if mayRegsB regs = true ∧ mayZB z = true then
    match allotGo regs load z 12 0 ⟨0, 0, 0⟩ with
    | none => (zeroC, 8)
    | some s => (cfgOf z s, 0)
  else (zeroC, 1)

theorem allotP_arg {regs load : List Int} {z : Zn} (h : ¬ (mayRegsB regs = true ∧ mayZB z = true)) : allotP regs load z = (zeroC, 1) := by
  unfold allotP; rw [if_neg h]
theorem allotP_full {regs load : List Int} {z : Zn} (h : mayRegsB regs = true) (g : mayZB z = true) (k : allotGo regs load z 12 0 ⟨0, 0, 0⟩ = none) : allotP regs load z = (zeroC, 8) := by
  unfold allotP; rw [if_pos ⟨h, g⟩, k]
theorem allotP_ok {regs load : List Int} {z : Zn} {s : S3} (h : mayRegsB regs = true) (g : mayZB z = true) (k : allotGo regs load z 12 0 ⟨0, 0, 0⟩ = some s) : allotP regs load z = (cfgOf z s, 0) := by
  unfold allotP; rw [if_pos ⟨h, g⟩, k]

theorem allotGo_some {regs load : List Int} {z : Zn} {m p : Nat} {s : S3} {g : Int} (h : takeGo regs load ((p / 3 : Nat) : Int) s.all ((z.at (p % 3)).getD (p / 3) 0).toNat 0 = some g) :
    allotGo regs load z (m + 1) p s = allotGo regs load z m (p + 1) (s.put (union (s.at (p % 3)) g) (p % 3)) := by
  simp only [allotGo, stepA, h]
theorem allotGo_none {regs load : List Int} {z : Zn} {m p : Nat} {s : S3} (h : takeGo regs load ((p / 3 : Nat) : Int) s.all ((z.at (p % 3)).getD (p / 3) 0).toNat 0 = none) :
    allotGo regs load z (m + 1) p s = none := by
  simp only [allotGo, stepA, h]

theorem mayregs_len {l : List Int} (h : mayRegsB l = true) : 1 ≤ l.length ∧ l.length ≤ 9 := by
  simp [mayRegsB] at h
  omega
theorem list_le {l : List Int} (h : listOkB l = true) (r : Nat) : 0 ≤ l.getD r 0 ∧ l.getD r 0 ≤ 9 := by
  simp only [listOkB, Bool.and_eq_true, decide_eq_true_eq, List.all_eq_true] at h
  rw [List.getD_eq_getElem?_getD]
  cases e : l[r]? with
  | none => simp
  | some x =>
    have := h.2 x (List.mem_of_getElem? e)
    simpa [okN] using this
theorem mayz_list {z : Zn} (h : mayZB z = true) (i r : Nat) : 0 ≤ (z.at i).getD r 0 ∧ (z.at i).getD r 0 ≤ 9 := by
  simp only [mayZB, Bool.and_eq_true] at h
  obtain ⟨⟨⟨⟨⟨h0, h1⟩, h2⟩, _⟩, _⟩, _⟩ := h
  match i with
  | 0 => exact list_le h0 r
  | 1 => exact list_le h1 r
  | i + 2 => exact list_le h2 r

theorem union_assoc (a b c : Int) : union (union a b) c = union a (union b c) :=
  tb_ext (bits_u _ _ _) (bits_u _ _ _) fun i _ => by
    show tb (bits .or .u16 (bits .or .u16 a b) c) i = tb (bits .or .u16 a (bits .or .u16 b c)) i
    rw [tb_or, tb_or, tb_or, tb_or, Bool.or_assoc]
theorem union_zero {a : Int} (h : U a) : union a 0 = a :=
  tb_ext (bits_u _ _ _) h fun i _ => by
    show tb (bits .or .u16 a 0) i = _
    rw [tb_or, tb_zero, Bool.or_false]

/-- Its three sets are numbers of sixteen bits. -/
def S3.Us (t : S3) : Prop := U t.v ∧ U t.w ∧ U t.l
theorem all_us (t : S3) : U t.all := by unfold S3.all; exact bits_u _ _ _
theorem put_all (t : S3) (g : Int) (i : Nat) : (t.put (union (t.at i) g) i).all = union t.all g := by
  match i with
  | 0 =>
    refine tb_ext (all_us _) (bits_u _ _ _) fun k _ => ?_
    show tb (bits .or .u16 (bits .or .u16 (bits .or .u16 t.v g) t.w) t.l) k = tb (bits .or .u16 (bits .or .u16 (bits .or .u16 t.v t.w) t.l) g) k
    simp only [tb_or]
    cases tb t.v k <;> cases tb t.w k <;> cases tb t.l k <;> cases tb g k <;> rfl
  | 1 =>
    refine tb_ext (all_us _) (bits_u _ _ _) fun k _ => ?_
    show tb (bits .or .u16 (bits .or .u16 t.v (bits .or .u16 t.w g)) t.l) k = tb (bits .or .u16 (bits .or .u16 (bits .or .u16 t.v t.w) t.l) g) k
    simp only [tb_or]
    cases tb t.v k <;> cases tb t.w k <;> cases tb t.l k <;> cases tb g k <;> rfl
  | i + 2 =>
    refine tb_ext (all_us _) (bits_u _ _ _) fun k _ => ?_
    show tb (bits .or .u16 (bits .or .u16 t.v t.w) (bits .or .u16 t.l g)) k = tb (bits .or .u16 (bits .or .u16 (bits .or .u16 t.v t.w) t.l) g) k
    simp only [tb_or]
    cases tb t.v k <;> cases tb t.w k <;> cases tb t.l k <;> cases tb g k <;> rfl
theorem put_at (t : S3) (x : Int) (i : Nat) : (t.put x i).at i = x := by
  match i with
  | 0 => rfl
  | 1 => rfl
  | i + 2 => rfl
theorem put_put (t : S3) (x y : Int) (i : Nat) : (t.put x i).put y i = t.put y i := by
  match i with
  | 0 => rfl
  | 1 => rfl
  | i + 2 => rfl
theorem put_self {t : S3} (h : t.Us) (i : Nat) : t.put (union (t.at i) 0) i = t := by
  obtain ⟨h0, h1, h2⟩ := h
  match i with
  | 0 => show (⟨union t.v 0, t.w, t.l⟩ : S3) = t; rw [union_zero h0]
  | 1 => show (⟨t.v, union t.w 0, t.l⟩ : S3) = t; rw [union_zero h1]
  | i + 2 => show (⟨t.v, t.w, union t.l 0⟩ : S3) = t; rw [union_zero h2]
theorem put_us {t : S3} (h : t.Us) (x : Int) (hx : U x) (i : Nat) : (t.put x i).Us := by
  obtain ⟨h0, h1, h2⟩ := h
  match i with
  | 0 => exact ⟨hx, h1, h2⟩
  | 1 => exact ⟨h0, hx, h2⟩
  | i + 2 => exact ⟨h0, h1, hx⟩
theorem at_us {t : S3} (h : t.Us) (i : Nat) : U (t.at i) := by
  obtain ⟨h0, h1, h2⟩ := h
  match i with
  | 0 => exact h0
  | 1 => exact h1
  | i + 2 => exact h2
end Go.Proofs.Ytcciejglemfebaa
