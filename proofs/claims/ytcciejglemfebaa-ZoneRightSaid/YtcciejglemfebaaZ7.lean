/- Package zone's Allot, by a contract. -/
import Derived.Test.YtcciejglemfebaaZ6
import Derived.Test.YtcciejglemfebaaZ2
import Derived.Test.YtcciejglemfebaaZ5
import Derived.Test.YtcciejglemfebaaC3
import Derived.Deep.QuietTactic
import Derived.BigQuiet
namespace Go.Proofs.Ytcciejglemfebaa
open Go.RowKit

def valC (x : Cfg) : Value := .agg (cells x.v x.w x.l x.e x.c)
/-- What a configuration with an error is as a result. -/
def valCE (x : Cfg × Int) : Value := .tuple #[valC x.1, .int .i64 x.2]

/-- Allot's memory: the zone, the result, the configuration under way; what was there is as it was. -/
def AMem (w : World) (gc : Nat) (Z : Array Value) (ze zc : Int) (t : S3) (wr : World) : Prop :=
  Block wr w.heap.size 47 Z ∧ Block wr (w.heap.size + 1) 33 (cells 0 0 0 0 0) ∧ Block wr gc 33 (cells t.v t.w t.l ze zc) ∧ Below w.heap.size w wr
section
variable {w wr : World} {gc : Nat} {Z : Array Value} {ze zc : Int} {t : S3}
theorem AMem.alloc (h : AMem w gc Z ze zc t wr) (o : Obj) : AMem w gc Z ze zc t (wr.alloc o) :=
  ⟨h.1.alloc o, h.2.1.alloc o, h.2.2.1.alloc o, h.2.2.2.alloc h.2.2.2.size o⟩
theorem AMem.drewN (h : AMem w gc Z ze zc t wr) (n : Nat) : AMem w gc Z ze zc t (wr.drewN n) := ⟨h.1, h.2.1, h.2.2.1, below_drewN h.2.2.2 n⟩
theorem AMem.put (h : AMem w gc Z ze zc t wr) (hg : w.heap.size + 1 < gc) {i : Nat} (hi : i < 3) (x : Int) : AMem w gc Z ze zc (t.put x i) (wr.setCell ⟨gc, i, none⟩ (.int .u16 x)) := by
  refine ⟨h.1.far (p := ⟨gc, i, none⟩) (by show w.heap.size ≠ gc; omega) _, h.2.1.far (p := ⟨gc, i, none⟩) (by show w.heap.size + 1 ≠ gc; omega) _, ?_, h.2.2.2.setCell (p := ⟨gc, i, none⟩) (by show _ ≤ gc; omega) _⟩
  have k := h.2.2.1.put i (.int .u16 x)
  match i, hi with
  | 0, _ => exact k
  | 1, _ => exact k
  | 2, _ => exact k
  | i + 3, hi => omega
end

/-- Allot's table: where each set lies, and how many of it, region by region. -/
abbrev tblA (gc : Nat) (a0 : Option Addr) (l0 : List Int) (c0 : Nat) (a1 : Option Addr) (l1 : List Int) (c1 : Nat) (a2 : Option Addr) (l2 : List Int) (c2 : Nat) : Array Value :=
  #[.pointer (some ⟨gc, 0, none⟩), .slice a0 l0.length c0, .pointer (some ⟨gc, 1, none⟩), .slice a1 l1.length c1, .pointer (some ⟨gc, 2, none⟩), .slice a2 l2.length c2]
theorem tbl_at {w : World} {gc : Nat} {a0 : Option Addr} {l0 : List Int} {c0 : Nat} {a1 : Option Addr} {l1 : List Int} {c1 : Nat} {a2 : Option Addr} {l2 : List Int} {c2 : Nat} {ze zc zs : Int}
    (h0 : Ints w w.heap.size a0 l0) (h1 : Ints w w.heap.size a1 l1) (h2 : Ints w w.heap.size a2 l2) (n0 : l0.length ≤ 9223372036854775807) (n1 : l1.length ≤ 9223372036854775807) (n2 : l2.length ≤ 9223372036854775807) (i : Nat) (hi : i < 3) :
    ∃ (a : Option Addr) (l : List Int) (c : Nat), (tblA gc a0 l0 c0 a1 l1 c1 a2 l2 c2)[i * 2]? = some (.pointer (some ⟨gc, i, none⟩)) ∧ (tblA gc a0 l0 c0 a1 l1 c1 a2 l2 c2)[i * 2 + 1]? = some (.slice a l.length c) ∧
      (⟨l0, l1, l2, ze, zc, zs⟩ : Zn).at i = l ∧ Ints w w.heap.size a l ∧ l.length ≤ 9223372036854775807 := by
  match i, hi with
  | 0, _ => exact ⟨a0, l0, c0, rfl, rfl, rfl, h0, n0⟩
  | 1, _ => exact ⟨a1, l1, c1, rfl, rfl, rfl, h1, n1⟩
  | 2, _ => exact ⟨a2, l2, c2, rfl, rfl, rfl, h2, n2⟩
  | i + 3, hi => omega

/-- Five cells written, one behind the other. -/
def wput5 (w : World) (g : Nat) (a b c d e : Value) : World :=
  ((((w.setCell ⟨g, 0, none⟩ a).setCell ⟨g, 1, none⟩ b).setCell ⟨g, 2, none⟩ c).setCell ⟨g, 3, none⟩ d).setCell ⟨g, 4, none⟩ e
theorem Block.put5 {w : World} {g : Nat} {t : TypeId} {x0 x1 x2 x3 x4 : Value} (h : Block w g t #[x0, x1, x2, x3, x4]) (a b c d e : Value) : Block (wput5 w g a b c d e) g t #[a, b, c, d, e] := by
  have k := ((((h.put 0 a).put 1 b).put 2 c).put 3 d).put 4 e
  simp only [List.setIfInBounds_toArray, List.set_cons_zero, List.set_cons_succ] at k
  exact k
theorem below_put5 {w0 w : World} {g B : Nat} (h : Below B w0 w) (hg : B ≤ g) (a b c d e : Value) : Below B w0 (wput5 w g a b c d e) :=
  ((((h.setCell (p := ⟨g, 0, none⟩) hg a).setCell (p := ⟨g, 1, none⟩) hg b).setCell (p := ⟨g, 2, none⟩) hg c).setCell (p := ⟨g, 3, none⟩) hg d).setCell (p := ⟨g, 4, none⟩) hg e

set_option maxRecDepth 100000 in
set_option maxHeartbeats 3200000 in
theorem allot_calls (A : Option Addr) (C : Nat) (regs : List Int) (a0 : Option Addr) (l0 : List Int) (c0 : Nat) (a1 : Option Addr) (l1 : List Int) (c1 : Nat) (a2 : Option Addr) (l2 : List Int) (c2 : Nat) (ze zc zs : Int) (A' : Option Addr) (C' : Nat) (load : List Int) (w : World)
    (h : Ints w w.heap.size A regs) (h0 : Ints w w.heap.size a0 l0) (h1 : Ints w w.heap.size a1 l1) (h2 : Ints w w.heap.size a2 l2) (h' : Ints w w.heap.size A' load)
    (n : regs.length ≤ 9223372036854775807) (n0 : l0.length ≤ 9223372036854775807) (n1 : l1.length ≤ 9223372036854775807) (n2 : l2.length ≤ 9223372036854775807) (n' : load.length ≤ 9223372036854775807) :
    Calls Try.prog 31 #[.slice A regs.length C, .agg (zcells a0 l0 c0 a1 l1 c1 a2 l2 c2 ze zc zs), .slice A' load.length C'] w fun x w' =>
      x = .returned (valCE (allotP regs load ⟨l0, l1, l2, ze, zc, zs⟩)) ∧ Below w.heap.size w w' := by
  have HM := Lib.hid fun (w1 : World) (hb : Below w.heap.size w w1) => mayregs_calls A C regs w.heap.size w1 n (h.below hb)
  have HZ := Lib.hid fun (w1 : World) (hb : Below w.heap.size w w1) => mayzone_calls a0 l0 c0 a1 l1 c1 a2 l2 c2 ze zc zs w1 ((h0.below hb).more hb.size) ((h1.below hb).more hb.size) ((h2.below hb).more hb.size) n0 n1 n2
  have HTB := Lib.hid fun gc i hi => tbl_at (w := w) (gc := gc) (c0 := c0) (c1 := c1) (c2 := c2) (ze := ze) (zc := zc) (zs := zs) h0 h1 h2 n0 n1 n2 i hi
  have HIR := Lib.hid h
  have HIL := Lib.hid h'
  have b2 : Below w.heap.size w ((w.alloc (.cells (zcells a0 l0 c0 a1 l1 c1 a2 l2 c2 ze zc zs) 47)).alloc (.cells (cells 0 0 0 0 0) 33)) := ((Below.refl _ _).alloc (Nat.le_refl _) _).alloc (by simp) _
  have HM2 := Lib.hid (HM.out _ b2)
  have HZ2 := Lib.hid (HZ.out _ b2)
  clear h h0 h1 h2 h' n n0 n1 n2 HM HZ
  cases hM : mayRegsB regs with
  | false =>
    have HP : Hid (allotP regs load ⟨l0, l1, l2, ze, zc, zs⟩ = (zeroC, 1)) := allotP_arg (by rw [hM]; rintro ⟨h, _⟩; cases h)
    rw [hM] at HM2
    rw [HP.out]
    have HB2 := Lib.hid b2
    clear b2 HZ2 HTB HIR HIL HP hM
    go_enter Try.func31, Try.ntmps31
    go_wp2_with fail
    ((with_reducible refine HM2.out.mono ?_); rintro x w' ⟨rfl, rfl⟩)
    go_wp2_with fail
    refine bodyPost_ret (v := valCE (zeroC, 1)) (by simp [results, Try.results31, go_sem, valCE, valC, zeroC]) rfl ⟨rfl, ?_⟩
    repeat' (first | (with_reducible exact HB2.out) | (with_reducible refine Below.setCell ?_ ?_ _) | (show _ ≤ _; omega))
  | true =>
    rw [hM] at HM2
    cases hZ : mayZB ⟨l0, l1, l2, ze, zc, zs⟩ with
    | false =>
      have HP : Hid (allotP regs load ⟨l0, l1, l2, ze, zc, zs⟩ = (zeroC, 1)) := allotP_arg (by rw [hZ]; rintro ⟨_, h⟩; cases h)
      rw [hZ] at HZ2
      rw [HP.out]
      have HB2 := Lib.hid b2
      clear b2 HTB HIR HIL HP hZ hM
      go_enter Try.func31, Try.ntmps31
      go_wp2_with fail
      ((with_reducible refine HM2.out.mono ?_); rintro x w' ⟨rfl, rfl⟩)
      go_wp2_with fail
      ((with_reducible refine HZ2.out.mono ?_); rintro x w1 ⟨rfl, hb1⟩)
      have k2 : Block ((w.alloc (.cells (zcells a0 l0 c0 a1 l1 c1 a2 l2 c2 ze zc zs) 47)).alloc (.cells (cells 0 0 0 0 0) 33)) (w.heap.size + 1) 33 (cells 0 0 0 0 0) := Block.mk_new _ _ _ (by simp)
      have k3 := k2.below hb1 k2.lt
      have HB3 := Lib.hid (HB2.out.trans (hb1.mono HB2.out.size))
      have q0 := k3.cell 0
      have q1 := k3.cell 1
      have q2 := k3.cell 2
      have q3 := k3.cell 3
      have q4 := k3.cell 4
      have r0 := k3.frozen 0
      have r1 := k3.frozen 1
      have r2 := k3.frozen 2
      have r3 := k3.frozen 3
      have r4 := k3.frozen 4
      have HK5 := Lib.hid (k3.put5 (.int .u16 0) (.int .u16 0) (.int .u16 0) (.int .i64 0) (.int .i64 0))
      simp at q0 q1 q2 q3 q4
      clear hb1 k2 k3
      go_wp2_with fail
      obtain ⟨w9, hw9⟩ : ∃ w9, wput5 w1 (w.heap.size + 1) (.int .u16 0) (.int .u16 0) (.int .u16 0) (.int .i64 0) (.int .i64 0) = w9 := ⟨_, rfl⟩
      have HB9 : Hid (Below w.heap.size w w9) := by show Below _ _ _; rw [← hw9]; exact below_put5 HB3.out (by omega) _ _ _ _ _
      have K9 := HK5.out
      rw [hw9] at K9
      unfold wput5 at hw9
      rw [hw9]
      have s0 := K9.cell 0
      have s1 := K9.cell 1
      have s2 := K9.cell 2
      have s3 := K9.cell 3
      have s4 := K9.cell 4
      simp at s0 s1 s2 s3 s4
      exact bodyPost_ret (v := valCE (zeroC, 1)) (by simp [results, Try.results31, go_sem, valCE, valC, zeroC, s0, s1, s2, s3, s4]) rfl ⟨rfl, HB9.out⟩
    | true =>
      have hlen := (mayregs_len hM).2
      have HML := Lib.hid fun i r => mayz_list (z := ⟨l0, l1, l2, ze, zc, zs⟩) hZ i r
      have HOK := Lib.hid fun (t : S3) k => allotP_ok (load := load) (s := t) hM hZ k
      have HFULL := Lib.hid fun k => allotP_full (load := load) hM hZ k
      have HLEN := Lib.hid hlen
      have HB2 := Lib.hid b2
      rw [hZ] at HZ2
      clear b2 hM hZ hlen
      generalize hzz : (⟨l0, l1, l2, ze, zc, zs⟩ : Zn) = z at *
      have HEZ : Hid (z.e = ze ∧ z.c = zc) := by show _ ∧ _; rw [← hzz]; exact ⟨rfl, rfl⟩
      clear hzz
      go_enter Try.func31, Try.ntmps31
      go_wp2_with fail
      ((with_reducible refine HM2.out.mono ?_); rintro x w' ⟨rfl, rfl⟩)
      go_wp2_with fail
      ((with_reducible refine HZ2.out.mono ?_); rintro x w1 ⟨rfl, hb1⟩)
      have k1 : Block ((w.alloc (.cells (zcells a0 l0 c0 a1 l1 c1 a2 l2 c2 ze zc zs) 47)).alloc (.cells (cells 0 0 0 0 0) 33)) w.heap.size 47 (zcells a0 l0 c0 a1 l1 c1 a2 l2 c2 ze zc zs) := (Block.mk_new _ _ _ rfl).alloc _
      have k2 : Block ((w.alloc (.cells (zcells a0 l0 c0 a1 l1 c1 a2 l2 c2 ze zc zs) 47)).alloc (.cells (cells 0 0 0 0 0) 33)) (w.heap.size + 1) 33 (cells 0 0 0 0 0) := Block.mk_new _ _ _ (by simp)
      have j1 := k1.below hb1 k1.lt
      have j2 := k2.below hb1 k2.lt
      have hgc : w.heap.size + 1 < w1.heap.size := j2.lt
      have HB3 := Lib.hid (HB2.out.trans (hb1.mono HB2.out.size))
      have HME : Hid (AMem w w1.heap.size (zcells a0 l0 c0 a1 l1 c1 a2 l2 c2 ze zc zs) ze zc ⟨0, 0, 0⟩ (w1.alloc (.cells (cells 0 0 0 ze zc) 33))) :=
        ⟨j1.alloc _, j2.alloc _, Block.mk_new _ _ _ rfl, HB3.out.alloc HB3.out.size _⟩
      have z0 := j1.cell 0
      have z1 := j1.cell 1
      have z2 := j1.cell 2
      have z3 := j1.cell 3
      have z4 := j1.cell 4
      simp at z0 z1 z2 z3 z4
      clear hb1 k1 k2 j1 j2 HB2 HM2 HZ2
      go_wp2_with fail
      obtain ⟨wA, hwA⟩ : ∃ wA, w1.alloc (.cells (cells 0 0 0 ze zc) 33) = wA := ⟨_, rfl⟩
      rw [hwA] at HME
      have e5 : (Obj.cells #[Value.int .u16 0, Value.int .u16 0, Value.int .u16 0, Value.int .i64 ze, Value.int .i64 zc] 33) = .cells (cells 0 0 0 ze zc) 33 := rfl
      rw [e5, hwA]
      clear e5 hwA z0 z1 z2 z3 z4
      generalize w1.heap.size = gc at *
      go_loopw [29] (fun i wr => ∃ (r : Nat) (t : S3), r ≤ 4 ∧ i = .int .i64 (r : Int) ∧ Hid (allotGo regs load z (12 - 3 * r) (3 * r) t = allotGo regs load z 12 0 ⟨0, 0, 0⟩) ∧ Hid (AMem w gc (zcells a0 l0 c0 a1 l1 c1 a2 l2 c2 ze zc zs) ze zc t wr)) (fun i _ => 4 - (intOf i).toNat)
      case atStart => exact ⟨0, ⟨0, 0, 0⟩, by omega, rfl, rfl, HME⟩
      case round =>
        clear HME
        obtain ⟨r, t, hr, rfl, HR, HME⟩ := hrel
        by_cases hlt : r < 4
        · have z0 := HME.out.1.cell 0
          have z1 := HME.out.1.cell 1
          have z2 := HME.out.1.cell 2
          simp at z0 z1 z2
          have HTA : Hid (AMem w gc (zcells a0 l0 c0 a1 l1 c1 a2 l2 c2 ze zc zs) ze zc t (wr.alloc (.cells (tblA gc a0 l0 c0 a1 l1 c1 a2 l2 c2) 77))) := HME.out.alloc _
          have HTT : Hid (Block (wr.alloc (.cells (tblA gc a0 l0 c0 a1 l1 c1 a2 l2 c2) 77)) wr.heap.size 77 (tblA gc a0 l0 c0 a1 l1 c1 a2 l2 c2)) := Block.new _ _ _
          have hgt : gc < wr.heap.size := HME.out.2.2.1.lt
          clear HME
          go_wp2_with fail
          obtain ⟨wB, hwB⟩ : ∃ wB, wr.alloc (.cells (tblA gc a0 l0 c0 a1 l1 c1 a2 l2 c2) 77) = wB := ⟨_, rfl⟩
          rw [hwB] at HTA HTT
          rw [hwB]
          clear hwB z0 z1 z2
          generalize wr.heap.size = gt at *
          go_loopw [46] (fun j wr => ∃ (i : Nat) (t : S3), i ≤ 3 ∧ j = .int .i64 (i : Int) ∧ Hid (allotGo regs load z (12 - (3 * r + i)) (3 * r + i) t = allotGo regs load z 12 0 ⟨0, 0, 0⟩) ∧ Hid (AMem w gc (zcells a0 l0 c0 a1 l1 c1 a2 l2 c2 ze zc zs) ze zc t wr) ∧
            Hid (Block wr gt 77 (tblA gc a0 l0 c0 a1 l1 c1 a2 l2 c2))) (fun j _ => 3 - (intOf j).toNat)
          case atStart => exact ⟨0, t, by omega, rfl, HR, HTA, HTT⟩
          case round =>
            clear HTA HTT HR
            obtain ⟨i, t, hi, rfl, HR, HME, HT⟩ := hrel
            by_cases hi3 : i < 3
            · obtain ⟨a, l, c, e1, e2, e3, e4, e5⟩ := HTB.out gc i hi3
              have t0 := (HT.out.cell (i * 2)).trans e1
              have t1 := (HT.out.cell (i * 2 + 1)).trans e2
              clear e1 e2
              have HSL : Hid (l.length ≤ 9223372036854775807) := e5
              have HEQ : Hid (z.at i = l) := e3
              have HIL2 : Hid (Ints w w.heap.size a l) := e4
              clear e3 e4 e5
              have HNN := HML.out i r
              rw [HEQ.out] at HNN
              obtain ⟨N, hN⟩ : ∃ N : Nat, l.getD r 0 = (N : Int) := ⟨(l.getD r 0).toNat, by omega⟩
              have hN9 : N ≤ 9 := by omega
              have HNV := Lib.hid hN
              have HMC : Hid (AMem w gc (zcells a0 l0 c0 a1 l1 c1 a2 l2 c2 ze zc zs) ze zc t (wr.alloc (.cells #[.pointer (some ⟨gc, i, none⟩), .slice a l.length c] 77))) := HME.out.alloc _
              have HTC : Hid (Block (wr.alloc (.cells #[.pointer (some ⟨gc, i, none⟩), .slice a l.length c] 77)) gt 77 (tblA gc a0 l0 c0 a1 l1 c1 a2 l2 c2)) := HT.out.alloc _
              have HX : Hid (Block (wr.alloc (.cells #[.pointer (some ⟨gc, i, none⟩), .slice a l.length c] 77)) wr.heap.size 77 #[.pointer (some ⟨gc, i, none⟩), .slice a l.length c]) := Block.new _ _ _
              have hgx : gc < wr.heap.size := HME.out.2.2.1.lt
              clear hN HNN HT HME
              go_wp2_with fail
              obtain ⟨wC, hwC⟩ : ∃ wC, wr.alloc (.cells #[.pointer (some ⟨gc, i, none⟩), .slice a l.length c] 77) = wC := ⟨_, rfl⟩
              rw [hwC] at HMC HTC HX
              rw [hwC]
              clear t0 t1 hwC
              generalize wr.heap.size = gx at *
              have x0 := HX.out.cell 0
              have x1 := HX.out.cell 1
              have v0 := HMC.out.2.2.1.cell 0
              have v1 := HMC.out.2.2.1.cell 1
              have v2 := HMC.out.2.2.1.cell 2
              have vi : wC.cell? ⟨gc, i, none⟩ = some (.int .u16 (t.at i)) := by
                match i, hi3 with
                | 0, _ => exact v0
                | 1, _ => exact v1
                | 2, _ => exact v2
                | i + 3, hi => omega
              have fi := HMC.out.2.2.1.frozen i
              have q0 := HMC.out.2.1.cell 0
              have q1 := HMC.out.2.1.cell 1
              have q2 := HMC.out.2.1.cell 2
              have q3 := HMC.out.2.1.cell 3
              have q4 := HMC.out.2.1.cell 4
              have r0 := HMC.out.2.1.frozen 0
              have r1 := HMC.out.2.1.frozen 1
              have r2 := HMC.out.2.1.frozen 2
              have r3 := HMC.out.2.1.frozen 3
              have r4 := HMC.out.2.1.frozen 4
              simp at x0 x1 v0 v1 v2 q0 q1 q2 q3 q4
              have HAT : Hid (∀ q, Calls Try.prog 69 #[.slice a l.length c, .int .i64 (r : Int)] (wC.drewN q) fun e w' => e = .returned (.int .i64 (N : Int)) ∧ w' = wC.drewN q) := fun q => by
                have hh := at_calls a c l (r : Int) w.heap.size (wC.drewN q) HSL.out (HIL2.out.below (below_drewN HMC.out.2.2.2 q)) (by omega)
                rw [show ((r : Int)).toNat = r from rfl, HNV.out] at hh
                exact hh.mono fun _ _ hh => ⟨hh.1, hh.2.symm⟩
              have HTK : Hid (∀ q, Calls Try.prog 68 #[.slice A regs.length C, .int .i64 (r : Int), .int .i64 (N : Int), .slice A' load.length C', .int .u16 (union (union t.v t.w) t.l)] (wC.drewN q) fun e w' =>
                  e = .returned (takeV (takeGo regs load (r : Int) (union (union t.v t.w) t.l) N 0)) ∧ w' = wC.drewN q) := fun q =>
                (take_calls A C regs r N A' C' load (union (union t.v t.w) t.l) w.heap.size w.heap.size (wC.drewN q) HLEN.out n' hN9 (HIR.out.below (below_drewN HMC.out.2.2.2 q)) (HIL.out.below (below_drewN HMC.out.2.2.2 q))).mono fun _ _ hh => ⟨hh.1, hh.2.symm⟩
              have hp3 : (3 * r + i) / 3 = r := by omega
              have hp4 : (3 * r + i) % 3 = i := by omega
              have hNt : (((z.at i).getD r 0)).toNat = N := by rw [HEQ.out, HNV.out]; rfl
              cases hg : takeGo regs load (r : Int) (union (union t.v t.w) t.l) N 0 with
              | none =>
                have HF : Hid (allotP regs load z = (zeroC, 8)) := by
                  refine HFULL.out ?_
                  rw [← HR.out, show 12 - (3 * r + i) = (11 - (3 * r + i)) + 1 from by omega]
                  refine allotGo_none ?_
                  rw [hp3, hp4, hNt]
                  exact hg
                rw [hg] at HTK
                have HTK2 : Hid (∀ q, Calls Try.prog 68 #[.slice A regs.length C, .int .i64 (r : Int), .int .i64 (N : Int), .slice A' load.length C', .int .u16 (union (union t.v t.w) t.l)] (wC.drewN q) fun e w' =>
                  e = .returned (.tuple #[.int .u16 0, .int .i64 8]) ∧ w' = wC.drewN q) := HTK
                clear HTK hg hp3 hp4 hNt HR HTC HX hN9 hi
                go_quiet (first | (go_at_call 69; exact Calls.quiet_of_same (HAT.out _)) | (go_at_call 68; exact Calls.quiet_of_same (HTK2.out _)))
                go_wp2_with fail
                obtain ⟨w9, hw9⟩ : ∃ w9, wput5 (wC.drewN nq) (w.heap.size + 1) (.int .u16 0) (.int .u16 0) (.int .u16 0) (.int .i64 0) (.int .i64 0) = w9 := ⟨_, rfl⟩
                have HB9 : Hid (Below w.heap.size w w9) := by show Below _ _ _; rw [← hw9]; exact below_put5 (below_drewN HMC.out.2.2.2 nq) (by omega) _ _ _ _ _
                have K9 := Block.put5 (HMC.out.2.1.drewN nq) (.int .u16 0) (.int .u16 0) (.int .u16 0) (.int .i64 0) (.int .i64 0)
                rw [hw9] at K9
                unfold wput5 at hw9
                rw [hw9]
                have s0 := K9.cell 0
                have s1 := K9.cell 1
                have s2 := K9.cell 2
                have s3 := K9.cell 3
                have s4 := K9.cell 4
                simp at s0 s1 s2 s3 s4
                rw [HF.out]
                exact bodyPost_ret (v := valCE (zeroC, 8)) (by simp [results, Try.results31, go_sem, valCE, valC, zeroC, s0, s1, s2, s3, s4]) rfl ⟨rfl, HB9.out⟩
              | some g =>
                have HN : Hid (allotGo regs load z (12 - (3 * r + (i + 1))) (3 * r + (i + 1)) (t.put (union (t.at i) g) i) = allotGo regs load z 12 0 ⟨0, 0, 0⟩) := by
                  show _ = _
                  have e := allotGo_some (regs := regs) (load := load) (z := z) (m := 11 - (3 * r + i)) (p := 3 * r + i) (s := t) (g := g) (by rw [hp3, hp4, hNt]; exact hg)
                  rw [hp4] at e
                  rw [← HR.out, show 12 - (3 * r + i) = (11 - (3 * r + i)) + 1 from by omega, e, show 12 - (3 * r + (i + 1)) = 11 - (3 * r + i) from by omega, show 3 * r + (i + 1) = 3 * r + i + 1 from by omega]
                rw [hg] at HTK
                have HTK2 : Hid (∀ q, Calls Try.prog 68 #[.slice A regs.length C, .int .i64 (r : Int), .int .i64 (N : Int), .slice A' load.length C', .int .u16 (union (union t.v t.w) t.l)] (wC.drewN q) fun e w' =>
                  e = .returned (.tuple #[.int .u16 g, .int .i64 0]) ∧ w' = wC.drewN q) := HTK
                have HMN := Lib.hid fun (q : Nat) => (HMC.out.drewN q).put hgc hi3 (union (t.at i) g)
                have HTN : Hid (∀ q : Nat, Block ((wC.drewN q).setCell ⟨gc, i, none⟩ (.int .u16 (union (t.at i) g))) gt 77 (tblA gc a0 l0 c0 a1 l1 c1 a2 l2 c2)) := fun q => (HTC.out.drewN q).far (p := ⟨gc, i, none⟩) (by show gt ≠ gc; omega) _
                clear HTK hg hp3 hp4 hNt HR HTC HX hN9 q0 q1 q2 q3 q4 r0 r1 r2 r3 r4
                go_quiet (first | (go_at_call 69; exact Calls.quiet_of_same (HAT.out _)) | (go_at_call 68; exact Calls.quiet_of_same (HTK2.out _)))
                go_wp2_with fail
                go_roundw
                case rel => exact ⟨i + 1, _, by omega, by go_num, HN, Lib.hid (HMN.out _), Lib.hid (HTN.out _)⟩
                case measure => simp [intOf]; omega
            · have HN : Hid (allotGo regs load z (12 - 3 * (r + 1)) (3 * (r + 1)) t = allotGo regs load z 12 0 ⟨0, 0, 0⟩) := by
                show _ = _
                rw [← HR.out, show i = 3 from by omega, show 12 - (3 * r + 3) = 12 - 3 * (r + 1) from by omega, show 3 * r + 3 = 3 * (r + 1) from by omega]
              clear HR HT
              go_wp2_with fail
              go_roundw
              case rel => exact ⟨r + 1, t, by omega, by go_num, HN, HME⟩
              case measure => simp [intOf]; omega
        · have HF : Hid (allotP regs load z = (cfgOf z t, 0)) := HOK.out t (by rw [← HR.out, show 12 - 3 * r = 0 from by omega]; rfl)
          have HCN := Lib.hid (count_calls (union t.v t.w) wr)
          have m0 := cnt_nonneg (union t.v t.w)
          have m9 := cnt_le (union t.v t.w)
          have HMO : Hid (mostOf t = cnt (union t.v t.w) / 2 + 1) := rfl
          generalize cnt (union t.v t.w) = m at *
          have v0 := HME.out.2.2.1.cell 0
          have v1 := HME.out.2.2.1.cell 1
          have v2 := HME.out.2.2.1.cell 2
          have v3 := HME.out.2.2.1.cell 3
          have v4 := HME.out.2.2.1.cell 4
          have f3 := HME.out.2.2.1.frozen 3
          have f4 := HME.out.2.2.1.frozen 4
          have q0 := HME.out.2.1.cell 0
          have q1 := HME.out.2.1.cell 1
          have q2 := HME.out.2.1.cell 2
          have q3 := HME.out.2.1.cell 3
          have q4 := HME.out.2.1.cell 4
          have r0 := HME.out.2.1.frozen 0
          have r1 := HME.out.2.1.frozen 1
          have r2 := HME.out.2.1.frozen 2
          have r3 := HME.out.2.1.frozen 3
          have r4 := HME.out.2.1.frozen 4
          simp at v0 v1 v2 v3 v4 q0 q1 q2 q3 q4
          have hne : ¬ (w.heap.size + 1 = gc) := by omega
          have hne' : ¬ (gc = w.heap.size + 1) := by omega
          clear HR
          by_cases z1 : ze = 0
          · by_cases z2 : zc = 0
            · have HCF : Hid (valCE (cfgOf z t, 0) = .tuple #[.agg #[.int .u16 t.v, .int .u16 t.w, .int .u16 t.l, .int .i64 (m / 2 + 1), .int .i64 (m / 2 + 1)], .int .i64 0]) := by
                show _ = _
                unfold valCE valC cfgOf orMost
                rw [HEZ.out.1, HEZ.out.2, HMO.out]
                simp [z1, z2]
              clear HMO
              go_wp2_with fail
              ((with_reducible refine HCN.out.mono ?_); rintro x w' ⟨rfl, mq, rfl⟩)
              go_wp2_with fail
              obtain ⟨w9, hw9⟩ : ∃ w9, wput5 (((wr.drewN mq).setCell ⟨gc, 3, none⟩ (.int .i64 (m / 2 + 1))).setCell ⟨gc, 4, none⟩ (.int .i64 (m / 2 + 1))) (w.heap.size + 1) (.int .u16 t.v) (.int .u16 t.w) (.int .u16 t.l) (.int .i64 (m / 2 + 1)) (.int .i64 (m / 2 + 1)) = w9 := ⟨_, rfl⟩
              have HB9 : Hid (Below w.heap.size w w9) := by show Below _ _ _; rw [← hw9]; exact below_put5 (((below_drewN HME.out.2.2.2 mq).setCell (p := ⟨gc, 3, none⟩) (by show _ ≤ gc; omega) _).setCell (p := ⟨gc, 4, none⟩) (by show _ ≤ gc; omega) _) (by omega) _ _ _ _ _
              have K9 : Block w9 (w.heap.size + 1) 33 #[.int .u16 t.v, .int .u16 t.w, .int .u16 t.l, .int .i64 (m / 2 + 1), .int .i64 (m / 2 + 1)] := by rw [← hw9]; exact Block.put5 (((HME.out.2.1.drewN mq).far (p := ⟨gc, 3, none⟩) (by show w.heap.size + 1 ≠ gc; omega) _).far (p := ⟨gc, 4, none⟩) (by show w.heap.size + 1 ≠ gc; omega) _) _ _ _ _ _
              unfold wput5 at hw9
              rw [hw9]
              have s0 := K9.cell 0
              have s1 := K9.cell 1
              have s2 := K9.cell 2
              have s3 := K9.cell 3
              have s4 := K9.cell 4
              simp at s0 s1 s2 s3 s4
              refine bodyPost_ret (v := .tuple #[.agg #[.int .u16 t.v, .int .u16 t.w, .int .u16 t.l, .int .i64 (m / 2 + 1), .int .i64 (m / 2 + 1)], .int .i64 0]) (by simp [results, Try.results31, go_sem, s0, s1, s2, s3, s4]) rfl ⟨?_, HB9.out⟩
              rw [HF.out, HCF.out]
            · have HCF : Hid (valCE (cfgOf z t, 0) = .tuple #[.agg #[.int .u16 t.v, .int .u16 t.w, .int .u16 t.l, .int .i64 (m / 2 + 1), .int .i64 (zc)], .int .i64 0]) := by
                show _ = _
                unfold valCE valC cfgOf orMost
                rw [HEZ.out.1, HEZ.out.2, HMO.out]
                simp [z1, z2]
              clear HMO
              go_wp2_with fail
              ((with_reducible refine HCN.out.mono ?_); rintro x w' ⟨rfl, mq, rfl⟩)
              go_wp2_with fail
              obtain ⟨w9, hw9⟩ : ∃ w9, wput5 ((wr.drewN mq).setCell ⟨gc, 3, none⟩ (.int .i64 (m / 2 + 1))) (w.heap.size + 1) (.int .u16 t.v) (.int .u16 t.w) (.int .u16 t.l) (.int .i64 (m / 2 + 1)) (.int .i64 (zc)) = w9 := ⟨_, rfl⟩
              have HB9 : Hid (Below w.heap.size w w9) := by show Below _ _ _; rw [← hw9]; exact below_put5 ((below_drewN HME.out.2.2.2 mq).setCell (p := ⟨gc, 3, none⟩) (by show _ ≤ gc; omega) _) (by omega) _ _ _ _ _
              have K9 : Block w9 (w.heap.size + 1) 33 #[.int .u16 t.v, .int .u16 t.w, .int .u16 t.l, .int .i64 (m / 2 + 1), .int .i64 (zc)] := by rw [← hw9]; exact Block.put5 ((HME.out.2.1.drewN mq).far (p := ⟨gc, 3, none⟩) (by show w.heap.size + 1 ≠ gc; omega) _) _ _ _ _ _
              unfold wput5 at hw9
              rw [hw9]
              have s0 := K9.cell 0
              have s1 := K9.cell 1
              have s2 := K9.cell 2
              have s3 := K9.cell 3
              have s4 := K9.cell 4
              simp at s0 s1 s2 s3 s4
              refine bodyPost_ret (v := .tuple #[.agg #[.int .u16 t.v, .int .u16 t.w, .int .u16 t.l, .int .i64 (m / 2 + 1), .int .i64 (zc)], .int .i64 0]) (by simp [results, Try.results31, go_sem, s0, s1, s2, s3, s4]) rfl ⟨?_, HB9.out⟩
              rw [HF.out, HCF.out]
          · by_cases z2 : zc = 0
            · have HCF : Hid (valCE (cfgOf z t, 0) = .tuple #[.agg #[.int .u16 t.v, .int .u16 t.w, .int .u16 t.l, .int .i64 (ze), .int .i64 (m / 2 + 1)], .int .i64 0]) := by
                show _ = _
                unfold valCE valC cfgOf orMost
                rw [HEZ.out.1, HEZ.out.2, HMO.out]
                simp [z1, z2]
              clear HMO
              go_wp2_with fail
              ((with_reducible refine HCN.out.mono ?_); rintro x w' ⟨rfl, mq, rfl⟩)
              go_wp2_with fail
              obtain ⟨w9, hw9⟩ : ∃ w9, wput5 ((wr.drewN mq).setCell ⟨gc, 4, none⟩ (.int .i64 (m / 2 + 1))) (w.heap.size + 1) (.int .u16 t.v) (.int .u16 t.w) (.int .u16 t.l) (.int .i64 (ze)) (.int .i64 (m / 2 + 1)) = w9 := ⟨_, rfl⟩
              have HB9 : Hid (Below w.heap.size w w9) := by show Below _ _ _; rw [← hw9]; exact below_put5 ((below_drewN HME.out.2.2.2 mq).setCell (p := ⟨gc, 4, none⟩) (by show _ ≤ gc; omega) _) (by omega) _ _ _ _ _
              have K9 : Block w9 (w.heap.size + 1) 33 #[.int .u16 t.v, .int .u16 t.w, .int .u16 t.l, .int .i64 (ze), .int .i64 (m / 2 + 1)] := by rw [← hw9]; exact Block.put5 ((HME.out.2.1.drewN mq).far (p := ⟨gc, 4, none⟩) (by show w.heap.size + 1 ≠ gc; omega) _) _ _ _ _ _
              unfold wput5 at hw9
              rw [hw9]
              have s0 := K9.cell 0
              have s1 := K9.cell 1
              have s2 := K9.cell 2
              have s3 := K9.cell 3
              have s4 := K9.cell 4
              simp at s0 s1 s2 s3 s4
              refine bodyPost_ret (v := .tuple #[.agg #[.int .u16 t.v, .int .u16 t.w, .int .u16 t.l, .int .i64 (ze), .int .i64 (m / 2 + 1)], .int .i64 0]) (by simp [results, Try.results31, go_sem, s0, s1, s2, s3, s4]) rfl ⟨?_, HB9.out⟩
              rw [HF.out, HCF.out]
            · have HCF : Hid (valCE (cfgOf z t, 0) = .tuple #[.agg #[.int .u16 t.v, .int .u16 t.w, .int .u16 t.l, .int .i64 (ze), .int .i64 (zc)], .int .i64 0]) := by
                show _ = _
                unfold valCE valC cfgOf orMost
                rw [HEZ.out.1, HEZ.out.2, HMO.out]
                simp [z1, z2]
              clear HMO
              go_wp2_with fail
              ((with_reducible refine HCN.out.mono ?_); rintro x w' ⟨rfl, mq, rfl⟩)
              go_wp2_with fail
              obtain ⟨w9, hw9⟩ : ∃ w9, wput5 (wr.drewN mq) (w.heap.size + 1) (.int .u16 t.v) (.int .u16 t.w) (.int .u16 t.l) (.int .i64 (ze)) (.int .i64 (zc)) = w9 := ⟨_, rfl⟩
              have HB9 : Hid (Below w.heap.size w w9) := by show Below _ _ _; rw [← hw9]; exact below_put5 (below_drewN HME.out.2.2.2 mq) (by omega) _ _ _ _ _
              have K9 : Block w9 (w.heap.size + 1) 33 #[.int .u16 t.v, .int .u16 t.w, .int .u16 t.l, .int .i64 (ze), .int .i64 (zc)] := by rw [← hw9]; exact Block.put5 (HME.out.2.1.drewN mq) _ _ _ _ _
              unfold wput5 at hw9
              rw [hw9]
              have s0 := K9.cell 0
              have s1 := K9.cell 1
              have s2 := K9.cell 2
              have s3 := K9.cell 3
              have s4 := K9.cell 4
              simp at s0 s1 s2 s3 s4
              refine bodyPost_ret (v := .tuple #[.agg #[.int .u16 t.v, .int .u16 t.w, .int .u16 t.l, .int .i64 (ze), .int .i64 (zc)], .int .i64 0]) (by simp [results, Try.results31, go_sem, s0, s1, s2, s3, s4]) rfl ⟨?_, HB9.out⟩
              rw [HF.out, HCF.out]
end Go.Proofs.Ytcciejglemfebaa
