/- The document's Allot, by a contract: what the program answers. -/
import Derived.Test.YtcciejglemfebaaZ7
import Derived.Test.YtcciejglemfebaaZ3
import Derived.Test.YtcciejglemfebaaR5
import Derived.StillTailTactics
import Derived.BigRegion
namespace Go.Proofs.Ytcciejglemfebaa
open Go.RowKit

/-- The table of where the three sets lie. -/
abbrev ptrs (gc : Nat) : Array Value := #[.pointer (some ⟨gc, 0, none⟩), .pointer (some ⟨gc, 1, none⟩), .pointer (some ⟨gc, 2, none⟩)]
abbrev lsts (a0 : Option Addr) (l0 : List Int) (c0 : Nat) (a1 : Option Addr) (l1 : List Int) (c1 : Nat) (a2 : Option Addr) (l2 : List Int) (c2 : Nat) : Array Value := #[.slice a0 l0.length c0, .slice a1 l1.length c1, .slice a2 l2.length c2]
theorem lsts_at {w : World} {a0 : Option Addr} {l0 : List Int} {c0 : Nat} {a1 : Option Addr} {l1 : List Int} {c1 : Nat} {a2 : Option Addr} {l2 : List Int} {c2 : Nat} {ze zc zs : Int}
    (h0 : Ints w w.heap.size a0 l0) (h1 : Ints w w.heap.size a1 l1) (h2 : Ints w w.heap.size a2 l2) (n0 : l0.length ≤ 9223372036854775807) (n1 : l1.length ≤ 9223372036854775807) (n2 : l2.length ≤ 9223372036854775807) (i : Nat) (hi : i < 3) :
    ∃ (a : Option Addr) (l : List Int) (c : Nat), (lsts a0 l0 c0 a1 l1 c1 a2 l2 c2)[i]? = some (.slice a l.length c) ∧
      (⟨l0, l1, l2, ze, zc, zs⟩ : Zn).at i = l ∧ Ints w w.heap.size a l ∧ l.length ≤ 9223372036854775807 := by
  match i, hi with
  | 0, _ => exact ⟨a0, l0, c0, rfl, rfl, h0, n0⟩
  | 1, _ => exact ⟨a1, l1, c1, rfl, rfl, h1, n1⟩
  | 2, _ => exact ⟨a2, l2, c2, rfl, rfl, h2, n2⟩
  | i + 3, hi => omega
theorem ptrs_at (gc i : Nat) (hi : i < 3) : (ptrs gc)[i]? = some (.pointer (some ⟨gc, i, none⟩)) := by
  match i, hi with
  | 0, _ => rfl
  | 1, _ => rfl
  | 2, _ => rfl
  | i + 3, hi => omega

/-- The two tables, behind the configuration under way. -/
def Tbls (gc : Nat) (L : Array Value) (w : World) : Prop := Block w (gc + 1) 76 (ptrs gc) ∧ Block w (gc + 1 + 1) 45 L
theorem Tbls.alloc {gc : Nat} {L : Array Value} {w : World} (h : Tbls gc L w) (o : Obj) : Tbls gc L (w.alloc o) := ⟨h.1.alloc o, h.2.alloc o⟩
theorem AMem.below {w wr w2 : World} {gc : Nat} {Z : Array Value} {ze zc : Int} {t : S3} (h : AMem w gc Z ze zc t wr) (hb : Below wr.heap.size wr w2) : AMem w gc Z ze zc t w2 :=
  ⟨h.1.below hb h.1.lt, h.2.1.below hb h.2.1.lt, h.2.2.1.below hb h.2.2.1.lt, h.2.2.2.trans (hb.mono h.2.2.2.size)⟩
theorem Tbls.drewN {gc : Nat} {L : Array Value} {w : World} (h : Tbls gc L w) (n : Nat) : Tbls gc L (w.drewN n) := h
theorem Tbls.put {gc : Nat} {L : Array Value} {w : World} (h : Tbls gc L w) (i : Nat) (u : Value) : Tbls gc L (w.setCell ⟨gc, i, none⟩ u) :=
  ⟨h.1.far (p := ⟨gc, i, none⟩) (by show gc + 1 ≠ gc; omega) _, h.2.far (p := ⟨gc, i, none⟩) (by show gc + 1 + 1 ≠ gc; omega) _⟩

set_option maxRecDepth 100000 in
set_option maxHeartbeats 6400000 in
theorem rallot_calls (A : Option Addr) (C : Nat) (regs : List Int) (a0 : Option Addr) (l0 : List Int) (c0 : Nat) (a1 : Option Addr) (l1 : List Int) (c1 : Nat) (a2 : Option Addr) (l2 : List Int) (c2 : Nat) (ze zc zs : Int) (A' : Option Addr) (C' : Nat) (load : List Int) (w : World)
    (h : Ints w w.heap.size A regs) (h0 : Ints w w.heap.size a0 l0) (h1 : Ints w w.heap.size a1 l1) (h2 : Ints w w.heap.size a2 l2) (h' : Ints w w.heap.size A' load)
    (n : regs.length ≤ 9223372036854775807) (n0 : l0.length ≤ 9223372036854775807) (n1 : l1.length ≤ 9223372036854775807) (n2 : l2.length ≤ 9223372036854775807) (n' : load.length ≤ 9223372036854775807) :
    Calls Try.prog 51 #[.slice A regs.length C, .agg (zcells a0 l0 c0 a1 l1 c1 a2 l2 c2 ze zc zs), .slice A' load.length C'] w fun x w' =>
      x = .returned (valCE (allotP regs load ⟨l0, l1, l2, ze, zc, zs⟩)) ∧ Below w.heap.size w w' := by
  have HM := Lib.hid fun (w1 : World) (hb : Below w.heap.size w w1) => rmayregs_calls A C regs w.heap.size w1 n (h.below hb)
  have HZ := Lib.hid fun (w1 : World) (hb : Below w.heap.size w w1) => rmayzone_calls a0 l0 c0 a1 l1 c1 a2 l2 c2 ze zc zs w1 ((h0.below hb).more hb.size) ((h1.below hb).more hb.size) ((h2.below hb).more hb.size) n0 n1 n2
  have HTB := Lib.hid fun i hi => lsts_at (w := w) (c0 := c0) (c1 := c1) (c2 := c2) (ze := ze) (zc := zc) (zs := zs) h0 h1 h2 n0 n1 n2 i hi
  have HIR := Lib.hid h
  have HIL := Lib.hid h'
  have b2 : Below w.heap.size w ((w.alloc (.cells (zcells a0 l0 c0 a1 l1 c1 a2 l2 c2 ze zc zs) 47)).alloc (.cells (cells 0 0 0 0 0) 33)) := ((Below.refl _ _).alloc (Nat.le_refl _) _).alloc (by simp) _
  have HM2 := Lib.hid (HM.out _ b2)
  have HZ2 := Lib.hid (HZ.out _ b2)
  clear h h0 h1 h2 h' n n0 n1 n2 HM HZ
  cases hM : mayRegsB regs with
  | false =>
    have HP : Hid (allotP regs load ⟨l0, l1, l2, ze, zc, zs⟩ = (zeroC, 1)) := allotP_arg (by rw [hM]; rintro ⟨h, _⟩; cases h)
    rw [hM] at HM2
    rw [HP.out]
    have HB2 := Lib.hid b2
    clear b2 HZ2 HTB HIR HIL HP hM
    go_enter Try.func51, Try.ntmps51
    go_wp2_with fail
    ((with_reducible refine HM2.out.mono ?_); rintro x w' ⟨rfl, rfl⟩)
    go_wp2_with fail
    refine bodyPost_ret (v := valCE (zeroC, 1)) (by simp [results, Try.results51, go_sem, valCE, valC, zeroC]) rfl ⟨rfl, ?_⟩
    repeat' (first | (with_reducible exact HB2.out) | (with_reducible refine Below.setCell ?_ ?_ _) | (show _ ≤ _; omega))
  | true =>
    rw [hM] at HM2
    cases hZ : mayZB ⟨l0, l1, l2, ze, zc, zs⟩ with
    | false =>
      have HP : Hid (allotP regs load ⟨l0, l1, l2, ze, zc, zs⟩ = (zeroC, 1)) := allotP_arg (by rw [hZ]; rintro ⟨_, h⟩; cases h)
      rw [hZ] at HZ2
      rw [HP.out]
      have HB2 := Lib.hid b2
      clear b2 HTB HIR HIL HP hZ hM
      go_enter Try.func51, Try.ntmps51
      go_wp2_with fail
      ((with_reducible refine HM2.out.mono ?_); rintro x w' ⟨rfl, rfl⟩)
      go_wp2_with fail
      ((with_reducible refine HZ2.out.mono ?_); rintro x w1 ⟨rfl, hb1⟩)
      have k2 : Block ((w.alloc (.cells (zcells a0 l0 c0 a1 l1 c1 a2 l2 c2 ze zc zs) 47)).alloc (.cells (cells 0 0 0 0 0) 33)) (w.heap.size + 1) 33 (cells 0 0 0 0 0) := Block.mk_new _ _ _ (by simp)
      have k3 := k2.below hb1 k2.lt
      have HB3 := Lib.hid (HB2.out.trans (hb1.mono HB2.out.size))
      have q0 := k3.cell 0
      have q1 := k3.cell 1
      have q2 := k3.cell 2
      have q3 := k3.cell 3
      have q4 := k3.cell 4
      have r0 := k3.frozen 0
      have r1 := k3.frozen 1
      have r2 := k3.frozen 2
      have r3 := k3.frozen 3
      have r4 := k3.frozen 4
      have HK5 := Lib.hid (k3.put5 (.int .u16 0) (.int .u16 0) (.int .u16 0) (.int .i64 0) (.int .i64 0))
      simp at q0 q1 q2 q3 q4
      clear hb1 k2 k3
      go_wp2_with fail
      obtain ⟨w9, hw9⟩ : ∃ w9, wput5 w1 (w.heap.size + 1) (.int .u16 0) (.int .u16 0) (.int .u16 0) (.int .i64 0) (.int .i64 0) = w9 := ⟨_, rfl⟩
      have HB9 : Hid (Below w.heap.size w w9) := by show Below _ _ _; rw [← hw9]; exact below_put5 HB3.out (by omega) _ _ _ _ _
      have K9 := HK5.out
      rw [hw9] at K9
      unfold wput5 at hw9
      rw [hw9]
      have s0 := K9.cell 0
      have s1 := K9.cell 1
      have s2 := K9.cell 2
      have s3 := K9.cell 3
      have s4 := K9.cell 4
      simp at s0 s1 s2 s3 s4
      exact bodyPost_ret (v := valCE (zeroC, 1)) (by simp [results, Try.results51, go_sem, valCE, valC, zeroC, s0, s1, s2, s3, s4]) rfl ⟨rfl, HB9.out⟩
    | true =>
      have hlen := (mayregs_len hM).2
      have HML := Lib.hid fun i r => mayz_list (z := ⟨l0, l1, l2, ze, zc, zs⟩) hZ i r
      have HOK := Lib.hid fun (t : S3) k => allotP_ok (load := load) (s := t) hM hZ k
      have HFULL := Lib.hid fun k => allotP_full (load := load) hM hZ k
      have HLEN := Lib.hid hlen
      have HB2 := Lib.hid b2
      rw [hZ] at HZ2
      clear b2 hM hZ hlen
      generalize hzz : (⟨l0, l1, l2, ze, zc, zs⟩ : Zn) = z at *
      have HEZ : Hid (z.e = ze ∧ z.c = zc) := by show _ ∧ _; rw [← hzz]; exact ⟨rfl, rfl⟩
      clear hzz
      go_enter Try.func51, Try.ntmps51
      go_wp2_with fail
      ((with_reducible refine HM2.out.mono ?_); rintro x w' ⟨rfl, rfl⟩)
      go_wp2_with fail
      ((with_reducible refine HZ2.out.mono ?_); rintro x w1 ⟨rfl, hb1⟩)
      have k1 : Block ((w.alloc (.cells (zcells a0 l0 c0 a1 l1 c1 a2 l2 c2 ze zc zs) 47)).alloc (.cells (cells 0 0 0 0 0) 33)) w.heap.size 47 (zcells a0 l0 c0 a1 l1 c1 a2 l2 c2 ze zc zs) := (Block.mk_new _ _ _ rfl).alloc _
      have k2 : Block ((w.alloc (.cells (zcells a0 l0 c0 a1 l1 c1 a2 l2 c2 ze zc zs) 47)).alloc (.cells (cells 0 0 0 0 0) 33)) (w.heap.size + 1) 33 (cells 0 0 0 0 0) := Block.mk_new _ _ _ (by simp)
      have j1 := k1.below hb1 k1.lt
      have j2 := k2.below hb1 k2.lt
      have hgc : w.heap.size + 1 < w1.heap.size := j2.lt
      have HB3 := Lib.hid (HB2.out.trans (hb1.mono HB2.out.size))
      have HME : Hid (AMem w w1.heap.size (zcells a0 l0 c0 a1 l1 c1 a2 l2 c2 ze zc zs) 0 0 ⟨0, 0, 0⟩ (((w1.alloc (.cells (cells 0 0 0 0 0) 33)).alloc (.cells (ptrs w1.heap.size) 76)).alloc (.cells (lsts a0 l0 c0 a1 l1 c1 a2 l2 c2) 45))) :=
        ((show AMem w w1.heap.size (zcells a0 l0 c0 a1 l1 c1 a2 l2 c2 ze zc zs) 0 0 ⟨0, 0, 0⟩ (w1.alloc (.cells (cells 0 0 0 0 0) 33)) from ⟨j1.alloc _, j2.alloc _, Block.mk_new _ _ _ rfl, HB3.out.alloc HB3.out.size _⟩).alloc _).alloc _
      have HTB0 : Hid (Tbls w1.heap.size (lsts a0 l0 c0 a1 l1 c1 a2 l2 c2) (((w1.alloc (.cells (cells 0 0 0 0 0) 33)).alloc (.cells (ptrs w1.heap.size) 76)).alloc (.cells (lsts a0 l0 c0 a1 l1 c1 a2 l2 c2) 45))) :=
        ⟨(Block.mk_new _ _ _ (by simp)).alloc _, Block.mk_new _ _ _ (by simp)⟩
      have hg1 : w.heap.size < w1.heap.size := by omega
      have hg2 : w.heap.size < w1.heap.size + 1 := by omega
      have z0 := j1.cell 0
      have z1 := j1.cell 1
      have z2 := j1.cell 2
      have z3 := j1.cell 3
      have z4 := j1.cell 4
      simp at z0 z1 z2 z3 z4
      clear hb1 k1 k2 j1 j2 HB2 HM2 HZ2
      go_wp2_with fail
      obtain ⟨wA, hwA⟩ : ∃ wA, ((w1.alloc (.cells (cells 0 0 0 0 0) 33)).alloc (.cells (ptrs w1.heap.size) 76)).alloc (.cells (lsts a0 l0 c0 a1 l1 c1 a2 l2 c2) 45) = wA := ⟨_, rfl⟩
      rw [hwA] at HME HTB0
      rw [hwA]
      clear hwA z0 z1 z2 z3 z4 hg1 hg2
      generalize w1.heap.size = gc at *
      go_loopw [11, 12] (fun u i wr => ∃ (r : Nat) (t : S3) (x : Int), r ≤ 4 ∧ i = .int .i64 (r : Int) ∧ u = .int .u16 x ∧ Hid (x = t.all) ∧ Hid t.Us ∧ Hid (allotGo regs load z (12 - 3 * r) (3 * r) t = allotGo regs load z 12 0 ⟨0, 0, 0⟩) ∧ Hid (AMem w gc (zcells a0 l0 c0 a1 l1 c1 a2 l2 c2 ze zc zs) 0 0 t wr) ∧ Hid (Tbls gc (lsts a0 l0 c0 a1 l1 c1 a2 l2 c2) wr)) (fun _ i _ => 4 - (intOf i).toNat)
      case atStart => exact ⟨0, ⟨0, 0, 0⟩, 0, by omega, rfl, rfl, (by show (0 : Int) = S3.all ⟨0, 0, 0⟩; decide +kernel), ⟨⟨by decide, by decide⟩, ⟨by decide, by decide⟩, ⟨by decide, by decide⟩⟩, rfl, HME, HTB0⟩
      case round =>
        clear HME HTB0
        obtain ⟨r, t, x, hr, rfl, rfl, HXT, HUS, HR, HME, HTT⟩ := hrel
        by_cases hlt : r < 4
        · have hr4 : decide ((r : Int) < 4) = true := by simp; omega
          go_wp2_with fail
          go_loopw [11, 13] (fun u j wr => ∃ (i : Nat) (t : S3) (x : Int), i ≤ 3 ∧ j = .int .i64 (i : Int) ∧ u = .int .u16 x ∧ Hid (x = t.all) ∧ Hid t.Us ∧ Hid (allotGo regs load z (12 - (3 * r + i)) (3 * r + i) t = allotGo regs load z 12 0 ⟨0, 0, 0⟩) ∧ Hid (AMem w gc (zcells a0 l0 c0 a1 l1 c1 a2 l2 c2 ze zc zs) 0 0 t wr) ∧ Hid (Tbls gc (lsts a0 l0 c0 a1 l1 c1 a2 l2 c2) wr)) (fun _ j _ => 3 - (intOf j).toNat)
          case atStart => exact ⟨0, t, x, by omega, rfl, rfl, HXT, HUS, HR, HME, HTT⟩
          case round =>
            clear HXT HUS HR HME HTT
            obtain ⟨i, t, x, hi, rfl, rfl, HXT, HUS, HR, HME, HTT⟩ := hrel
            by_cases hi3 : i < 3
            · obtain ⟨a, l, c, e2, e3, e4, e5⟩ := HTB.out i hi3
              have HCE := Lib.hid e2
              have HSL : Hid (l.length ≤ 9223372036854775807) := e5
              have HEQ : Hid (z.at i = l) := e3
              have HIL2 : Hid (Ints w w.heap.size a l) := e4
              clear e2 e3 e4 e5
              have HNN := HML.out i r
              rw [HEQ.out] at HNN
              obtain ⟨M, hN⟩ : ∃ M : Nat, l.getD r 0 = (M : Int) := ⟨(l.getD r 0).toNat, by omega⟩
              have hN9 : M ≤ 9 := by omega
              have HNV := Lib.hid hN
              clear hN HNN
              have hp3 : (3 * r + i) / 3 = r := by omega
              have hp4 : (3 * r + i) % 3 = i := by omega
              have hNt : (((z.at i).getD r 0)).toNat = M := by rw [HEQ.out, HNV.out]; rfl
              have HSOME : Hid (∀ g, takeGo regs load (r : Int) t.all M 0 = some g → allotGo regs load z (12 - (3 * r + (i + 1))) (3 * r + (i + 1)) (t.put (union (t.at i) g) i) = allotGo regs load z 12 0 ⟨0, 0, 0⟩) := by
                intro g hg
                have e := allotGo_some (regs := regs) (load := load) (z := z) (m := 11 - (3 * r + i)) (p := 3 * r + i) (s := t) (g := g) (by rw [hp3, hp4, hNt]; exact hg)
                rw [hp4] at e
                rw [← HR.out, show 12 - (3 * r + i) = (11 - (3 * r + i)) + 1 from by omega, e, show 12 - (3 * r + (i + 1)) = 11 - (3 * r + i) from by omega, show 3 * r + (i + 1) = 3 * r + i + 1 from by omega]
              have HNONE : Hid (takeGo regs load (r : Int) t.all M 0 = none → allotP regs load z = (zeroC, 8)) := by
                intro hg
                refine HFULL.out ?_
                rw [← HR.out, show 12 - (3 * r + i) = (11 - (3 * r + i)) + 1 from by omega]
                refine allotGo_none ?_
                rw [hp3, hp4, hNt]
                exact hg
              clear hp3 hp4 hNt HR
              have hi4 : decide ((i : Int) < 3) = true := by simp; omega
              go_wp2_with fail
              go_loopw [11, 14] (fun u j wr => ∃ (k : Nat) (got x : Int), k ≤ M ∧ j = .int .i64 (k : Int) ∧ u = .int .u16 x ∧ Hid (x = union t.all got) ∧ Hid (takeGo regs load (r : Int) t.all (M - k) got = takeGo regs load (r : Int) t.all M 0) ∧ Hid (AMem w gc (zcells a0 l0 c0 a1 l1 c1 a2 l2 c2 ze zc zs) 0 0 (t.put (union (t.at i) got) i) wr) ∧ Hid (Tbls gc (lsts a0 l0 c0 a1 l1 c1 a2 l2 c2) wr)) (fun _ j _ => M - (intOf j).toNat)
              case atStart => exact ⟨0, 0, x, by omega, rfl, rfl, (by show _ = _; rw [union_zero (all_us t)]; exact HXT.out), rfl, (by show AMem _ _ _ _ _ _ _; rw [put_self HUS.out]; exact HME.out), HTT⟩
              case round =>
                clear HME HTT HXT
                obtain ⟨k, got, x, hk, rfl, rfl, HXT, HTK, HME, HTT⟩ := hrel
                have t1 := (HTT.out.2.cell i).trans HCE.out
                by_cases hkM : k < M
                · have hrl : r < l.length := by
                    rcases Nat.lt_or_ge r l.length with hh | hh
                    · exact hh
                    · have := HNV.out
                      rw [List.getD_eq_getElem?_getD, List.getElem?_eq_none hh] at this
                      simp at this
                      omega
                  obtain ⟨bb, o, rfl, hbb, hc⟩ := (HIL2.out.below HME.out.2.2.2).at_ hrl
                  rw [HNV.out] at hc
                  have HXU : Hid (U x) := by show U x; rw [HXT.out]; exact bits_u _ _ _
                  have HBE := Lib.hid (best_calls A C regs (r : Int) x A' C' load w.heap.size w.heap.size wr HLEN.out n' HXU.out (HIR.out.below HME.out.2.2.2) (HIL.out.below HME.out.2.2.2))
                  have q0 := HME.out.2.1.cell 0
                  have q1 := HME.out.2.1.cell 1
                  have q2 := HME.out.2.1.cell 2
                  have q3 := HME.out.2.1.cell 3
                  have q4 := HME.out.2.1.cell 4
                  have r0 := HME.out.2.1.frozen 0
                  have r1 := HME.out.2.1.frozen 1
                  have r2 := HME.out.2.1.frozen 2
                  have r3 := HME.out.2.1.frozen 3
                  have r4 := HME.out.2.1.frozen 4
                  simp at q0 q1 q2 q3 q4
                  cases hb0 : nextB regs load (r : Int) x with
                  | zero =>
                    have HF : Hid (allotP regs load z = (zeroC, 8)) := by
                      refine HNONE.out ?_
                      rw [← HTK.out, show M - k = (M - k - 1) + 1 from by omega]
                      refine takeGo_none ?_
                      rw [← HXT.out]; exact hb0
                    rw [hb0] at HBE
                    have HBE2 : Hid (Calls Try.prog 79 #[.slice A regs.length C, .int .i64 (r : Int), .int .u16 x, .slice A' load.length C'] wr fun e w' => e = .returned (.int .i64 0) ∧ wr = w') := HBE
                    clear HBE hb0 HTK HXT HXU hbb
                    go_wp2_with fail
                    ((with_reducible refine HBE2.out.mono ?_); rintro x w' ⟨rfl, rfl⟩)
                    go_wp2_with fail
                    obtain ⟨w9, hw9⟩ : ∃ w9, wput5 wr (w.heap.size + 1) (.int .u16 0) (.int .u16 0) (.int .u16 0) (.int .i64 0) (.int .i64 0) = w9 := ⟨_, rfl⟩
                    have HB9 : Hid (Below w.heap.size w w9) := by show Below _ _ _; rw [← hw9]; exact below_put5 HME.out.2.2.2 (by omega) _ _ _ _ _
                    have K9 : Block w9 (w.heap.size + 1) 33 #[.int .u16 0, .int .u16 0, .int .u16 0, .int .i64 0, .int .i64 0] := by rw [← hw9]; exact Block.put5 HME.out.2.1 _ _ _ _ _
                    unfold wput5 at hw9
                    rw [hw9]
                    have s0 := K9.cell 0
                    have s1 := K9.cell 1
                    have s2 := K9.cell 2
                    have s3 := K9.cell 3
                    have s4 := K9.cell 4
                    simp at s0 s1 s2 s3 s4
                    rw [HF.out]
                    exact bodyPost_ret (v := valCE (zeroC, 8)) (by simp [results, Try.results51, go_sem, valCE, valC, zeroC, s0, s1, s2, s3, s4]) rfl ⟨rfl, HB9.out⟩
                  | succ b0 =>
                    obtain ⟨b, hb⟩ : ∃ b : Int, ((b0 + 1 : Nat) : Int) = b := ⟨_, rfl⟩
                    have hb1 : 1 ≤ b := by omega
                    have hbn : (b == 0) = false := by simp; omega
                    have HN : Hid (takeGo regs load (r : Int) t.all (M - (k + 1)) (union got (one b)) = takeGo regs load (r : Int) t.all M 0) := by
                      show _ = _
                      rw [← HTK.out, show M - k = (M - (k + 1)) + 1 from by omega, takeGo_some (by rw [← HXT.out, hb0]; omega), ← HXT.out, hb0, hb]
                    rw [hb0, hb] at HBE
                    have HW1 := Lib.hid (rwith_calls x b wr HXU.out)
                    have HXN : Hid (union x (one b) = union t.all (union got (one b))) := by show _ = _; rw [HXT.out, union_assoc]
                    have HPN : Hid (union (union (t.at i) got) (one b) = union (t.at i) (union got (one b))) := union_assoc _ _ _
                    have HTU : Hid (U (union (t.at i) got)) := bits_u _ _ _
                    obtain ⟨y, hy⟩ : ∃ y, union (t.at i) got = y := ⟨_, rfl⟩
                    rw [hy] at HME HPN HTU
                    have vi : wr.cell? ⟨gc, i, none⟩ = some (.int .u16 y) := by
                      rw [HME.out.2.2.1.cell i]
                      match i, hi3 with
                      | 0, _ => rfl
                      | 1, _ => rfl
                      | 2, _ => rfl
                      | i + 3, hi => omega
                    have fi := HME.out.2.2.1.frozen i
                    have pi : wr.cell? ⟨gc + 1, i, none⟩ = some (.pointer (some ⟨gc, i, none⟩)) := (HTT.out.1.cell i).trans (ptrs_at gc i hi3)
                    have HW2 : Hid (∀ w2 : World, Calls Try.prog 20 #[.int .u16 y, .int .i64 b] w2 fun e w' => e = .returned (.int .u16 (union y (one b))) ∧ w' = w2) := fun w2 => (rwith_calls y b w2 HTU.out).mono fun _ _ hh => ⟨hh.1, hh.2.symm⟩
                    have HMN : Hid (AMem w gc (zcells a0 l0 c0 a1 l1 c1 a2 l2 c2 ze zc zs) 0 0 (t.put (union (t.at i) (union got (one b))) i) (wr.drew.setCell ⟨gc, i, none⟩ (.int .u16 (union y (one b))))) := by
                      show AMem _ _ _ _ _ _ _
                      have e := (show AMem _ _ _ _ _ _ wr.drew from HME.out.drewN 1).put hgc hi3 (union y (one b))
                      rw [put_put, HPN.out] at e
                      rw [HPN.out]
                      exact e
                    have HTN : Hid (Tbls gc (lsts a0 l0 c0 a1 l1 c1 a2 l2 c2) (wr.drew.setCell ⟨gc, i, none⟩ (.int .u16 (union y (one b))))) := (show Tbls _ _ wr.drew from HTT.out.drewN 1).put i _
                    have hi3' : (i : Int) < 3 := by omega
                    clear hb hb0 HTK HXT HXU hbb HTU HPN hy HCE q0 q1 q2 q3 q4 r0 r1 r2 r3 r4
                    go_wp2_with fail
                    ((with_reducible refine HBE.out.mono ?_); rintro x w' ⟨rfl, rfl⟩)
                    go_wp2_with fail
                    ((with_reducible refine HW1.out.mono ?_); rintro x w' ⟨rfl, rfl⟩)
                    go_wp2_with fail
                    refine wp_region_still_tail 13 (by kernel_rfl) (by kernel_rfl) ?_
                    simp only [List.take_succ_cons, List.take_zero, List.drop_succ_cons, List.drop_zero]
                    repeat still_step
                    still_call (HW2.out _)
                    repeat still_step
                    try refine wpStill_nil ?_
                    show wpList _ _ _ _ _ wr.drew
                    go_wp2_with fail
                    go_roundw
                    case rel => exact ⟨k + 1, union got (one b), _, by omega, by go_num, rfl, HXN, HN, HMN, HTN⟩
                    case measure => simp [intOf]; omega
                · obtain rfl : M = k := by omega
                  have HG : Hid (takeGo regs load (r : Int) t.all M 0 = some got) := by
                    show _ = _
                    rw [← HTK.out, Nat.sub_self]; rfl
                  have HN := Lib.hid (HSOME.out got HG.out)
                  have HXN : Hid (x = (t.put (union (t.at i) got) i).all) := by show _ = _; rw [put_all]; exact HXT.out
                  have HUN : Hid (t.put (union (t.at i) got) i).Us := put_us HUS.out _ (bits_u _ _ _) i
                  clear HTK HXT HG hk hkM
                  by_cases hrl : r < l.length
                  · obtain ⟨bb, o, rfl, hbb, hc⟩ := (HIL2.out.below HME.out.2.2.2).at_ hrl
                    rw [HNV.out] at hc
                    clear hbb
                    go_wp2_with fail
                    go_roundw
                    case rel => exact ⟨i + 1, _, x, by omega, by go_num, rfl, HXN, HUN, HN, HME, HTT⟩
                    case measure => simp [intOf]; omega
                  · go_wp2_with fail
                    go_roundw
                    case rel => exact ⟨i + 1, _, x, by omega, by go_num, rfl, HXN, HUN, HN, HME, HTT⟩
                    case measure => simp [intOf]; omega
            · have HN : Hid (allotGo regs load z (12 - 3 * (r + 1)) (3 * (r + 1)) t = allotGo regs load z 12 0 ⟨0, 0, 0⟩) := by
                show _ = _
                rw [← HR.out, show i = 3 from by omega, show 12 - (3 * r + 3) = 12 - 3 * (r + 1) from by omega, show 3 * r + 3 = 3 * (r + 1) from by omega]
              clear HR
              go_wp2_with fail
              go_roundw
              case rel => exact ⟨r + 1, t, x, by omega, by go_num, rfl, HXT, HUS, HN, HME, HTT⟩
              case measure => simp [intOf]; omega
        · have HF : Hid (allotP regs load z = (cfgOf z t, 0)) := HOK.out t (by rw [← HR.out, show 12 - 3 * r = 0 from by omega]; rfl)
          have HV := Lib.hid fun w => rvotes_calls t.v t.w t.l 0 0 w HUS.out.1 HUS.out.2.1
          have HCN := Lib.hid fun w => rcount_calls (votesR ⟨t.v, t.w, t.l, 0, 0⟩) w (votesR_u _)
          rw [cnt_votesR] at HCN
          have m0 := cnt_nonneg (union t.v t.w)
          have m9 := cnt_le (union t.v t.w)
          have HMO : Hid (mostOf t = cnt (union t.v t.w) / 2 + 1) := rfl
          have ecu : (union (Cfg.mk t.v t.w t.l 0 0).v (Cfg.mk t.v t.w t.l 0 0).w) = union t.v t.w := rfl
          rw [ecu] at HCN
          clear ecu
          generalize cnt (union t.v t.w) = m at *
          generalize votesR ⟨t.v, t.w, t.l, 0, 0⟩ = vo at *
          have v0 := HME.out.2.2.1.cell 0
          have v1 := HME.out.2.2.1.cell 1
          have v2 := HME.out.2.2.1.cell 2
          have v3 := HME.out.2.2.1.cell 3
          have v4 := HME.out.2.2.1.cell 4
          simp at v0 v1 v2 v3 v4
          clear HR HUS HXT HTT
          go_wp2_with fail
          ((with_reducible refine (HV.out _).mono ?_); rintro x w' ⟨rfl, rfl⟩)
          go_wp2_with fail
          ((with_reducible refine (HCN.out _).mono ?_); rintro x w4 ⟨rfl, hb4⟩)
          have HM4 := Lib.hid ((HME.out.alloc _).below hb4)
          clear hb4 v0 v1 v2 v3 v4 HME
          have v0 := HM4.out.2.2.1.cell 0
          have v1 := HM4.out.2.2.1.cell 1
          have v2 := HM4.out.2.2.1.cell 2
          have v3 := HM4.out.2.2.1.cell 3
          have v4 := HM4.out.2.2.1.cell 4
          have f3 := HM4.out.2.2.1.frozen 3
          have f4 := HM4.out.2.2.1.frozen 4
          have q0 := HM4.out.2.1.cell 0
          have q1 := HM4.out.2.1.cell 1
          have q2 := HM4.out.2.1.cell 2
          have q3 := HM4.out.2.1.cell 3
          have q4 := HM4.out.2.1.cell 4
          have r0 := HM4.out.2.1.frozen 0
          have r1 := HM4.out.2.1.frozen 1
          have r2 := HM4.out.2.1.frozen 2
          have r3 := HM4.out.2.1.frozen 3
          have r4 := HM4.out.2.1.frozen 4
          have z3 := HM4.out.1.cell 3
          have z4 := HM4.out.1.cell 4
          simp at v0 v1 v2 v3 v4 q0 q1 q2 q3 q4 z3 z4
          have hne : ¬ (w.heap.size + 1 = gc) := by omega
          have hne' : ¬ (gc = w.heap.size + 1) := by omega
          have hne2 : ¬ (w.heap.size = gc) := by omega
          have hne3 : ¬ (gc = w.heap.size) := by omega
          go_wp2_with fail
          have HE : Hid (AMem w gc (zcells a0 l0 c0 a1 l1 c1 a2 l2 c2 ze zc zs) ze zc t ((w4.setCell ⟨gc, 3, none⟩ (.int .i64 ze)).setCell ⟨gc, 4, none⟩ (.int .i64 zc)).drew) := by
            refine ⟨(HM4.out.1.far (p := ⟨gc, 3, none⟩) (by show w.heap.size ≠ gc; omega) _).far (p := ⟨gc, 4, none⟩) (by show w.heap.size ≠ gc; omega) _, (HM4.out.2.1.far (p := ⟨gc, 3, none⟩) (by show w.heap.size + 1 ≠ gc; omega) _).far (p := ⟨gc, 4, none⟩) (by show w.heap.size + 1 ≠ gc; omega) _, ?_, ?_⟩
            · have k := (HM4.out.2.2.1.put 3 (.int .i64 ze)).put 4 (.int .i64 zc)
              simp only [List.setIfInBounds_toArray, List.set_cons_zero, List.set_cons_succ] at k
              exact k
            · exact ((HM4.out.2.2.2.setCell (p := ⟨gc, 3, none⟩) (by show _ ≤ gc; omega) _).setCell (p := ⟨gc, 4, none⟩) (by show _ ≤ gc; omega) _).drew
          go_region
          show Exit.then _ _ _ _ _
          obtain ⟨wE, hwE⟩ : ∃ wE, ((w4.setCell ⟨gc, 3, none⟩ (.int .i64 ze)).setCell ⟨gc, 4, none⟩ (.int .i64 zc)).drew = wE := ⟨_, rfl⟩
          rw [hwE] at HE
          rw [hwE]
          clear hwE v0 v1 v2 v3 v4 f3 f4 q0 q1 q2 q3 q4 r0 r1 r2 r3 r4 z3 z4 HM4
          have v0 := HE.out.2.2.1.cell 0
          have v1 := HE.out.2.2.1.cell 1
          have v2 := HE.out.2.2.1.cell 2
          have v3 := HE.out.2.2.1.cell 3
          have v4 := HE.out.2.2.1.cell 4
          have f3 := HE.out.2.2.1.frozen 3
          have f4 := HE.out.2.2.1.frozen 4
          have q0 := HE.out.2.1.cell 0
          have q1 := HE.out.2.1.cell 1
          have q2 := HE.out.2.1.cell 2
          have q3 := HE.out.2.1.cell 3
          have q4 := HE.out.2.1.cell 4
          have r0 := HE.out.2.1.frozen 0
          have r1 := HE.out.2.1.frozen 1
          have r2 := HE.out.2.1.frozen 2
          have r3 := HE.out.2.1.frozen 3
          have r4 := HE.out.2.1.frozen 4
          simp at v0 v1 v2 v3 v4 q0 q1 q2 q3 q4
          by_cases z1 : ze = 0
          · by_cases z2 : zc = 0
            · have HCF : Hid (valCE (cfgOf z t, 0) = .tuple #[.agg #[.int .u16 t.v, .int .u16 t.w, .int .u16 t.l, .int .i64 (m / 2 + 1), .int .i64 (m / 2 + 1)], .int .i64 0]) := by
                show _ = _
                unfold valCE valC cfgOf orMost
                rw [HEZ.out.1, HEZ.out.2, HMO.out]
                simp [z1, z2]
              clear HMO
              go_wp2_with fail
              obtain ⟨w9, hw9⟩ : ∃ w9, wput5 ((wE.setCell ⟨gc, 3, none⟩ (.int .i64 (m / 2 + 1))).setCell ⟨gc, 4, none⟩ (.int .i64 (m / 2 + 1))) (w.heap.size + 1) (.int .u16 t.v) (.int .u16 t.w) (.int .u16 t.l) (.int .i64 (m / 2 + 1)) (.int .i64 (m / 2 + 1)) = w9 := ⟨_, rfl⟩
              have HB9 : Hid (Below w.heap.size w w9) := by show Below _ _ _; rw [← hw9]; exact below_put5 ((HE.out.2.2.2.setCell (p := ⟨gc, 3, none⟩) (by show _ ≤ gc; omega) _).setCell (p := ⟨gc, 4, none⟩) (by show _ ≤ gc; omega) _) (by omega) _ _ _ _ _
              have K9 : Block w9 (w.heap.size + 1) 33 #[.int .u16 t.v, .int .u16 t.w, .int .u16 t.l, .int .i64 (m / 2 + 1), .int .i64 (m / 2 + 1)] := by rw [← hw9]; exact Block.put5 ((HE.out.2.1.far (p := ⟨gc, 3, none⟩) (by show w.heap.size + 1 ≠ gc; omega) _).far (p := ⟨gc, 4, none⟩) (by show w.heap.size + 1 ≠ gc; omega) _) _ _ _ _ _
              unfold wput5 at hw9
              rw [hw9]
              have s0 := K9.cell 0
              have s1 := K9.cell 1
              have s2 := K9.cell 2
              have s3 := K9.cell 3
              have s4 := K9.cell 4
              simp at s0 s1 s2 s3 s4
              refine bodyPost_ret (v := .tuple #[.agg #[.int .u16 t.v, .int .u16 t.w, .int .u16 t.l, .int .i64 (m / 2 + 1), .int .i64 (m / 2 + 1)], .int .i64 0]) (by simp [results, Try.results51, go_sem, s0, s1, s2, s3, s4]) rfl ⟨?_, HB9.out⟩
              rw [HF.out, HCF.out]
            · have HCF : Hid (valCE (cfgOf z t, 0) = .tuple #[.agg #[.int .u16 t.v, .int .u16 t.w, .int .u16 t.l, .int .i64 (m / 2 + 1), .int .i64 (zc)], .int .i64 0]) := by
                show _ = _
                unfold valCE valC cfgOf orMost
                rw [HEZ.out.1, HEZ.out.2, HMO.out]
                simp [z1, z2]
              clear HMO
              go_wp2_with fail
              obtain ⟨w9, hw9⟩ : ∃ w9, wput5 (wE.setCell ⟨gc, 3, none⟩ (.int .i64 (m / 2 + 1))) (w.heap.size + 1) (.int .u16 t.v) (.int .u16 t.w) (.int .u16 t.l) (.int .i64 (m / 2 + 1)) (.int .i64 (zc)) = w9 := ⟨_, rfl⟩
              have HB9 : Hid (Below w.heap.size w w9) := by show Below _ _ _; rw [← hw9]; exact below_put5 (HE.out.2.2.2.setCell (p := ⟨gc, 3, none⟩) (by show _ ≤ gc; omega) _) (by omega) _ _ _ _ _
              have K9 : Block w9 (w.heap.size + 1) 33 #[.int .u16 t.v, .int .u16 t.w, .int .u16 t.l, .int .i64 (m / 2 + 1), .int .i64 (zc)] := by rw [← hw9]; exact Block.put5 (HE.out.2.1.far (p := ⟨gc, 3, none⟩) (by show w.heap.size + 1 ≠ gc; omega) _) _ _ _ _ _
              unfold wput5 at hw9
              rw [hw9]
              have s0 := K9.cell 0
              have s1 := K9.cell 1
              have s2 := K9.cell 2
              have s3 := K9.cell 3
              have s4 := K9.cell 4
              simp at s0 s1 s2 s3 s4
              refine bodyPost_ret (v := .tuple #[.agg #[.int .u16 t.v, .int .u16 t.w, .int .u16 t.l, .int .i64 (m / 2 + 1), .int .i64 (zc)], .int .i64 0]) (by simp [results, Try.results51, go_sem, s0, s1, s2, s3, s4]) rfl ⟨?_, HB9.out⟩
              rw [HF.out, HCF.out]
          · by_cases z2 : zc = 0
            · have HCF : Hid (valCE (cfgOf z t, 0) = .tuple #[.agg #[.int .u16 t.v, .int .u16 t.w, .int .u16 t.l, .int .i64 (ze), .int .i64 (m / 2 + 1)], .int .i64 0]) := by
                show _ = _
                unfold valCE valC cfgOf orMost
                rw [HEZ.out.1, HEZ.out.2, HMO.out]
                simp [z1, z2]
              clear HMO
              go_wp2_with fail
              obtain ⟨w9, hw9⟩ : ∃ w9, wput5 (wE.setCell ⟨gc, 4, none⟩ (.int .i64 (m / 2 + 1))) (w.heap.size + 1) (.int .u16 t.v) (.int .u16 t.w) (.int .u16 t.l) (.int .i64 (ze)) (.int .i64 (m / 2 + 1)) = w9 := ⟨_, rfl⟩
              have HB9 : Hid (Below w.heap.size w w9) := by show Below _ _ _; rw [← hw9]; exact below_put5 (HE.out.2.2.2.setCell (p := ⟨gc, 4, none⟩) (by show _ ≤ gc; omega) _) (by omega) _ _ _ _ _
              have K9 : Block w9 (w.heap.size + 1) 33 #[.int .u16 t.v, .int .u16 t.w, .int .u16 t.l, .int .i64 (ze), .int .i64 (m / 2 + 1)] := by rw [← hw9]; exact Block.put5 (HE.out.2.1.far (p := ⟨gc, 4, none⟩) (by show w.heap.size + 1 ≠ gc; omega) _) _ _ _ _ _
              unfold wput5 at hw9
              rw [hw9]
              have s0 := K9.cell 0
              have s1 := K9.cell 1
              have s2 := K9.cell 2
              have s3 := K9.cell 3
              have s4 := K9.cell 4
              simp at s0 s1 s2 s3 s4
              refine bodyPost_ret (v := .tuple #[.agg #[.int .u16 t.v, .int .u16 t.w, .int .u16 t.l, .int .i64 (ze), .int .i64 (m / 2 + 1)], .int .i64 0]) (by simp [results, Try.results51, go_sem, s0, s1, s2, s3, s4]) rfl ⟨?_, HB9.out⟩
              rw [HF.out, HCF.out]
            · have HCF : Hid (valCE (cfgOf z t, 0) = .tuple #[.agg #[.int .u16 t.v, .int .u16 t.w, .int .u16 t.l, .int .i64 (ze), .int .i64 (zc)], .int .i64 0]) := by
                show _ = _
                unfold valCE valC cfgOf orMost
                rw [HEZ.out.1, HEZ.out.2, HMO.out]
                simp [z1, z2]
              clear HMO
              go_wp2_with fail
              obtain ⟨w9, hw9⟩ : ∃ w9, wput5 wE (w.heap.size + 1) (.int .u16 t.v) (.int .u16 t.w) (.int .u16 t.l) (.int .i64 (ze)) (.int .i64 (zc)) = w9 := ⟨_, rfl⟩
              have HB9 : Hid (Below w.heap.size w w9) := by show Below _ _ _; rw [← hw9]; exact below_put5 HE.out.2.2.2 (by omega) _ _ _ _ _
              have K9 : Block w9 (w.heap.size + 1) 33 #[.int .u16 t.v, .int .u16 t.w, .int .u16 t.l, .int .i64 (ze), .int .i64 (zc)] := by rw [← hw9]; exact Block.put5 HE.out.2.1 _ _ _ _ _
              unfold wput5 at hw9
              rw [hw9]
              have s0 := K9.cell 0
              have s1 := K9.cell 1
              have s2 := K9.cell 2
              have s3 := K9.cell 3
              have s4 := K9.cell 4
              simp at s0 s1 s2 s3 s4
              refine bodyPost_ret (v := .tuple #[.agg #[.int .u16 t.v, .int .u16 t.w, .int .u16 t.l, .int .i64 (ze), .int .i64 (zc)], .int .i64 0]) (by simp [results, Try.results51, go_sem, s0, s1, s2, s3, s4]) rfl ⟨?_, HB9.out⟩
              rw [HF.out, HCF.out]
end Go.Proofs.Ytcciejglemfebaa
