/- antipodelaw11.ZoneRight answers true; memory that was there is as it was. -/
import Derived.Test.YtcciejglemfebaaV1
import Derived.Test.YtcciejglemfebaaZ17
import Derived.Test.YtcciejglemfebaaR8
import Derived.Test.YtcciejglemfebaaR9
namespace Go.Proofs.Ytcciejglemfebaa
set_option linter.unusedSimpArgs false
open Go.RowKit

theorem zero_u0 : U 0 := ⟨by decide, by decide⟩

/-- A block of six cells, and of three, told cell by cell. -/
theorem keepY6 {w w' : World} {g : Nat} {t : TypeId} {a b c d e f : Value} (h : Keep w g t #[a, b, c, d, e, f] w') :
    w'.cell? ⟨g, 0, none⟩ = some a ∧ w'.cell? ⟨g, 1, none⟩ = some b ∧ w'.cell? ⟨g, 2, none⟩ = some c ∧ w'.cell? ⟨g, 3, none⟩ = some d ∧ w'.cell? ⟨g, 4, none⟩ = some e ∧ w'.cell? ⟨g, 5, none⟩ = some f :=
  ⟨h.1.cell 0, h.1.cell 1, h.1.cell 2, h.1.cell 3, h.1.cell 4, h.1.cell 5⟩

theorem lst3_at {w : World} {a0 : Option Addr} {l0 : List Int} {c0 : Nat} {a1 : Option Addr} {l1 : List Int} {c1 : Nat} {a2 : Option Addr} {l2 : List Int} {c2 : Nat} {ze zc zs : Int}
    (h0 : Ints w w.heap.size a0 l0) (h1 : Ints w w.heap.size a1 l1) (h2 : Ints w w.heap.size a2 l2) (n0 : l0.length ≤ 9223372036854775807) (n1 : l1.length ≤ 9223372036854775807) (n2 : l2.length ≤ 9223372036854775807) (i : Nat) (hi : i < 3) :
    ∃ (a : Option Addr) (l : List Int) (c : Nat), (#[.slice a0 l0.length c0, .slice a1 l1.length c1, .slice a2 l2.length c2] : Array Value)[i]? = some (.slice a l.length c) ∧
      (⟨l0, l1, l2, ze, zc, zs⟩ : Zn).at i = l ∧ Ints w w.heap.size a l ∧ l.length ≤ 9223372036854775807 := by
  match i, hi with
  | 0, _ => exact ⟨a0, l0, c0, rfl, rfl, h0, n0⟩
  | 1, _ => exact ⟨a1, l1, c1, rfl, rfl, h1, n1⟩
  | 2, _ => exact ⟨a2, l2, c2, rfl, rfl, h2, n2⟩
  | i + 3, hi => omega
theorem set3_at (xv xw xl : Int) (i : Nat) (hi : i < 3) : (#[.int .u16 xv, .int .u16 xw, .int .u16 xl] : Array Value)[i]? = some (.int .u16 ((⟨xv, xw, xl⟩ : S3).at i)) := by
  match i, hi with
  | 0, _ => rfl
  | 1, _ => rfl
  | 2, _ => rfl
  | i + 3, hi => omega

set_option maxRecDepth 100000 in
set_option maxHeartbeats 12800000 in
theorem zright_calls (A : Option Addr) (regs : List Int) (C : Nat) (a0 : Option Addr) (l0 : List Int) (c0 : Nat) (a1 : Option Addr) (l1 : List Int) (c1 : Nat) (a2 : Option Addr) (l2 : List Int) (c2 : Nat) (ze zc zs : Int) (A' : Option Addr) (load : List Int) (C' : Nat) (w : World)
    (h : Ints w w.heap.size A regs) (h0 : Ints w w.heap.size a0 l0) (h1 : Ints w w.heap.size a1 l1) (h2 : Ints w w.heap.size a2 l2) (h' : Ints w w.heap.size A' load)
    (n : regs.length ≤ 9223372036854775807) (n0 : l0.length ≤ 9223372036854775807) (n1 : l1.length ≤ 9223372036854775807) (n2 : l2.length ≤ 9223372036854775807) (n' : load.length ≤ 9223372036854775807) :
    Calls Try.prog 6 #[.slice A regs.length C, .agg (zcells a0 l0 c0 a1 l1 c1 a2 l2 c2 ze zc zs), .slice A' load.length C'] w fun x w' => x = .returned (.bool true) ∧ Below w.heap.size w w' := by
  have K0 : Hid (Keep w w.heap.size 47 (zcells a0 l0 c0 a1 l1 c1 a2 l2 c2 ze zc zs) (w.alloc (.cells (zcells a0 l0 c0 a1 l1 c1 a2 l2 c2 ze zc zs) 47))) := Keep.new _ _ _
  have hA := fun (wr : World) (hb : Below w.heap.size w wr) => allot_calls A C regs a0 l0 c0 a1 l1 c1 a2 l2 c2 ze zc zs A' C' load wr ((h.below hb).more hb.size) ((h0.below hb).more hb.size) ((h1.below hb).more hb.size) ((h2.below hb).more hb.size) ((h'.below hb).more hb.size) n n0 n1 n2 n'
  have hC := fun (wr : World) (hb : Below w.heap.size w wr) => check_calls A C regs a0 l0 c0 a1 l1 c1 a2 l2 c2 ze zc zs A' C' load wr ((h.below hb).more hb.size) ((h0.below hb).more hb.size) ((h1.below hb).more hb.size) ((h2.below hb).more hb.size) ((h'.below hb).more hb.size) n n0 n1 n2 n'
  have hL := fun (wr : World) => light_calls A C regs a0 l0 c0 a1 l1 c1 a2 l2 c2 ze zc zs A' C' load wr n n0 n1 n2 n'
  have HTB := Lib.hid fun i hi => lst3_at (w := w) (c0 := c0) (c1 := c1) (c2 := c2) (ze := ze) (zc := zc) (zs := zs) h0 h1 h2 n0 n1 n2 i hi
  have hus := allotP_us regs load ⟨l0, l1, l2, ze, zc, zs⟩
  have HLAW := Lib.hid fun hh => right_law (regs := regs) (load := load) (z := ⟨l0, l1, l2, ze, zc, zs⟩) hh
  have HOTH := Lib.hid fun h0 h12 => check_other (regs := regs) (load := load) (z := ⟨l0, l1, l2, ze, zc, zs⟩) h0 h12
  generalize allotP regs load ⟨l0, l1, l2, ze, zc, zs⟩ = AP at hA hus HLAW
  generalize checkP regs load ⟨l0, l1, l2, ze, zc, zs⟩ = CP at hC HLAW HOTH
  obtain ⟨⟨xv, xw, xl, xe, xc⟩, er⟩ := AP
  obtain ⟨⟨kv, kw, kl, ke, kc⟩, kr⟩ := CP
  obtain ⟨u0, u1, u2⟩ := hus
  dsimp only at u0 u1 u2
  have HAL : Hid (∀ wr : World, Below w.heap.size w wr → Calls Try.prog 31 #[.slice A regs.length C, .agg (zcells a0 l0 c0 a1 l1 c1 a2 l2 c2 ze zc zs), .slice A' load.length C'] wr fun x w' => x = .returned (.tuple #[.agg (cells xv xw xl xe xc), .int .i64 er]) ∧ Below wr.heap.size wr w') := hA
  have HCL : Hid (∀ wr : World, Below w.heap.size w wr → Calls Try.prog 30 #[.slice A regs.length C, .agg (zcells a0 l0 c0 a1 l1 c1 a2 l2 c2 ze zc zs), .slice A' load.length C'] wr fun x w' => x = .returned (.tuple #[.agg (cells kv kw kl ke kc), .int .i64 kr]) ∧ Below wr.heap.size wr w') := hC
  have HIR := Lib.hid h
  have HU : Hid ((⟨xv, xw, xl⟩ : S3).Us) := ⟨u0, u1, u2⟩
  clear hA hC h h0 h1 h2 h' n n0 n1 n2 n' u0 u1 u2
  cases hLT : lightB regs l0 l1 l2 load with
  | false =>
    rw [hLT] at hL
    have HL := Lib.hid hL
    clear hL hLT
    go_enter Try.func6, Try.ntmps6
    go_wp2_with fail
    ((with_reducible refine (begun11 _).mono ?_); rintro x w1 ⟨rfl, hb⟩)
    have K1 := Lib.hid (K0.out.call hb)
    obtain ⟨x0, x1, x2, x3, x4, x5⟩ := keepY6 K1.out
    clear hb K0
    go_wp2_with fail
    ((with_reducible refine (HL.out _).mono ?_); rintro x w2 ⟨rfl, hb⟩)
    have K2 := Lib.hid (K1.out.call hb)
    clear hb K1 x0 x1 x2 x3 x4 x5 HL
    go_wp2_with fail
    go_ret
    exact ⟨rfl, K2.out.2⟩
  | true =>
    rw [hLT] at hL
    have HL := Lib.hid hL
    clear hL hLT
    go_enter Try.func6, Try.ntmps6
    go_wp2_with fail
    ((with_reducible refine (begun11 _).mono ?_); rintro x w1 ⟨rfl, hb⟩)
    have K1 := Lib.hid (K0.out.call hb)
    obtain ⟨x0, x1, x2, x3, x4, x5⟩ := keepY6 K1.out
    clear hb K0
    go_wp2_with fail
    ((with_reducible refine (HL.out _).mono ?_); rintro x w2 ⟨rfl, hb⟩)
    have K2 := Lib.hid (K1.out.call hb)
    clear hb K1 x0 x1 x2 x3 x4 x5 HL
    obtain ⟨x0, x1, x2, x3, x4, x5⟩ := keepY6 K2.out
    have HC3 := Lib.hid (HCL.out _ K2.out.2)
    clear HCL
    go_wp2_with fail
    ((with_reducible refine HC3.out.mono ?_); rintro x w3 ⟨rfl, hb⟩)
    have K3 := Lib.hid ((K2.out.call hb).alloc (.cells (cells kv kw kl ke kc) 33))
    have KC : Hid (Keep w w3.heap.size 33 (cells kv kw kl ke kc) (w3.alloc (.cells (cells kv kw kl ke kc) 33))) := Keep.mk_new (K2.out.call hb).2 rfl
    clear hb K2 HC3 x0 x1 x2 x3 x4 x5
    by_cases hk0 : kr = 0
    · obtain rfl : (0 : Int) = kr := hk0.symm
      obtain ⟨er0, hlen, hs, hcnt, hbr, hck⟩ := HLAW.out (Or.inl rfl)
      obtain rfl : (0 : Int) = er := er0.symm
      have hcc := (hck rfl).symm
      simp only [Cfg.mk.injEq] at hcc
      obtain ⟨rfl, rfl, rfl, rfl, rfl⟩ := hcc
      have HCNT := Lib.hid hcnt
      have HBR := Lib.hid hbr
      have HS := Lib.hid hs
      have HX : Hid ((⟨xv, xw, xl, xe, xc⟩ : Cfg) = ⟨xv, xw, xl, xe, xc⟩) := rfl
      clear hcnt hbr hs HLAW HOTH er0 HX
      obtain ⟨x0, x1, x2, x3, x4, x5⟩ := keepY6 K3.out
      have HA4 := Lib.hid (HAL.out _ K3.out.2)
      clear HAL
      go_wp2_with fail
      ((with_reducible refine HA4.out.mono ?_); rintro x w4 ⟨rfl, hb⟩)
      have K4 := Lib.hid ((K3.out.call hb).alloc (.cells (cells xv xw xl xe xc) 33))
      have KC4 := Lib.hid ((KC.out.call hb).alloc (.cells (cells xv xw xl xe xc) 33))
      have KD : Hid (Keep w w4.heap.size 33 (cells xv xw xl xe xc) (w4.alloc (.cells (cells xv xw xl xe xc) 33))) := Keep.mk_new (K3.out.call hb).2 rfl
      clear hb K3 KC HA4 x0 x1 x2 x3 x4 x5
      obtain ⟨x0, x1, x2, x3, x4, x5⟩ := keepY6 K4.out
      obtain ⟨_, y0, y1, y2, y3, y4⟩ := keepS5 KC4.out
      have KL : Hid (Keep w (w4.heap.size + 1) 45 #[.slice a0 l0.length c0, .slice a1 l1.length c1, .slice a2 l2.length c2] ((w4.alloc (.cells (cells xv xw xl xe xc) 33)).alloc (.cells #[.slice a0 l0.length c0, .slice a1 l1.length c1, .slice a2 l2.length c2] 45))) := Keep.mk_new K4.out.2 (by simp)
      have K5 := Lib.hid ((K4.out.alloc (.cells #[.slice a0 l0.length c0, .slice a1 l1.length c1, .slice a2 l2.length c2] 45)).alloc (.cells #[.int .u16 xv, .int .u16 xw, .int .u16 xl] 23))
      have KD5 := Lib.hid ((KD.out.alloc (.cells #[.slice a0 l0.length c0, .slice a1 l1.length c1, .slice a2 l2.length c2] 45)).alloc (.cells #[.int .u16 xv, .int .u16 xw, .int .u16 xl] 23))
      have KL5 := Lib.hid (KL.out.alloc (.cells #[.int .u16 xv, .int .u16 xw, .int .u16 xl] 23))
      have KS5 : Hid (Keep w (w4.heap.size + 1 + 1) 23 #[.int .u16 xv, .int .u16 xw, .int .u16 xl] (((w4.alloc (.cells (cells xv xw xl xe xc) 33)).alloc (.cells #[.slice a0 l0.length c0, .slice a1 l1.length c1, .slice a2 l2.length c2] 45)).alloc (.cells #[.int .u16 xv, .int .u16 xw, .int .u16 xl] 23))) := Keep.mk_new (K4.out.alloc (.cells #[.slice a0 l0.length c0, .slice a1 l1.length c1, .slice a2 l2.length c2] 45)).2 (by simp)
      clear KL KD
      go_wp2_with fail
      obtain ⟨wT, hwT⟩ : ∃ wT, ((w4.alloc (.cells (cells xv xw xl xe xc) 33)).alloc (.cells #[.slice a0 l0.length c0, .slice a1 l1.length c1, .slice a2 l2.length c2] 45)).alloc (.cells #[.int .u16 xv, .int .u16 xw, .int .u16 xl] 23) = wT := ⟨_, rfl⟩
      rw [hwT] at K5 KD5 KL5 KS5
      rw [hwT]
      clear hwT x0 x1 x2 x3 x4 x5 y0 y1 y2 y3 y4 KC4 K4
      generalize w4.heap.size = gd at *
      have HIT := Lib.hid (HIR.out.below K5.out.2)
      go_loop [13] (fun i => ∃ i0 : Nat, i0 ≤ 3 ∧ i = .int .i64 (i0 : Int)) (fun i => 3 - (intOf i).toNat)
      case atStart => exact ⟨0, by omega, rfl⟩
      case round =>
        obtain ⟨i, hi, rfl⟩ := hrel
        by_cases hi3 : i < 3
        · obtain ⟨a, l, c, e1, e2, e3, e4⟩ := HTB.out i hi3
          have t1 := (KL5.out.1.cell i).trans e1
          have t2 := (KS5.out.1.cell i).trans (set3_at xv xw xl i hi3)
          have HLL : Hid (Ints wT w.heap.size a l) := e3.below K5.out.2
          have HZA : Hid ((⟨l0, l1, l2, ze, zc, zs⟩ : Zn).at i = l) := e2
          have HUI := Lib.hid (at_us HU.out i)
          have HCI := Lib.hid fun (r : Nat) hr => HCNT.out r i hr hi3
          obtain ⟨u, hu⟩ : ∃ u, (⟨xv, xw, xl⟩ : S3).at i = u := ⟨_, rfl⟩
          rw [hu] at t2 HUI HCI
          clear e1 e2 e3 hu
          have hi4 : decide ((i : Int) < 3) = true := decide_eq_true (by omega)
          go_wp2_with fail
          go_loop [14] (fun r => ∃ r0 : Nat, r0 ≤ 4 ∧ r = .int .i64 (r0 : Int)) (fun r => 4 - (intOf r).toNat)
          case atStart => exact ⟨0, by omega, rfl⟩
          case round =>
            obtain ⟨r, hr, rfl⟩ := hrel
            by_cases hr4 : r < 4
            · have hcn := HCI.out r hr4
              rw [HZA.out] at hcn
              have HCR := Lib.hid hcn
              have hr5 : decide ((r : Int) < 4) = true := decide_eq_true (by omega)
              clear hcn
              go_wp2_with fail
              go_loop [15, 16] (fun p q => ∃ (j : Nat) (m y : Int), j ≤ regs.length ∧ Hid (y = (j : Int) + 1) ∧ 1 ≤ y ∧ y ≤ 10 ∧ q = .int .i64 y ∧ p = .int .i64 m ∧ 0 ≤ m ∧ m ≤ 9 ∧ Hid (m = cntGo regs (r : Int) u j)) (fun _ q => regs.length + 1 - (intOf q).toNat)
              case atStart => exact ⟨0, 0, 1, by omega, rfl, by omega, by omega, rfl, rfl, by omega, by omega, rfl⟩
              case round =>
                obtain ⟨j, m, y, hj, HY, hy1, hy9, rfl, rfl, m0, m9, HM⟩ := hrel
                by_cases hjl : j < regs.length
                · obtain ⟨bb, o, rfl, hbb, hc⟩ := HIT.out.at_ hjl
                  have eY : y.toNat - 1 = j := by have := HY.out; omega
                  have hyl : y ≤ (regs.length : Int) := by have := HY.out; omega
                  have hyl' : y - 1 < (regs.length : Int) := by omega
                  have HMB := Lib.hid (cntGo_le regs (r : Int) u (j + 1))
                  obtain ⟨v, hv⟩ : ∃ v, regs.getD j 0 = v := ⟨_, rfl⟩
                  have HV := Lib.hid hv
                  rw [hv, ← eY] at hc
                  clear hv eY hbb
                  by_cases hvr : v = (r : Int)
                  · have hh := rhas_calls u y wT HUI.out
                    cases hhb : hasB u y with
                    | true =>
                      rw [hhb] at hh
                      have HH := Lib.hid hh
                      have HN : Hid (m + 1 = cntGo regs (r : Int) u (j + 1)) := by show _ = _; rw [cntGo_on (HV.out.trans hvr) (by rw [← HY.out]; exact hhb), HM.out]
                      have hm9 : m + 1 ≤ 9 := by have := HMB.out; have := HN.out; omega
                      obtain rfl : (r : Int) = v := hvr.symm
                      clear hh hhb hvr HMB HM
                      go_wp2_with fail
                      ((with_reducible refine HH.out.mono ?_); rintro x w' ⟨rfl, rfl⟩)
                      go_wp2_with fail
                      go_round
                      case rel => exact ⟨j + 1, m + 1, y + 1, by omega, Lib.hid (by have := HY.out; omega), by omega, by have := HY.out; omega, rfl, rfl, by omega, by omega, HN⟩
                      case measure => simp [intOf]; have := HY.out; omega
                    | false =>
                      rw [hhb] at hh
                      have HH := Lib.hid hh
                      have HN : Hid (m = cntGo regs (r : Int) u (j + 1)) := by show _ = _; rw [cntGo_off2 (by rw [← HY.out]; exact hhb)]; exact HM.out
                      obtain rfl : (r : Int) = v := hvr.symm
                      clear hh hhb hvr HMB HM
                      go_wp2_with fail
                      ((with_reducible refine HH.out.mono ?_); rintro x w' ⟨rfl, rfl⟩)
                      go_wp2_with fail
                      go_round
                      case rel => exact ⟨j + 1, m, y + 1, by omega, Lib.hid (by have := HY.out; omega), by omega, by have := HY.out; omega, rfl, rfl, by omega, by omega, HN⟩
                      case measure => simp [intOf]; have := HY.out; omega
                  · have HN : Hid (m = cntGo regs (r : Int) u (j + 1)) := by show _ = _; rw [cntGo_off1 (by rw [HV.out]; exact hvr)]; exact HM.out
                    have hvr' : (v == (r : Int)) = false := by simpa using hvr
                    clear hvr HMB HM
                    go_wp2_with fail
                    go_round
                    case rel => exact ⟨j + 1, m, y + 1, by omega, Lib.hid (by have := HY.out; omega), by omega, by have := HY.out; omega, rfl, rfl, by omega, by omega, HN⟩
                    case measure => simp [intOf]; have := HY.out; omega
                · have hyl : (regs.length : Int) < y := by have := HY.out; omega
                  have hmv : l.getD r 0 = m := by rw [HM.out, show j = regs.length from by omega]; exact HCR.out.symm
                  by_cases hrl : r < l.length
                  · obtain ⟨bb, o, rfl, hbb, hc⟩ := HLL.out.at_ hrl
                    rw [hmv] at hc
                    have hrlI : (r : Int) < (l.length : Int) := by omega
                    clear hmv HM hbb hjl hj
                    go_wp2_with fail
                    go_round
                    case rel => exact ⟨r + 1, by omega, by go_num⟩
                    case measure => simp [intOf]; omega
                  · have hm0 : m = 0 := by
                      rw [← hmv, List.getD_eq_getElem?_getD, List.getElem?_eq_none (by omega)]; rfl
                    obtain rfl : (0 : Int) = m := hm0.symm
                    have hrlI : (l.length : Int) ≤ (r : Int) := by omega
                    clear hmv hm0 HM hjl hj
                    go_wp2_with fail
                    go_round
                    case rel => exact ⟨r + 1, by omega, by go_num⟩
                    case measure => simp [intOf]; omega
            · go_wp2_with fail
              go_round
              case rel => exact ⟨i + 1, by omega, by go_num⟩
              case measure => simp [intOf]; omega
        · have K6 := K5
          have KD6 := KD5
          clear K5 KD5 KL5 KS5 HIT
          go_wp2_with fail
          go_loopw [17, 18] (fun p q wr => ∃ (k : Nat) (b : Bool), k ≤ 10 ∧ q = .int .i64 (k : Int) ∧ p = .bool b ∧ Hid (b = breaksGo (fun k => brk ⟨xv, xw, xl, xe, xc⟩ (leftGo regs zs (k : Int) regs.length)) k) ∧ Hid (Keep w w.heap.size 47 (zcells a0 l0 c0 a1 l1 c1 a2 l2 c2 ze zc zs) wr) ∧ Hid (Keep w gd 33 (cells xv xw xl xe xc) wr)) (fun _ q _ => 10 - (intOf q).toNat)
          case atStart => exact ⟨0, false, by omega, rfl, rfl, rfl, K6, KD6⟩
          case round =>
            clear K6 KD6
            obtain ⟨k, b, hk, rfl, rfl, HBK, K7, KD7⟩ := hrel
            by_cases hk9 : k < 10
            · have HIW := Lib.hid (HIR.out.below K7.out.2)
              have zf := K7.out.1.cell 5
              simp at zf
              have hkI : decide ((k : Int) ≤ 9) = true := decide_eq_true (by omega)
              go_wp2_with fail
              go_loop [19, 20] (fun p q => ∃ (j : Nat) (x y : Int), j ≤ regs.length ∧ Hid (y = (j : Int) + 1) ∧ 1 ≤ y ∧ y ≤ 10 ∧ q = .int .i64 y ∧ p = .int .u16 x ∧ Hid (x = leftGo regs zs (k : Int) j)) (fun _ q => regs.length + 1 - (intOf q).toNat)
              case atStart => exact ⟨0, 0, 1, by omega, rfl, by omega, by omega, rfl, rfl, rfl⟩
              case round =>
                obtain ⟨j, x, y, hj, HY, hy1, hy9, rfl, rfl, HXL⟩ := hrel
                by_cases hjl : j < regs.length
                · obtain ⟨bb, o, rfl, hbb, hc⟩ := HIW.out.at_ hjl
                  have eY : y.toNat - 1 = j := by have := HY.out; omega
                  have hyl : y ≤ (regs.length : Int) := by have := HY.out; omega
                  have hyl' : y - 1 < (regs.length : Int) := by omega
                  obtain ⟨v, hv⟩ : ∃ v, regs.getD j 0 = v := ⟨_, rfl⟩
                  have HV := Lib.hid hv
                  rw [hv, ← eY] at hc
                  have HXU : Hid (U x) := by show U x; rw [HXL.out]; exact leftGo_u _ _ _ _
                  have HW := Lib.hid (rwith_calls x y wr HXU.out)
                  have HON : Hid (condL regs zs (k : Int) j = true → union x (one y) = leftGo regs zs (k : Int) (j + 1)) := fun hh => by rw [leftGo_on hh, HXL.out, HY.out]
                  have HOFF : Hid (condL regs zs (k : Int) j = false → x = leftGo regs zs (k : Int) (j + 1)) := fun hh => by rw [leftGo_off hh]; exact HXL.out
                  have HCD : Hid (condL regs zs (k : Int) j = ((decide (zs = 0) || (decide (zs = 1) && !decide (y = (k : Int)))) || (decide (zs = 2) && !decide (v = (k : Int))))) := by
                    show _ = _
                    unfold condL
                    rw [← HY.out, HV.out]
                  have hs3 := HS.out
                  generalize union x (one y) = x' at *
                  clear hv eY hbb HXU HXL
                  rcases hs3 with hs | hs | hs
                  · have hz0 : (zs == 0) = true := by simpa using hs
                    have HN := Lib.hid (HON.out (by rw [HCD.out, hs]; rfl))
                    clear hs HON HOFF HCD
                    go_wp2_with fail
                    ((with_reducible refine HW.out.mono ?_); rintro x w' ⟨rfl, rfl⟩)
                    go_wp2_with fail
                    go_round
                    case rel => exact ⟨j + 1, x', y + 1, by omega, Lib.hid (by have := HY.out; omega), by omega, by have := HY.out; omega, rfl, rfl, HN⟩
                    case measure => simp [intOf]; have := HY.out; omega
                  · have hz0 : (zs == 0) = false := by rw [hs]; rfl
                    have hz1 : (zs == 1) = true := by simpa using hs
                    have hz2 : (zs == 2) = false := by rw [hs]; rfl
                    by_cases hyk : y = (k : Int)
                    · have hyk' : (y != (k : Int)) = false := by simpa using hyk
                      have hykb : (y == (k : Int)) = true := by simpa using hyk
                      have HN := Lib.hid (HOFF.out (by rw [HCD.out, hs, decide_eq_true hyk]; rfl))
                      clear hs HON HOFF HCD hyk
                      go_wp2_with fail
                      go_round
                      case rel => exact ⟨j + 1, x, y + 1, by omega, Lib.hid (by have := HY.out; omega), by omega, by have := HY.out; omega, rfl, rfl, HN⟩
                      case measure => simp [intOf]; have := HY.out; omega
                    · have hyk' : (y != (k : Int)) = true := by simpa using hyk
                      have hykb : (y == (k : Int)) = false := by simpa using hyk
                      have HN := Lib.hid (HON.out (by rw [HCD.out, hs, decide_eq_false hyk]; rfl))
                      clear hs HON HOFF HCD hyk
                      go_wp2_with fail
                      ((with_reducible refine HW.out.mono ?_); rintro x w' ⟨rfl, rfl⟩)
                      go_wp2_with fail
                      go_round
                      case rel => exact ⟨j + 1, x', y + 1, by omega, Lib.hid (by have := HY.out; omega), by omega, by have := HY.out; omega, rfl, rfl, HN⟩
                      case measure => simp [intOf]; have := HY.out; omega
                  · have hz0 : (zs == 0) = false := by rw [hs]; rfl
                    have hz1 : (zs == 1) = false := by rw [hs]; rfl
                    have hz2 : (zs == 2) = true := by simpa using hs
                    by_cases hyk : v = (k : Int)
                    · have hyk' : (v != (k : Int)) = false := by simpa using hyk
                      have hykb : (v == (k : Int)) = true := by simpa using hyk
                      have HN := Lib.hid (HOFF.out (by rw [HCD.out, hs, decide_eq_true hyk]; rfl))
                      clear hs HON HOFF HCD hyk
                      go_wp2_with fail
                      go_round
                      case rel => exact ⟨j + 1, x, y + 1, by omega, Lib.hid (by have := HY.out; omega), by omega, by have := HY.out; omega, rfl, rfl, HN⟩
                      case measure => simp [intOf]; have := HY.out; omega
                    · have hyk' : (v != (k : Int)) = true := by simpa using hyk
                      have hykb : (v == (k : Int)) = false := by simpa using hyk
                      have HN := Lib.hid (HON.out (by rw [HCD.out, hs, decide_eq_false hyk]; rfl))
                      clear hs HON HOFF HCD hyk
                      go_wp2_with fail
                      ((with_reducible refine HW.out.mono ?_); rintro x w' ⟨rfl, rfl⟩)
                      go_wp2_with fail
                      go_round
                      case rel => exact ⟨j + 1, x', y + 1, by omega, Lib.hid (by have := HY.out; omega), by omega, by have := HY.out; omega, rfl, rfl, HN⟩
                      case measure => simp [intOf]; have := HY.out; omega
                · have hyl : (regs.length : Int) < y := by have := HY.out; omega
                  have HXE : Hid (x = leftGo regs zs (k : Int) regs.length) := by show _ = _; rw [HXL.out, show j = regs.length from by omega]
                  have HXU : Hid (U x) := by show U x; rw [HXL.out]; exact leftGo_u _ _ _ _
                  have he := fun w => relects_calls xv xw xl xe xc 0 0 0 0 0 false x w HU.out.1 HU.out.2.1 zero_u0 zero_u0 HXU.out
                  have hcm := fun w => rcommits_calls xv xw xl xe xc 0 0 0 0 0 false x w HU.out.1 HU.out.2.1 zero_u0 zero_u0 HXU.out
                  have hmt := fun w => rmeet_calls x xv w HXU.out HU.out.1
                  have HBX : Hid (brk ⟨xv, xw, xl, xe, xc⟩ x = ((!electsJ ⟨⟨xv, xw, xl, xe, xc⟩, ⟨0, 0, 0, 0, 0⟩, false⟩ x || !commitsJ ⟨⟨xv, xw, xl, xe, xc⟩, ⟨0, 0, 0, 0, 0⟩, false⟩ x) || (msk (inter x xv) == 0))) := by
                    show _ = _
                    unfold brk electsJ commitsJ
                    simp
                  have HNX : Hid (breaksGo (fun k => brk ⟨xv, xw, xl, xe, xc⟩ (leftGo regs zs (k : Int) regs.length)) (k + 1) = (b || brk ⟨xv, xw, xl, xe, xc⟩ x)) := by
                    show _ = _
                    rw [HXE.out, HBK.out]
                    rfl
                  generalize electsJ ⟨⟨xv, xw, xl, xe, xc⟩, ⟨0, 0, 0, 0, 0⟩, false⟩ x = E at he HBX
                  generalize commitsJ ⟨⟨xv, xw, xl, xe, xc⟩, ⟨0, 0, 0, 0, 0⟩, false⟩ x = Q at hcm HBX
                  generalize msk (inter x xv) = mt at hmt HBX
                  obtain ⟨_, d0, d1, d2, d3, d4⟩ := keepS5 KD7.out
                  have KJ : Hid (Keep w wr.heap.size 38 (jcells xv xw xl xe xc 0 0 0 0 0 false) (wr.alloc (.cells (jcells xv xw xl xe xc 0 0 0 0 0 false) 38))) := Keep.mk_new K7.out.2 rfl
                  have K8 := Lib.hid (K7.out.alloc (.cells (jcells xv xw xl xe xc 0 0 0 0 0 false) 38))
                  have KD8 := Lib.hid (KD7.out.alloc (.cells (jcells xv xw xl xe xc 0 0 0 0 0 false) 38))
                  have HMT := Lib.hid hmt
                  clear HXL HXE HXU hj hjl HBK K7 KD7 zf hmt
                  cases b with
                  | true =>
                    have HN : Hid (true = breaksGo (fun k => brk ⟨xv, xw, xl, xe, xc⟩ (leftGo regs zs (k : Int) regs.length)) (k + 1)) := by show _ = _; rw [HNX.out]; rfl
                    clear he hcm HBX HNX HMT
                    go_wp2_with fail
                    go_roundw
                    case rel => exact ⟨k + 1, true, by omega, by go_num, rfl, HN, K8, KD8⟩
                    case measure => simp [intOf]; omega
                  | false =>
                    cases E with
                    | false =>
                      have HE := Lib.hid he
                      have HN : Hid (true = breaksGo (fun k => brk ⟨xv, xw, xl, xe, xc⟩ (leftGo regs zs (k : Int) regs.length)) (k + 1)) := by show _ = _; rw [HNX.out, HBX.out]; rfl
                      clear he hcm HBX HNX HMT
                      go_wp2_with fail
                      ((with_reducible refine (HE.out _).mono ?_); rintro x w8 ⟨rfl, hb⟩)
                      have K9 := Lib.hid (K8.out.call hb)
                      have KD9 := Lib.hid (KD8.out.call hb)
                      clear hb K8 KD8 KJ
                      go_wp2_with fail
                      go_roundw
                      case rel => exact ⟨k + 1, true, by omega, by go_num, rfl, HN, K9, KD9⟩
                      case measure => simp [intOf]; omega
                    | true =>
                      have HE := Lib.hid he
                      cases Q with
                      | false =>
                        have HQ := Lib.hid hcm
                        have HN : Hid (true = breaksGo (fun k => brk ⟨xv, xw, xl, xe, xc⟩ (leftGo regs zs (k : Int) regs.length)) (k + 1)) := by show _ = _; rw [HNX.out, HBX.out]; rfl
                        clear he hcm HBX HNX HMT
                        go_wp2_with fail
                        ((with_reducible refine (HE.out _).mono ?_); rintro x w8 ⟨rfl, hb⟩)
                        have K9 := Lib.hid (K8.out.call hb)
                        have KD9 := Lib.hid (KD8.out.call hb)
                        have KJ9 := Lib.hid (KJ.out.call hb)
                        clear hb K8 KD8 KJ d0 d1 d2 d3 d4
                        obtain ⟨_, j0, j1, j2, j3, j4, j5, j6, j7, j8, j9, j10⟩ := keepS11 KJ9.out
                        obtain ⟨_, d0, d1, d2, d3, d4⟩ := keepS5 KD9.out
                        go_wp2_with fail
                        ((with_reducible refine (HQ.out _).mono ?_); rintro x w9 ⟨rfl, hb⟩)
                        have KA := Lib.hid (K9.out.call hb)
                        have KDA := Lib.hid (KD9.out.call hb)
                        clear hb K9 KD9 KJ9 j0 j1 j2 j3 j4 j5 j6 j7 j8 j9 j10
                        go_wp2_with fail
                        go_roundw
                        case rel => exact ⟨k + 1, true, by omega, by go_num, rfl, HN, KA, KDA⟩
                        case measure => simp [intOf]; omega
                      | true =>
                        have HQ := Lib.hid hcm
                        have HN : Hid ((mt == 0) = breaksGo (fun k => brk ⟨xv, xw, xl, xe, xc⟩ (leftGo regs zs (k : Int) regs.length)) (k + 1)) := by show _ = _; rw [HNX.out, HBX.out]; simp
                        clear he hcm HBX HNX
                        go_wp2_with fail
                        ((with_reducible refine (HE.out _).mono ?_); rintro x w8 ⟨rfl, hb⟩)
                        have K9 := Lib.hid (K8.out.call hb)
                        have KD9 := Lib.hid (KD8.out.call hb)
                        have KJ9 := Lib.hid (KJ.out.call hb)
                        clear hb K8 KD8 KJ d0 d1 d2 d3 d4
                        obtain ⟨_, j0, j1, j2, j3, j4, j5, j6, j7, j8, j9, j10⟩ := keepS11 KJ9.out
                        obtain ⟨_, d0, d1, d2, d3, d4⟩ := keepS5 KD9.out
                        go_wp2_with fail
                        ((with_reducible refine (HQ.out _).mono ?_); rintro x w9 ⟨rfl, hb⟩)
                        have KA := Lib.hid (K9.out.call hb)
                        have KDA := Lib.hid (KD9.out.call hb)
                        clear hb K9 KD9 KJ9 j0 j1 j2 j3 j4 j5 j6 j7 j8 j9 j10 d0 d1 d2 d3 d4
                        obtain ⟨_, d0, d1, d2, d3, d4⟩ := keepS5 KDA.out
                        go_wp2_with fail
                        ((with_reducible refine (HMT.out _).mono ?_); rintro x w' ⟨rfl, rfl⟩)
                        go_wp2_with fail
                        go_roundw
                        case rel => exact ⟨k + 1, (mt == 0), by omega, by go_num, rfl, HN, KA, KDA⟩
                        case measure => simp [intOf]; omega
            · have HBE : Hid (b = false) := by
                show _ = _
                rw [HBK.out, show k = 10 from by omega]
                exact HBR.out
              obtain rfl : false = b := HBE.out.symm
              clear HBK HBE
              go_wp2_with fail
              go_ret
              exact ⟨ret_bool (by simp), K7.out.2⟩
    · by_cases hk12 : kr = 12
      · obtain rfl : (12 : Int) = kr := hk12.symm
        obtain ⟨er0, hlen, hs, hcnt, hbr, _⟩ := HLAW.out (Or.inr rfl)
        obtain rfl : (0 : Int) = er := er0.symm
        have HCNT := Lib.hid hcnt
        have HBR := Lib.hid hbr
        have HS := Lib.hid hs
        have HX : Hid ((⟨kv, kw, kl, ke, kc⟩ : Cfg) = ⟨kv, kw, kl, ke, kc⟩) := rfl
        clear hcnt hbr hs HLAW HOTH er0 HX hk0
        obtain ⟨x0, x1, x2, x3, x4, x5⟩ := keepY6 K3.out
        have HA4 := Lib.hid (HAL.out _ K3.out.2)
        clear HAL
        go_wp2_with fail
        ((with_reducible refine HA4.out.mono ?_); rintro x w4 ⟨rfl, hb⟩)
        have K4 := Lib.hid ((K3.out.call hb).alloc (.cells (cells xv xw xl xe xc) 33))
        have KC4 := Lib.hid ((KC.out.call hb).alloc (.cells (cells xv xw xl xe xc) 33))
        have KD : Hid (Keep w w4.heap.size 33 (cells xv xw xl xe xc) (w4.alloc (.cells (cells xv xw xl xe xc) 33))) := Keep.mk_new (K3.out.call hb).2 rfl
        clear hb K3 KC HA4 x0 x1 x2 x3 x4 x5
        obtain ⟨x0, x1, x2, x3, x4, x5⟩ := keepY6 K4.out
        obtain ⟨_, y0, y1, y2, y3, y4⟩ := keepS5 KC4.out
        have KL : Hid (Keep w (w4.heap.size + 1) 45 #[.slice a0 l0.length c0, .slice a1 l1.length c1, .slice a2 l2.length c2] ((w4.alloc (.cells (cells xv xw xl xe xc) 33)).alloc (.cells #[.slice a0 l0.length c0, .slice a1 l1.length c1, .slice a2 l2.length c2] 45))) := Keep.mk_new K4.out.2 (by simp)
        have K5 := Lib.hid ((K4.out.alloc (.cells #[.slice a0 l0.length c0, .slice a1 l1.length c1, .slice a2 l2.length c2] 45)).alloc (.cells #[.int .u16 xv, .int .u16 xw, .int .u16 xl] 23))
        have KD5 := Lib.hid ((KD.out.alloc (.cells #[.slice a0 l0.length c0, .slice a1 l1.length c1, .slice a2 l2.length c2] 45)).alloc (.cells #[.int .u16 xv, .int .u16 xw, .int .u16 xl] 23))
        have KL5 := Lib.hid (KL.out.alloc (.cells #[.int .u16 xv, .int .u16 xw, .int .u16 xl] 23))
        have KS5 : Hid (Keep w (w4.heap.size + 1 + 1) 23 #[.int .u16 xv, .int .u16 xw, .int .u16 xl] (((w4.alloc (.cells (cells xv xw xl xe xc) 33)).alloc (.cells #[.slice a0 l0.length c0, .slice a1 l1.length c1, .slice a2 l2.length c2] 45)).alloc (.cells #[.int .u16 xv, .int .u16 xw, .int .u16 xl] 23))) := Keep.mk_new (K4.out.alloc (.cells #[.slice a0 l0.length c0, .slice a1 l1.length c1, .slice a2 l2.length c2] 45)).2 (by simp)
        clear KL KD
        go_wp2_with fail
        obtain ⟨wT, hwT⟩ : ∃ wT, ((w4.alloc (.cells (cells xv xw xl xe xc) 33)).alloc (.cells #[.slice a0 l0.length c0, .slice a1 l1.length c1, .slice a2 l2.length c2] 45)).alloc (.cells #[.int .u16 xv, .int .u16 xw, .int .u16 xl] 23) = wT := ⟨_, rfl⟩
        rw [hwT] at K5 KD5 KL5 KS5
        rw [hwT]
        clear hwT x0 x1 x2 x3 x4 x5 y0 y1 y2 y3 y4 KC4 K4
        generalize w4.heap.size = gd at *
        have HIT := Lib.hid (HIR.out.below K5.out.2)
        go_loop [13] (fun i => ∃ i0 : Nat, i0 ≤ 3 ∧ i = .int .i64 (i0 : Int)) (fun i => 3 - (intOf i).toNat)
        case atStart => exact ⟨0, by omega, rfl⟩
        case round =>
          obtain ⟨i, hi, rfl⟩ := hrel
          by_cases hi3 : i < 3
          · obtain ⟨a, l, c, e1, e2, e3, e4⟩ := HTB.out i hi3
            have t1 := (KL5.out.1.cell i).trans e1
            have t2 := (KS5.out.1.cell i).trans (set3_at xv xw xl i hi3)
            have HLL : Hid (Ints wT w.heap.size a l) := e3.below K5.out.2
            have HZA : Hid ((⟨l0, l1, l2, ze, zc, zs⟩ : Zn).at i = l) := e2
            have HUI := Lib.hid (at_us HU.out i)
            have HCI := Lib.hid fun (r : Nat) hr => HCNT.out r i hr hi3
            obtain ⟨u, hu⟩ : ∃ u, (⟨xv, xw, xl⟩ : S3).at i = u := ⟨_, rfl⟩
            rw [hu] at t2 HUI HCI
            clear e1 e2 e3 hu
            have hi4 : decide ((i : Int) < 3) = true := decide_eq_true (by omega)
            go_wp2_with fail
            go_loop [14] (fun r => ∃ r0 : Nat, r0 ≤ 4 ∧ r = .int .i64 (r0 : Int)) (fun r => 4 - (intOf r).toNat)
            case atStart => exact ⟨0, by omega, rfl⟩
            case round =>
              obtain ⟨r, hr, rfl⟩ := hrel
              by_cases hr4 : r < 4
              · have hcn := HCI.out r hr4
                rw [HZA.out] at hcn
                have HCR := Lib.hid hcn
                have hr5 : decide ((r : Int) < 4) = true := decide_eq_true (by omega)
                clear hcn
                go_wp2_with fail
                go_loop [15, 16] (fun p q => ∃ (j : Nat) (m y : Int), j ≤ regs.length ∧ Hid (y = (j : Int) + 1) ∧ 1 ≤ y ∧ y ≤ 10 ∧ q = .int .i64 y ∧ p = .int .i64 m ∧ 0 ≤ m ∧ m ≤ 9 ∧ Hid (m = cntGo regs (r : Int) u j)) (fun _ q => regs.length + 1 - (intOf q).toNat)
                case atStart => exact ⟨0, 0, 1, by omega, rfl, by omega, by omega, rfl, rfl, by omega, by omega, rfl⟩
                case round =>
                  obtain ⟨j, m, y, hj, HY, hy1, hy9, rfl, rfl, m0, m9, HM⟩ := hrel
                  by_cases hjl : j < regs.length
                  · obtain ⟨bb, o, rfl, hbb, hc⟩ := HIT.out.at_ hjl
                    have eY : y.toNat - 1 = j := by have := HY.out; omega
                    have hyl : y ≤ (regs.length : Int) := by have := HY.out; omega
                    have hyl' : y - 1 < (regs.length : Int) := by omega
                    have HMB := Lib.hid (cntGo_le regs (r : Int) u (j + 1))
                    obtain ⟨v, hv⟩ : ∃ v, regs.getD j 0 = v := ⟨_, rfl⟩
                    have HV := Lib.hid hv
                    rw [hv, ← eY] at hc
                    clear hv eY hbb
                    by_cases hvr : v = (r : Int)
                    · have hh := rhas_calls u y wT HUI.out
                      cases hhb : hasB u y with
                      | true =>
                        rw [hhb] at hh
                        have HH := Lib.hid hh
                        have HN : Hid (m + 1 = cntGo regs (r : Int) u (j + 1)) := by show _ = _; rw [cntGo_on (HV.out.trans hvr) (by rw [← HY.out]; exact hhb), HM.out]
                        have hm9 : m + 1 ≤ 9 := by have := HMB.out; have := HN.out; omega
                        obtain rfl : (r : Int) = v := hvr.symm
                        clear hh hhb hvr HMB HM
                        go_wp2_with fail
                        ((with_reducible refine HH.out.mono ?_); rintro x w' ⟨rfl, rfl⟩)
                        go_wp2_with fail
                        go_round
                        case rel => exact ⟨j + 1, m + 1, y + 1, by omega, Lib.hid (by have := HY.out; omega), by omega, by have := HY.out; omega, rfl, rfl, by omega, by omega, HN⟩
                        case measure => simp [intOf]; have := HY.out; omega
                      | false =>
                        rw [hhb] at hh
                        have HH := Lib.hid hh
                        have HN : Hid (m = cntGo regs (r : Int) u (j + 1)) := by show _ = _; rw [cntGo_off2 (by rw [← HY.out]; exact hhb)]; exact HM.out
                        obtain rfl : (r : Int) = v := hvr.symm
                        clear hh hhb hvr HMB HM
                        go_wp2_with fail
                        ((with_reducible refine HH.out.mono ?_); rintro x w' ⟨rfl, rfl⟩)
                        go_wp2_with fail
                        go_round
                        case rel => exact ⟨j + 1, m, y + 1, by omega, Lib.hid (by have := HY.out; omega), by omega, by have := HY.out; omega, rfl, rfl, by omega, by omega, HN⟩
                        case measure => simp [intOf]; have := HY.out; omega
                    · have HN : Hid (m = cntGo regs (r : Int) u (j + 1)) := by show _ = _; rw [cntGo_off1 (by rw [HV.out]; exact hvr)]; exact HM.out
                      have hvr' : (v == (r : Int)) = false := by simpa using hvr
                      clear hvr HMB HM
                      go_wp2_with fail
                      go_round
                      case rel => exact ⟨j + 1, m, y + 1, by omega, Lib.hid (by have := HY.out; omega), by omega, by have := HY.out; omega, rfl, rfl, by omega, by omega, HN⟩
                      case measure => simp [intOf]; have := HY.out; omega
                  · have hyl : (regs.length : Int) < y := by have := HY.out; omega
                    have hmv : l.getD r 0 = m := by rw [HM.out, show j = regs.length from by omega]; exact HCR.out.symm
                    by_cases hrl : r < l.length
                    · obtain ⟨bb, o, rfl, hbb, hc⟩ := HLL.out.at_ hrl
                      rw [hmv] at hc
                      have hrlI : (r : Int) < (l.length : Int) := by omega
                      clear hmv HM hbb hjl hj
                      go_wp2_with fail
                      go_round
                      case rel => exact ⟨r + 1, by omega, by go_num⟩
                      case measure => simp [intOf]; omega
                    · have hm0 : m = 0 := by
                        rw [← hmv, List.getD_eq_getElem?_getD, List.getElem?_eq_none (by omega)]; rfl
                      obtain rfl : (0 : Int) = m := hm0.symm
                      have hrlI : (l.length : Int) ≤ (r : Int) := by omega
                      clear hmv hm0 HM hjl hj
                      go_wp2_with fail
                      go_round
                      case rel => exact ⟨r + 1, by omega, by go_num⟩
                      case measure => simp [intOf]; omega
              · go_wp2_with fail
                go_round
                case rel => exact ⟨i + 1, by omega, by go_num⟩
                case measure => simp [intOf]; omega
          · have K6 := K5
            have KD6 := KD5
            clear K5 KD5 KL5 KS5 HIT
            go_wp2_with fail
            go_loopw [17, 18] (fun p q wr => ∃ (k : Nat) (b : Bool), k ≤ 10 ∧ q = .int .i64 (k : Int) ∧ p = .bool b ∧ Hid (b = breaksGo (fun k => brk ⟨xv, xw, xl, xe, xc⟩ (leftGo regs zs (k : Int) regs.length)) k) ∧ Hid (Keep w w.heap.size 47 (zcells a0 l0 c0 a1 l1 c1 a2 l2 c2 ze zc zs) wr) ∧ Hid (Keep w gd 33 (cells xv xw xl xe xc) wr)) (fun _ q _ => 10 - (intOf q).toNat)
            case atStart => exact ⟨0, false, by omega, rfl, rfl, rfl, K6, KD6⟩
            case round =>
              clear K6 KD6
              obtain ⟨k, b, hk, rfl, rfl, HBK, K7, KD7⟩ := hrel
              by_cases hk9 : k < 10
              · have HIW := Lib.hid (HIR.out.below K7.out.2)
                have zf := K7.out.1.cell 5
                simp at zf
                have hkI : decide ((k : Int) ≤ 9) = true := decide_eq_true (by omega)
                go_wp2_with fail
                go_loop [19, 20] (fun p q => ∃ (j : Nat) (x y : Int), j ≤ regs.length ∧ Hid (y = (j : Int) + 1) ∧ 1 ≤ y ∧ y ≤ 10 ∧ q = .int .i64 y ∧ p = .int .u16 x ∧ Hid (x = leftGo regs zs (k : Int) j)) (fun _ q => regs.length + 1 - (intOf q).toNat)
                case atStart => exact ⟨0, 0, 1, by omega, rfl, by omega, by omega, rfl, rfl, rfl⟩
                case round =>
                  obtain ⟨j, x, y, hj, HY, hy1, hy9, rfl, rfl, HXL⟩ := hrel
                  by_cases hjl : j < regs.length
                  · obtain ⟨bb, o, rfl, hbb, hc⟩ := HIW.out.at_ hjl
                    have eY : y.toNat - 1 = j := by have := HY.out; omega
                    have hyl : y ≤ (regs.length : Int) := by have := HY.out; omega
                    have hyl' : y - 1 < (regs.length : Int) := by omega
                    obtain ⟨v, hv⟩ : ∃ v, regs.getD j 0 = v := ⟨_, rfl⟩
                    have HV := Lib.hid hv
                    rw [hv, ← eY] at hc
                    have HXU : Hid (U x) := by show U x; rw [HXL.out]; exact leftGo_u _ _ _ _
                    have HW := Lib.hid (rwith_calls x y wr HXU.out)
                    have HON : Hid (condL regs zs (k : Int) j = true → union x (one y) = leftGo regs zs (k : Int) (j + 1)) := fun hh => by rw [leftGo_on hh, HXL.out, HY.out]
                    have HOFF : Hid (condL regs zs (k : Int) j = false → x = leftGo regs zs (k : Int) (j + 1)) := fun hh => by rw [leftGo_off hh]; exact HXL.out
                    have HCD : Hid (condL regs zs (k : Int) j = ((decide (zs = 0) || (decide (zs = 1) && !decide (y = (k : Int)))) || (decide (zs = 2) && !decide (v = (k : Int))))) := by
                      show _ = _
                      unfold condL
                      rw [← HY.out, HV.out]
                    have hs3 := HS.out
                    generalize union x (one y) = x' at *
                    clear hv eY hbb HXU HXL
                    rcases hs3 with hs | hs | hs
                    · have hz0 : (zs == 0) = true := by simpa using hs
                      have HN := Lib.hid (HON.out (by rw [HCD.out, hs]; rfl))
                      clear hs HON HOFF HCD
                      go_wp2_with fail
                      ((with_reducible refine HW.out.mono ?_); rintro x w' ⟨rfl, rfl⟩)
                      go_wp2_with fail
                      go_round
                      case rel => exact ⟨j + 1, x', y + 1, by omega, Lib.hid (by have := HY.out; omega), by omega, by have := HY.out; omega, rfl, rfl, HN⟩
                      case measure => simp [intOf]; have := HY.out; omega
                    · have hz0 : (zs == 0) = false := by rw [hs]; rfl
                      have hz1 : (zs == 1) = true := by simpa using hs
                      have hz2 : (zs == 2) = false := by rw [hs]; rfl
                      by_cases hyk : y = (k : Int)
                      · have hyk' : (y != (k : Int)) = false := by simpa using hyk
                        have hykb : (y == (k : Int)) = true := by simpa using hyk
                        have HN := Lib.hid (HOFF.out (by rw [HCD.out, hs, decide_eq_true hyk]; rfl))
                        clear hs HON HOFF HCD hyk
                        go_wp2_with fail
                        go_round
                        case rel => exact ⟨j + 1, x, y + 1, by omega, Lib.hid (by have := HY.out; omega), by omega, by have := HY.out; omega, rfl, rfl, HN⟩
                        case measure => simp [intOf]; have := HY.out; omega
                      · have hyk' : (y != (k : Int)) = true := by simpa using hyk
                        have hykb : (y == (k : Int)) = false := by simpa using hyk
                        have HN := Lib.hid (HON.out (by rw [HCD.out, hs, decide_eq_false hyk]; rfl))
                        clear hs HON HOFF HCD hyk
                        go_wp2_with fail
                        ((with_reducible refine HW.out.mono ?_); rintro x w' ⟨rfl, rfl⟩)
                        go_wp2_with fail
                        go_round
                        case rel => exact ⟨j + 1, x', y + 1, by omega, Lib.hid (by have := HY.out; omega), by omega, by have := HY.out; omega, rfl, rfl, HN⟩
                        case measure => simp [intOf]; have := HY.out; omega
                    · have hz0 : (zs == 0) = false := by rw [hs]; rfl
                      have hz1 : (zs == 1) = false := by rw [hs]; rfl
                      have hz2 : (zs == 2) = true := by simpa using hs
                      by_cases hyk : v = (k : Int)
                      · have hyk' : (v != (k : Int)) = false := by simpa using hyk
                        have hykb : (v == (k : Int)) = true := by simpa using hyk
                        have HN := Lib.hid (HOFF.out (by rw [HCD.out, hs, decide_eq_true hyk]; rfl))
                        clear hs HON HOFF HCD hyk
                        go_wp2_with fail
                        go_round
                        case rel => exact ⟨j + 1, x, y + 1, by omega, Lib.hid (by have := HY.out; omega), by omega, by have := HY.out; omega, rfl, rfl, HN⟩
                        case measure => simp [intOf]; have := HY.out; omega
                      · have hyk' : (v != (k : Int)) = true := by simpa using hyk
                        have hykb : (v == (k : Int)) = false := by simpa using hyk
                        have HN := Lib.hid (HON.out (by rw [HCD.out, hs, decide_eq_false hyk]; rfl))
                        clear hs HON HOFF HCD hyk
                        go_wp2_with fail
                        ((with_reducible refine HW.out.mono ?_); rintro x w' ⟨rfl, rfl⟩)
                        go_wp2_with fail
                        go_round
                        case rel => exact ⟨j + 1, x', y + 1, by omega, Lib.hid (by have := HY.out; omega), by omega, by have := HY.out; omega, rfl, rfl, HN⟩
                        case measure => simp [intOf]; have := HY.out; omega
                  · have hyl : (regs.length : Int) < y := by have := HY.out; omega
                    have HXE : Hid (x = leftGo regs zs (k : Int) regs.length) := by show _ = _; rw [HXL.out, show j = regs.length from by omega]
                    have HXU : Hid (U x) := by show U x; rw [HXL.out]; exact leftGo_u _ _ _ _
                    have he := fun w => relects_calls xv xw xl xe xc 0 0 0 0 0 false x w HU.out.1 HU.out.2.1 zero_u0 zero_u0 HXU.out
                    have hcm := fun w => rcommits_calls xv xw xl xe xc 0 0 0 0 0 false x w HU.out.1 HU.out.2.1 zero_u0 zero_u0 HXU.out
                    have hmt := fun w => rmeet_calls x xv w HXU.out HU.out.1
                    have HBX : Hid (brk ⟨xv, xw, xl, xe, xc⟩ x = ((!electsJ ⟨⟨xv, xw, xl, xe, xc⟩, ⟨0, 0, 0, 0, 0⟩, false⟩ x || !commitsJ ⟨⟨xv, xw, xl, xe, xc⟩, ⟨0, 0, 0, 0, 0⟩, false⟩ x) || (msk (inter x xv) == 0))) := by
                      show _ = _
                      unfold brk electsJ commitsJ
                      simp
                    have HNX : Hid (breaksGo (fun k => brk ⟨xv, xw, xl, xe, xc⟩ (leftGo regs zs (k : Int) regs.length)) (k + 1) = (b || brk ⟨xv, xw, xl, xe, xc⟩ x)) := by
                      show _ = _
                      rw [HXE.out, HBK.out]
                      rfl
                    generalize electsJ ⟨⟨xv, xw, xl, xe, xc⟩, ⟨0, 0, 0, 0, 0⟩, false⟩ x = E at he HBX
                    generalize commitsJ ⟨⟨xv, xw, xl, xe, xc⟩, ⟨0, 0, 0, 0, 0⟩, false⟩ x = Q at hcm HBX
                    generalize msk (inter x xv) = mt at hmt HBX
                    obtain ⟨_, d0, d1, d2, d3, d4⟩ := keepS5 KD7.out
                    have KJ : Hid (Keep w wr.heap.size 38 (jcells xv xw xl xe xc 0 0 0 0 0 false) (wr.alloc (.cells (jcells xv xw xl xe xc 0 0 0 0 0 false) 38))) := Keep.mk_new K7.out.2 rfl
                    have K8 := Lib.hid (K7.out.alloc (.cells (jcells xv xw xl xe xc 0 0 0 0 0 false) 38))
                    have KD8 := Lib.hid (KD7.out.alloc (.cells (jcells xv xw xl xe xc 0 0 0 0 0 false) 38))
                    have HMT := Lib.hid hmt
                    clear HXL HXE HXU hj hjl HBK K7 KD7 zf hmt
                    cases b with
                    | true =>
                      have HN : Hid (true = breaksGo (fun k => brk ⟨xv, xw, xl, xe, xc⟩ (leftGo regs zs (k : Int) regs.length)) (k + 1)) := by show _ = _; rw [HNX.out]; rfl
                      clear he hcm HBX HNX HMT
                      go_wp2_with fail
                      go_roundw
                      case rel => exact ⟨k + 1, true, by omega, by go_num, rfl, HN, K8, KD8⟩
                      case measure => simp [intOf]; omega
                    | false =>
                      cases E with
                      | false =>
                        have HE := Lib.hid he
                        have HN : Hid (true = breaksGo (fun k => brk ⟨xv, xw, xl, xe, xc⟩ (leftGo regs zs (k : Int) regs.length)) (k + 1)) := by show _ = _; rw [HNX.out, HBX.out]; rfl
                        clear he hcm HBX HNX HMT
                        go_wp2_with fail
                        ((with_reducible refine (HE.out _).mono ?_); rintro x w8 ⟨rfl, hb⟩)
                        have K9 := Lib.hid (K8.out.call hb)
                        have KD9 := Lib.hid (KD8.out.call hb)
                        clear hb K8 KD8 KJ
                        go_wp2_with fail
                        go_roundw
                        case rel => exact ⟨k + 1, true, by omega, by go_num, rfl, HN, K9, KD9⟩
                        case measure => simp [intOf]; omega
                      | true =>
                        have HE := Lib.hid he
                        cases Q with
                        | false =>
                          have HQ := Lib.hid hcm
                          have HN : Hid (true = breaksGo (fun k => brk ⟨xv, xw, xl, xe, xc⟩ (leftGo regs zs (k : Int) regs.length)) (k + 1)) := by show _ = _; rw [HNX.out, HBX.out]; rfl
                          clear he hcm HBX HNX HMT
                          go_wp2_with fail
                          ((with_reducible refine (HE.out _).mono ?_); rintro x w8 ⟨rfl, hb⟩)
                          have K9 := Lib.hid (K8.out.call hb)
                          have KD9 := Lib.hid (KD8.out.call hb)
                          have KJ9 := Lib.hid (KJ.out.call hb)
                          clear hb K8 KD8 KJ d0 d1 d2 d3 d4
                          obtain ⟨_, j0, j1, j2, j3, j4, j5, j6, j7, j8, j9, j10⟩ := keepS11 KJ9.out
                          obtain ⟨_, d0, d1, d2, d3, d4⟩ := keepS5 KD9.out
                          go_wp2_with fail
                          ((with_reducible refine (HQ.out _).mono ?_); rintro x w9 ⟨rfl, hb⟩)
                          have KA := Lib.hid (K9.out.call hb)
                          have KDA := Lib.hid (KD9.out.call hb)
                          clear hb K9 KD9 KJ9 j0 j1 j2 j3 j4 j5 j6 j7 j8 j9 j10
                          go_wp2_with fail
                          go_roundw
                          case rel => exact ⟨k + 1, true, by omega, by go_num, rfl, HN, KA, KDA⟩
                          case measure => simp [intOf]; omega
                        | true =>
                          have HQ := Lib.hid hcm
                          have HN : Hid ((mt == 0) = breaksGo (fun k => brk ⟨xv, xw, xl, xe, xc⟩ (leftGo regs zs (k : Int) regs.length)) (k + 1)) := by show _ = _; rw [HNX.out, HBX.out]; simp
                          clear he hcm HBX HNX
                          go_wp2_with fail
                          ((with_reducible refine (HE.out _).mono ?_); rintro x w8 ⟨rfl, hb⟩)
                          have K9 := Lib.hid (K8.out.call hb)
                          have KD9 := Lib.hid (KD8.out.call hb)
                          have KJ9 := Lib.hid (KJ.out.call hb)
                          clear hb K8 KD8 KJ d0 d1 d2 d3 d4
                          obtain ⟨_, j0, j1, j2, j3, j4, j5, j6, j7, j8, j9, j10⟩ := keepS11 KJ9.out
                          obtain ⟨_, d0, d1, d2, d3, d4⟩ := keepS5 KD9.out
                          go_wp2_with fail
                          ((with_reducible refine (HQ.out _).mono ?_); rintro x w9 ⟨rfl, hb⟩)
                          have KA := Lib.hid (K9.out.call hb)
                          have KDA := Lib.hid (KD9.out.call hb)
                          clear hb K9 KD9 KJ9 j0 j1 j2 j3 j4 j5 j6 j7 j8 j9 j10 d0 d1 d2 d3 d4
                          obtain ⟨_, d0, d1, d2, d3, d4⟩ := keepS5 KDA.out
                          go_wp2_with fail
                          ((with_reducible refine (HMT.out _).mono ?_); rintro x w' ⟨rfl, rfl⟩)
                          go_wp2_with fail
                          go_roundw
                          case rel => exact ⟨k + 1, (mt == 0), by omega, by go_num, rfl, HN, KA, KDA⟩
                          case measure => simp [intOf]; omega
              · have HBE : Hid (b = true) := by
                  show _ = _
                  rw [HBK.out, show k = 10 from by omega]
                  exact HBR.out
                obtain rfl : true = b := HBE.out.symm
                clear HBK HBE
                go_wp2_with fail
                go_ret
                exact ⟨ret_bool (by simp), K7.out.2⟩
      · have hz := HOTH.out hk0 hk12
        simp only [zeroC, Cfg.mk.injEq] at hz
        obtain ⟨rfl, rfl, rfl, rfl, rfl⟩ := hz
        have hk0' : (kr != 0) = true := by simpa using hk0
        have hk12' : (kr != 12) = true := by simpa using hk12
        have hk0b : (kr == 0) = false := by simpa using hk0
        have hk12b : (kr == 12) = false := by simpa using hk12
        clear hk0 hk12
        go_wp2_with fail
        go_ret
        exact ⟨ret_bool (by simp), K3.out.2⟩
end Go.Proofs.Ytcciejglemfebaa
