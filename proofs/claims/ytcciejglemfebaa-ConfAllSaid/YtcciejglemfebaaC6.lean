/- Package conf's both, and who is in a joint, each by a contract. -/
import Derived.Test.YtcciejglemfebaaC2
import Derived.Test.YtcciejglemfebaaM3
import Derived.Test.YtcciejglemfebaaP11
namespace Go.Proofs.Ytcciejglemfebaa
open Go.RowKit

set_option maxHeartbeats 1600000 in
theorem both64_calls (v wi l e c v' wi' l' e' c' : Int) (two : Bool) (w : World) :
    Calls Try.prog 73 #[.agg (jcells v wi l e c v' wi' l' e' c' two), .func (.func 64) #[] #[]] w fun x w' => x = .returned (.int .u16 (bothJ (fun x => union x.v x.w) ⟨⟨v, wi, l, e, c⟩, ⟨v', wi', l', e', c'⟩, two⟩)) ∧ Below w.heap.size w w' := by
  cases two with
  | false =>
    go_enter Try.func73, Try.ntmps73
    go_wp2_with fail
    refine (votes_calls _ _ _ _ _ _).mono ?_; rintro x w1 ⟨rfl, rfl⟩
    go_wp2_with fail
    go_ret
    exact ⟨rfl, by repeat' (first | (with_reducible exact Below.refl _ _) | (with_reducible refine below_drewN ?_ _) | (with_reducible refine Below.alloc ?_ ?_ _) | (with_reducible refine Below.drew ?_) | (show _ ≤ _; (try simp only [World.size_alloc]); omega))⟩
  | true =>
    go_enter Try.func73, Try.ntmps73
    go_wp2_with fail
    go_region_held3 (fun w' => w'.cell? ⟨w.heap.size, 0, none⟩ = some (.int .u16 v) ∧ w'.cell? ⟨w.heap.size, 1, none⟩ = some (.int .u16 wi) ∧ w'.cell? ⟨w.heap.size, 2, none⟩ = some (.int .u16 l) ∧ w'.cell? ⟨w.heap.size, 3, none⟩ = some (.int .i64 e) ∧ w'.cell? ⟨w.heap.size, 4, none⟩ = some (.int .i64 c) ∧ w'.cell? ⟨w.heap.size, 5, none⟩ = some (.int .u16 v') ∧ w'.cell? ⟨w.heap.size, 6, none⟩ = some (.int .u16 wi') ∧ w'.cell? ⟨w.heap.size, 7, none⟩ = some (.int .u16 l') ∧ w'.cell? ⟨w.heap.size, 8, none⟩ = some (.int .i64 e') ∧ w'.cell? ⟨w.heap.size, 9, none⟩ = some (.int .i64 c') ∧ w'.cell? ⟨w.heap.size, 10, none⟩ = some (.bool true)) (go_keep)
      (first
        | (go_at_call 64; refine (votes_calls _ _ _ _ _ _).mono ?_; rintro e w' ⟨rfl, rfl⟩))
    all_goals
      go_wp2
      go_ret
      exact ⟨rfl, by repeat' (first | (with_reducible exact Below.refl _ _) | (with_reducible refine below_drewN ?_ _) | (with_reducible refine Below.alloc ?_ ?_ _) | (with_reducible refine Below.drew ?_) | (show _ ≤ _; (try simp only [World.size_alloc]); omega))⟩

theorem membs_calls (v wi l e c : Int) (w : World) :
    Calls Try.prog 75 #[.agg (cells v wi l e c)] w fun x w' => x = .returned (.int .u16 (union (union v wi) l)) ∧ w.alloc (.cells (cells v wi l e c) 33) = w' := by
  go_enter Try.func75, Try.ntmps75
  go_wp2
  go_ret
  exact ⟨rfl, rfl⟩

set_option maxHeartbeats 1600000 in
theorem both75_calls (v wi l e c v' wi' l' e' c' : Int) (two : Bool) (w : World) :
    Calls Try.prog 73 #[.agg (jcells v wi l e c v' wi' l' e' c' two), .func (.func 75) #[] #[]] w fun x w' => x = .returned (.int .u16 (bothJ (fun x => union (union x.v x.w) x.l) ⟨⟨v, wi, l, e, c⟩, ⟨v', wi', l', e', c'⟩, two⟩)) ∧ Below w.heap.size w w' := by
  cases two with
  | false =>
    go_enter Try.func73, Try.ntmps73
    go_wp2_with fail
    refine (membs_calls _ _ _ _ _ _).mono ?_; rintro x w1 ⟨rfl, rfl⟩
    go_wp2_with fail
    go_ret
    exact ⟨rfl, by repeat' (first | (with_reducible exact Below.refl _ _) | (with_reducible refine below_drewN ?_ _) | (with_reducible refine Below.alloc ?_ ?_ _) | (with_reducible refine Below.drew ?_) | (show _ ≤ _; (try simp only [World.size_alloc]); omega))⟩
  | true =>
    go_enter Try.func73, Try.ntmps73
    go_wp2_with fail
    go_region_held3 (fun w' => w'.cell? ⟨w.heap.size, 0, none⟩ = some (.int .u16 v) ∧ w'.cell? ⟨w.heap.size, 1, none⟩ = some (.int .u16 wi) ∧ w'.cell? ⟨w.heap.size, 2, none⟩ = some (.int .u16 l) ∧ w'.cell? ⟨w.heap.size, 3, none⟩ = some (.int .i64 e) ∧ w'.cell? ⟨w.heap.size, 4, none⟩ = some (.int .i64 c) ∧ w'.cell? ⟨w.heap.size, 5, none⟩ = some (.int .u16 v') ∧ w'.cell? ⟨w.heap.size, 6, none⟩ = some (.int .u16 wi') ∧ w'.cell? ⟨w.heap.size, 7, none⟩ = some (.int .u16 l') ∧ w'.cell? ⟨w.heap.size, 8, none⟩ = some (.int .i64 e') ∧ w'.cell? ⟨w.heap.size, 9, none⟩ = some (.int .i64 c') ∧ w'.cell? ⟨w.heap.size, 10, none⟩ = some (.bool true)) (go_keep)
      (first
        | (go_at_call 75; refine (membs_calls _ _ _ _ _ _).mono ?_; rintro e w' ⟨rfl, rfl⟩))
    all_goals
      go_wp2
      go_ret
      exact ⟨rfl, by repeat' (first | (with_reducible exact Below.refl _ _) | (with_reducible refine below_drewN ?_ _) | (with_reducible refine Below.alloc ?_ ?_ _) | (with_reducible refine Below.drew ?_) | (show _ ≤ _; (try simp only [World.size_alloc]); omega))⟩

theorem datas_calls (v wi l e c : Int) (w : World) :
    Calls Try.prog 76 #[.agg (cells v wi l e c)] w fun x w' => x = .returned (.int .u16 (union v l)) ∧ w.alloc (.cells (cells v wi l e c) 33) = w' := by
  go_enter Try.func76, Try.ntmps76
  go_wp2
  go_ret
  exact ⟨rfl, rfl⟩

set_option maxHeartbeats 1600000 in
theorem both76_calls (v wi l e c v' wi' l' e' c' : Int) (two : Bool) (w : World) :
    Calls Try.prog 73 #[.agg (jcells v wi l e c v' wi' l' e' c' two), .func (.func 76) #[] #[]] w fun x w' => x = .returned (.int .u16 (bothJ (fun x => union x.v x.l) ⟨⟨v, wi, l, e, c⟩, ⟨v', wi', l', e', c'⟩, two⟩)) ∧ Below w.heap.size w w' := by
  cases two with
  | false =>
    go_enter Try.func73, Try.ntmps73
    go_wp2_with fail
    refine (datas_calls _ _ _ _ _ _).mono ?_; rintro x w1 ⟨rfl, rfl⟩
    go_wp2_with fail
    go_ret
    exact ⟨rfl, by repeat' (first | (with_reducible exact Below.refl _ _) | (with_reducible refine below_drewN ?_ _) | (with_reducible refine Below.alloc ?_ ?_ _) | (with_reducible refine Below.drew ?_) | (show _ ≤ _; (try simp only [World.size_alloc]); omega))⟩
  | true =>
    go_enter Try.func73, Try.ntmps73
    go_wp2_with fail
    go_region_held3 (fun w' => w'.cell? ⟨w.heap.size, 0, none⟩ = some (.int .u16 v) ∧ w'.cell? ⟨w.heap.size, 1, none⟩ = some (.int .u16 wi) ∧ w'.cell? ⟨w.heap.size, 2, none⟩ = some (.int .u16 l) ∧ w'.cell? ⟨w.heap.size, 3, none⟩ = some (.int .i64 e) ∧ w'.cell? ⟨w.heap.size, 4, none⟩ = some (.int .i64 c) ∧ w'.cell? ⟨w.heap.size, 5, none⟩ = some (.int .u16 v') ∧ w'.cell? ⟨w.heap.size, 6, none⟩ = some (.int .u16 wi') ∧ w'.cell? ⟨w.heap.size, 7, none⟩ = some (.int .u16 l') ∧ w'.cell? ⟨w.heap.size, 8, none⟩ = some (.int .i64 e') ∧ w'.cell? ⟨w.heap.size, 9, none⟩ = some (.int .i64 c') ∧ w'.cell? ⟨w.heap.size, 10, none⟩ = some (.bool true)) (go_keep)
      (first
        | (go_at_call 76; refine (datas_calls _ _ _ _ _ _).mono ?_; rintro e w' ⟨rfl, rfl⟩))
    all_goals
      go_wp2
      go_ret
      exact ⟨rfl, by repeat' (first | (with_reducible exact Below.refl _ _) | (with_reducible refine below_drewN ?_ _) | (with_reducible refine Below.alloc ?_ ?_ _) | (with_reducible refine Below.drew ?_) | (show _ ≤ _; (try simp only [World.size_alloc]); omega))⟩

theorem leads_calls (v wi l e c : Int) (w : World) :
    Calls Try.prog 77 #[.agg (cells v wi l e c)] w fun x w' => x = .returned (.int .u16 (v)) ∧ w.alloc (.cells (cells v wi l e c) 33) = w' := by
  go_enter Try.func77, Try.ntmps77
  go_wp2
  go_ret
  exact ⟨rfl, rfl⟩

set_option maxHeartbeats 1600000 in
theorem both77_calls (v wi l e c v' wi' l' e' c' : Int) (two : Bool) (w : World) :
    Calls Try.prog 73 #[.agg (jcells v wi l e c v' wi' l' e' c' two), .func (.func 77) #[] #[]] w fun x w' => x = .returned (.int .u16 (bothJ (fun x => x.v) ⟨⟨v, wi, l, e, c⟩, ⟨v', wi', l', e', c'⟩, two⟩)) ∧ Below w.heap.size w w' := by
  cases two with
  | false =>
    go_enter Try.func73, Try.ntmps73
    go_wp2_with fail
    refine (leads_calls _ _ _ _ _ _).mono ?_; rintro x w1 ⟨rfl, rfl⟩
    go_wp2_with fail
    go_ret
    exact ⟨rfl, by repeat' (first | (with_reducible exact Below.refl _ _) | (with_reducible refine below_drewN ?_ _) | (with_reducible refine Below.alloc ?_ ?_ _) | (with_reducible refine Below.drew ?_) | (show _ ≤ _; (try simp only [World.size_alloc]); omega))⟩
  | true =>
    go_enter Try.func73, Try.ntmps73
    go_wp2_with fail
    go_region_held3 (fun w' => w'.cell? ⟨w.heap.size, 0, none⟩ = some (.int .u16 v) ∧ w'.cell? ⟨w.heap.size, 1, none⟩ = some (.int .u16 wi) ∧ w'.cell? ⟨w.heap.size, 2, none⟩ = some (.int .u16 l) ∧ w'.cell? ⟨w.heap.size, 3, none⟩ = some (.int .i64 e) ∧ w'.cell? ⟨w.heap.size, 4, none⟩ = some (.int .i64 c) ∧ w'.cell? ⟨w.heap.size, 5, none⟩ = some (.int .u16 v') ∧ w'.cell? ⟨w.heap.size, 6, none⟩ = some (.int .u16 wi') ∧ w'.cell? ⟨w.heap.size, 7, none⟩ = some (.int .u16 l') ∧ w'.cell? ⟨w.heap.size, 8, none⟩ = some (.int .i64 e') ∧ w'.cell? ⟨w.heap.size, 9, none⟩ = some (.int .i64 c') ∧ w'.cell? ⟨w.heap.size, 10, none⟩ = some (.bool true)) (go_keep)
      (first
        | (go_at_call 77; refine (leads_calls _ _ _ _ _ _).mono ?_; rintro e w' ⟨rfl, rfl⟩))
    all_goals
      go_wp2
      go_ret
      exact ⟨rfl, by repeat' (first | (with_reducible exact Below.refl _ _) | (with_reducible refine below_drewN ?_ _) | (with_reducible refine Below.alloc ?_ ?_ _) | (with_reducible refine Below.drew ?_) | (show _ ≤ _; (try simp only [World.size_alloc]); omega))⟩

theorem voting_calls (v wi l e c v' wi' l' e' c' : Int) (two : Bool) (w : World) :
    Calls Try.prog 43 #[.agg (jcells v wi l e c v' wi' l' e' c' two)] w fun x w' => x = .returned (.int .u16 (votingJ ⟨⟨v, wi, l, e, c⟩, ⟨v', wi', l', e', c'⟩, two⟩)) ∧ Below w.heap.size w w' := by
  unfold votingJ
  have h := both64_calls v wi l e c v' wi' l' e' c' two
  generalize bothJ _ _ = r at h
  have H := Lib.hid h
  clear h
  go_enter Try.func43, Try.ntmps43
  go_wp2_with fail
  refine (H.out _).mono ?_; rintro x w1 ⟨rfl, hb⟩
  go_wp2_with fail
  go_ret
  exact ⟨rfl, ((Below.refl _ _).alloc (Nat.le_refl _) _).trans (hb.mono (by simp))⟩

theorem members_calls (v wi l e c v' wi' l' e' c' : Int) (two : Bool) (w : World) :
    Calls Try.prog 45 #[.agg (jcells v wi l e c v' wi' l' e' c' two)] w fun x w' => x = .returned (.int .u16 (membersJ ⟨⟨v, wi, l, e, c⟩, ⟨v', wi', l', e', c'⟩, two⟩)) ∧ Below w.heap.size w w' := by
  unfold membersJ
  have h := both75_calls v wi l e c v' wi' l' e' c' two
  generalize bothJ _ _ = r at h
  have H := Lib.hid h
  clear h
  go_enter Try.func45, Try.ntmps45
  go_wp2_with fail
  refine (H.out _).mono ?_; rintro x w1 ⟨rfl, hb⟩
  go_wp2_with fail
  go_ret
  exact ⟨rfl, ((Below.refl _ _).alloc (Nat.le_refl _) _).trans (hb.mono (by simp))⟩

theorem data_calls (v wi l e c v' wi' l' e' c' : Int) (two : Bool) (w : World) :
    Calls Try.prog 47 #[.agg (jcells v wi l e c v' wi' l' e' c' two)] w fun x w' => x = .returned (.int .u16 (dataJ ⟨⟨v, wi, l, e, c⟩, ⟨v', wi', l', e', c'⟩, two⟩)) ∧ Below w.heap.size w w' := by
  unfold dataJ
  have h := both76_calls v wi l e c v' wi' l' e' c' two
  generalize bothJ _ _ = r at h
  have H := Lib.hid h
  clear h
  go_enter Try.func47, Try.ntmps47
  go_wp2_with fail
  refine (H.out _).mono ?_; rintro x w1 ⟨rfl, hb⟩
  go_wp2_with fail
  go_ret
  exact ⟨rfl, ((Below.refl _ _).alloc (Nat.le_refl _) _).trans (hb.mono (by simp))⟩

theorem leads_calls' (v wi l e c v' wi' l' e' c' : Int) (two : Bool) (n : Int) (w : World) :
    Calls Try.prog 49 #[.agg (jcells v wi l e c v' wi' l' e' c' two), .int .i64 n] w fun x w' => x = .returned (.bool (leadsJ ⟨⟨v, wi, l, e, c⟩, ⟨v', wi', l', e', c'⟩, two⟩ n)) ∧ Below w.heap.size w w' := by
  unfold leadsJ
  have h := both77_calls v wi l e c v' wi' l' e' c' two
  generalize bothJ _ _ = r at h
  have H := Lib.hid h
  clear h
  go_enter Try.func49, Try.ntmps49
  go_wp2_with fail
  refine (H.out _).mono ?_; rintro x w1 ⟨rfl, hb⟩
  go_wp2_with fail
  refine (has_calls _ _ _).mono ?_; rintro x w2 ⟨rfl, rfl⟩
  go_wp2_with fail
  go_ret
  exact ⟨rfl, ((Below.refl _ _).alloc (Nat.le_refl _) _).trans (hb.mono (by simp))⟩
end Go.Proofs.Ytcciejglemfebaa
