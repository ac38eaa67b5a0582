/- The walks of op.bare and op.Check. -/
import Derived.Test.YtnnkamfpcodnnaaGreatDoorCv3
import Derived.Test.YtnnkamfpcodnnaaGreatDoorEq
import Derived.Test.YtnnkamfpcodnnaaGreatDoorName
import Derived.Deep.RegionHeld3
import Derived.Deep.QuietTactic
import Derived.BigQuiet
namespace Go.Proofs.YtnnkamfpcodnnaaGreatDoor
open Go.RowKit

namespace Lx
/-- An operation without the fields that its kind does not use. -/
def bareV (o : OpV) : OpV := if o.k = 1 then ⟨o.k, o.d, 0, 0, false, ⟨#[]⟩⟩ else if o.k = 2 then ⟨o.k, 0, o.t, 0, false, ⟨#[]⟩⟩ else if o.k = 3 then ⟨o.k, 0, 0, o.r, o.ok, ⟨#[]⟩⟩ else ⟨o.k, 0, 0, 0, false, o.job⟩
end Lx
theorem bare_any (o : Lx.OpV) (w : World) : Calls Tryz.prog 39 #[o.val] w fun e w' => e = .returned (Lx.bareV o).val ∧ Below w.heap.size w w' := by
  obtain ⟨k, d, t, r, ok, job⟩ := o
  by_cases k1 : k = 1
  · subst k1
    rw [show Lx.bareV ⟨1, d, t, r, ok, job⟩ = ⟨1, d, 0, 0, false, ⟨#[]⟩⟩ from rfl]
    unfold Lx.OpV.val
    go_enter Tryz.func39, Tryz.ntmps39
    go_wp2_with fail
    exact bodyPost_ret (v := .agg #[.int .i64 1, .int .i64 d, .int .i64 0, .int .i64 0, .bool false, .string ⟨#[]⟩]) (by simp [results, Tryz.results39, go_sem]) rfl ⟨rfl, ((Below.refl _ w).alloc (Nat.le_refl _) _).alloc (by simp) _⟩
  by_cases k2 : k = 2
  · subst k2
    rw [show Lx.bareV ⟨2, d, t, r, ok, job⟩ = ⟨2, 0, t, 0, false, ⟨#[]⟩⟩ from rfl]
    unfold Lx.OpV.val
    clear k1
    go_enter Tryz.func39, Tryz.ntmps39
    go_wp2_with fail
    exact bodyPost_ret (v := .agg #[.int .i64 2, .int .i64 0, .int .i64 t, .int .i64 0, .bool false, .string ⟨#[]⟩]) (by simp [results, Tryz.results39, go_sem]) rfl ⟨rfl, ((Below.refl _ w).alloc (Nat.le_refl _) _).alloc (by simp) _⟩
  by_cases k3 : k = 3
  · subst k3
    rw [show Lx.bareV ⟨3, d, t, r, ok, job⟩ = ⟨3, 0, 0, r, ok, ⟨#[]⟩⟩ from rfl]
    unfold Lx.OpV.val
    clear k1 k2
    go_enter Tryz.func39, Tryz.ntmps39
    go_wp2_with fail
    exact bodyPost_ret (v := .agg #[.int .i64 3, .int .i64 0, .int .i64 0, .int .i64 r, .bool ok, .string ⟨#[]⟩]) (by simp [results, Tryz.results39, go_sem]) rfl ⟨rfl, ((Below.refl _ w).alloc (Nat.le_refl _) _).alloc (by simp) _⟩
  have hb : Lx.bareV ⟨k, d, t, r, ok, job⟩ = ⟨k, 0, 0, 0, false, job⟩ := by unfold Lx.bareV; rw [if_neg k1, if_neg k2, if_neg k3]
  rw [hb]
  unfold Lx.OpV.val
  have e1 : (k == 1) = false := by rw [beq_eq_false_iff_ne]; exact k1
  have e2 : (k == 2) = false := by rw [beq_eq_false_iff_ne]; exact k2
  have e3 : (k == 3) = false := by rw [beq_eq_false_iff_ne]; exact k3
  clear hb k1 k2 k3
  go_enter Tryz.func39, Tryz.ntmps39
  go_wp2_with fail
  exact bodyPost_ret (v := .agg #[.int .i64 k, .int .i64 0, .int .i64 0, .int .i64 0, .bool false, .string job]) (by simp [results, Tryz.results39, go_sem]) rfl ⟨rfl, ((Below.refl _ w).alloc (Nat.le_refl _) _).alloc (by simp) _⟩
def CheckIs (x : Int) (w : World) (e : Ending) (w' : World) : Prop := e = .returned (.int .i64 x) ∧ Below w.heap.size w w'
theorem check_out (k d t r : Int) (ok : Bool) (job : ByteArray) (w : World) (h : k < 1 ∨ 6 < k) :
    Calls Tryz.prog 29 #[.agg #[.int .i64 k, .int .i64 d, .int .i64 t, .int .i64 r, .bool ok, .string job]] w (CheckIs 2 w) := by
  rcases h with h | h
  · have e1 : decide (k < 1) = true := decide_eq_true h
    go_enter Tryz.func29, Tryz.ntmps29
    go_wp2_with fail
    go_quiet (fail)
    go_wp2_with fail
    go_ret
    exact ⟨rfl, ((Below.refl _ w).alloc (Nat.le_refl _) _).trans (below_drewN _ _ _)⟩
  · have e0 : decide (k < 1) = false := decide_eq_false (by omega)
    have e1 : decide (6 < k) = true := decide_eq_true h
    go_enter Tryz.func29, Tryz.ntmps29
    go_wp2_with fail
    go_quiet (fail)
    go_wp2_with fail
    go_ret
    exact ⟨rfl, ((Below.refl _ w).alloc (Nat.le_refl _) _).trans (below_drewN _ _ _)⟩
set_option maxRecDepth 100000 in
theorem check_unbare (k d t r : Int) (ok : Bool) (job : ByteArray) (w : World) (h1 : 1 ≤ k) (h2 : k ≤ 6) (h : Lx.bareB ⟨k, d, t, r, ok, job⟩ = false) :
    Calls Tryz.prog 29 #[.agg #[.int .i64 k, .int .i64 d, .int .i64 t, .int .i64 r, .bool ok, .string job]] w (CheckIs 2 w) := by
  obtain ⟨d', t', r', ok', job', hv, hne⟩ : ∃ d' t' r' ok' job', Lx.bareV ⟨k, d, t, r, ok, job⟩ = ⟨k, d', t', r', ok', job'⟩ ∧ (k == k && (d == d' && (t == t' && (r == r' && (ok == ok' && job.toList == job'.toList))))) = false := by
    have hz : ∀ s : ByteArray, (s.toList == (⟨#[]⟩ : ByteArray).toList) = decide (s.size = 0) := by
      intro s
      rw [Lib.toList_data, Lib.toList_data, Bool.eq_iff_iff, beq_iff_eq, decide_eq_true_iff, Lib.size_eq]
      exact ⟨fun h => by rw [h]; rfl, fun h => List.eq_nil_of_length_eq_zero h⟩
    unfold Lx.bareB at h
    unfold Lx.bareV
    simp only at h ⊢
    by_cases k1 : k = 1
    · rw [if_pos k1] at h ⊢
      refine ⟨_, _, _, _, _, rfl, ?_⟩
      rw [hz]; revert h; cases ok <;> simp
    by_cases k2 : k = 2
    · rw [if_neg k1, if_pos k2] at h ⊢
      refine ⟨_, _, _, _, _, rfl, ?_⟩
      rw [hz]; revert h; cases ok <;> simp
    by_cases k3 : k = 3
    · rw [if_neg k1, if_neg k2, if_pos k3] at h ⊢
      refine ⟨_, _, _, _, _, rfl, ?_⟩
      rw [hz]; revert h; simp
    · rw [if_neg k1, if_neg k2, if_neg k3] at h ⊢
      refine ⟨_, _, _, _, _, rfl, ?_⟩
      revert h; cases ok <;> simp
  have HB := Lib.hid (fun W => bare_any ⟨k, d, t, r, ok, job⟩ W)
  rw [hv] at HB
  unfold Lx.OpV.val at HB
  simp only at HB
  clear hv h
  have heq : ∀ W, (Op.equalIn 10000 40 (.agg #[.int .i64 k, .int .i64 d, .int .i64 t, .int .i64 r, .bool ok, .string job]) (.agg #[.int .i64 k, .int .i64 d', .int .i64 t', .int .i64 r', .bool ok', .string job'])).run Tryz.prog W = .ok false W := fun W => (eqOp k d t r k d' t' r' ok ok' job job' W).trans (by rw [hne])
  clear hne
  have e0 : decide (k < 1) = false := decide_eq_false (by omega)
  have e1 : decide (6 < k) = false := decide_eq_false (by omega)
  have hS0 : Below w.heap.size w ((w.alloc (.cells #[.int .i64 k, .int .i64 d, .int .i64 t, .int .i64 r, .bool ok, .string job] 40)).drew) ∧ w.heap.size < ((w.alloc (.cells #[.int .i64 k, .int .i64 d, .int .i64 t, .int .i64 r, .bool ok, .string job] 40)).drew).heap.size ∧ ((w.alloc (.cells #[.int .i64 k, .int .i64 d, .int .i64 t, .int .i64 r, .bool ok, .string job] 40)).drew).cell? ⟨w.heap.size, 0, none⟩ = some (.int .i64 k) ∧ ((w.alloc (.cells #[.int .i64 k, .int .i64 d, .int .i64 t, .int .i64 r, .bool ok, .string job] 40)).drew).cell? ⟨w.heap.size, 1, none⟩ = some (.int .i64 d) ∧ ((w.alloc (.cells #[.int .i64 k, .int .i64 d, .int .i64 t, .int .i64 r, .bool ok, .string job] 40)).drew).cell? ⟨w.heap.size, 2, none⟩ = some (.int .i64 t) ∧ ((w.alloc (.cells #[.int .i64 k, .int .i64 d, .int .i64 t, .int .i64 r, .bool ok, .string job] 40)).drew).cell? ⟨w.heap.size, 3, none⟩ = some (.int .i64 r) ∧ ((w.alloc (.cells #[.int .i64 k, .int .i64 d, .int .i64 t, .int .i64 r, .bool ok, .string job] 40)).drew).cell? ⟨w.heap.size, 4, none⟩ = some (.bool ok) ∧ ((w.alloc (.cells #[.int .i64 k, .int .i64 d, .int .i64 t, .int .i64 r, .bool ok, .string job] 40)).drew).cell? ⟨w.heap.size, 5, none⟩ = some (.string job) :=
    ⟨((Below.refl _ w).alloc (Nat.le_refl _) _).trans (below_drewN _ _ 1), by rw [show ((w.alloc (.cells #[.int .i64 k, .int .i64 d, .int .i64 t, .int .i64 r, .bool ok, .string job] 40)).drew).heap.size = w.heap.size + 1 from World.size_alloc _ _]; omega, by simp, by simp, by simp, by simp, by simp, by simp⟩
  go_enter Tryz.func29, Tryz.ntmps29
  go_wp2_with fail
  go_region_held3 (fun wx => Below w.heap.size w (wx) ∧ w.heap.size < (wx).heap.size ∧ (wx).cell? ⟨w.heap.size, 0, none⟩ = some (.int .i64 k) ∧ (wx).cell? ⟨w.heap.size, 1, none⟩ = some (.int .i64 d) ∧ (wx).cell? ⟨w.heap.size, 2, none⟩ = some (.int .i64 t) ∧ (wx).cell? ⟨w.heap.size, 3, none⟩ = some (.int .i64 r) ∧ (wx).cell? ⟨w.heap.size, 4, none⟩ = some (.bool ok) ∧ (wx).cell? ⟨w.heap.size, 5, none⟩ = some (.string job)) (first | assumption | go_keep)
    (first
      | (go_at_call 39; refine (HB.out _).mono ?_; rintro e w2 ⟨rfl, c2⟩; have k2 := Lx.keep6 (by assumption) c2))
  go_wp2_with fail
  go_ret
  exact ⟨rfl, And.left (by assumption)⟩
set_option maxRecDepth 100000 in
theorem check_tick_lo (d : Int) (w : World) (h : d < 1) :
    Calls Tryz.prog 29 #[.agg #[.int .i64 1, .int .i64 d, .int .i64 0, .int .i64 0, .bool false, .string ⟨#[]⟩]] w (CheckIs 2 w) := by
  have HB := Lib.hid (fun W => bare_any ⟨1, d, 0, 0, false, ⟨#[]⟩⟩ W)
  rw [show Lx.bareV ⟨1, d, 0, 0, false, ⟨#[]⟩⟩ = ⟨1, d, 0, 0, false, ⟨#[]⟩⟩ from rfl] at HB
  unfold Lx.OpV.val at HB
  simp only at HB
  have heq : ∀ W, (Op.equalIn 10000 40 (.agg #[.int .i64 1, .int .i64 d, .int .i64 0, .int .i64 0, .bool false, .string ⟨#[]⟩]) (.agg #[.int .i64 1, .int .i64 d, .int .i64 0, .int .i64 0, .bool false, .string ⟨#[]⟩])).run Tryz.prog W = .ok true W := fun W => (eqOp _ _ _ _ _ _ _ _ _ _ _ _ W).trans (by simp)
  have e1 : decide (d < 1) = true := decide_eq_true h
  have hS0 : Below w.heap.size w ((w.alloc (.cells #[.int .i64 1, .int .i64 d, .int .i64 0, .int .i64 0, .bool false, .string ⟨#[]⟩] 40)).drew) ∧ w.heap.size < ((w.alloc (.cells #[.int .i64 1, .int .i64 d, .int .i64 0, .int .i64 0, .bool false, .string ⟨#[]⟩] 40)).drew).heap.size ∧ ((w.alloc (.cells #[.int .i64 1, .int .i64 d, .int .i64 0, .int .i64 0, .bool false, .string ⟨#[]⟩] 40)).drew).cell? ⟨w.heap.size, 0, none⟩ = some (.int .i64 1) ∧ ((w.alloc (.cells #[.int .i64 1, .int .i64 d, .int .i64 0, .int .i64 0, .bool false, .string ⟨#[]⟩] 40)).drew).cell? ⟨w.heap.size, 1, none⟩ = some (.int .i64 d) ∧ ((w.alloc (.cells #[.int .i64 1, .int .i64 d, .int .i64 0, .int .i64 0, .bool false, .string ⟨#[]⟩] 40)).drew).cell? ⟨w.heap.size, 2, none⟩ = some (.int .i64 0) ∧ ((w.alloc (.cells #[.int .i64 1, .int .i64 d, .int .i64 0, .int .i64 0, .bool false, .string ⟨#[]⟩] 40)).drew).cell? ⟨w.heap.size, 3, none⟩ = some (.int .i64 0) ∧ ((w.alloc (.cells #[.int .i64 1, .int .i64 d, .int .i64 0, .int .i64 0, .bool false, .string ⟨#[]⟩] 40)).drew).cell? ⟨w.heap.size, 4, none⟩ = some (.bool false) ∧ ((w.alloc (.cells #[.int .i64 1, .int .i64 d, .int .i64 0, .int .i64 0, .bool false, .string ⟨#[]⟩] 40)).drew).cell? ⟨w.heap.size, 5, none⟩ = some (.string ⟨#[]⟩) :=
    ⟨((Below.refl _ w).alloc (Nat.le_refl _) _).trans (below_drewN _ _ 1), by rw [show ((w.alloc (.cells #[.int .i64 1, .int .i64 d, .int .i64 0, .int .i64 0, .bool false, .string ⟨#[]⟩] 40)).drew).heap.size = w.heap.size + 1 from World.size_alloc _ _]; omega, by simp, by simp, by simp, by simp, by simp, by simp⟩
  go_enter Tryz.func29, Tryz.ntmps29
  go_wp2_with fail
  go_region_held3 (fun wx => Below w.heap.size w (wx) ∧ w.heap.size < (wx).heap.size ∧ (wx).cell? ⟨w.heap.size, 0, none⟩ = some (.int .i64 1) ∧ (wx).cell? ⟨w.heap.size, 1, none⟩ = some (.int .i64 d) ∧ (wx).cell? ⟨w.heap.size, 2, none⟩ = some (.int .i64 0) ∧ (wx).cell? ⟨w.heap.size, 3, none⟩ = some (.int .i64 0) ∧ (wx).cell? ⟨w.heap.size, 4, none⟩ = some (.bool false) ∧ (wx).cell? ⟨w.heap.size, 5, none⟩ = some (.string ⟨#[]⟩)) (first | assumption | go_keep)
    (first
      | (go_at_call 39; refine (HB.out _).mono ?_; rintro e w2 ⟨rfl, c2⟩; have k2 := Lx.keep6 (by assumption) c2))
  obtain ⟨hbel, hlt2, c0, c1, c3, c4, c5, c6⟩ := k2
  clear hS0 c2
  go_wp2_with fail
  go_ret
  exact ⟨rfl, hbel⟩
set_option maxRecDepth 100000 in
theorem check_tick_hi (d : Int) (w : World) (h : 100000 < d) :
    Calls Tryz.prog 29 #[.agg #[.int .i64 1, .int .i64 d, .int .i64 0, .int .i64 0, .bool false, .string ⟨#[]⟩]] w (CheckIs 2 w) := by
  have HB := Lib.hid (fun W => bare_any ⟨1, d, 0, 0, false, ⟨#[]⟩⟩ W)
  rw [show Lx.bareV ⟨1, d, 0, 0, false, ⟨#[]⟩⟩ = ⟨1, d, 0, 0, false, ⟨#[]⟩⟩ from rfl] at HB
  unfold Lx.OpV.val at HB
  simp only at HB
  have heq : ∀ W, (Op.equalIn 10000 40 (.agg #[.int .i64 1, .int .i64 d, .int .i64 0, .int .i64 0, .bool false, .string ⟨#[]⟩]) (.agg #[.int .i64 1, .int .i64 d, .int .i64 0, .int .i64 0, .bool false, .string ⟨#[]⟩])).run Tryz.prog W = .ok true W := fun W => (eqOp _ _ _ _ _ _ _ _ _ _ _ _ W).trans (by simp)
  have e1 : decide (d < 1) = false := decide_eq_false (by omega)
  have e2 : decide (100000 < d) = true := decide_eq_true h
  have hS0 : Below w.heap.size w ((w.alloc (.cells #[.int .i64 1, .int .i64 d, .int .i64 0, .int .i64 0, .bool false, .string ⟨#[]⟩] 40)).drew) ∧ w.heap.size < ((w.alloc (.cells #[.int .i64 1, .int .i64 d, .int .i64 0, .int .i64 0, .bool false, .string ⟨#[]⟩] 40)).drew).heap.size ∧ ((w.alloc (.cells #[.int .i64 1, .int .i64 d, .int .i64 0, .int .i64 0, .bool false, .string ⟨#[]⟩] 40)).drew).cell? ⟨w.heap.size, 0, none⟩ = some (.int .i64 1) ∧ ((w.alloc (.cells #[.int .i64 1, .int .i64 d, .int .i64 0, .int .i64 0, .bool false, .string ⟨#[]⟩] 40)).drew).cell? ⟨w.heap.size, 1, none⟩ = some (.int .i64 d) ∧ ((w.alloc (.cells #[.int .i64 1, .int .i64 d, .int .i64 0, .int .i64 0, .bool false, .string ⟨#[]⟩] 40)).drew).cell? ⟨w.heap.size, 2, none⟩ = some (.int .i64 0) ∧ ((w.alloc (.cells #[.int .i64 1, .int .i64 d, .int .i64 0, .int .i64 0, .bool false, .string ⟨#[]⟩] 40)).drew).cell? ⟨w.heap.size, 3, none⟩ = some (.int .i64 0) ∧ ((w.alloc (.cells #[.int .i64 1, .int .i64 d, .int .i64 0, .int .i64 0, .bool false, .string ⟨#[]⟩] 40)).drew).cell? ⟨w.heap.size, 4, none⟩ = some (.bool false) ∧ ((w.alloc (.cells #[.int .i64 1, .int .i64 d, .int .i64 0, .int .i64 0, .bool false, .string ⟨#[]⟩] 40)).drew).cell? ⟨w.heap.size, 5, none⟩ = some (.string ⟨#[]⟩) :=
    ⟨((Below.refl _ w).alloc (Nat.le_refl _) _).trans (below_drewN _ _ 1), by rw [show ((w.alloc (.cells #[.int .i64 1, .int .i64 d, .int .i64 0, .int .i64 0, .bool false, .string ⟨#[]⟩] 40)).drew).heap.size = w.heap.size + 1 from World.size_alloc _ _]; omega, by simp, by simp, by simp, by simp, by simp, by simp⟩
  go_enter Tryz.func29, Tryz.ntmps29
  go_wp2_with fail
  go_region_held3 (fun wx => Below w.heap.size w (wx) ∧ w.heap.size < (wx).heap.size ∧ (wx).cell? ⟨w.heap.size, 0, none⟩ = some (.int .i64 1) ∧ (wx).cell? ⟨w.heap.size, 1, none⟩ = some (.int .i64 d) ∧ (wx).cell? ⟨w.heap.size, 2, none⟩ = some (.int .i64 0) ∧ (wx).cell? ⟨w.heap.size, 3, none⟩ = some (.int .i64 0) ∧ (wx).cell? ⟨w.heap.size, 4, none⟩ = some (.bool false) ∧ (wx).cell? ⟨w.heap.size, 5, none⟩ = some (.string ⟨#[]⟩)) (first | assumption | go_keep)
    (first
      | (go_at_call 39; refine (HB.out _).mono ?_; rintro e w2 ⟨rfl, c2⟩; have k2 := Lx.keep6 (by assumption) c2))
  obtain ⟨hbel, hlt2, c0, c1, c3, c4, c5, c6⟩ := k2
  clear hS0 c2
  go_wp2_with fail
  go_ret
  exact ⟨rfl, hbel⟩
set_option maxRecDepth 100000 in
theorem check_tick_ok (d : Int) (w : World) (h : 1 ≤ d) (h2 : d ≤ 100000) :
    Calls Tryz.prog 29 #[.agg #[.int .i64 1, .int .i64 d, .int .i64 0, .int .i64 0, .bool false, .string ⟨#[]⟩]] w (CheckIs 0 w) := by
  have HB := Lib.hid (fun W => bare_any ⟨1, d, 0, 0, false, ⟨#[]⟩⟩ W)
  rw [show Lx.bareV ⟨1, d, 0, 0, false, ⟨#[]⟩⟩ = ⟨1, d, 0, 0, false, ⟨#[]⟩⟩ from rfl] at HB
  unfold Lx.OpV.val at HB
  simp only at HB
  have heq : ∀ W, (Op.equalIn 10000 40 (.agg #[.int .i64 1, .int .i64 d, .int .i64 0, .int .i64 0, .bool false, .string ⟨#[]⟩]) (.agg #[.int .i64 1, .int .i64 d, .int .i64 0, .int .i64 0, .bool false, .string ⟨#[]⟩])).run Tryz.prog W = .ok true W := fun W => (eqOp _ _ _ _ _ _ _ _ _ _ _ _ W).trans (by simp)
  have e1 : decide (d < 1) = false := decide_eq_false (by omega)
  have e2 : decide (100000 < d) = false := decide_eq_false (by omega)
  have hS0 : Below w.heap.size w ((w.alloc (.cells #[.int .i64 1, .int .i64 d, .int .i64 0, .int .i64 0, .bool false, .string ⟨#[]⟩] 40)).drew) ∧ w.heap.size < ((w.alloc (.cells #[.int .i64 1, .int .i64 d, .int .i64 0, .int .i64 0, .bool false, .string ⟨#[]⟩] 40)).drew).heap.size ∧ ((w.alloc (.cells #[.int .i64 1, .int .i64 d, .int .i64 0, .int .i64 0, .bool false, .string ⟨#[]⟩] 40)).drew).cell? ⟨w.heap.size, 0, none⟩ = some (.int .i64 1) ∧ ((w.alloc (.cells #[.int .i64 1, .int .i64 d, .int .i64 0, .int .i64 0, .bool false, .string ⟨#[]⟩] 40)).drew).cell? ⟨w.heap.size, 1, none⟩ = some (.int .i64 d) ∧ ((w.alloc (.cells #[.int .i64 1, .int .i64 d, .int .i64 0, .int .i64 0, .bool false, .string ⟨#[]⟩] 40)).drew).cell? ⟨w.heap.size, 2, none⟩ = some (.int .i64 0) ∧ ((w.alloc (.cells #[.int .i64 1, .int .i64 d, .int .i64 0, .int .i64 0, .bool false, .string ⟨#[]⟩] 40)).drew).cell? ⟨w.heap.size, 3, none⟩ = some (.int .i64 0) ∧ ((w.alloc (.cells #[.int .i64 1, .int .i64 d, .int .i64 0, .int .i64 0, .bool false, .string ⟨#[]⟩] 40)).drew).cell? ⟨w.heap.size, 4, none⟩ = some (.bool false) ∧ ((w.alloc (.cells #[.int .i64 1, .int .i64 d, .int .i64 0, .int .i64 0, .bool false, .string ⟨#[]⟩] 40)).drew).cell? ⟨w.heap.size, 5, none⟩ = some (.string ⟨#[]⟩) :=
    ⟨((Below.refl _ w).alloc (Nat.le_refl _) _).trans (below_drewN _ _ 1), by rw [show ((w.alloc (.cells #[.int .i64 1, .int .i64 d, .int .i64 0, .int .i64 0, .bool false, .string ⟨#[]⟩] 40)).drew).heap.size = w.heap.size + 1 from World.size_alloc _ _]; omega, by simp, by simp, by simp, by simp, by simp, by simp⟩
  go_enter Tryz.func29, Tryz.ntmps29
  go_wp2_with fail
  go_region_held3 (fun wx => Below w.heap.size w (wx) ∧ w.heap.size < (wx).heap.size ∧ (wx).cell? ⟨w.heap.size, 0, none⟩ = some (.int .i64 1) ∧ (wx).cell? ⟨w.heap.size, 1, none⟩ = some (.int .i64 d) ∧ (wx).cell? ⟨w.heap.size, 2, none⟩ = some (.int .i64 0) ∧ (wx).cell? ⟨w.heap.size, 3, none⟩ = some (.int .i64 0) ∧ (wx).cell? ⟨w.heap.size, 4, none⟩ = some (.bool false) ∧ (wx).cell? ⟨w.heap.size, 5, none⟩ = some (.string ⟨#[]⟩)) (first | assumption | go_keep)
    (first
      | (go_at_call 39; refine (HB.out _).mono ?_; rintro e w2 ⟨rfl, c2⟩; have k2 := Lx.keep6 (by assumption) c2))
  obtain ⟨hbel, hlt2, c0, c1, c3, c4, c5, c6⟩ := k2
  clear hS0 c2
  go_wp2_with fail
  go_ret
  exact ⟨rfl, hbel⟩
set_option maxRecDepth 100000 in
theorem check_jump_lo (t : Int) (w : World) (h : t < 0) :
    Calls Tryz.prog 29 #[.agg #[.int .i64 2, .int .i64 0, .int .i64 t, .int .i64 0, .bool false, .string ⟨#[]⟩]] w (CheckIs 14 w) := by
  have HB := Lib.hid (fun W => bare_any ⟨2, 0, t, 0, false, ⟨#[]⟩⟩ W)
  rw [show Lx.bareV ⟨2, 0, t, 0, false, ⟨#[]⟩⟩ = ⟨2, 0, t, 0, false, ⟨#[]⟩⟩ from rfl] at HB
  unfold Lx.OpV.val at HB
  simp only at HB
  have heq : ∀ W, (Op.equalIn 10000 40 (.agg #[.int .i64 2, .int .i64 0, .int .i64 t, .int .i64 0, .bool false, .string ⟨#[]⟩]) (.agg #[.int .i64 2, .int .i64 0, .int .i64 t, .int .i64 0, .bool false, .string ⟨#[]⟩])).run Tryz.prog W = .ok true W := fun W => (eqOp _ _ _ _ _ _ _ _ _ _ _ _ W).trans (by simp)
  have e1 : decide (t < 0) = true := decide_eq_true h
  have hS0 : Below w.heap.size w ((w.alloc (.cells #[.int .i64 2, .int .i64 0, .int .i64 t, .int .i64 0, .bool false, .string ⟨#[]⟩] 40)).drew) ∧ w.heap.size < ((w.alloc (.cells #[.int .i64 2, .int .i64 0, .int .i64 t, .int .i64 0, .bool false, .string ⟨#[]⟩] 40)).drew).heap.size ∧ ((w.alloc (.cells #[.int .i64 2, .int .i64 0, .int .i64 t, .int .i64 0, .bool false, .string ⟨#[]⟩] 40)).drew).cell? ⟨w.heap.size, 0, none⟩ = some (.int .i64 2) ∧ ((w.alloc (.cells #[.int .i64 2, .int .i64 0, .int .i64 t, .int .i64 0, .bool false, .string ⟨#[]⟩] 40)).drew).cell? ⟨w.heap.size, 1, none⟩ = some (.int .i64 0) ∧ ((w.alloc (.cells #[.int .i64 2, .int .i64 0, .int .i64 t, .int .i64 0, .bool false, .string ⟨#[]⟩] 40)).drew).cell? ⟨w.heap.size, 2, none⟩ = some (.int .i64 t) ∧ ((w.alloc (.cells #[.int .i64 2, .int .i64 0, .int .i64 t, .int .i64 0, .bool false, .string ⟨#[]⟩] 40)).drew).cell? ⟨w.heap.size, 3, none⟩ = some (.int .i64 0) ∧ ((w.alloc (.cells #[.int .i64 2, .int .i64 0, .int .i64 t, .int .i64 0, .bool false, .string ⟨#[]⟩] 40)).drew).cell? ⟨w.heap.size, 4, none⟩ = some (.bool false) ∧ ((w.alloc (.cells #[.int .i64 2, .int .i64 0, .int .i64 t, .int .i64 0, .bool false, .string ⟨#[]⟩] 40)).drew).cell? ⟨w.heap.size, 5, none⟩ = some (.string ⟨#[]⟩) :=
    ⟨((Below.refl _ w).alloc (Nat.le_refl _) _).trans (below_drewN _ _ 1), by rw [show ((w.alloc (.cells #[.int .i64 2, .int .i64 0, .int .i64 t, .int .i64 0, .bool false, .string ⟨#[]⟩] 40)).drew).heap.size = w.heap.size + 1 from World.size_alloc _ _]; omega, by simp, by simp, by simp, by simp, by simp, by simp⟩
  go_enter Tryz.func29, Tryz.ntmps29
  go_wp2_with fail
  go_region_held3 (fun wx => Below w.heap.size w (wx) ∧ w.heap.size < (wx).heap.size ∧ (wx).cell? ⟨w.heap.size, 0, none⟩ = some (.int .i64 2) ∧ (wx).cell? ⟨w.heap.size, 1, none⟩ = some (.int .i64 0) ∧ (wx).cell? ⟨w.heap.size, 2, none⟩ = some (.int .i64 t) ∧ (wx).cell? ⟨w.heap.size, 3, none⟩ = some (.int .i64 0) ∧ (wx).cell? ⟨w.heap.size, 4, none⟩ = some (.bool false) ∧ (wx).cell? ⟨w.heap.size, 5, none⟩ = some (.string ⟨#[]⟩)) (first | assumption | go_keep)
    (first
      | (go_at_call 39; refine (HB.out _).mono ?_; rintro e w2 ⟨rfl, c2⟩; have k2 := Lx.keep6 (by assumption) c2))
  obtain ⟨hbel, hlt2, c0, c1, c3, c4, c5, c6⟩ := k2
  clear hS0 c2
  go_wp2_with fail
  go_ret
  exact ⟨rfl, hbel⟩
set_option maxRecDepth 100000 in
theorem check_jump_hi (t : Int) (w : World) (h : 253402300799 < t) :
    Calls Tryz.prog 29 #[.agg #[.int .i64 2, .int .i64 0, .int .i64 t, .int .i64 0, .bool false, .string ⟨#[]⟩]] w (CheckIs 14 w) := by
  have HB := Lib.hid (fun W => bare_any ⟨2, 0, t, 0, false, ⟨#[]⟩⟩ W)
  rw [show Lx.bareV ⟨2, 0, t, 0, false, ⟨#[]⟩⟩ = ⟨2, 0, t, 0, false, ⟨#[]⟩⟩ from rfl] at HB
  unfold Lx.OpV.val at HB
  simp only at HB
  have heq : ∀ W, (Op.equalIn 10000 40 (.agg #[.int .i64 2, .int .i64 0, .int .i64 t, .int .i64 0, .bool false, .string ⟨#[]⟩]) (.agg #[.int .i64 2, .int .i64 0, .int .i64 t, .int .i64 0, .bool false, .string ⟨#[]⟩])).run Tryz.prog W = .ok true W := fun W => (eqOp _ _ _ _ _ _ _ _ _ _ _ _ W).trans (by simp)
  have e1 : decide (t < 0) = false := decide_eq_false (by omega)
  have e2 : decide (253402300799 < t) = true := decide_eq_true h
  have hS0 : Below w.heap.size w ((w.alloc (.cells #[.int .i64 2, .int .i64 0, .int .i64 t, .int .i64 0, .bool false, .string ⟨#[]⟩] 40)).drew) ∧ w.heap.size < ((w.alloc (.cells #[.int .i64 2, .int .i64 0, .int .i64 t, .int .i64 0, .bool false, .string ⟨#[]⟩] 40)).drew).heap.size ∧ ((w.alloc (.cells #[.int .i64 2, .int .i64 0, .int .i64 t, .int .i64 0, .bool false, .string ⟨#[]⟩] 40)).drew).cell? ⟨w.heap.size, 0, none⟩ = some (.int .i64 2) ∧ ((w.alloc (.cells #[.int .i64 2, .int .i64 0, .int .i64 t, .int .i64 0, .bool false, .string ⟨#[]⟩] 40)).drew).cell? ⟨w.heap.size, 1, none⟩ = some (.int .i64 0) ∧ ((w.alloc (.cells #[.int .i64 2, .int .i64 0, .int .i64 t, .int .i64 0, .bool false, .string ⟨#[]⟩] 40)).drew).cell? ⟨w.heap.size, 2, none⟩ = some (.int .i64 t) ∧ ((w.alloc (.cells #[.int .i64 2, .int .i64 0, .int .i64 t, .int .i64 0, .bool false, .string ⟨#[]⟩] 40)).drew).cell? ⟨w.heap.size, 3, none⟩ = some (.int .i64 0) ∧ ((w.alloc (.cells #[.int .i64 2, .int .i64 0, .int .i64 t, .int .i64 0, .bool false, .string ⟨#[]⟩] 40)).drew).cell? ⟨w.heap.size, 4, none⟩ = some (.bool false) ∧ ((w.alloc (.cells #[.int .i64 2, .int .i64 0, .int .i64 t, .int .i64 0, .bool false, .string ⟨#[]⟩] 40)).drew).cell? ⟨w.heap.size, 5, none⟩ = some (.string ⟨#[]⟩) :=
    ⟨((Below.refl _ w).alloc (Nat.le_refl _) _).trans (below_drewN _ _ 1), by rw [show ((w.alloc (.cells #[.int .i64 2, .int .i64 0, .int .i64 t, .int .i64 0, .bool false, .string ⟨#[]⟩] 40)).drew).heap.size = w.heap.size + 1 from World.size_alloc _ _]; omega, by simp, by simp, by simp, by simp, by simp, by simp⟩
  go_enter Tryz.func29, Tryz.ntmps29
  go_wp2_with fail
  go_region_held3 (fun wx => Below w.heap.size w (wx) ∧ w.heap.size < (wx).heap.size ∧ (wx).cell? ⟨w.heap.size, 0, none⟩ = some (.int .i64 2) ∧ (wx).cell? ⟨w.heap.size, 1, none⟩ = some (.int .i64 0) ∧ (wx).cell? ⟨w.heap.size, 2, none⟩ = some (.int .i64 t) ∧ (wx).cell? ⟨w.heap.size, 3, none⟩ = some (.int .i64 0) ∧ (wx).cell? ⟨w.heap.size, 4, none⟩ = some (.bool false) ∧ (wx).cell? ⟨w.heap.size, 5, none⟩ = some (.string ⟨#[]⟩)) (first | assumption | go_keep)
    (first
      | (go_at_call 39; refine (HB.out _).mono ?_; rintro e w2 ⟨rfl, c2⟩; have k2 := Lx.keep6 (by assumption) c2))
  obtain ⟨hbel, hlt2, c0, c1, c3, c4, c5, c6⟩ := k2
  clear hS0 c2
  go_wp2_with fail
  go_ret
  exact ⟨rfl, hbel⟩
set_option maxRecDepth 100000 in
theorem check_jump_ok (t : Int) (w : World) (h : 0 ≤ t) (h2 : t ≤ 253402300799) :
    Calls Tryz.prog 29 #[.agg #[.int .i64 2, .int .i64 0, .int .i64 t, .int .i64 0, .bool false, .string ⟨#[]⟩]] w (CheckIs 0 w) := by
  have HB := Lib.hid (fun W => bare_any ⟨2, 0, t, 0, false, ⟨#[]⟩⟩ W)
  rw [show Lx.bareV ⟨2, 0, t, 0, false, ⟨#[]⟩⟩ = ⟨2, 0, t, 0, false, ⟨#[]⟩⟩ from rfl] at HB
  unfold Lx.OpV.val at HB
  simp only at HB
  have heq : ∀ W, (Op.equalIn 10000 40 (.agg #[.int .i64 2, .int .i64 0, .int .i64 t, .int .i64 0, .bool false, .string ⟨#[]⟩]) (.agg #[.int .i64 2, .int .i64 0, .int .i64 t, .int .i64 0, .bool false, .string ⟨#[]⟩])).run Tryz.prog W = .ok true W := fun W => (eqOp _ _ _ _ _ _ _ _ _ _ _ _ W).trans (by simp)
  have e1 : decide (t < 0) = false := decide_eq_false (by omega)
  have e2 : decide (253402300799 < t) = false := decide_eq_false (by omega)
  have hS0 : Below w.heap.size w ((w.alloc (.cells #[.int .i64 2, .int .i64 0, .int .i64 t, .int .i64 0, .bool false, .string ⟨#[]⟩] 40)).drew) ∧ w.heap.size < ((w.alloc (.cells #[.int .i64 2, .int .i64 0, .int .i64 t, .int .i64 0, .bool false, .string ⟨#[]⟩] 40)).drew).heap.size ∧ ((w.alloc (.cells #[.int .i64 2, .int .i64 0, .int .i64 t, .int .i64 0, .bool false, .string ⟨#[]⟩] 40)).drew).cell? ⟨w.heap.size, 0, none⟩ = some (.int .i64 2) ∧ ((w.alloc (.cells #[.int .i64 2, .int .i64 0, .int .i64 t, .int .i64 0, .bool false, .string ⟨#[]⟩] 40)).drew).cell? ⟨w.heap.size, 1, none⟩ = some (.int .i64 0) ∧ ((w.alloc (.cells #[.int .i64 2, .int .i64 0, .int .i64 t, .int .i64 0, .bool false, .string ⟨#[]⟩] 40)).drew).cell? ⟨w.heap.size, 2, none⟩ = some (.int .i64 t) ∧ ((w.alloc (.cells #[.int .i64 2, .int .i64 0, .int .i64 t, .int .i64 0, .bool false, .string ⟨#[]⟩] 40)).drew).cell? ⟨w.heap.size, 3, none⟩ = some (.int .i64 0) ∧ ((w.alloc (.cells #[.int .i64 2, .int .i64 0, .int .i64 t, .int .i64 0, .bool false, .string ⟨#[]⟩] 40)).drew).cell? ⟨w.heap.size, 4, none⟩ = some (.bool false) ∧ ((w.alloc (.cells #[.int .i64 2, .int .i64 0, .int .i64 t, .int .i64 0, .bool false, .string ⟨#[]⟩] 40)).drew).cell? ⟨w.heap.size, 5, none⟩ = some (.string ⟨#[]⟩) :=
    ⟨((Below.refl _ w).alloc (Nat.le_refl _) _).trans (below_drewN _ _ 1), by rw [show ((w.alloc (.cells #[.int .i64 2, .int .i64 0, .int .i64 t, .int .i64 0, .bool false, .string ⟨#[]⟩] 40)).drew).heap.size = w.heap.size + 1 from World.size_alloc _ _]; omega, by simp, by simp, by simp, by simp, by simp, by simp⟩
  go_enter Tryz.func29, Tryz.ntmps29
  go_wp2_with fail
  go_region_held3 (fun wx => Below w.heap.size w (wx) ∧ w.heap.size < (wx).heap.size ∧ (wx).cell? ⟨w.heap.size, 0, none⟩ = some (.int .i64 2) ∧ (wx).cell? ⟨w.heap.size, 1, none⟩ = some (.int .i64 0) ∧ (wx).cell? ⟨w.heap.size, 2, none⟩ = some (.int .i64 t) ∧ (wx).cell? ⟨w.heap.size, 3, none⟩ = some (.int .i64 0) ∧ (wx).cell? ⟨w.heap.size, 4, none⟩ = some (.bool false) ∧ (wx).cell? ⟨w.heap.size, 5, none⟩ = some (.string ⟨#[]⟩)) (first | assumption | go_keep)
    (first
      | (go_at_call 39; refine (HB.out _).mono ?_; rintro e w2 ⟨rfl, c2⟩; have k2 := Lx.keep6 (by assumption) c2))
  obtain ⟨hbel, hlt2, c0, c1, c3, c4, c5, c6⟩ := k2
  clear hS0 c2
  go_wp2_with fail
  go_ret
  exact ⟨rfl, hbel⟩
set_option maxRecDepth 100000 in
theorem check_finish_lo (r : Int) (ok : Bool) (w : World) (h : r < 1) :
    Calls Tryz.prog 29 #[.agg #[.int .i64 3, .int .i64 0, .int .i64 0, .int .i64 r, .bool ok, .string ⟨#[]⟩]] w (CheckIs 2 w) := by
  have HB := Lib.hid (fun W => bare_any ⟨3, 0, 0, r, ok, ⟨#[]⟩⟩ W)
  rw [show Lx.bareV ⟨3, 0, 0, r, ok, ⟨#[]⟩⟩ = ⟨3, 0, 0, r, ok, ⟨#[]⟩⟩ from rfl] at HB
  unfold Lx.OpV.val at HB
  simp only at HB
  have heq : ∀ W, (Op.equalIn 10000 40 (.agg #[.int .i64 3, .int .i64 0, .int .i64 0, .int .i64 r, .bool ok, .string ⟨#[]⟩]) (.agg #[.int .i64 3, .int .i64 0, .int .i64 0, .int .i64 r, .bool ok, .string ⟨#[]⟩])).run Tryz.prog W = .ok true W := fun W => (eqOp _ _ _ _ _ _ _ _ _ _ _ _ W).trans (by simp)
  have e1 : decide (r < 1) = true := decide_eq_true h
  have hS0 : Below w.heap.size w ((w.alloc (.cells #[.int .i64 3, .int .i64 0, .int .i64 0, .int .i64 r, .bool ok, .string ⟨#[]⟩] 40)).drew) ∧ w.heap.size < ((w.alloc (.cells #[.int .i64 3, .int .i64 0, .int .i64 0, .int .i64 r, .bool ok, .string ⟨#[]⟩] 40)).drew).heap.size ∧ ((w.alloc (.cells #[.int .i64 3, .int .i64 0, .int .i64 0, .int .i64 r, .bool ok, .string ⟨#[]⟩] 40)).drew).cell? ⟨w.heap.size, 0, none⟩ = some (.int .i64 3) ∧ ((w.alloc (.cells #[.int .i64 3, .int .i64 0, .int .i64 0, .int .i64 r, .bool ok, .string ⟨#[]⟩] 40)).drew).cell? ⟨w.heap.size, 1, none⟩ = some (.int .i64 0) ∧ ((w.alloc (.cells #[.int .i64 3, .int .i64 0, .int .i64 0, .int .i64 r, .bool ok, .string ⟨#[]⟩] 40)).drew).cell? ⟨w.heap.size, 2, none⟩ = some (.int .i64 0) ∧ ((w.alloc (.cells #[.int .i64 3, .int .i64 0, .int .i64 0, .int .i64 r, .bool ok, .string ⟨#[]⟩] 40)).drew).cell? ⟨w.heap.size, 3, none⟩ = some (.int .i64 r) ∧ ((w.alloc (.cells #[.int .i64 3, .int .i64 0, .int .i64 0, .int .i64 r, .bool ok, .string ⟨#[]⟩] 40)).drew).cell? ⟨w.heap.size, 4, none⟩ = some (.bool ok) ∧ ((w.alloc (.cells #[.int .i64 3, .int .i64 0, .int .i64 0, .int .i64 r, .bool ok, .string ⟨#[]⟩] 40)).drew).cell? ⟨w.heap.size, 5, none⟩ = some (.string ⟨#[]⟩) :=
    ⟨((Below.refl _ w).alloc (Nat.le_refl _) _).trans (below_drewN _ _ 1), by rw [show ((w.alloc (.cells #[.int .i64 3, .int .i64 0, .int .i64 0, .int .i64 r, .bool ok, .string ⟨#[]⟩] 40)).drew).heap.size = w.heap.size + 1 from World.size_alloc _ _]; omega, by simp, by simp, by simp, by simp, by simp, by simp⟩
  go_enter Tryz.func29, Tryz.ntmps29
  go_wp2_with fail
  go_region_held3 (fun wx => Below w.heap.size w (wx) ∧ w.heap.size < (wx).heap.size ∧ (wx).cell? ⟨w.heap.size, 0, none⟩ = some (.int .i64 3) ∧ (wx).cell? ⟨w.heap.size, 1, none⟩ = some (.int .i64 0) ∧ (wx).cell? ⟨w.heap.size, 2, none⟩ = some (.int .i64 0) ∧ (wx).cell? ⟨w.heap.size, 3, none⟩ = some (.int .i64 r) ∧ (wx).cell? ⟨w.heap.size, 4, none⟩ = some (.bool ok) ∧ (wx).cell? ⟨w.heap.size, 5, none⟩ = some (.string ⟨#[]⟩)) (first | assumption | go_keep)
    (first
      | (go_at_call 39; refine (HB.out _).mono ?_; rintro e w2 ⟨rfl, c2⟩; have k2 := Lx.keep6 (by assumption) c2))
  obtain ⟨hbel, hlt2, c0, c1, c3, c4, c5, c6⟩ := k2
  clear hS0 c2
  go_wp2_with fail
  go_ret
  exact ⟨rfl, hbel⟩
set_option maxRecDepth 100000 in
theorem check_finish_ok (r : Int) (ok : Bool) (w : World) (h : 1 ≤ r) :
    Calls Tryz.prog 29 #[.agg #[.int .i64 3, .int .i64 0, .int .i64 0, .int .i64 r, .bool ok, .string ⟨#[]⟩]] w (CheckIs 0 w) := by
  have HB := Lib.hid (fun W => bare_any ⟨3, 0, 0, r, ok, ⟨#[]⟩⟩ W)
  rw [show Lx.bareV ⟨3, 0, 0, r, ok, ⟨#[]⟩⟩ = ⟨3, 0, 0, r, ok, ⟨#[]⟩⟩ from rfl] at HB
  unfold Lx.OpV.val at HB
  simp only at HB
  have heq : ∀ W, (Op.equalIn 10000 40 (.agg #[.int .i64 3, .int .i64 0, .int .i64 0, .int .i64 r, .bool ok, .string ⟨#[]⟩]) (.agg #[.int .i64 3, .int .i64 0, .int .i64 0, .int .i64 r, .bool ok, .string ⟨#[]⟩])).run Tryz.prog W = .ok true W := fun W => (eqOp _ _ _ _ _ _ _ _ _ _ _ _ W).trans (by simp)
  have e1 : decide (r < 1) = false := decide_eq_false (by omega)
  have hS0 : Below w.heap.size w ((w.alloc (.cells #[.int .i64 3, .int .i64 0, .int .i64 0, .int .i64 r, .bool ok, .string ⟨#[]⟩] 40)).drew) ∧ w.heap.size < ((w.alloc (.cells #[.int .i64 3, .int .i64 0, .int .i64 0, .int .i64 r, .bool ok, .string ⟨#[]⟩] 40)).drew).heap.size ∧ ((w.alloc (.cells #[.int .i64 3, .int .i64 0, .int .i64 0, .int .i64 r, .bool ok, .string ⟨#[]⟩] 40)).drew).cell? ⟨w.heap.size, 0, none⟩ = some (.int .i64 3) ∧ ((w.alloc (.cells #[.int .i64 3, .int .i64 0, .int .i64 0, .int .i64 r, .bool ok, .string ⟨#[]⟩] 40)).drew).cell? ⟨w.heap.size, 1, none⟩ = some (.int .i64 0) ∧ ((w.alloc (.cells #[.int .i64 3, .int .i64 0, .int .i64 0, .int .i64 r, .bool ok, .string ⟨#[]⟩] 40)).drew).cell? ⟨w.heap.size, 2, none⟩ = some (.int .i64 0) ∧ ((w.alloc (.cells #[.int .i64 3, .int .i64 0, .int .i64 0, .int .i64 r, .bool ok, .string ⟨#[]⟩] 40)).drew).cell? ⟨w.heap.size, 3, none⟩ = some (.int .i64 r) ∧ ((w.alloc (.cells #[.int .i64 3, .int .i64 0, .int .i64 0, .int .i64 r, .bool ok, .string ⟨#[]⟩] 40)).drew).cell? ⟨w.heap.size, 4, none⟩ = some (.bool ok) ∧ ((w.alloc (.cells #[.int .i64 3, .int .i64 0, .int .i64 0, .int .i64 r, .bool ok, .string ⟨#[]⟩] 40)).drew).cell? ⟨w.heap.size, 5, none⟩ = some (.string ⟨#[]⟩) :=
    ⟨((Below.refl _ w).alloc (Nat.le_refl _) _).trans (below_drewN _ _ 1), by rw [show ((w.alloc (.cells #[.int .i64 3, .int .i64 0, .int .i64 0, .int .i64 r, .bool ok, .string ⟨#[]⟩] 40)).drew).heap.size = w.heap.size + 1 from World.size_alloc _ _]; omega, by simp, by simp, by simp, by simp, by simp, by simp⟩
  go_enter Tryz.func29, Tryz.ntmps29
  go_wp2_with fail
  go_region_held3 (fun wx => Below w.heap.size w (wx) ∧ w.heap.size < (wx).heap.size ∧ (wx).cell? ⟨w.heap.size, 0, none⟩ = some (.int .i64 3) ∧ (wx).cell? ⟨w.heap.size, 1, none⟩ = some (.int .i64 0) ∧ (wx).cell? ⟨w.heap.size, 2, none⟩ = some (.int .i64 0) ∧ (wx).cell? ⟨w.heap.size, 3, none⟩ = some (.int .i64 r) ∧ (wx).cell? ⟨w.heap.size, 4, none⟩ = some (.bool ok) ∧ (wx).cell? ⟨w.heap.size, 5, none⟩ = some (.string ⟨#[]⟩)) (first | assumption | go_keep)
    (first
      | (go_at_call 39; refine (HB.out _).mono ?_; rintro e w2 ⟨rfl, c2⟩; have k2 := Lx.keep6 (by assumption) c2))
  obtain ⟨hbel, hlt2, c0, c1, c3, c4, c5, c6⟩ := k2
  clear hS0 c2
  go_wp2_with fail
  go_ret
  exact ⟨rfl, hbel⟩
set_option maxRecDepth 100000 in
theorem check_name4_true (job : ByteArray) (w : World) (hj : job.size ≤ maxLen) (h : Lx.isName job = true) :
    Calls Tryz.prog 29 #[.agg #[.int .i64 4, .int .i64 0, .int .i64 0, .int .i64 0, .bool false, .string job]] w (CheckIs 0 w) := by
  have HB := Lib.hid (fun W => bare_any ⟨4, 0, 0, 0, false, job⟩ W)
  rw [show Lx.bareV ⟨4, 0, 0, 0, false, job⟩ = ⟨4, 0, 0, 0, false, job⟩ from rfl] at HB
  unfold Lx.OpV.val at HB
  simp only at HB
  have heq : ∀ W, (Op.equalIn 10000 40 (.agg #[.int .i64 4, .int .i64 0, .int .i64 0, .int .i64 0, .bool false, .string job]) (.agg #[.int .i64 4, .int .i64 0, .int .i64 0, .int .i64 0, .bool false, .string job])).run Tryz.prog W = .ok true W := fun W => (eqOp _ _ _ _ _ _ _ _ _ _ _ _ W).trans (by simp)
  have HN := Lib.hid (fun W => name_any job W hj)
  rw [h] at HN
  clear hj h
  have hS0 : Below w.heap.size w ((w.alloc (.cells #[.int .i64 4, .int .i64 0, .int .i64 0, .int .i64 0, .bool false, .string job] 40)).drew) ∧ w.heap.size < ((w.alloc (.cells #[.int .i64 4, .int .i64 0, .int .i64 0, .int .i64 0, .bool false, .string job] 40)).drew).heap.size ∧ ((w.alloc (.cells #[.int .i64 4, .int .i64 0, .int .i64 0, .int .i64 0, .bool false, .string job] 40)).drew).cell? ⟨w.heap.size, 0, none⟩ = some (.int .i64 4) ∧ ((w.alloc (.cells #[.int .i64 4, .int .i64 0, .int .i64 0, .int .i64 0, .bool false, .string job] 40)).drew).cell? ⟨w.heap.size, 1, none⟩ = some (.int .i64 0) ∧ ((w.alloc (.cells #[.int .i64 4, .int .i64 0, .int .i64 0, .int .i64 0, .bool false, .string job] 40)).drew).cell? ⟨w.heap.size, 2, none⟩ = some (.int .i64 0) ∧ ((w.alloc (.cells #[.int .i64 4, .int .i64 0, .int .i64 0, .int .i64 0, .bool false, .string job] 40)).drew).cell? ⟨w.heap.size, 3, none⟩ = some (.int .i64 0) ∧ ((w.alloc (.cells #[.int .i64 4, .int .i64 0, .int .i64 0, .int .i64 0, .bool false, .string job] 40)).drew).cell? ⟨w.heap.size, 4, none⟩ = some (.bool false) ∧ ((w.alloc (.cells #[.int .i64 4, .int .i64 0, .int .i64 0, .int .i64 0, .bool false, .string job] 40)).drew).cell? ⟨w.heap.size, 5, none⟩ = some (.string job) :=
    ⟨((Below.refl _ w).alloc (Nat.le_refl _) _).trans (below_drewN _ _ 1), by rw [show ((w.alloc (.cells #[.int .i64 4, .int .i64 0, .int .i64 0, .int .i64 0, .bool false, .string job] 40)).drew).heap.size = w.heap.size + 1 from World.size_alloc _ _]; omega, by simp, by simp, by simp, by simp, by simp, by simp⟩
  go_enter Tryz.func29, Tryz.ntmps29
  go_wp2_with fail
  go_region_held3 (fun wx => Below w.heap.size w (wx) ∧ w.heap.size < (wx).heap.size ∧ (wx).cell? ⟨w.heap.size, 0, none⟩ = some (.int .i64 4) ∧ (wx).cell? ⟨w.heap.size, 1, none⟩ = some (.int .i64 0) ∧ (wx).cell? ⟨w.heap.size, 2, none⟩ = some (.int .i64 0) ∧ (wx).cell? ⟨w.heap.size, 3, none⟩ = some (.int .i64 0) ∧ (wx).cell? ⟨w.heap.size, 4, none⟩ = some (.bool false) ∧ (wx).cell? ⟨w.heap.size, 5, none⟩ = some (.string job)) (first | assumption | go_keep)
    (first
      | (go_at_call 39; refine (HB.out _).mono ?_; rintro e w2 ⟨rfl, c2⟩; have k2 := Lx.keep6 (by assumption) c2))
  obtain ⟨hbel, hlt2, c0, c1, c3, c4, c5, c6⟩ := k2
  clear hS0 c2
  go_wp2_with fail
  refine (HN.out _).mono ?_
  rintro e w4 ⟨rfl, rfl⟩
  go_wp2_with fail
  go_ret
  exact ⟨rfl, hbel⟩
set_option maxRecDepth 100000 in
theorem check_name4_false (job : ByteArray) (w : World) (hj : job.size ≤ maxLen) (h : Lx.isName job = false) :
    Calls Tryz.prog 29 #[.agg #[.int .i64 4, .int .i64 0, .int .i64 0, .int .i64 0, .bool false, .string job]] w (CheckIs 15 w) := by
  have HB := Lib.hid (fun W => bare_any ⟨4, 0, 0, 0, false, job⟩ W)
  rw [show Lx.bareV ⟨4, 0, 0, 0, false, job⟩ = ⟨4, 0, 0, 0, false, job⟩ from rfl] at HB
  unfold Lx.OpV.val at HB
  simp only at HB
  have heq : ∀ W, (Op.equalIn 10000 40 (.agg #[.int .i64 4, .int .i64 0, .int .i64 0, .int .i64 0, .bool false, .string job]) (.agg #[.int .i64 4, .int .i64 0, .int .i64 0, .int .i64 0, .bool false, .string job])).run Tryz.prog W = .ok true W := fun W => (eqOp _ _ _ _ _ _ _ _ _ _ _ _ W).trans (by simp)
  have HN := Lib.hid (fun W => name_any job W hj)
  rw [h] at HN
  clear hj h
  have hS0 : Below w.heap.size w ((w.alloc (.cells #[.int .i64 4, .int .i64 0, .int .i64 0, .int .i64 0, .bool false, .string job] 40)).drew) ∧ w.heap.size < ((w.alloc (.cells #[.int .i64 4, .int .i64 0, .int .i64 0, .int .i64 0, .bool false, .string job] 40)).drew).heap.size ∧ ((w.alloc (.cells #[.int .i64 4, .int .i64 0, .int .i64 0, .int .i64 0, .bool false, .string job] 40)).drew).cell? ⟨w.heap.size, 0, none⟩ = some (.int .i64 4) ∧ ((w.alloc (.cells #[.int .i64 4, .int .i64 0, .int .i64 0, .int .i64 0, .bool false, .string job] 40)).drew).cell? ⟨w.heap.size, 1, none⟩ = some (.int .i64 0) ∧ ((w.alloc (.cells #[.int .i64 4, .int .i64 0, .int .i64 0, .int .i64 0, .bool false, .string job] 40)).drew).cell? ⟨w.heap.size, 2, none⟩ = some (.int .i64 0) ∧ ((w.alloc (.cells #[.int .i64 4, .int .i64 0, .int .i64 0, .int .i64 0, .bool false, .string job] 40)).drew).cell? ⟨w.heap.size, 3, none⟩ = some (.int .i64 0) ∧ ((w.alloc (.cells #[.int .i64 4, .int .i64 0, .int .i64 0, .int .i64 0, .bool false, .string job] 40)).drew).cell? ⟨w.heap.size, 4, none⟩ = some (.bool false) ∧ ((w.alloc (.cells #[.int .i64 4, .int .i64 0, .int .i64 0, .int .i64 0, .bool false, .string job] 40)).drew).cell? ⟨w.heap.size, 5, none⟩ = some (.string job) :=
    ⟨((Below.refl _ w).alloc (Nat.le_refl _) _).trans (below_drewN _ _ 1), by rw [show ((w.alloc (.cells #[.int .i64 4, .int .i64 0, .int .i64 0, .int .i64 0, .bool false, .string job] 40)).drew).heap.size = w.heap.size + 1 from World.size_alloc _ _]; omega, by simp, by simp, by simp, by simp, by simp, by simp⟩
  go_enter Tryz.func29, Tryz.ntmps29
  go_wp2_with fail
  go_region_held3 (fun wx => Below w.heap.size w (wx) ∧ w.heap.size < (wx).heap.size ∧ (wx).cell? ⟨w.heap.size, 0, none⟩ = some (.int .i64 4) ∧ (wx).cell? ⟨w.heap.size, 1, none⟩ = some (.int .i64 0) ∧ (wx).cell? ⟨w.heap.size, 2, none⟩ = some (.int .i64 0) ∧ (wx).cell? ⟨w.heap.size, 3, none⟩ = some (.int .i64 0) ∧ (wx).cell? ⟨w.heap.size, 4, none⟩ = some (.bool false) ∧ (wx).cell? ⟨w.heap.size, 5, none⟩ = some (.string job)) (first | assumption | go_keep)
    (first
      | (go_at_call 39; refine (HB.out _).mono ?_; rintro e w2 ⟨rfl, c2⟩; have k2 := Lx.keep6 (by assumption) c2))
  obtain ⟨hbel, hlt2, c0, c1, c3, c4, c5, c6⟩ := k2
  clear hS0 c2
  go_wp2_with fail
  refine (HN.out _).mono ?_
  rintro e w4 ⟨rfl, rfl⟩
  go_wp2_with fail
  go_ret
  exact ⟨rfl, hbel⟩
set_option maxRecDepth 100000 in
theorem check_name5_true (job : ByteArray) (w : World) (hj : job.size ≤ maxLen) (h : Lx.isName job = true) :
    Calls Tryz.prog 29 #[.agg #[.int .i64 5, .int .i64 0, .int .i64 0, .int .i64 0, .bool false, .string job]] w (CheckIs 0 w) := by
  have HB := Lib.hid (fun W => bare_any ⟨5, 0, 0, 0, false, job⟩ W)
  rw [show Lx.bareV ⟨5, 0, 0, 0, false, job⟩ = ⟨5, 0, 0, 0, false, job⟩ from rfl] at HB
  unfold Lx.OpV.val at HB
  simp only at HB
  have heq : ∀ W, (Op.equalIn 10000 40 (.agg #[.int .i64 5, .int .i64 0, .int .i64 0, .int .i64 0, .bool false, .string job]) (.agg #[.int .i64 5, .int .i64 0, .int .i64 0, .int .i64 0, .bool false, .string job])).run Tryz.prog W = .ok true W := fun W => (eqOp _ _ _ _ _ _ _ _ _ _ _ _ W).trans (by simp)
  have HN := Lib.hid (fun W => name_any job W hj)
  rw [h] at HN
  clear hj h
  have hS0 : Below w.heap.size w ((w.alloc (.cells #[.int .i64 5, .int .i64 0, .int .i64 0, .int .i64 0, .bool false, .string job] 40)).drew) ∧ w.heap.size < ((w.alloc (.cells #[.int .i64 5, .int .i64 0, .int .i64 0, .int .i64 0, .bool false, .string job] 40)).drew).heap.size ∧ ((w.alloc (.cells #[.int .i64 5, .int .i64 0, .int .i64 0, .int .i64 0, .bool false, .string job] 40)).drew).cell? ⟨w.heap.size, 0, none⟩ = some (.int .i64 5) ∧ ((w.alloc (.cells #[.int .i64 5, .int .i64 0, .int .i64 0, .int .i64 0, .bool false, .string job] 40)).drew).cell? ⟨w.heap.size, 1, none⟩ = some (.int .i64 0) ∧ ((w.alloc (.cells #[.int .i64 5, .int .i64 0, .int .i64 0, .int .i64 0, .bool false, .string job] 40)).drew).cell? ⟨w.heap.size, 2, none⟩ = some (.int .i64 0) ∧ ((w.alloc (.cells #[.int .i64 5, .int .i64 0, .int .i64 0, .int .i64 0, .bool false, .string job] 40)).drew).cell? ⟨w.heap.size, 3, none⟩ = some (.int .i64 0) ∧ ((w.alloc (.cells #[.int .i64 5, .int .i64 0, .int .i64 0, .int .i64 0, .bool false, .string job] 40)).drew).cell? ⟨w.heap.size, 4, none⟩ = some (.bool false) ∧ ((w.alloc (.cells #[.int .i64 5, .int .i64 0, .int .i64 0, .int .i64 0, .bool false, .string job] 40)).drew).cell? ⟨w.heap.size, 5, none⟩ = some (.string job) :=
    ⟨((Below.refl _ w).alloc (Nat.le_refl _) _).trans (below_drewN _ _ 1), by rw [show ((w.alloc (.cells #[.int .i64 5, .int .i64 0, .int .i64 0, .int .i64 0, .bool false, .string job] 40)).drew).heap.size = w.heap.size + 1 from World.size_alloc _ _]; omega, by simp, by simp, by simp, by simp, by simp, by simp⟩
  go_enter Tryz.func29, Tryz.ntmps29
  go_wp2_with fail
  go_region_held3 (fun wx => Below w.heap.size w (wx) ∧ w.heap.size < (wx).heap.size ∧ (wx).cell? ⟨w.heap.size, 0, none⟩ = some (.int .i64 5) ∧ (wx).cell? ⟨w.heap.size, 1, none⟩ = some (.int .i64 0) ∧ (wx).cell? ⟨w.heap.size, 2, none⟩ = some (.int .i64 0) ∧ (wx).cell? ⟨w.heap.size, 3, none⟩ = some (.int .i64 0) ∧ (wx).cell? ⟨w.heap.size, 4, none⟩ = some (.bool false) ∧ (wx).cell? ⟨w.heap.size, 5, none⟩ = some (.string job)) (first | assumption | go_keep)
    (first
      | (go_at_call 39; refine (HB.out _).mono ?_; rintro e w2 ⟨rfl, c2⟩; have k2 := Lx.keep6 (by assumption) c2))
  obtain ⟨hbel, hlt2, c0, c1, c3, c4, c5, c6⟩ := k2
  clear hS0 c2
  go_wp2_with fail
  refine (HN.out _).mono ?_
  rintro e w4 ⟨rfl, rfl⟩
  go_wp2_with fail
  go_ret
  exact ⟨rfl, hbel⟩
set_option maxRecDepth 100000 in
theorem check_name5_false (job : ByteArray) (w : World) (hj : job.size ≤ maxLen) (h : Lx.isName job = false) :
    Calls Tryz.prog 29 #[.agg #[.int .i64 5, .int .i64 0, .int .i64 0, .int .i64 0, .bool false, .string job]] w (CheckIs 15 w) := by
  have HB := Lib.hid (fun W => bare_any ⟨5, 0, 0, 0, false, job⟩ W)
  rw [show Lx.bareV ⟨5, 0, 0, 0, false, job⟩ = ⟨5, 0, 0, 0, false, job⟩ from rfl] at HB
  unfold Lx.OpV.val at HB
  simp only at HB
  have heq : ∀ W, (Op.equalIn 10000 40 (.agg #[.int .i64 5, .int .i64 0, .int .i64 0, .int .i64 0, .bool false, .string job]) (.agg #[.int .i64 5, .int .i64 0, .int .i64 0, .int .i64 0, .bool false, .string job])).run Tryz.prog W = .ok true W := fun W => (eqOp _ _ _ _ _ _ _ _ _ _ _ _ W).trans (by simp)
  have HN := Lib.hid (fun W => name_any job W hj)
  rw [h] at HN
  clear hj h
  have hS0 : Below w.heap.size w ((w.alloc (.cells #[.int .i64 5, .int .i64 0, .int .i64 0, .int .i64 0, .bool false, .string job] 40)).drew) ∧ w.heap.size < ((w.alloc (.cells #[.int .i64 5, .int .i64 0, .int .i64 0, .int .i64 0, .bool false, .string job] 40)).drew).heap.size ∧ ((w.alloc (.cells #[.int .i64 5, .int .i64 0, .int .i64 0, .int .i64 0, .bool false, .string job] 40)).drew).cell? ⟨w.heap.size, 0, none⟩ = some (.int .i64 5) ∧ ((w.alloc (.cells #[.int .i64 5, .int .i64 0, .int .i64 0, .int .i64 0, .bool false, .string job] 40)).drew).cell? ⟨w.heap.size, 1, none⟩ = some (.int .i64 0) ∧ ((w.alloc (.cells #[.int .i64 5, .int .i64 0, .int .i64 0, .int .i64 0, .bool false, .string job] 40)).drew).cell? ⟨w.heap.size, 2, none⟩ = some (.int .i64 0) ∧ ((w.alloc (.cells #[.int .i64 5, .int .i64 0, .int .i64 0, .int .i64 0, .bool false, .string job] 40)).drew).cell? ⟨w.heap.size, 3, none⟩ = some (.int .i64 0) ∧ ((w.alloc (.cells #[.int .i64 5, .int .i64 0, .int .i64 0, .int .i64 0, .bool false, .string job] 40)).drew).cell? ⟨w.heap.size, 4, none⟩ = some (.bool false) ∧ ((w.alloc (.cells #[.int .i64 5, .int .i64 0, .int .i64 0, .int .i64 0, .bool false, .string job] 40)).drew).cell? ⟨w.heap.size, 5, none⟩ = some (.string job) :=
    ⟨((Below.refl _ w).alloc (Nat.le_refl _) _).trans (below_drewN _ _ 1), by rw [show ((w.alloc (.cells #[.int .i64 5, .int .i64 0, .int .i64 0, .int .i64 0, .bool false, .string job] 40)).drew).heap.size = w.heap.size + 1 from World.size_alloc _ _]; omega, by simp, by simp, by simp, by simp, by simp, by simp⟩
  go_enter Tryz.func29, Tryz.ntmps29
  go_wp2_with fail
  go_region_held3 (fun wx => Below w.heap.size w (wx) ∧ w.heap.size < (wx).heap.size ∧ (wx).cell? ⟨w.heap.size, 0, none⟩ = some (.int .i64 5) ∧ (wx).cell? ⟨w.heap.size, 1, none⟩ = some (.int .i64 0) ∧ (wx).cell? ⟨w.heap.size, 2, none⟩ = some (.int .i64 0) ∧ (wx).cell? ⟨w.heap.size, 3, none⟩ = some (.int .i64 0) ∧ (wx).cell? ⟨w.heap.size, 4, none⟩ = some (.bool false) ∧ (wx).cell? ⟨w.heap.size, 5, none⟩ = some (.string job)) (first | assumption | go_keep)
    (first
      | (go_at_call 39; refine (HB.out _).mono ?_; rintro e w2 ⟨rfl, c2⟩; have k2 := Lx.keep6 (by assumption) c2))
  obtain ⟨hbel, hlt2, c0, c1, c3, c4, c5, c6⟩ := k2
  clear hS0 c2
  go_wp2_with fail
  refine (HN.out _).mono ?_
  rintro e w4 ⟨rfl, rfl⟩
  go_wp2_with fail
  go_ret
  exact ⟨rfl, hbel⟩
set_option maxRecDepth 100000 in
theorem check_name6_true (job : ByteArray) (w : World) (hj : job.size ≤ maxLen) (h : Lx.isName job = true) :
    Calls Tryz.prog 29 #[.agg #[.int .i64 6, .int .i64 0, .int .i64 0, .int .i64 0, .bool false, .string job]] w (CheckIs 0 w) := by
  have HB := Lib.hid (fun W => bare_any ⟨6, 0, 0, 0, false, job⟩ W)
  rw [show Lx.bareV ⟨6, 0, 0, 0, false, job⟩ = ⟨6, 0, 0, 0, false, job⟩ from rfl] at HB
  unfold Lx.OpV.val at HB
  simp only at HB
  have heq : ∀ W, (Op.equalIn 10000 40 (.agg #[.int .i64 6, .int .i64 0, .int .i64 0, .int .i64 0, .bool false, .string job]) (.agg #[.int .i64 6, .int .i64 0, .int .i64 0, .int .i64 0, .bool false, .string job])).run Tryz.prog W = .ok true W := fun W => (eqOp _ _ _ _ _ _ _ _ _ _ _ _ W).trans (by simp)
  have HN := Lib.hid (fun W => name_any job W hj)
  rw [h] at HN
  clear hj h
  have hS0 : Below w.heap.size w ((w.alloc (.cells #[.int .i64 6, .int .i64 0, .int .i64 0, .int .i64 0, .bool false, .string job] 40)).drew) ∧ w.heap.size < ((w.alloc (.cells #[.int .i64 6, .int .i64 0, .int .i64 0, .int .i64 0, .bool false, .string job] 40)).drew).heap.size ∧ ((w.alloc (.cells #[.int .i64 6, .int .i64 0, .int .i64 0, .int .i64 0, .bool false, .string job] 40)).drew).cell? ⟨w.heap.size, 0, none⟩ = some (.int .i64 6) ∧ ((w.alloc (.cells #[.int .i64 6, .int .i64 0, .int .i64 0, .int .i64 0, .bool false, .string job] 40)).drew).cell? ⟨w.heap.size, 1, none⟩ = some (.int .i64 0) ∧ ((w.alloc (.cells #[.int .i64 6, .int .i64 0, .int .i64 0, .int .i64 0, .bool false, .string job] 40)).drew).cell? ⟨w.heap.size, 2, none⟩ = some (.int .i64 0) ∧ ((w.alloc (.cells #[.int .i64 6, .int .i64 0, .int .i64 0, .int .i64 0, .bool false, .string job] 40)).drew).cell? ⟨w.heap.size, 3, none⟩ = some (.int .i64 0) ∧ ((w.alloc (.cells #[.int .i64 6, .int .i64 0, .int .i64 0, .int .i64 0, .bool false, .string job] 40)).drew).cell? ⟨w.heap.size, 4, none⟩ = some (.bool false) ∧ ((w.alloc (.cells #[.int .i64 6, .int .i64 0, .int .i64 0, .int .i64 0, .bool false, .string job] 40)).drew).cell? ⟨w.heap.size, 5, none⟩ = some (.string job) :=
    ⟨((Below.refl _ w).alloc (Nat.le_refl _) _).trans (below_drewN _ _ 1), by rw [show ((w.alloc (.cells #[.int .i64 6, .int .i64 0, .int .i64 0, .int .i64 0, .bool false, .string job] 40)).drew).heap.size = w.heap.size + 1 from World.size_alloc _ _]; omega, by simp, by simp, by simp, by simp, by simp, by simp⟩
  go_enter Tryz.func29, Tryz.ntmps29
  go_wp2_with fail
  go_region_held3 (fun wx => Below w.heap.size w (wx) ∧ w.heap.size < (wx).heap.size ∧ (wx).cell? ⟨w.heap.size, 0, none⟩ = some (.int .i64 6) ∧ (wx).cell? ⟨w.heap.size, 1, none⟩ = some (.int .i64 0) ∧ (wx).cell? ⟨w.heap.size, 2, none⟩ = some (.int .i64 0) ∧ (wx).cell? ⟨w.heap.size, 3, none⟩ = some (.int .i64 0) ∧ (wx).cell? ⟨w.heap.size, 4, none⟩ = some (.bool false) ∧ (wx).cell? ⟨w.heap.size, 5, none⟩ = some (.string job)) (first | assumption | go_keep)
    (first
      | (go_at_call 39; refine (HB.out _).mono ?_; rintro e w2 ⟨rfl, c2⟩; have k2 := Lx.keep6 (by assumption) c2))
  obtain ⟨hbel, hlt2, c0, c1, c3, c4, c5, c6⟩ := k2
  clear hS0 c2
  go_wp2_with fail
  refine (HN.out _).mono ?_
  rintro e w4 ⟨rfl, rfl⟩
  go_wp2_with fail
  go_ret
  exact ⟨rfl, hbel⟩
set_option maxRecDepth 100000 in
theorem check_name6_false (job : ByteArray) (w : World) (hj : job.size ≤ maxLen) (h : Lx.isName job = false) :
    Calls Tryz.prog 29 #[.agg #[.int .i64 6, .int .i64 0, .int .i64 0, .int .i64 0, .bool false, .string job]] w (CheckIs 15 w) := by
  have HB := Lib.hid (fun W => bare_any ⟨6, 0, 0, 0, false, job⟩ W)
  rw [show Lx.bareV ⟨6, 0, 0, 0, false, job⟩ = ⟨6, 0, 0, 0, false, job⟩ from rfl] at HB
  unfold Lx.OpV.val at HB
  simp only at HB
  have heq : ∀ W, (Op.equalIn 10000 40 (.agg #[.int .i64 6, .int .i64 0, .int .i64 0, .int .i64 0, .bool false, .string job]) (.agg #[.int .i64 6, .int .i64 0, .int .i64 0, .int .i64 0, .bool false, .string job])).run Tryz.prog W = .ok true W := fun W => (eqOp _ _ _ _ _ _ _ _ _ _ _ _ W).trans (by simp)
  have HN := Lib.hid (fun W => name_any job W hj)
  rw [h] at HN
  clear hj h
  have hS0 : Below w.heap.size w ((w.alloc (.cells #[.int .i64 6, .int .i64 0, .int .i64 0, .int .i64 0, .bool false, .string job] 40)).drew) ∧ w.heap.size < ((w.alloc (.cells #[.int .i64 6, .int .i64 0, .int .i64 0, .int .i64 0, .bool false, .string job] 40)).drew).heap.size ∧ ((w.alloc (.cells #[.int .i64 6, .int .i64 0, .int .i64 0, .int .i64 0, .bool false, .string job] 40)).drew).cell? ⟨w.heap.size, 0, none⟩ = some (.int .i64 6) ∧ ((w.alloc (.cells #[.int .i64 6, .int .i64 0, .int .i64 0, .int .i64 0, .bool false, .string job] 40)).drew).cell? ⟨w.heap.size, 1, none⟩ = some (.int .i64 0) ∧ ((w.alloc (.cells #[.int .i64 6, .int .i64 0, .int .i64 0, .int .i64 0, .bool false, .string job] 40)).drew).cell? ⟨w.heap.size, 2, none⟩ = some (.int .i64 0) ∧ ((w.alloc (.cells #[.int .i64 6, .int .i64 0, .int .i64 0, .int .i64 0, .bool false, .string job] 40)).drew).cell? ⟨w.heap.size, 3, none⟩ = some (.int .i64 0) ∧ ((w.alloc (.cells #[.int .i64 6, .int .i64 0, .int .i64 0, .int .i64 0, .bool false, .string job] 40)).drew).cell? ⟨w.heap.size, 4, none⟩ = some (.bool false) ∧ ((w.alloc (.cells #[.int .i64 6, .int .i64 0, .int .i64 0, .int .i64 0, .bool false, .string job] 40)).drew).cell? ⟨w.heap.size, 5, none⟩ = some (.string job) :=
    ⟨((Below.refl _ w).alloc (Nat.le_refl _) _).trans (below_drewN _ _ 1), by rw [show ((w.alloc (.cells #[.int .i64 6, .int .i64 0, .int .i64 0, .int .i64 0, .bool false, .string job] 40)).drew).heap.size = w.heap.size + 1 from World.size_alloc _ _]; omega, by simp, by simp, by simp, by simp, by simp, by simp⟩
  go_enter Tryz.func29, Tryz.ntmps29
  go_wp2_with fail
  go_region_held3 (fun wx => Below w.heap.size w (wx) ∧ w.heap.size < (wx).heap.size ∧ (wx).cell? ⟨w.heap.size, 0, none⟩ = some (.int .i64 6) ∧ (wx).cell? ⟨w.heap.size, 1, none⟩ = some (.int .i64 0) ∧ (wx).cell? ⟨w.heap.size, 2, none⟩ = some (.int .i64 0) ∧ (wx).cell? ⟨w.heap.size, 3, none⟩ = some (.int .i64 0) ∧ (wx).cell? ⟨w.heap.size, 4, none⟩ = some (.bool false) ∧ (wx).cell? ⟨w.heap.size, 5, none⟩ = some (.string job)) (first | assumption | go_keep)
    (first
      | (go_at_call 39; refine (HB.out _).mono ?_; rintro e w2 ⟨rfl, c2⟩; have k2 := Lx.keep6 (by assumption) c2))
  obtain ⟨hbel, hlt2, c0, c1, c3, c4, c5, c6⟩ := k2
  clear hS0 c2
  go_wp2_with fail
  refine (HN.out _).mono ?_
  rintro e w4 ⟨rfl, rfl⟩
  go_wp2_with fail
  go_ret
  exact ⟨rfl, hbel⟩
theorem check_any (o : Lx.OpV) (w : World) (hj : o.job.size ≤ maxLen) : Calls Tryz.prog 29 #[o.val] w (CheckIs (Lx.opErr o) w) := by
  obtain ⟨k, d, t, r, ok, job⟩ := o
  unfold Lx.OpV.val
  simp only at hj ⊢
  by_cases hk : k < 1 ∨ 6 < k
  · have : Lx.opErr ⟨k, d, t, r, ok, job⟩ = 2 := by unfold Lx.opErr; rw [if_pos hk]
    rw [this]; exact check_out k d t r ok job w hk
  by_cases hb : Lx.bareB ⟨k, d, t, r, ok, job⟩ = false
  · have : Lx.opErr ⟨k, d, t, r, ok, job⟩ = 2 := by unfold Lx.opErr; rw [if_neg hk, if_pos hb]
    rw [this]; exact check_unbare k d t r ok job w (by omega) (by omega) hb
  have hb' : Lx.bareB ⟨k, d, t, r, ok, job⟩ = true := by simpa using hb
  unfold Lx.bareB at hb'
  unfold Lx.opErr
  rw [if_neg hk, if_neg hb]
  simp only at hb' ⊢
  by_cases h1 : k = 1
  · subst h1
    simp at hb'
    obtain ⟨⟨⟨rfl, rfl⟩, rfl⟩, hj'⟩ := hb'
    have hj2 : job = ⟨#[]⟩ := hj'
    subst hj2
    rw [if_pos rfl]
    by_cases a : d < 1
    · rw [if_pos (.inl a)]; exact check_tick_lo d w a
    · by_cases b : 100000 < d
      · rw [if_pos (.inr b)]; exact check_tick_hi d w b
      · rw [if_neg (by omega)]; exact check_tick_ok d w (by omega) (by omega)
  rw [if_neg h1] at hb' ⊢
  by_cases h2 : k = 2
  · subst h2
    simp at hb'
    obtain ⟨⟨⟨rfl, rfl⟩, rfl⟩, hj'⟩ := hb'
    have hj2 : job = ⟨#[]⟩ := hj'
    subst hj2
    rw [if_pos rfl]
    by_cases a : t < 0
    · rw [if_pos (.inl a)]; exact check_jump_lo t w a
    · by_cases b : 253402300799 < t
      · rw [if_pos (.inr b)]; exact check_jump_hi t w b
      · rw [if_neg (by omega)]; exact check_jump_ok t w (by omega) (by omega)
  rw [if_neg h2] at hb' ⊢
  by_cases h3 : k = 3
  · subst h3
    simp at hb'
    obtain ⟨⟨rfl, rfl⟩, hj'⟩ := hb'
    have hj2 : job = ⟨#[]⟩ := hj'
    subst hj2
    rw [if_pos rfl]
    by_cases a : r < 1
    · rw [if_pos a]; exact check_finish_lo r ok w a
    · rw [if_neg a]; exact check_finish_ok r ok w (by omega)
  rw [if_neg h3] at hb' ⊢
  simp at hb'
  obtain ⟨⟨rfl, rfl, rfl⟩, rfl⟩ := hb'
  have hk6 : k = 4 ∨ k = 5 ∨ k = 6 := by omega
  cases hn : Lx.isName job
  · rw [if_pos rfl]
    rcases hk6 with rfl | rfl | rfl
    · exact check_name4_false job w hj hn
    · exact check_name5_false job w hj hn
    · exact check_name6_false job w hj hn
  · rw [if_neg (by decide)]
    rcases hk6 with rfl | rfl | rfl
    · exact check_name4_true job w hj hn
    · exact check_name5_true job w hj hn
    · exact check_name6_true job w hj hn
end Go.Proofs.YtnnkamfpcodnnaaGreatDoor
