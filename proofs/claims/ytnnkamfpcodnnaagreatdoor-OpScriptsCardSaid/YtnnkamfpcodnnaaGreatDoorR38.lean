/- The walks of the reference of operations: which are valid. The walks of the reference of operations: texts written and read. The walks of the reference of operations: texts read. -/
import Derived.Test.YtnnkamfpcodnnaaGreatDoorOpX
import Derived.Test.YtnnkamfpcodnnaaGreatDoorR2
import Derived.Test.YtnnkamfpcodnnaaGreatDoorNumberP
namespace Go.Proofs.YtnnkamfpcodnnaaGreatDoor
open Go.RowKit

theorem Lx.beqd (x : Int) : (x == 0) = decide (x = 0) := by rw [Bool.eq_iff_iff, beq_iff_eq, decide_eq_true_iff]
theorem Lx.nilEq (s : ByteArray) : (s.toList == (⟨#[]⟩ : ByteArray).toList) = decide (s.size = 0) := by
  rw [Lib.toList_data, Lib.toList_data, Bool.eq_iff_iff, beq_iff_eq, decide_eq_true_iff, Lib.size_eq]
  exact ⟨fun h => by rw [h]; rfl, fun h => List.eq_nil_of_length_eq_zero h⟩
set_option maxRecDepth 100000 in
set_option maxHeartbeats 1600000 in
theorem r38_out (k d t r : Int) (ok : Bool) (job : ByteArray) (w : World) (h : k < 1 ∨ 6 < k) :
    Calls Tryz.prog 36 #[.agg #[.int .i64 k, .int .i64 d, .int .i64 t, .int .i64 r, .bool ok, .string job]] w (CheckIs (Lx.opErr ⟨k, d, t, r, ok, job⟩) w) := by
  have h1 : (k == 1) = false := by rw [beq_eq_false_iff_ne]; omega
  have h2 : (k == 2) = false := by rw [beq_eq_false_iff_ne]; omega
  have h3 : (k == 3) = false := by rw [beq_eq_false_iff_ne]; omega
  have h4 : (k == 4) = false := by rw [beq_eq_false_iff_ne]; omega
  have h5 : (k == 5) = false := by rw [beq_eq_false_iff_ne]; omega
  have h6 : (k == 6) = false := by rw [beq_eq_false_iff_ne]; omega
  have e : Lx.opErr ⟨k, d, t, r, ok, job⟩ = 2 := by unfold Lx.opErr; simp [h]
  have E := Lib.hid e
  clear e 
  go_enter Tryz.func36, Tryz.ntmps36
  go_wp2_with fail
  go_ret
  exact ⟨Lx.ret_int E.out.symm, by first | exact Below.refl _ _ | exact (Below.refl _ _).alloc (Nat.le_refl _) _ | exact ((Below.refl _ _).alloc (Nat.le_refl _) _).alloc (by simp) _⟩
set_option maxRecDepth 100000 in
set_option maxHeartbeats 1600000 in
theorem r38_tick (d t r : Int) (ok : Bool) (job : ByteArray) (w : World) :
    Calls Tryz.prog 36 #[.agg #[.int .i64 1, .int .i64 d, .int .i64 t, .int .i64 r, .bool ok, .string job]] w (CheckIs (Lx.opErr ⟨1, d, t, r, ok, job⟩) w) := by
  have hb : ∀ W, (Op.equalIn 10000 40 (.agg #[.int .i64 0, .int .i64 0, .int .i64 t, .int .i64 r, .bool ok, .string job]) (.agg #[.int .i64 0, .int .i64 0, .int .i64 0, .int .i64 0, .bool false, .string ⟨#[]⟩])).run Tryz.prog W = .ok (Lx.bareB ⟨1, d, t, r, ok, job⟩) W := fun W => (eqOp _ _ _ _ _ _ _ _ _ _ _ _ W).trans (by
    congr 1
    rw [Lx.nilEq]
    unfold Lx.bareB
    simp only [if_true]
    cases ok <;> simp [Bool.and_assoc, Lx.beqd])
  obtain ⟨b, hbb⟩ : ∃ b, Lx.bareB ⟨1, d, t, r, ok, job⟩ = b := ⟨_, rfl⟩
  rw [hbb] at hb
  by_cases hd : d < 1 ∨ 100000 < d
  · rcases hd with hd | hd
    · have g1 : decide (d < 1) = true := decide_eq_true hd
      have e : Lx.opErr ⟨1, d, t, r, ok, job⟩ = 2 := by unfold Lx.opErr; simp [hd]
      have E := Lib.hid e
      clear e hbb
      go_enter Tryz.func36, Tryz.ntmps36
      go_wp2_with fail
      go_ret
      exact ⟨Lx.ret_int E.out.symm, by first | exact Below.refl _ _ | exact (Below.refl _ _).alloc (Nat.le_refl _) _ | exact ((Below.refl _ _).alloc (Nat.le_refl _) _).alloc (by simp) _⟩
    · have g1 : decide (d < 1) = false := decide_eq_false (by omega)
      have g2 : decide (100000 < d) = true := decide_eq_true hd
      have e : Lx.opErr ⟨1, d, t, r, ok, job⟩ = 2 := by unfold Lx.opErr; simp [hd]
      have E := Lib.hid e
      clear e hbb
      go_enter Tryz.func36, Tryz.ntmps36
      go_wp2_with fail
      go_ret
      exact ⟨Lx.ret_int E.out.symm, by first | exact Below.refl _ _ | exact (Below.refl _ _).alloc (Nat.le_refl _) _ | exact ((Below.refl _ _).alloc (Nat.le_refl _) _).alloc (by simp) _⟩
  · have g1 : decide (d < 1) = false := decide_eq_false (by omega)
    have g2 : decide (100000 < d) = false := decide_eq_false (by omega)
    cases b
    · have e : Lx.opErr ⟨1, d, t, r, ok, job⟩ = 2 := by unfold Lx.opErr; simp [hbb]
      have E := Lib.hid e
      clear e hbb hd
      go_enter Tryz.func36, Tryz.ntmps36
      go_wp2_with fail
      go_ret
      exact ⟨Lx.ret_int E.out.symm, by first | exact Below.refl _ _ | exact (Below.refl _ _).alloc (Nat.le_refl _) _ | exact ((Below.refl _ _).alloc (Nat.le_refl _) _).alloc (by simp) _⟩
    · have e : Lx.opErr ⟨1, d, t, r, ok, job⟩ = 0 := by unfold Lx.opErr; simp [hbb, hd]
      have E := Lib.hid e
      clear e hbb hd
      go_enter Tryz.func36, Tryz.ntmps36
      go_wp2_with fail
      go_ret
      exact ⟨Lx.ret_int E.out.symm, by first | exact Below.refl _ _ | exact (Below.refl _ _).alloc (Nat.le_refl _) _ | exact ((Below.refl _ _).alloc (Nat.le_refl _) _).alloc (by simp) _⟩
set_option maxRecDepth 100000 in
set_option maxHeartbeats 1600000 in
theorem r38_jump (d t r : Int) (ok : Bool) (job : ByteArray) (w : World) :
    Calls Tryz.prog 36 #[.agg #[.int .i64 2, .int .i64 d, .int .i64 t, .int .i64 r, .bool ok, .string job]] w (CheckIs (Lx.opErr ⟨2, d, t, r, ok, job⟩) w) := by
  have hb : ∀ W, (Op.equalIn 10000 40 (.agg #[.int .i64 0, .int .i64 d, .int .i64 0, .int .i64 r, .bool ok, .string job]) (.agg #[.int .i64 0, .int .i64 0, .int .i64 0, .int .i64 0, .bool false, .string ⟨#[]⟩])).run Tryz.prog W = .ok (Lx.bareB ⟨2, d, t, r, ok, job⟩) W := fun W => (eqOp _ _ _ _ _ _ _ _ _ _ _ _ W).trans (by
    congr 1
    rw [Lx.nilEq]
    unfold Lx.bareB
    simp only [show ¬ ((2 : Int) = 1) by decide, if_false, if_true]
    cases ok <;> simp [Bool.and_assoc, Lx.beqd])
  obtain ⟨b, hbb⟩ : ∃ b, Lx.bareB ⟨2, d, t, r, ok, job⟩ = b := ⟨_, rfl⟩
  rw [hbb] at hb
  cases b
  · have e : Lx.opErr ⟨2, d, t, r, ok, job⟩ = 2 := by unfold Lx.opErr; simp [hbb]
    have E := Lib.hid e
    clear e hbb
    go_enter Tryz.func36, Tryz.ntmps36
    go_wp2_with fail
    go_ret
    exact ⟨Lx.ret_int E.out.symm, by first | exact Below.refl _ _ | exact (Below.refl _ _).alloc (Nat.le_refl _) _ | exact ((Below.refl _ _).alloc (Nat.le_refl _) _).alloc (by simp) _⟩
  · by_cases ht : t < 0 ∨ 253402300799 < t
    · rcases ht with ht | ht
      · have g1 : decide (t < 0) = true := decide_eq_true ht
        have e : Lx.opErr ⟨2, d, t, r, ok, job⟩ = 14 := by unfold Lx.opErr; simp [hbb, ht]
        have E := Lib.hid e
        clear e hbb
        go_enter Tryz.func36, Tryz.ntmps36
        go_wp2_with fail
        go_ret
        exact ⟨Lx.ret_int E.out.symm, by first | exact Below.refl _ _ | exact (Below.refl _ _).alloc (Nat.le_refl _) _ | exact ((Below.refl _ _).alloc (Nat.le_refl _) _).alloc (by simp) _⟩
      · have g1 : decide (t < 0) = false := decide_eq_false (by omega)
        have g2 : decide (253402300799 < t) = true := decide_eq_true ht
        have e : Lx.opErr ⟨2, d, t, r, ok, job⟩ = 14 := by unfold Lx.opErr; simp [hbb, ht]
        have E := Lib.hid e
        clear e hbb
        go_enter Tryz.func36, Tryz.ntmps36
        go_wp2_with fail
        go_ret
        exact ⟨Lx.ret_int E.out.symm, by first | exact Below.refl _ _ | exact (Below.refl _ _).alloc (Nat.le_refl _) _ | exact ((Below.refl _ _).alloc (Nat.le_refl _) _).alloc (by simp) _⟩
    · have g1 : decide (t < 0) = false := decide_eq_false (by omega)
      have g2 : decide (253402300799 < t) = false := decide_eq_false (by omega)
      have e : Lx.opErr ⟨2, d, t, r, ok, job⟩ = 0 := by unfold Lx.opErr; simp [hbb, ht]
      have E := Lib.hid e
      clear e hbb ht
      go_enter Tryz.func36, Tryz.ntmps36
      go_wp2_with fail
      go_ret
      exact ⟨Lx.ret_int E.out.symm, by first | exact Below.refl _ _ | exact (Below.refl _ _).alloc (Nat.le_refl _) _ | exact ((Below.refl _ _).alloc (Nat.le_refl _) _).alloc (by simp) _⟩
set_option maxRecDepth 100000 in
set_option maxHeartbeats 1600000 in
theorem r38_finish (d t r : Int) (ok : Bool) (job : ByteArray) (w : World) :
    Calls Tryz.prog 36 #[.agg #[.int .i64 3, .int .i64 d, .int .i64 t, .int .i64 r, .bool ok, .string job]] w (CheckIs (Lx.opErr ⟨3, d, t, r, ok, job⟩) w) := by
  have hb : ∀ W, (Op.equalIn 10000 40 (.agg #[.int .i64 0, .int .i64 d, .int .i64 t, .int .i64 0, .bool false, .string job]) (.agg #[.int .i64 0, .int .i64 0, .int .i64 0, .int .i64 0, .bool false, .string ⟨#[]⟩])).run Tryz.prog W = .ok (Lx.bareB ⟨3, d, t, r, ok, job⟩) W := fun W => (eqOp _ _ _ _ _ _ _ _ _ _ _ _ W).trans (by
    congr 1
    rw [Lx.nilEq]
    unfold Lx.bareB
    simp only [show ¬ ((3 : Int) = 1) by decide, show ¬ ((3 : Int) = 2) by decide, if_false, if_true]
    simp [Bool.and_assoc, Lx.beqd])
  obtain ⟨b, hbb⟩ : ∃ b, Lx.bareB ⟨3, d, t, r, ok, job⟩ = b := ⟨_, rfl⟩
  rw [hbb] at hb
  by_cases hr : r < 1
  · have g1 : decide (r < 1) = true := decide_eq_true hr
    have e : Lx.opErr ⟨3, d, t, r, ok, job⟩ = 2 := by unfold Lx.opErr; simp [hr]
    have E := Lib.hid e
    clear e hbb
    go_enter Tryz.func36, Tryz.ntmps36
    go_wp2_with fail
    go_ret
    exact ⟨Lx.ret_int E.out.symm, by first | exact Below.refl _ _ | exact (Below.refl _ _).alloc (Nat.le_refl _) _ | exact ((Below.refl _ _).alloc (Nat.le_refl _) _).alloc (by simp) _⟩
  · have g1 : decide (r < 1) = false := decide_eq_false hr
    cases b
    · have e : Lx.opErr ⟨3, d, t, r, ok, job⟩ = 2 := by unfold Lx.opErr; simp [hbb]
      have E := Lib.hid e
      clear e hbb hr
      go_enter Tryz.func36, Tryz.ntmps36
      go_wp2_with fail
      go_ret
      exact ⟨Lx.ret_int E.out.symm, by first | exact Below.refl _ _ | exact (Below.refl _ _).alloc (Nat.le_refl _) _ | exact ((Below.refl _ _).alloc (Nat.le_refl _) _).alloc (by simp) _⟩
    · have e : Lx.opErr ⟨3, d, t, r, ok, job⟩ = 0 := by unfold Lx.opErr; simp [hbb, hr]
      have E := Lib.hid e
      clear e hbb hr
      go_enter Tryz.func36, Tryz.ntmps36
      go_wp2_with fail
      go_ret
      exact ⟨Lx.ret_int E.out.symm, by first | exact Below.refl _ _ | exact (Below.refl _ _).alloc (Nat.le_refl _) _ | exact ((Below.refl _ _).alloc (Nat.le_refl _) _).alloc (by simp) _⟩
set_option maxRecDepth 100000 in
set_option maxHeartbeats 1600000 in
theorem r38_name4 (d t r : Int) (ok : Bool) (job : ByteArray) (w : World) (hj : job.size ≤ maxLen) :
    Calls Tryz.prog 36 #[.agg #[.int .i64 4, .int .i64 d, .int .i64 t, .int .i64 r, .bool ok, .string job]] w (CheckIs (Lx.opErr ⟨4, d, t, r, ok, job⟩) w) := by
  have HN := Lib.hid (fun W => ref_name_any job W hj)
  have hb : ∀ W, (Op.equalIn 10000 40 (.agg #[.int .i64 0, .int .i64 d, .int .i64 t, .int .i64 r, .bool ok, .string ⟨#[]⟩]) (.agg #[.int .i64 0, .int .i64 0, .int .i64 0, .int .i64 0, .bool false, .string ⟨#[]⟩])).run Tryz.prog W = .ok (Lx.bareB ⟨4, d, t, r, ok, job⟩) W := fun W => (eqOp _ _ _ _ _ _ _ _ _ _ _ _ W).trans (by
    congr 1
    rw [show ((⟨#[]⟩ : ByteArray).toList == (⟨#[]⟩ : ByteArray).toList) = true by simp]
    unfold Lx.bareB
    simp only [show ¬ ((4 : Int) = 1) by decide, show ¬ ((4 : Int) = 2) by decide, show ¬ ((4 : Int) = 3) by decide, if_false]
    cases ok <;> simp [Lx.beqd])
  obtain ⟨b, hbb⟩ : ∃ b, Lx.bareB ⟨4, d, t, r, ok, job⟩ = b := ⟨_, rfl⟩
  rw [hbb] at hb
  cases b
  · have e : Lx.opErr ⟨4, d, t, r, ok, job⟩ = 2 := by unfold Lx.opErr; simp [hbb]
    have E := Lib.hid e
    clear e hbb
    go_enter Tryz.func36, Tryz.ntmps36
    go_wp2_with fail
    go_ret
    exact ⟨Lx.ret_int E.out.symm, by first | exact Below.refl _ _ | exact (Below.refl _ _).alloc (Nat.le_refl _) _ | exact ((Below.refl _ _).alloc (Nat.le_refl _) _).alloc (by simp) _⟩
  · cases hn : Lx.isName job
    all_goals rw [hn] at HN
    · have e : Lx.opErr ⟨4, d, t, r, ok, job⟩ = 15 := by unfold Lx.opErr; simp [hbb, hn]
      have E := Lib.hid e
      clear e hbb hn hj
      go_enter Tryz.func36, Tryz.ntmps36
      go_wp2_with fail
      refine (HN.out _).mono ?_
      rintro e w' ⟨rfl, rfl⟩
      go_wp2_with fail
      go_ret
      exact ⟨Lx.ret_int E.out.symm, by first | exact Below.refl _ _ | exact (Below.refl _ _).alloc (Nat.le_refl _) _ | exact ((Below.refl _ _).alloc (Nat.le_refl _) _).alloc (by simp) _⟩
    · have e : Lx.opErr ⟨4, d, t, r, ok, job⟩ = 0 := by unfold Lx.opErr; simp [hbb, hn]
      have E := Lib.hid e
      clear e hbb hn hj
      go_enter Tryz.func36, Tryz.ntmps36
      go_wp2_with fail
      refine (HN.out _).mono ?_
      rintro e w' ⟨rfl, rfl⟩
      go_wp2_with fail
      go_ret
      exact ⟨Lx.ret_int E.out.symm, by first | exact Below.refl _ _ | exact (Below.refl _ _).alloc (Nat.le_refl _) _ | exact ((Below.refl _ _).alloc (Nat.le_refl _) _).alloc (by simp) _⟩
set_option maxRecDepth 100000 in
set_option maxHeartbeats 1600000 in
theorem r38_name5 (d t r : Int) (ok : Bool) (job : ByteArray) (w : World) (hj : job.size ≤ maxLen) :
    Calls Tryz.prog 36 #[.agg #[.int .i64 5, .int .i64 d, .int .i64 t, .int .i64 r, .bool ok, .string job]] w (CheckIs (Lx.opErr ⟨5, d, t, r, ok, job⟩) w) := by
  have HN := Lib.hid (fun W => ref_name_any job W hj)
  have hb : ∀ W, (Op.equalIn 10000 40 (.agg #[.int .i64 0, .int .i64 d, .int .i64 t, .int .i64 r, .bool ok, .string ⟨#[]⟩]) (.agg #[.int .i64 0, .int .i64 0, .int .i64 0, .int .i64 0, .bool false, .string ⟨#[]⟩])).run Tryz.prog W = .ok (Lx.bareB ⟨5, d, t, r, ok, job⟩) W := fun W => (eqOp _ _ _ _ _ _ _ _ _ _ _ _ W).trans (by
    congr 1
    rw [show ((⟨#[]⟩ : ByteArray).toList == (⟨#[]⟩ : ByteArray).toList) = true by simp]
    unfold Lx.bareB
    simp only [show ¬ ((5 : Int) = 1) by decide, show ¬ ((5 : Int) = 2) by decide, show ¬ ((5 : Int) = 3) by decide, if_false]
    cases ok <;> simp [Lx.beqd])
  obtain ⟨b, hbb⟩ : ∃ b, Lx.bareB ⟨5, d, t, r, ok, job⟩ = b := ⟨_, rfl⟩
  rw [hbb] at hb
  cases b
  · have e : Lx.opErr ⟨5, d, t, r, ok, job⟩ = 2 := by unfold Lx.opErr; simp [hbb]
    have E := Lib.hid e
    clear e hbb
    go_enter Tryz.func36, Tryz.ntmps36
    go_wp2_with fail
    go_ret
    exact ⟨Lx.ret_int E.out.symm, by first | exact Below.refl _ _ | exact (Below.refl _ _).alloc (Nat.le_refl _) _ | exact ((Below.refl _ _).alloc (Nat.le_refl _) _).alloc (by simp) _⟩
  · cases hn : Lx.isName job
    all_goals rw [hn] at HN
    · have e : Lx.opErr ⟨5, d, t, r, ok, job⟩ = 15 := by unfold Lx.opErr; simp [hbb, hn]
      have E := Lib.hid e
      clear e hbb hn hj
      go_enter Tryz.func36, Tryz.ntmps36
      go_wp2_with fail
      refine (HN.out _).mono ?_
      rintro e w' ⟨rfl, rfl⟩
      go_wp2_with fail
      go_ret
      exact ⟨Lx.ret_int E.out.symm, by first | exact Below.refl _ _ | exact (Below.refl _ _).alloc (Nat.le_refl _) _ | exact ((Below.refl _ _).alloc (Nat.le_refl _) _).alloc (by simp) _⟩
    · have e : Lx.opErr ⟨5, d, t, r, ok, job⟩ = 0 := by unfold Lx.opErr; simp [hbb, hn]
      have E := Lib.hid e
      clear e hbb hn hj
      go_enter Tryz.func36, Tryz.ntmps36
      go_wp2_with fail
      refine (HN.out _).mono ?_
      rintro e w' ⟨rfl, rfl⟩
      go_wp2_with fail
      go_ret
      exact ⟨Lx.ret_int E.out.symm, by first | exact Below.refl _ _ | exact (Below.refl _ _).alloc (Nat.le_refl _) _ | exact ((Below.refl _ _).alloc (Nat.le_refl _) _).alloc (by simp) _⟩
set_option maxRecDepth 100000 in
set_option maxHeartbeats 1600000 in
theorem r38_name6 (d t r : Int) (ok : Bool) (job : ByteArray) (w : World) (hj : job.size ≤ maxLen) :
    Calls Tryz.prog 36 #[.agg #[.int .i64 6, .int .i64 d, .int .i64 t, .int .i64 r, .bool ok, .string job]] w (CheckIs (Lx.opErr ⟨6, d, t, r, ok, job⟩) w) := by
  have HN := Lib.hid (fun W => ref_name_any job W hj)
  have hb : ∀ W, (Op.equalIn 10000 40 (.agg #[.int .i64 0, .int .i64 d, .int .i64 t, .int .i64 r, .bool ok, .string ⟨#[]⟩]) (.agg #[.int .i64 0, .int .i64 0, .int .i64 0, .int .i64 0, .bool false, .string ⟨#[]⟩])).run Tryz.prog W = .ok (Lx.bareB ⟨6, d, t, r, ok, job⟩) W := fun W => (eqOp _ _ _ _ _ _ _ _ _ _ _ _ W).trans (by
    congr 1
    rw [show ((⟨#[]⟩ : ByteArray).toList == (⟨#[]⟩ : ByteArray).toList) = true by simp]
    unfold Lx.bareB
    simp only [show ¬ ((6 : Int) = 1) by decide, show ¬ ((6 : Int) = 2) by decide, show ¬ ((6 : Int) = 3) by decide, if_false]
    cases ok <;> simp [Lx.beqd])
  obtain ⟨b, hbb⟩ : ∃ b, Lx.bareB ⟨6, d, t, r, ok, job⟩ = b := ⟨_, rfl⟩
  rw [hbb] at hb
  cases b
  · have e : Lx.opErr ⟨6, d, t, r, ok, job⟩ = 2 := by unfold Lx.opErr; simp [hbb]
    have E := Lib.hid e
    clear e hbb
    go_enter Tryz.func36, Tryz.ntmps36
    go_wp2_with fail
    go_ret
    exact ⟨Lx.ret_int E.out.symm, by first | exact Below.refl _ _ | exact (Below.refl _ _).alloc (Nat.le_refl _) _ | exact ((Below.refl _ _).alloc (Nat.le_refl _) _).alloc (by simp) _⟩
  · cases hn : Lx.isName job
    all_goals rw [hn] at HN
    · have e : Lx.opErr ⟨6, d, t, r, ok, job⟩ = 15 := by unfold Lx.opErr; simp [hbb, hn]
      have E := Lib.hid e
      clear e hbb hn hj
      go_enter Tryz.func36, Tryz.ntmps36
      go_wp2_with fail
      refine (HN.out _).mono ?_
      rintro e w' ⟨rfl, rfl⟩
      go_wp2_with fail
      go_ret
      exact ⟨Lx.ret_int E.out.symm, by first | exact Below.refl _ _ | exact (Below.refl _ _).alloc (Nat.le_refl _) _ | exact ((Below.refl _ _).alloc (Nat.le_refl _) _).alloc (by simp) _⟩
    · have e : Lx.opErr ⟨6, d, t, r, ok, job⟩ = 0 := by unfold Lx.opErr; simp [hbb, hn]
      have E := Lib.hid e
      clear e hbb hn hj
      go_enter Tryz.func36, Tryz.ntmps36
      go_wp2_with fail
      refine (HN.out _).mono ?_
      rintro e w' ⟨rfl, rfl⟩
      go_wp2_with fail
      go_ret
      exact ⟨Lx.ret_int E.out.symm, by first | exact Below.refl _ _ | exact (Below.refl _ _).alloc (Nat.le_refl _) _ | exact ((Below.refl _ _).alloc (Nat.le_refl _) _).alloc (by simp) _⟩
theorem r38_check (o : Lx.OpV) (w : World) (hj : o.job.size ≤ maxLen) : Calls Tryz.prog 36 #[o.val] w (CheckIs (Lx.opErr o) w) := by
  obtain ⟨k, d, t, r, ok, job⟩ := o
  by_cases h : k < 1 ∨ 6 < k
  · exact r38_out k d t r ok job w h
  · have : k = 1 ∨ k = 2 ∨ k = 3 ∨ k = 4 ∨ k = 5 ∨ k = 6 := by omega
    rcases this with rfl | rfl | rfl | rfl | rfl | rfl
    · exact r38_tick d t r ok job w
    · exact r38_jump d t r ok job w
    · exact r38_finish d t r ok job w
    · exact r38_name4 d t r ok job w hj
    · exact r38_name5 d t r ok job w hj
    · exact r38_name6 d t r ok job w hj
end Go.Proofs.YtnnkamfpcodnnaaGreatDoor
namespace Go.Proofs.YtnnkamfpcodnnaaGreatDoor
open Go.RowKit

namespace Lx
theorem nil_max : (⟨#[]⟩ : ByteArray).size ≤ maxLen := by unfold maxLen; decide
def wB (k : Int) : ByteArray := ⟨(word k).toArray⟩
end Lx
def RPr (o : Lx.OpV) (w : World) (e : Ending) (w' : World) : Prop := e = .returned (.tuple #[.string ⟨(Lx.opText o).toArray⟩, .int .i64 0]) ∧ Below w.heap.size w w'
theorem r38_print_bad (o : Lx.OpV) (w : World) (hj : o.job.size ≤ maxLen) (h : Lx.opErr o ≠ 0) :
    Calls Tryz.prog 28 #[o.val] w fun e w' => e = .returned (.tuple #[.string ⟨#[]⟩, .int .i64 (Lx.opErr o)]) ∧ Below w.heap.size w w' := by
  have HC := Lib.hid (fun W => r38_check o W hj)
  unfold CheckIs at HC
  generalize Lx.opErr o = x at *
  have hx : (x != 0) = true := by rw [bne_iff_ne]; exact h
  obtain ⟨k, d, t, r, ok, job⟩ := o
  unfold Lx.OpV.val at HC ⊢
  clear h hj
  go_enter Tryz.func28, Tryz.ntmps28
  go_wp2_with fail
  refine (HC.out _).mono ?_
  rintro e w1 ⟨rfl, c1⟩
  have hb := Lx.boxBelow c1
  go_wp2_with fail
  go_ret2
  exact ⟨rfl, hb⟩
set_option maxRecDepth 100000 in
set_option maxHeartbeats 1600000 in
theorem r38_print_1 (d : Int) (h0 : 1 ≤ d) (h1 : d ≤ 100000) (w : World) :
    Calls Tryz.prog 28 #[.agg #[.int .i64 1, .int .i64 d, .int .i64 0, .int .i64 0, .bool false, .string ⟨#[]⟩]] w (RPr ⟨1, d, 0, 0, false, ⟨#[]⟩⟩ w) := by
  have HC := Lib.hid (fun W => r38_check ⟨1, d, 0, 0, false, ⟨#[]⟩⟩ W Lx.nil_max)
  unfold CheckIs at HC
  rw [Lx.opErr_tick h0 h1] at HC
  unfold Lx.OpV.val at HC
  have HD := Lib.hid (fun W => ref_digits_any d W (by omega) (by omega))
  obtain ⟨G, hG⟩ : ∃ G : ByteArray, G = ⟨(Lib.itoa d).toArray⟩ := ⟨_, rfl⟩
  rw [← hG] at HD
  have hGs : G.size ≤ 20 := by rw [hG, Lib.size_eq]; exact Lx.itoa_len d (by omega) (by omega)
  have hfin : (⟨#[116, 105, 99, 107, 32]⟩ : ByteArray) ++ G = ⟨(Lx.opText ⟨1, d, 0, 0, false, ⟨#[]⟩⟩).toArray⟩ := by rw [hG]; rfl
  have Hfin := Lib.hid hfin
  have hz : (⟨#[116, 105, 99, 107, 32]⟩ : ByteArray).size = 5 := rfl
  have y1 : ¬ (9223372036854775807 < (⟨#[116, 105, 99, 107, 32]⟩ : ByteArray).size + G.size) := by omega
  have y2 : ¬ (9223372036854775807 < 5 + G.size) := by omega
  clear hfin hG hz hGs
  go_enter Tryz.func28, Tryz.ntmps28
  go_wp2_with fail
  refine (HC.out _).mono ?_
  rintro e w1 ⟨rfl, c1⟩
  have d0 := Lx.boxCell c1 0 _ rfl
  have d1 := Lx.boxCell c1 1 _ rfl
  have d2 := Lx.boxCell c1 2 _ rfl
  have d3 := Lx.boxCell c1 3 _ rfl
  have d4 := Lx.boxCell c1 4 _ rfl
  have d5 := Lx.boxCell c1 5 _ rfl
  have hb := Lx.boxBelow c1
  have HB := Lib.hid hb
  clear c1 hb
  go_wp2_with fail
  refine (HD.out _).mono ?_
  rintro e w2 ⟨rfl, c2⟩
  go_wp2_with fail
  go_ret2
  exact ⟨by rw [← Hfin.out]; rfl, HB.out.trans (c2.mono HB.out.size)⟩
set_option maxRecDepth 100000 in
set_option maxHeartbeats 1600000 in
theorem r38_print_2 (t : Int) (h0 : 0 ≤ t) (h1 : t ≤ 253402300799) (w : World) :
    Calls Tryz.prog 28 #[.agg #[.int .i64 2, .int .i64 0, .int .i64 t, .int .i64 0, .bool false, .string ⟨#[]⟩]] w (RPr ⟨2, 0, t, 0, false, ⟨#[]⟩⟩ w) := by
  have HC := Lib.hid (fun W => r38_check ⟨2, 0, t, 0, false, ⟨#[]⟩⟩ W Lx.nil_max)
  unfold CheckIs at HC
  rw [Lx.opErr_jump h0 h1] at HC
  unfold Lx.OpV.val at HC
  have HD := Lib.hid (fun W => r2_text t W h0 h1)
  obtain ⟨G, hG⟩ : ∃ G : ByteArray, G = ⟨(Lx.tmText t).toArray⟩ := ⟨_, rfl⟩
  rw [← hG] at HD
  have hGs : G.size ≤ 20 := by rw [hG, Lib.size_eq]; have := (Lx.tmText_noLF h0 h1).2; show (Lx.tmText t).length ≤ 20; omega
  have hfin : (⟨#[106, 117, 109, 112, 32]⟩ : ByteArray) ++ G = ⟨(Lx.opText ⟨2, 0, t, 0, false, ⟨#[]⟩⟩).toArray⟩ := by rw [hG]; rfl
  have Hfin := Lib.hid hfin
  have hz : (⟨#[106, 117, 109, 112, 32]⟩ : ByteArray).size = 5 := rfl
  have y1 : ¬ (9223372036854775807 < (⟨#[106, 117, 109, 112, 32]⟩ : ByteArray).size + G.size) := by omega
  have y2 : ¬ (9223372036854775807 < 5 + G.size) := by omega
  clear hfin hG hz hGs
  go_enter Tryz.func28, Tryz.ntmps28
  go_wp2_with fail
  refine (HC.out _).mono ?_
  rintro e w1 ⟨rfl, c1⟩
  have d0 := Lx.boxCell c1 0 _ rfl
  have d1 := Lx.boxCell c1 1 _ rfl
  have d2 := Lx.boxCell c1 2 _ rfl
  have d3 := Lx.boxCell c1 3 _ rfl
  have d4 := Lx.boxCell c1 4 _ rfl
  have d5 := Lx.boxCell c1 5 _ rfl
  have hb := Lx.boxBelow c1
  have HB := Lib.hid hb
  clear c1 hb
  go_wp2_with fail
  refine (HD.out _).mono ?_
  rintro e w2 ⟨rfl, c2⟩
  go_wp2_with fail
  go_ret2
  exact ⟨by rw [← Hfin.out]; rfl, HB.out.trans (c2.mono HB.out.size)⟩
set_option maxRecDepth 100000 in
set_option maxHeartbeats 1600000 in
theorem r38_print_3true (r : Int) (h0 : 1 ≤ r) (h1 : r ≤ 9223372036854775807) (w : World) :
    Calls Tryz.prog 28 #[.agg #[.int .i64 3, .int .i64 0, .int .i64 0, .int .i64 r, .bool true, .string ⟨#[]⟩]] w (RPr ⟨3, 0, 0, r, true, ⟨#[]⟩⟩ w) := by
  have HC := Lib.hid (fun W => r38_check ⟨3, 0, 0, r, true, ⟨#[]⟩⟩ W Lx.nil_max)
  unfold CheckIs at HC
  rw [Lx.opErr_finish true h0] at HC
  unfold Lx.OpV.val at HC
  have HD := Lib.hid (fun W => ref_digits_any r W (by omega) (by omega))
  obtain ⟨G, hG⟩ : ∃ G : ByteArray, G = ⟨(Lib.itoa r).toArray⟩ := ⟨_, rfl⟩
  rw [← hG] at HD
  have hGs : G.size ≤ 20 := by rw [hG, Lib.size_eq]; exact Lx.itoa_len r (by omega) (by omega)
  have hfin : (⟨#[102, 105, 110, 105, 115, 104, 32]⟩ : ByteArray) ++ G ++ ⟨#[32, 111, 107]⟩ = ⟨(Lx.opText ⟨3, 0, 0, r, true, ⟨#[]⟩⟩).toArray⟩ := by rw [hG]; apply ByteArray.ext; apply Array.toList_inj.1; simp [ByteArray.data_append, Lx.opText, Lx.word, Lx.restW, Lx.endW]
  have Hfin := Lib.hid hfin
  have hz : (⟨#[102, 105, 110, 105, 115, 104, 32]⟩ : ByteArray).size = 7 := rfl
  have hz2 : (⟨#[32, 111, 107]⟩ : ByteArray).size = 3 := rfl
  have y1 : ¬ (9223372036854775807 < (⟨#[102, 105, 110, 105, 115, 104, 32]⟩ : ByteArray).size + G.size) := by omega
  have y2 : ¬ (9223372036854775807 < 7 + G.size) := by omega
  have y3 : ¬ (9223372036854775807 < (⟨#[102, 105, 110, 105, 115, 104, 32]⟩ : ByteArray).size + G.size + (⟨#[32, 111, 107]⟩ : ByteArray).size) := by omega
  have y4 : ¬ (9223372036854775807 < 7 + G.size + 3) := by omega
  clear hfin hG hz hz2 hGs
  go_enter Tryz.func28, Tryz.ntmps28
  go_wp2_with fail
  refine (HC.out _).mono ?_
  rintro e w1 ⟨rfl, c1⟩
  have d0 := Lx.boxCell c1 0 _ rfl
  have d1 := Lx.boxCell c1 1 _ rfl
  have d2 := Lx.boxCell c1 2 _ rfl
  have d3 := Lx.boxCell c1 3 _ rfl
  have d4 := Lx.boxCell c1 4 _ rfl
  have d5 := Lx.boxCell c1 5 _ rfl
  have hb := Lx.boxBelow c1
  have HB := Lib.hid hb
  have HC1 := Lib.hid c1
  clear c1 hb
  go_wp2_with fail
  refine (HD.out _).mono ?_
  rintro e w2 ⟨rfl, c2⟩
  have e4 := (c2.cell (p := ⟨w.heap.size, 4, none⟩) (Lx.boxLt HC1.out)).trans d4
  have HB2 := Lib.hid (HB.out.trans (c2.mono HB.out.size))
  clear c2 d0 d1 d2 d3 d4 d5
  go_wp2_with fail
  go_ret2
  exact ⟨by rw [← Hfin.out]; rfl, HB2.out⟩
set_option maxRecDepth 100000 in
set_option maxHeartbeats 1600000 in
theorem r38_print_3false (r : Int) (h0 : 1 ≤ r) (h1 : r ≤ 9223372036854775807) (w : World) :
    Calls Tryz.prog 28 #[.agg #[.int .i64 3, .int .i64 0, .int .i64 0, .int .i64 r, .bool false, .string ⟨#[]⟩]] w (RPr ⟨3, 0, 0, r, false, ⟨#[]⟩⟩ w) := by
  have HC := Lib.hid (fun W => r38_check ⟨3, 0, 0, r, false, ⟨#[]⟩⟩ W Lx.nil_max)
  unfold CheckIs at HC
  rw [Lx.opErr_finish false h0] at HC
  unfold Lx.OpV.val at HC
  have HD := Lib.hid (fun W => ref_digits_any r W (by omega) (by omega))
  obtain ⟨G, hG⟩ : ∃ G : ByteArray, G = ⟨(Lib.itoa r).toArray⟩ := ⟨_, rfl⟩
  rw [← hG] at HD
  have hGs : G.size ≤ 20 := by rw [hG, Lib.size_eq]; exact Lx.itoa_len r (by omega) (by omega)
  have hfin : (⟨#[102, 105, 110, 105, 115, 104, 32]⟩ : ByteArray) ++ G ++ ⟨#[32, 102, 97, 105, 108]⟩ = ⟨(Lx.opText ⟨3, 0, 0, r, false, ⟨#[]⟩⟩).toArray⟩ := by rw [hG]; apply ByteArray.ext; apply Array.toList_inj.1; simp [ByteArray.data_append, Lx.opText, Lx.word, Lx.restW, Lx.endW]
  have Hfin := Lib.hid hfin
  have hz : (⟨#[102, 105, 110, 105, 115, 104, 32]⟩ : ByteArray).size = 7 := rfl
  have hz2 : (⟨#[32, 102, 97, 105, 108]⟩ : ByteArray).size = 5 := rfl
  have y1 : ¬ (9223372036854775807 < (⟨#[102, 105, 110, 105, 115, 104, 32]⟩ : ByteArray).size + G.size) := by omega
  have y2 : ¬ (9223372036854775807 < 7 + G.size) := by omega
  have y3 : ¬ (9223372036854775807 < (⟨#[102, 105, 110, 105, 115, 104, 32]⟩ : ByteArray).size + G.size + (⟨#[32, 102, 97, 105, 108]⟩ : ByteArray).size) := by omega
  have y4 : ¬ (9223372036854775807 < 7 + G.size + 5) := by omega
  clear hfin hG hz hz2 hGs
  go_enter Tryz.func28, Tryz.ntmps28
  go_wp2_with fail
  refine (HC.out _).mono ?_
  rintro e w1 ⟨rfl, c1⟩
  have d0 := Lx.boxCell c1 0 _ rfl
  have d1 := Lx.boxCell c1 1 _ rfl
  have d2 := Lx.boxCell c1 2 _ rfl
  have d3 := Lx.boxCell c1 3 _ rfl
  have d4 := Lx.boxCell c1 4 _ rfl
  have d5 := Lx.boxCell c1 5 _ rfl
  have hb := Lx.boxBelow c1
  have HB := Lib.hid hb
  have HC1 := Lib.hid c1
  clear c1 hb
  go_wp2_with fail
  refine (HD.out _).mono ?_
  rintro e w2 ⟨rfl, c2⟩
  have e4 := (c2.cell (p := ⟨w.heap.size, 4, none⟩) (Lx.boxLt HC1.out)).trans d4
  have HB2 := Lib.hid (HB.out.trans (c2.mono HB.out.size))
  clear c2 d0 d1 d2 d3 d4 d5
  go_wp2_with fail
  go_ret2
  exact ⟨by rw [← Hfin.out]; rfl, HB2.out⟩
set_option maxRecDepth 100000 in
set_option maxHeartbeats 1600000 in
theorem r38_print_4 (job : ByteArray) (h0 : Lx.isName job = true) (w : World) :
    Calls Tryz.prog 28 #[.agg #[.int .i64 4, .int .i64 0, .int .i64 0, .int .i64 0, .bool false, .string job]] w (RPr ⟨4, 0, 0, 0, false, job⟩ w) := by
  have HC := Lib.hid (fun W => r38_check ⟨4, 0, 0, 0, false, job⟩ W (show job.size ≤ maxLen by have := (Lx.isName_facts h0).1; unfold maxLen; omega))
  unfold CheckIs at HC
  rw [Lx.opErr_name (by omega) h0] at HC
  unfold Lx.OpV.val at HC
  have hGs := (Lx.isName_facts h0).1
  have hfin : (⟨#[114, 101, 109, 111, 118, 101, 32]⟩ : ByteArray) ++ job = ⟨(Lx.opText ⟨4, 0, 0, 0, false, job⟩).toArray⟩ := by apply ByteArray.ext; apply Array.toList_inj.1; simp [ByteArray.data_append, Lx.opText, Lx.word, Lx.restW]
  have Hfin := Lib.hid hfin
  have hz : (⟨#[114, 101, 109, 111, 118, 101, 32]⟩ : ByteArray).size = 7 := rfl
  have y1 : ¬ (9223372036854775807 < (⟨#[114, 101, 109, 111, 118, 101, 32]⟩ : ByteArray).size + job.size) := by omega
  have y2 : ¬ (9223372036854775807 < 7 + job.size) := by omega
  clear hfin hz hGs h0
  go_enter Tryz.func28, Tryz.ntmps28
  go_wp2_with fail
  refine (HC.out _).mono ?_
  rintro e w1 ⟨rfl, c1⟩
  have d0 := Lx.boxCell c1 0 _ rfl
  have d1 := Lx.boxCell c1 1 _ rfl
  have d2 := Lx.boxCell c1 2 _ rfl
  have d3 := Lx.boxCell c1 3 _ rfl
  have d4 := Lx.boxCell c1 4 _ rfl
  have d5 := Lx.boxCell c1 5 _ rfl
  have hb := Lx.boxBelow c1
  have HB := Lib.hid hb
  clear c1 hb
  go_wp2_with fail
  go_ret2
  exact ⟨by rw [← Hfin.out]; rfl, HB.out⟩
set_option maxRecDepth 100000 in
set_option maxHeartbeats 1600000 in
theorem r38_print_5 (job : ByteArray) (h0 : Lx.isName job = true) (w : World) :
    Calls Tryz.prog 28 #[.agg #[.int .i64 5, .int .i64 0, .int .i64 0, .int .i64 0, .bool false, .string job]] w (RPr ⟨5, 0, 0, 0, false, job⟩ w) := by
  have HC := Lib.hid (fun W => r38_check ⟨5, 0, 0, 0, false, job⟩ W (show job.size ≤ maxLen by have := (Lx.isName_facts h0).1; unfold maxLen; omega))
  unfold CheckIs at HC
  rw [Lx.opErr_name (by omega) h0] at HC
  unfold Lx.OpV.val at HC
  have hGs := (Lx.isName_facts h0).1
  have hfin : (⟨#[116, 114, 105, 112, 32]⟩ : ByteArray) ++ job = ⟨(Lx.opText ⟨5, 0, 0, 0, false, job⟩).toArray⟩ := by apply ByteArray.ext; apply Array.toList_inj.1; simp [ByteArray.data_append, Lx.opText, Lx.word, Lx.restW]
  have Hfin := Lib.hid hfin
  have hz : (⟨#[116, 114, 105, 112, 32]⟩ : ByteArray).size = 5 := rfl
  have y1 : ¬ (9223372036854775807 < (⟨#[116, 114, 105, 112, 32]⟩ : ByteArray).size + job.size) := by omega
  have y2 : ¬ (9223372036854775807 < 5 + job.size) := by omega
  clear hfin hz hGs h0
  go_enter Tryz.func28, Tryz.ntmps28
  go_wp2_with fail
  refine (HC.out _).mono ?_
  rintro e w1 ⟨rfl, c1⟩
  have d0 := Lx.boxCell c1 0 _ rfl
  have d1 := Lx.boxCell c1 1 _ rfl
  have d2 := Lx.boxCell c1 2 _ rfl
  have d3 := Lx.boxCell c1 3 _ rfl
  have d4 := Lx.boxCell c1 4 _ rfl
  have d5 := Lx.boxCell c1 5 _ rfl
  have hb := Lx.boxBelow c1
  have HB := Lib.hid hb
  clear c1 hb
  go_wp2_with fail
  go_ret2
  exact ⟨by rw [← Hfin.out]; rfl, HB.out⟩
set_option maxRecDepth 100000 in
set_option maxHeartbeats 1600000 in
theorem r38_print_6 (job : ByteArray) (h0 : Lx.isName job = true) (w : World) :
    Calls Tryz.prog 28 #[.agg #[.int .i64 6, .int .i64 0, .int .i64 0, .int .i64 0, .bool false, .string job]] w (RPr ⟨6, 0, 0, 0, false, job⟩ w) := by
  have HC := Lib.hid (fun W => r38_check ⟨6, 0, 0, 0, false, job⟩ W (show job.size ≤ maxLen by have := (Lx.isName_facts h0).1; unfold maxLen; omega))
  unfold CheckIs at HC
  rw [Lx.opErr_name (by omega) h0] at HC
  unfold Lx.OpV.val at HC
  have hGs := (Lx.isName_facts h0).1
  have hfin : (⟨#[114, 101, 115, 101, 116, 32]⟩ : ByteArray) ++ job = ⟨(Lx.opText ⟨6, 0, 0, 0, false, job⟩).toArray⟩ := by apply ByteArray.ext; apply Array.toList_inj.1; simp [ByteArray.data_append, Lx.opText, Lx.word, Lx.restW]
  have Hfin := Lib.hid hfin
  have hz : (⟨#[114, 101, 115, 101, 116, 32]⟩ : ByteArray).size = 6 := rfl
  have y1 : ¬ (9223372036854775807 < (⟨#[114, 101, 115, 101, 116, 32]⟩ : ByteArray).size + job.size) := by omega
  have y2 : ¬ (9223372036854775807 < 6 + job.size) := by omega
  clear hfin hz hGs h0
  go_enter Tryz.func28, Tryz.ntmps28
  go_wp2_with fail
  refine (HC.out _).mono ?_
  rintro e w1 ⟨rfl, c1⟩
  have d0 := Lx.boxCell c1 0 _ rfl
  have d1 := Lx.boxCell c1 1 _ rfl
  have d2 := Lx.boxCell c1 2 _ rfl
  have d3 := Lx.boxCell c1 3 _ rfl
  have d4 := Lx.boxCell c1 4 _ rfl
  have d5 := Lx.boxCell c1 5 _ rfl
  have hb := Lx.boxBelow c1
  have HB := Lib.hid hb
  clear c1 hb
  go_wp2_with fail
  go_ret2
  exact ⟨by rw [← Hfin.out]; rfl, HB.out⟩
theorem r38_print_good (o : Lx.OpV) (w : World) (hi : o.In) (h : Lx.opErr o = 0) : Calls Tryz.prog 28 #[o.val] w (RPr o w) := by
  rcases Lx.opErr_zero h with ⟨k, a, b, ho⟩ | ⟨k, a, b, ho⟩ | ⟨k, a, ho⟩ | ⟨k, a, ho⟩
  · rw [ho]; exact r38_print_1 o.d a b w
  · rw [ho]; exact r38_print_2 o.t a b w
  · have hr := hi.2.2.2.2
    rw [ho]
    cases o.ok
    · exact r38_print_3false o.r a hr w
    · exact r38_print_3true o.r a hr w
  · rcases k with k | k | k <;> rw [ho, k]
    · exact r38_print_4 o.job a w
    · exact r38_print_5 o.job a w
    · exact r38_print_6 o.job a w
end Go.Proofs.YtnnkamfpcodnnaaGreatDoor
namespace Go.Proofs.YtnnkamfpcodnnaaGreatDoor
open Go.RowKit

namespace Lx
theorem wB_data (k : Int) : (wB k).data.toList = word k := rfl
theorem wB_size (k : Int) : (wB k).size = (word k).length := by rw [Lib.size_eq, wB_data]
theorem beh_short {s : ByteArray} {k : Int} (h : s.size < (word k).length + 1) : behB s k = false := by
  unfold behB
  rw [Bool.eq_false_iff]
  intro hp
  rw [List.isPrefixOf_iff_prefix] at hp
  have := hp.length_le
  rw [← Lib.size_eq] at this
  simp at this
  omega
theorem beh_eq {s : ByteArray} {k : Int} : ((s.extract 0 ((word k).length + 1)).toList == (wB k ++ ⟨#[32]⟩ : ByteArray).toList) = behB s k := by
  rw [Lib.toList_data, Lib.toList_data, ext_data, Bool.eq_iff_iff, beq_iff_eq]
  unfold behB
  rw [List.isPrefixOf_iff_prefix, List.prefix_iff_eq_take]
  have e : (wB k ++ ⟨#[32]⟩ : ByteArray).data.toList = word k ++ [32] := by rw [ByteArray.data_append, Array.toList_append, wB_data]
  rw [e, List.length_append, List.length_singleton]
  exact ⟨fun h => h.symm, fun h => h.symm⟩
end Lx
def BehIs (s : ByteArray) (k : Int) (w : World) (e : Ending) (w' : World) : Prop := e = .returned (.tuple #[.string (if Lx.behB s k = true then Lx.behR s k else ⟨#[]⟩), .bool (Lx.behB s k)]) ∧ w = w'
set_option maxRecDepth 100000 in
theorem r38_behind (s : ByteArray) (k : Int) (w : World) (_hs : s.size ≤ 1000000) :
    Calls Tryz.prog 50 #[.string s, .string (Lx.wB k)] w (BehIs s k w) := by
  have hl := Lx.word_len k
  have hz := Lx.wB_size k
  by_cases h : s.size < (Lx.word k).length + 1
  · have hb := Lx.beh_short h
    have hv : BehIs s k w = fun e w' => e = .returned (.tuple #[.string ⟨#[]⟩, .bool false]) ∧ w = w' := by unfold BehIs; rw [hb]; rfl
    rw [hv]
    rw [← hz] at h hl
    have g1 : decide ((s.size : Int) < ((Lx.wB k).size : Int) + 1) = true := decide_eq_true (by omega)
    clear hb hv hz
    generalize Lx.wB k = wd at *
    go_enter Tryz.func50, Tryz.ntmps50
    go_wp2_with fail
    go_ret2
    exact ⟨rfl, rfl⟩
  · have hq := Lx.beh_eq (s := s) (k := k)
    have hR : Lx.behR s k = s.extract ((Lx.wB k).size + 1) s.size := by unfold Lx.behR; rw [hz]
    rw [← hz] at h hl hq
    have g1 : decide ((s.size : Int) < ((Lx.wB k).size : Int) + 1) = false := decide_eq_false (by omega)
    have g2 : ((Lx.wB k).size : Int) + 1 ≤ (s.size : Int) := by omega
    have y2 : ¬ (9223372036854775807 < (Lx.wB k).size + (⟨#[32]⟩ : ByteArray).size) := by have : (⟨#[32]⟩ : ByteArray).size = 1 := rfl; omega
    have y3 : ¬ (9223372036854775807 < (Lx.wB k).size + 1) := by omega
    unfold BehIs
    generalize Lx.wB k = wd at *
    cases hb : Lx.behB s k
    · rw [hb] at hq
      rw [if_neg (by decide)]
      clear hb hR hz
      go_enter Tryz.func50, Tryz.ntmps50
      go_wp2_with fail
      go_ret2
      exact ⟨rfl, rfl⟩
    · rw [hb] at hq
      rw [if_pos rfl, hR]
      clear hb hR hz
      go_enter Tryz.func50, Tryz.ntmps50
      go_wp2_with fail
      go_ret2
      exact ⟨rfl, rfl⟩
namespace Lx
theorem time_ex (x : ByteArray) : ∃ v, ∃ e, TimeIs x.data.toList v e := by
  by_cases h : ∃ t, 0 ≤ t ∧ t ≤ 253402300799 ∧ x.data.toList = tmText t
  · obtain ⟨t, a, b, c⟩ := h
    exact ⟨t, 0, .inl ⟨rfl, a, b, c⟩⟩
  · exact ⟨0, 10, .inr ⟨by decide, rfl, fun t a b c => h ⟨t, a, b, c⟩⟩⟩
noncomputable def tvv (x : ByteArray) : Int := Classical.choose (time_ex x)
theorem tvv_is (x : ByteArray) : ∃ e, TimeIs x.data.toList (tvv x) e := Classical.choose_spec (time_ex x)
theorem time_one {l : List UInt8} {v v' e e' : Int} (h : TimeIs l v e) (h' : TimeIs l v' e') : v = v' := by
  rcases h with ⟨_, a, b, c⟩ | ⟨_, rfl, c⟩ <;> rcases h' with ⟨_, a', b', c'⟩ | ⟨_, rfl, c'⟩
  · exact tmText_inj a b a' b' (c.symm.trans c')
  · exact absurd c (c' _ a b)
  · exact absurd c' (c _ a' b')
  · rfl
end Lx

def GuIs (v : Lx.OpV) (w : World) (e : Ending) (w' : World) : Prop := e = .returned v.val ∧ Below w.heap.size w w'
set_option maxRecDepth 100000 in
set_option maxHeartbeats 3200000 in
theorem guess_1 (s : ByteArray) (w : World) (hs : s.size ≤ 1000000) (b : Lx.behB s 1 = true) :
    Calls Tryz.prog 34 #[.string s] w (GuIs ⟨1, Lx.numRes (Lx.behR s 1).data.toList, 0, 0, false, ⟨#[]⟩⟩ w) := by
  have H1 := Lib.hid (fun W => r38_behind s 1 W hs)
  unfold BehIs at H1
  rw [b, if_pos rfl] at H1
  have hz : (Lx.behR s 1).size ≤ 1000000 := by unfold Lx.behR; rw [ByteArray.size_extract]; omega
  have HN := Lib.hid (fun W => ref_number_any (Lx.behR s 1) W (by omega))
  generalize Lx.behR s 1 = x at *
  generalize Lx.numRes x.data.toList = n at *
  generalize Lx.numErr x.data.toList = er at *
  go_enter Tryz.func34, Tryz.ntmps34
  go_wp2_with fail
  refine (H1.out _).mono ?_
  rintro e w' ⟨rfl, rfl⟩
  go_wp2_with fail
  refine (HN.out _).mono ?_
  rintro e w' ⟨rfl, rfl⟩
  go_wp2_with fail
  exact bodyPost_ret (v := .agg #[.int .i64 1, .int .i64 n, .int .i64 0, .int .i64 0, .bool false, .string ⟨#[]⟩]) (by simp [results, Tryz.results34, go_sem]) rfl ⟨rfl, (Below.refl _ _).alloc (Nat.le_refl _) _⟩
set_option maxRecDepth 100000 in
set_option maxHeartbeats 3200000 in
theorem guess_4 (s : ByteArray) (w : World) (hs : s.size ≤ 1000000) (b1 : Lx.behB s 1 = false) (b2 : Lx.behB s 2 = false) (b3 : Lx.behB s 3 = false)(b : Lx.behB s 4 = true) :
    Calls Tryz.prog 34 #[.string s] w (GuIs ⟨4, 0, 0, 0, false, Lx.behR s 4⟩ w) := by
  have H1 := Lib.hid (fun W => r38_behind s 1 W hs)
  unfold BehIs at H1
  rw [b1, if_neg (by decide)] at H1
  have H2 := Lib.hid (fun W => r38_behind s 2 W hs)
  unfold BehIs at H2
  rw [b2, if_neg (by decide)] at H2
  have H3 := Lib.hid (fun W => r38_behind s 3 W hs)
  unfold BehIs at H3
  rw [b3, if_neg (by decide)] at H3
  have H4 := Lib.hid (fun W => r38_behind s 4 W hs)
  unfold BehIs at H4
  rw [b, if_pos rfl] at H4
  generalize Lx.behR s 4 = x at *
  go_enter Tryz.func34, Tryz.ntmps34
  go_wp2_with fail
  refine (H1.out _).mono ?_
  rintro e w' ⟨rfl, rfl⟩
  go_wp2_with fail
  refine (H2.out _).mono ?_
  rintro e w' ⟨rfl, rfl⟩
  go_wp2_with fail
  refine (H3.out _).mono ?_
  rintro e w' ⟨rfl, rfl⟩
  go_wp2_with fail
  refine (H4.out _).mono ?_
  rintro e w' ⟨rfl, rfl⟩
  go_wp2_with fail
  exact bodyPost_ret (v := .agg #[.int .i64 4, .int .i64 0, .int .i64 0, .int .i64 0, .bool false, .string x]) (by simp [results, Tryz.results34, go_sem]) rfl ⟨rfl, (Below.refl _ _).alloc (Nat.le_refl _) _⟩
set_option maxRecDepth 100000 in
set_option maxHeartbeats 3200000 in
theorem guess_5 (s : ByteArray) (w : World) (hs : s.size ≤ 1000000) (b1 : Lx.behB s 1 = false) (b2 : Lx.behB s 2 = false) (b3 : Lx.behB s 3 = false) (b4 : Lx.behB s 4 = false)(b : Lx.behB s 5 = true) :
    Calls Tryz.prog 34 #[.string s] w (GuIs ⟨5, 0, 0, 0, false, Lx.behR s 5⟩ w) := by
  have H1 := Lib.hid (fun W => r38_behind s 1 W hs)
  unfold BehIs at H1
  rw [b1, if_neg (by decide)] at H1
  have H2 := Lib.hid (fun W => r38_behind s 2 W hs)
  unfold BehIs at H2
  rw [b2, if_neg (by decide)] at H2
  have H3 := Lib.hid (fun W => r38_behind s 3 W hs)
  unfold BehIs at H3
  rw [b3, if_neg (by decide)] at H3
  have H4 := Lib.hid (fun W => r38_behind s 4 W hs)
  unfold BehIs at H4
  rw [b4, if_neg (by decide)] at H4
  have H5 := Lib.hid (fun W => r38_behind s 5 W hs)
  unfold BehIs at H5
  rw [b, if_pos rfl] at H5
  generalize Lx.behR s 5 = x at *
  go_enter Tryz.func34, Tryz.ntmps34
  go_wp2_with fail
  refine (H1.out _).mono ?_
  rintro e w' ⟨rfl, rfl⟩
  go_wp2_with fail
  refine (H2.out _).mono ?_
  rintro e w' ⟨rfl, rfl⟩
  go_wp2_with fail
  refine (H3.out _).mono ?_
  rintro e w' ⟨rfl, rfl⟩
  go_wp2_with fail
  refine (H4.out _).mono ?_
  rintro e w' ⟨rfl, rfl⟩
  go_wp2_with fail
  refine (H5.out _).mono ?_
  rintro e w' ⟨rfl, rfl⟩
  go_wp2_with fail
  exact bodyPost_ret (v := .agg #[.int .i64 5, .int .i64 0, .int .i64 0, .int .i64 0, .bool false, .string x]) (by simp [results, Tryz.results34, go_sem]) rfl ⟨rfl, (Below.refl _ _).alloc (Nat.le_refl _) _⟩
set_option maxRecDepth 100000 in
set_option maxHeartbeats 3200000 in
theorem guess_6 (s : ByteArray) (w : World) (hs : s.size ≤ 1000000) (b1 : Lx.behB s 1 = false) (b2 : Lx.behB s 2 = false) (b3 : Lx.behB s 3 = false) (b4 : Lx.behB s 4 = false) (b5 : Lx.behB s 5 = false) :
    Calls Tryz.prog 34 #[.string s] w (GuIs ⟨6, 0, 0, 0, false, if Lx.behB s 6 = true then Lx.behR s 6 else ⟨#[]⟩⟩ w) := by
  have H1 := Lib.hid (fun W => r38_behind s 1 W hs)
  unfold BehIs at H1
  rw [b1, if_neg (by decide)] at H1
  have H2 := Lib.hid (fun W => r38_behind s 2 W hs)
  unfold BehIs at H2
  rw [b2, if_neg (by decide)] at H2
  have H3 := Lib.hid (fun W => r38_behind s 3 W hs)
  unfold BehIs at H3
  rw [b3, if_neg (by decide)] at H3
  have H4 := Lib.hid (fun W => r38_behind s 4 W hs)
  unfold BehIs at H4
  rw [b4, if_neg (by decide)] at H4
  have H5 := Lib.hid (fun W => r38_behind s 5 W hs)
  unfold BehIs at H5
  rw [b5, if_neg (by decide)] at H5
  have H6 := Lib.hid (fun W => r38_behind s 6 W hs)
  unfold BehIs at H6
  generalize (if Lx.behB s 6 = true then Lx.behR s 6 else ⟨#[]⟩) = x at *
  generalize Lx.behB s 6 = bb at *
  go_enter Tryz.func34, Tryz.ntmps34
  go_wp2_with fail
  refine (H1.out _).mono ?_
  rintro e w' ⟨rfl, rfl⟩
  go_wp2_with fail
  refine (H2.out _).mono ?_
  rintro e w' ⟨rfl, rfl⟩
  go_wp2_with fail
  refine (H3.out _).mono ?_
  rintro e w' ⟨rfl, rfl⟩
  go_wp2_with fail
  refine (H4.out _).mono ?_
  rintro e w' ⟨rfl, rfl⟩
  go_wp2_with fail
  refine (H5.out _).mono ?_
  rintro e w' ⟨rfl, rfl⟩
  go_wp2_with fail
  refine (H6.out _).mono ?_
  rintro e w' ⟨rfl, rfl⟩
  go_wp2_with fail
  exact bodyPost_ret (v := .agg #[.int .i64 6, .int .i64 0, .int .i64 0, .int .i64 0, .bool false, .string x]) (by simp [results, Tryz.results34, go_sem]) rfl ⟨rfl, (Below.refl _ _).alloc (Nat.le_refl _) _⟩
set_option maxRecDepth 100000 in
set_option maxHeartbeats 3200000 in
theorem guess_2 (s : ByteArray) (w : World) (hs : s.size ≤ 1000000) (b1 : Lx.behB s 1 = false)(b : Lx.behB s 2 = true) :
    Calls Tryz.prog 34 #[.string s] w (GuIs ⟨2, 0, Lx.tvv (Lx.behR s 2), 0, false, ⟨#[]⟩⟩ w) := by
  have H1 := Lib.hid (fun W => r38_behind s 1 W hs)
  unfold BehIs at H1
  rw [b1, if_neg (by decide)] at H1
  have H2 := Lib.hid (fun W => r38_behind s 2 W hs)
  unfold BehIs at H2
  rw [b, if_pos rfl] at H2
  have HQ := Lib.hid (fun W => r2_parse (Lx.behR s 2) W)
  have HT := Lib.hid (Lx.tvv_is (Lx.behR s 2))
  generalize Lx.behR s 2 = x at *
  go_enter Tryz.func34, Tryz.ntmps34
  go_wp2_with fail
  refine (H1.out _).mono ?_
  rintro e w' ⟨rfl, rfl⟩
  go_wp2_with fail
  refine (H2.out _).mono ?_
  rintro e w' ⟨rfl, rfl⟩
  go_wp2_with fail
  refine (HQ.out _).mono ?_
  rintro e w1 ⟨v, y, hti, rfl, hb1⟩
  obtain ⟨e', he'⟩ := HT.out
  have HV := Lib.hid (Lx.time_one hti he')
  have c0 := Lx.boxCell hb1 0 _ rfl
  have c1 := Lx.boxCell hb1 1 _ rfl
  have c2 := Lx.boxCell hb1 2 _ rfl
  have c3 := Lx.boxCell hb1 3 _ rfl
  have c4 := Lx.boxCell hb1 4 _ rfl
  have c5 := Lx.boxCell hb1 5 _ rfl
  have f0 := Lx.boxFree2 hb1 0
  have f1 := Lx.boxFree2 hb1 1
  have f2 := Lx.boxFree2 hb1 2
  have f3 := Lx.boxFree2 hb1 3
  have f4 := Lx.boxFree2 hb1 4
  have f5 := Lx.boxFree2 hb1 5
  have hb2 := Lx.boxBelow hb1
  have HB2 := Lib.hid hb2
  clear hb1 hb2 hti he'
  go_wp2_with fail
  obtain ⟨d0, d1, d2, d3, d4, d5⟩ := Lx.set6 c0 c1 c2 c3 c4 c5 (.int .i64 2) (.int .i64 0) (.int .i64 v) (.int .i64 0) (.bool false) (.string ⟨#[]⟩)
  refine bodyPost_ret (v := .agg #[.int .i64 2, .int .i64 0, .int .i64 v, .int .i64 0, .bool false, .string ⟨#[]⟩]) (by simp [results, Tryz.results34, go_sem, d0, d1, d2, d3, d4, d5]) rfl ⟨by rw [HV.out]; rfl, ?_⟩
  exact (((((HB2.out.setCell (p := ⟨w.heap.size, 0, none⟩) (Nat.le_refl _) _).setCell (p := ⟨w.heap.size, 1, none⟩) (Nat.le_refl _) _).setCell (p := ⟨w.heap.size, 2, none⟩) (Nat.le_refl _) _).setCell (p := ⟨w.heap.size, 3, none⟩) (Nat.le_refl _) _).setCell (p := ⟨w.heap.size, 4, none⟩) (Nat.le_refl _) _).setCell (p := ⟨w.heap.size, 5, none⟩) (Nat.le_refl _) _
set_option maxRecDepth 100000 in
set_option maxHeartbeats 3200000 in
theorem guess_3 (s : ByteArray) (w : World) (hs : s.size ≤ 1000000) (b1 : Lx.behB s 1 = false) (b2 : Lx.behB s 2 = false)(b : Lx.behB s 3 = true) :
    Calls Tryz.prog 34 #[.string s] w (GuIs ⟨3, 0, 0, Lx.numRes (Lx.finRun (Lx.behR s 3)).data.toList, Lx.finOk (Lx.behR s 3), ⟨#[]⟩⟩ w) := by
  have H1 := Lib.hid (fun W => r38_behind s 1 W hs)
  unfold BehIs at H1
  rw [b1, if_neg (by decide)] at H1
  have H2 := Lib.hid (fun W => r38_behind s 2 W hs)
  unfold BehIs at H2
  rw [b2, if_neg (by decide)] at H2
  have H3 := Lib.hid (fun W => r38_behind s 3 W hs)
  unfold BehIs at H3
  rw [b, if_pos rfl] at H3
  have hz : (Lx.behR s 3).size ≤ 1000000 := by unfold Lx.behR; rw [ByteArray.size_extract]; omega
  generalize Lx.behR s 3 = x at *
  go_enter Tryz.func34, Tryz.ntmps34
  go_wp2_with fail
  refine (H1.out _).mono ?_
  rintro e w' ⟨rfl, rfl⟩
  go_wp2_with fail
  refine (H2.out _).mono ?_
  rintro e w' ⟨rfl, rfl⟩
  go_wp2_with fail
  refine (H3.out _).mono ?_
  rintro e w' ⟨rfl, rfl⟩
  go_wp2_with fail
  go_loop [13] (fun ii => ∃ k : Nat, k ≤ x.size ∧ ii = .int .i64 k ∧ k ≤ Lx.idx x 32) (fun i => x.size - (intOf i).toNat)
  case atStart => exact ⟨0, Nat.zero_le _, rfl, Nat.zero_le _⟩
  case round =>
    obtain ⟨k, hk, rfl, hki⟩ := hrel
    have hkI : (k : Int) ≤ (x.size : Int) := by omega
    have hk0 : (0 : Int) ≤ (k : Int) := by omega
    by_cases hlt : k < x.size
    · by_cases h32 : x[k] = 32
      · have hc : ((x[k].toNat : Int) != 32) = false := by rw [h32]; rfl
        have hnlt : (k : Int) < (x.size : Int) := by omega
        have hidx := (Lx.idx_hit x 32 k hlt hki h32).1
        have hf1 : Lx.finRun x = x.extract 0 k := by unfold Lx.finRun; rw [hidx]
        have hf2 : ((x.extract k x.size).toList == [32, 111, 107]) = Lx.finOk x := by unfold Lx.finOk; rw [hidx, Lib.toList_data, Bool.eq_iff_iff, beq_iff_eq, decide_eq_true_iff]
        have HN := Lib.hid (fun W => ref_number_any (x.extract 0 k) W (by rw [ByteArray.size_extract]; omega))
        rw [← hf1] at HN
        have HF1 := Lib.hid hf1
        generalize Lx.numRes (Lx.finRun x).data.toList = n at *
        generalize Lx.numErr (Lx.finRun x).data.toList = er at *
        rw [hf1] at HN
        generalize Lx.finOk x = bb at *
        clear hidx hf1 hki
        go_wp2_with fail
        refine (HN.out _).mono ?_
        rintro e w' ⟨rfl, rfl⟩
        go_wp2_with fail
        exact bodyPost_ret (v := .agg #[.int .i64 3, .int .i64 0, .int .i64 0, .int .i64 n, .bool bb, .string ⟨#[]⟩]) (by simp [results, Tryz.results34, go_sem]) rfl ⟨rfl, (Below.refl _ _).alloc (Nat.le_refl _) _⟩
      · have hc : ((x[k].toNat : Int) != 32) = true := by
          rw [bne_iff_ne]
          intro e
          exact h32 (UInt8.toNat_inj.1 (by show x[k].toNat = 32; omega))
        have hm := Lx.idx_miss x 32 k hlt hki h32
        have HM := Lib.hid hm
        clear hm h32
        go_wp2_with fail
        go_round
        case rel => exact ⟨k + 1, by omega, by go_num, HM.out⟩
        case measure => simp [intOf]; omega
    · have hge : decide (k < x.size) = false := decide_eq_false hlt
      have hidx := (show Lx.idx x 32 = k by have := Lx.idx_le x 32; omega)
      have hf1 : Lx.finRun x = x.extract 0 k := by unfold Lx.finRun; rw [hidx]
      have hf2 : ((x.extract k x.size).toList == [32, 111, 107]) = Lx.finOk x := by unfold Lx.finOk; rw [hidx, Lib.toList_data, Bool.eq_iff_iff, beq_iff_eq, decide_eq_true_iff]
      have HN := Lib.hid (fun W => ref_number_any (x.extract 0 k) W (by rw [ByteArray.size_extract]; omega))
      rw [← hf1] at HN
      have HF1 := Lib.hid hf1
      generalize Lx.numRes (Lx.finRun x).data.toList = n at *
      generalize Lx.numErr (Lx.finRun x).data.toList = er at *
      rw [hf1] at HN
      generalize Lx.finOk x = bb at *
      clear hidx hf1 hki
      go_wp2_with fail
      refine (HN.out _).mono ?_
      rintro e w' ⟨rfl, rfl⟩
      go_wp2_with fail
      exact bodyPost_ret (v := .agg #[.int .i64 3, .int .i64 0, .int .i64 0, .int .i64 n, .bool bb, .string ⟨#[]⟩]) (by simp [results, Tryz.results34, go_sem]) rfl ⟨rfl, (Below.refl _ _).alloc (Nat.le_refl _) _⟩
set_option maxRecDepth 100000 in
theorem r38_guess (s : ByteArray) (w : World) (hs : s.size ≤ 1000000) : Calls Tryz.prog 34 #[.string s] w (GuIs (Lx.guessV s Lx.tvv) w) := by
  unfold Lx.guessV
  cases b1 : Lx.behB s 1
  · rw [if_neg (by decide)]
    cases b2 : Lx.behB s 2
    · rw [if_neg (by decide)]
      cases b3 : Lx.behB s 3
      · rw [if_neg (by decide)]
        cases b4 : Lx.behB s 4
        · rw [if_neg (by decide)]
          cases b5 : Lx.behB s 5
          · rw [if_neg (by decide)]; exact guess_6 s w hs b1 b2 b3 b4 b5
          · rw [if_pos rfl]; exact guess_5 s w hs b1 b2 b3 b4 b5
        · rw [if_pos rfl]; exact guess_4 s w hs b1 b2 b3 b4
      · rw [if_pos rfl]; exact guess_3 s w hs b1 b2 b3
    · rw [if_pos rfl]; exact guess_2 s w hs b1 b2
  · rw [if_pos rfl]; exact guess_1 s w hs b1
namespace Lx
theorem guess_job (s : ByteArray) (hs : s.size ≤ 1000000) : (guessV s tvv).job.size ≤ maxLen := by
  have hb : ∀ k, (behR s k).size ≤ maxLen := fun k => by unfold behR maxLen; rw [ByteArray.size_extract]; omega
  have z : (⟨#[]⟩ : ByteArray).size ≤ maxLen := nil_max
  unfold guessV
  (repeat' split) <;> first | exact z | exact hb _
def RIn (o : OpV) : Prop := -9223372036854775808 ≤ o.r ∧ o.r ≤ 9223372036854775807
theorem r_ite {c : Prop} [Decidable c] {a b : OpV} (ha : RIn a) (hb : RIn b) : RIn (if c then a else b) := by
  by_cases h : c
  · rw [if_pos h]; exact ha
  · rw [if_neg h]; exact hb
theorem r_of (k d t r : Int) (ok : Bool) (job : ByteArray) (h : -9223372036854775808 ≤ r ∧ r ≤ 9223372036854775807) : RIn ⟨k, d, t, r, ok, job⟩ := h
theorem guess_r (s : ByteArray) : RIn (guessV s tvv) := by
  have z : (-9223372036854775808 : Int) ≤ 0 ∧ (0 : Int) ≤ 9223372036854775807 := by decide
  have h3 := num_bd (finRun (behR s 3)).data.toList
  unfold guessV
  exact r_ite (r_of _ _ _ _ _ _ z) (r_ite (r_of _ _ _ _ _ _ z) (r_ite (r_of _ _ _ _ _ _ h3) (r_ite (r_of _ _ _ _ _ _ z) (r_ite (r_of _ _ _ _ _ _ z) (r_of _ _ _ _ _ _ z)))))
end Lx
set_option maxRecDepth 100000 in
set_option maxHeartbeats 1600000 in
theorem r38_parse (s : ByteArray) (w : World) (hs : s.size ≤ 1000000) :
    Calls Tryz.prog 22 #[.string s] w (ParseIs s w) := by
  have HG := Lib.hid (fun W => r38_guess s W hs)
  unfold GuIs at HG
  have hjob : (Lx.guessV s Lx.tvv).job.size ≤ maxLen := Lx.guess_job s hs
  have hin : Lx.opErr (Lx.guessV s Lx.tvv) = 0 → (Lx.guessV s Lx.tvv).In := fun h => Lx.parses_in h (Lx.guess_r s)
  obtain ⟨G, hG⟩ : ∃ G, Lx.guessV s Lx.tvv = G := ⟨_, rfl⟩
  have hgr := Lx.guess_reads hG Lx.tvv_is (by rw [hG] at hin; exact hin)
  rw [hG] at HG hjob hin
  clear hG
  obtain ⟨V, hP⟩ : ∃ V, (∀ W, Calls Tryz.prog 28 #[G.val] W fun e w' => e = .returned (.tuple #[.string V, .int .i64 (Lx.opErr G)]) ∧ Below W.heap.size W w') ∧ (Lx.opErr G = 0 → V.data.toList = Lx.opText G) := by
    by_cases h : Lx.opErr G = 0
    · refine ⟨⟨(Lx.opText G).toArray⟩, ⟨fun W => ?_, fun _ => rfl⟩⟩
      rw [h]
      exact r38_print_good G W (hin h) h
    · exact ⟨⟨#[]⟩, ⟨fun W => r38_print_bad G W hjob h, fun h' => absurd h' h⟩⟩
  obtain ⟨hP, hV⟩ := hP
  have HP := Lib.hid hP
  obtain ⟨g1, g2⟩ := hgr
  have hz : Lx.opZ.val = .agg #[.int .i64 0, .int .i64 0, .int .i64 0, .int .i64 0, .bool false, .string ⟨#[]⟩] := rfl
  by_cases hx : Lx.opErr G = 0
  · rw [hx] at HP
    by_cases ht : Lx.opText G = s.data.toList
    · have hr := g1 ⟨hx, ht⟩
      have hvs : V = s := ByteArray.ext (Array.toList_inj.1 ((hV hx).trans ht))
      subst hvs
      have hne : (!(V.toList == V.toList)) = false := by simp
      have HR := Lib.hid hr
      have HT := Lib.hid (fun e w' (h : e = Ending.returned (.tuple #[G.val, .int .i64 0]) ∧ Below w.heap.size w w') => (⟨G, 0, h.1, hr, h.2⟩ : ParseIs V w e w'))
      obtain ⟨k, d, t, r, ok, job⟩ := G
      unfold Lx.OpV.val at HG HP HT
      clear g1 g2 hV ht hP hz hjob hin hx hr hne
      go_enter Tryz.func22, Tryz.ntmps22
      go_wp2_with fail
      refine (HG.out _).mono ?_
      rintro e w1 ⟨rfl, c1⟩
      have z1 := (Below.refl w1.heap.size w1).alloc (Nat.le_refl _) (.cells #[.int .i64 k, .int .i64 d, .int .i64 t, .int .i64 r, .bool ok, .string job] 40)
      have bo := Lx.OpBox.new w1 k d t r ok job 40
      have BO := Lib.hid bo
      have Z1 := Lib.hid z1
      clear bo z1
      have C1 := Lib.hid c1
      clear c1
      go_wp2_with fail
      refine (HP.out _).mono ?_
      rintro e w2 ⟨rfl, c2⟩
      have cT := C1.out.trans ((Z1.out.mono C1.out.size).trans (c2.mono (Nat.le_trans C1.out.size Z1.out.size)))
      have c0 := Lx.boxCell cT 0 _ rfl
      have c1 := Lx.boxCell cT 1 _ rfl
      have c3 := Lx.boxCell cT 2 _ rfl
      have c4 := Lx.boxCell cT 3 _ rfl
      have c5 := Lx.boxCell cT 4 _ rfl
      have c6 := Lx.boxCell cT 5 _ rfl
      have f0 := Lx.boxFree2 cT 0
      have f1 := Lx.boxFree2 cT 1
      have f2 := Lx.boxFree2 cT 2
      have f3 := Lx.boxFree2 cT 3
      have f4 := Lx.boxFree2 cT 4
      have f5 := Lx.boxFree2 cT 5
      obtain ⟨q0, q1, q2, q3, q4, q5⟩ := (BO.out.below c2).six
      have HBB := Lib.hid (Lx.boxBelow cT)
      clear cT c2
      go_wp2_with fail
      obtain ⟨d0, d1, d2, d3, d4, d5⟩ := Lx.set6 c0 c1 c3 c4 c5 c6 (.int .i64 k) (.int .i64 d) (.int .i64 t) (.int .i64 r) (.bool ok) (.string job)
      have hb := HBB.out
      refine bodyPost_ret (v := .tuple #[.agg #[.int .i64 k, .int .i64 d, .int .i64 t, .int .i64 r, .bool ok, .string job], .int .i64 0]) (by simp [results, Tryz.results22, go_sem, d0, d1, d2, d3, d4, d5]) rfl ?_
      exact HT.out _ _ ⟨rfl, (((((hb.setCell (p := ⟨w.heap.size, 0, none⟩) (Nat.le_refl _) _).setCell (p := ⟨w.heap.size, 1, none⟩) (Nat.le_refl _) _).setCell (p := ⟨w.heap.size, 2, none⟩) (Nat.le_refl _) _).setCell (p := ⟨w.heap.size, 3, none⟩) (Nat.le_refl _) _).setCell (p := ⟨w.heap.size, 4, none⟩) (Nat.le_refl _) _).setCell (p := ⟨w.heap.size, 5, none⟩) (Nat.le_refl _) _⟩
    · have hr := g2 (fun h => ht h.2)
      have hne : (V.toList == s.toList) = false := by
        rw [Lib.toList_data, Lib.toList_data, beq_eq_false_iff_ne]
        intro e
        exact ht ((hV hx).symm.trans e)
      have HT := Lib.hid (fun e w' (h : e = Ending.returned (.tuple #[Lx.opZ.val, .int .i64 10]) ∧ Below w.heap.size w w') => (⟨Lx.opZ, 10, h.1, hr, h.2⟩ : ParseIs s w e w'))
      rw [hz] at HT
      obtain ⟨k, d, t, r, ok, job⟩ := G
      unfold Lx.OpV.val at HG HP
      clear g1 g2 hV ht hP hz hjob hin hx hr
      go_enter Tryz.func22, Tryz.ntmps22
      go_wp2_with fail
      refine (HG.out _).mono ?_
      rintro e w1 ⟨rfl, c1⟩
      have z1 := (Below.refl w1.heap.size w1).alloc (Nat.le_refl _) (.cells #[.int .i64 k, .int .i64 d, .int .i64 t, .int .i64 r, .bool ok, .string job] 40)
      have bo := Lx.OpBox.new w1 k d t r ok job 40
      have BO := Lib.hid bo
      have Z1 := Lib.hid z1
      clear bo z1
      have C1 := Lib.hid c1
      clear c1
      go_wp2_with fail
      refine (HP.out _).mono ?_
      rintro e w2 ⟨rfl, c2⟩
      have cT := C1.out.trans ((Z1.out.mono C1.out.size).trans (c2.mono (Nat.le_trans C1.out.size Z1.out.size)))
      have c0 := Lx.boxCell cT 0 _ rfl
      have c1 := Lx.boxCell cT 1 _ rfl
      have c3 := Lx.boxCell cT 2 _ rfl
      have c4 := Lx.boxCell cT 3 _ rfl
      have c5 := Lx.boxCell cT 4 _ rfl
      have c6 := Lx.boxCell cT 5 _ rfl
      have f0 := Lx.boxFree2 cT 0
      have f1 := Lx.boxFree2 cT 1
      have f2 := Lx.boxFree2 cT 2
      have f3 := Lx.boxFree2 cT 3
      have f4 := Lx.boxFree2 cT 4
      have f5 := Lx.boxFree2 cT 5
      obtain ⟨q0, q1, q2, q3, q4, q5⟩ := (BO.out.below c2).six
      have HBB := Lib.hid (Lx.boxBelow cT)
      clear cT c2
      go_wp2_with fail
      obtain ⟨d0, d1, d2, d3, d4, d5⟩ := Lx.set6 c0 c1 c3 c4 c5 c6 (.int .i64 0) (.int .i64 0) (.int .i64 0) (.int .i64 0) (.bool false) (.string ⟨#[]⟩)
      have hb := HBB.out
      refine bodyPost_ret (v := .tuple #[.agg #[.int .i64 0, .int .i64 0, .int .i64 0, .int .i64 0, .bool false, .string ⟨#[]⟩], .int .i64 10]) (by simp [results, Tryz.results22, go_sem, d0, d1, d2, d3, d4, d5]) rfl ?_
      exact HT.out _ _ ⟨rfl, (((((hb.setCell (p := ⟨w.heap.size, 0, none⟩) (Nat.le_refl _) _).setCell (p := ⟨w.heap.size, 1, none⟩) (Nat.le_refl _) _).setCell (p := ⟨w.heap.size, 2, none⟩) (Nat.le_refl _) _).setCell (p := ⟨w.heap.size, 3, none⟩) (Nat.le_refl _) _).setCell (p := ⟨w.heap.size, 4, none⟩) (Nat.le_refl _) _).setCell (p := ⟨w.heap.size, 5, none⟩) (Nat.le_refl _) _⟩
  · have hr := g2 (fun h => hx h.1)
    have hxe : (Lx.opErr G != 0) = true := by rw [bne_iff_ne]; exact hx
    have HT := Lib.hid (fun e w' (h : e = Ending.returned (.tuple #[Lx.opZ.val, .int .i64 10]) ∧ Below w.heap.size w w') => (⟨Lx.opZ, 10, h.1, hr, h.2⟩ : ParseIs s w e w'))
    rw [hz] at HT
    generalize Lx.opErr G = x at *
    obtain ⟨k, d, t, r, ok, job⟩ := G
    unfold Lx.OpV.val at HG HP
    clear g1 g2 hV hP hz hjob hin hx hr
    go_enter Tryz.func22, Tryz.ntmps22
    go_wp2_with fail
    refine (HG.out _).mono ?_
    rintro e w1 ⟨rfl, c1⟩
    have z1 := (Below.refl w1.heap.size w1).alloc (Nat.le_refl _) (.cells #[.int .i64 k, .int .i64 d, .int .i64 t, .int .i64 r, .bool ok, .string job] 40)
    have bo := Lx.OpBox.new w1 k d t r ok job 40
    have BO := Lib.hid bo
    have Z1 := Lib.hid z1
    clear bo z1
    have C1 := Lib.hid c1
    clear c1
    go_wp2_with fail
    refine (HP.out _).mono ?_
    rintro e w2 ⟨rfl, c2⟩
    have cT := C1.out.trans ((Z1.out.mono C1.out.size).trans (c2.mono (Nat.le_trans C1.out.size Z1.out.size)))
    have c0 := Lx.boxCell cT 0 _ rfl
    have c1 := Lx.boxCell cT 1 _ rfl
    have c3 := Lx.boxCell cT 2 _ rfl
    have c4 := Lx.boxCell cT 3 _ rfl
    have c5 := Lx.boxCell cT 4 _ rfl
    have c6 := Lx.boxCell cT 5 _ rfl
    have f0 := Lx.boxFree2 cT 0
    have f1 := Lx.boxFree2 cT 1
    have f2 := Lx.boxFree2 cT 2
    have f3 := Lx.boxFree2 cT 3
    have f4 := Lx.boxFree2 cT 4
    have f5 := Lx.boxFree2 cT 5
    obtain ⟨q0, q1, q2, q3, q4, q5⟩ := (BO.out.below c2).six
    have HBB := Lib.hid (Lx.boxBelow cT)
    clear cT c2
    go_wp2_with fail
    obtain ⟨d0, d1, d2, d3, d4, d5⟩ := Lx.set6 c0 c1 c3 c4 c5 c6 (.int .i64 0) (.int .i64 0) (.int .i64 0) (.int .i64 0) (.bool false) (.string ⟨#[]⟩)
    have hb := HBB.out
    refine bodyPost_ret (v := .tuple #[.agg #[.int .i64 0, .int .i64 0, .int .i64 0, .int .i64 0, .bool false, .string ⟨#[]⟩], .int .i64 10]) (by simp [results, Tryz.results22, go_sem, d0, d1, d2, d3, d4, d5]) rfl ?_
    exact HT.out _ _ ⟨rfl, (((((hb.setCell (p := ⟨w.heap.size, 0, none⟩) (Nat.le_refl _) _).setCell (p := ⟨w.heap.size, 1, none⟩) (Nat.le_refl _) _).setCell (p := ⟨w.heap.size, 2, none⟩) (Nat.le_refl _) _).setCell (p := ⟨w.heap.size, 3, none⟩) (Nat.le_refl _) _).setCell (p := ⟨w.heap.size, 4, none⟩) (Nat.le_refl _) _).setCell (p := ⟨w.heap.size, 5, none⟩) (Nat.le_refl _) _⟩
end Go.Proofs.YtnnkamfpcodnnaaGreatDoor
