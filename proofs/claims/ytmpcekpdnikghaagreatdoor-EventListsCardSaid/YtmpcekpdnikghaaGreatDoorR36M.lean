/- The reference of chapter 36: time, Check. (printed by gen_r36.py) The reference of chapter 36: the first error of names; the law's few. The reference of chapter 36: numbers, words, reasons. The reference of chapter 36: Print. (printed by gen_r36p.py) -/
import Derived.Test.YtmpcekpdnikghaaGreatDoorEvB
import Derived.Test.YtmpcekpdnikghaaGreatDoorEvC
import Derived.Deep.CutRange
import Derived.Test.YtmpcekpdnikghaaGreatDoorName
import Derived.Deep.QuietTactic
import Derived.BigQuiet
import Derived.Test.YtmpcekpdnikghaaGreatDoorEvA
import Derived.Test.YtmpcekpdnikghaaGreatDoorDigits
import Derived.Test.YtmpcekpdnikghaaGreatDoorEvI
import Derived.Deep.RegionHeld3
import Derived.Deep.DeepCutAuto
namespace Go.Proofs.YtmpcekpdnikghaaGreatDoor
open Go.RowKit

theorem Lx.ev14 {k t j d a r y n : Int} (hk : 1 ≤ k ∧ k ≤ 8) (h : Lx.timeV t = false ∨ (Lx.uD k = true ∧ Lx.timeV d = false)) : Lx.evErr ⟨k, t, j, d, a, r, y, n⟩ = 14 := by
  unfold Lx.evErr
  dsimp only
  rw [if_neg (by omega), if_pos h]
theorem Lx.ev2 {k t j d a r y n : Int} (hk : 1 ≤ k ∧ k ≤ 8) (h1 : Lx.timeV t = true) (h2 : Lx.uD k = true → Lx.timeV d = true) (h : ¬ Lx.Good ⟨k, t, j, d, a, r, y, n⟩) : Lx.evErr ⟨k, t, j, d, a, r, y, n⟩ = 2 := by
  have hz : Lx.evErr ⟨k, t, j, d, a, r, y, n⟩ ≠ 0 := fun e => h ((Lx.evErr_good _).1 e)
  revert hz
  unfold Lx.evErr
  dsimp only
  rw [if_neg (by omega), if_neg (by rintro (c | ⟨c1, c2⟩); (rw [h1] at c; cases c); (rw [h2 c1] at c2; cases c2))]
  split
  · intro c; exact absurd rfl c
  · intro _; rfl
theorem Lx.ev_out {k t j d a r y n : Int} (h : k < 1 ∨ 8 < k) : Lx.evErr ⟨k, t, j, d, a, r, y, n⟩ = 2 := by
  unfold Lx.evErr
  dsimp only
  rw [if_pos h]
theorem Lx.time_of {t : Int} (h : Lx.timeV t = true) : 0 ≤ t ∧ t ≤ 253402300799 := of_decide_eq_true h
theorem r36time_any (t : Int) (w : World) : Calls Tryz.prog 61 #[.int .i64 t] w fun e w' => e = .returned (.bool (Lx.timeV t)) ∧ w' = w := by
  by_cases h0 : 0 ≤ t
  · by_cases h1 : t ≤ 253402300799
    · have e1 : decide (0 ≤ t) = true := decide_eq_true h0
      have e2 : decide (t ≤ 253402300799) = true := decide_eq_true h1
      have hv : Lx.timeV t = true := decide_eq_true ⟨h0, h1⟩
      rw [hv]; clear hv h0 h1
      go_enter Tryz.func61, Tryz.ntmps61
      go_wp2_with fail
      go_ret
      exact ⟨rfl, rfl⟩
    · have e1 : decide (0 ≤ t) = true := decide_eq_true h0
      have e2 : decide (t ≤ 253402300799) = false := decide_eq_false h1
      have hv : Lx.timeV t = false := decide_eq_false (fun h => h1 h.2)
      rw [hv]; clear hv h0 h1
      go_enter Tryz.func61, Tryz.ntmps61
      go_wp2_with fail
      go_ret
      exact ⟨rfl, rfl⟩
  · have e1 : decide (0 ≤ t) = false := decide_eq_false h0
    have hv : Lx.timeV t = false := decide_eq_false (fun h => h0 h.1)
    rw [hv]; clear hv h0
    go_enter Tryz.func61, Tryz.ntmps61
    go_wp2_with fail
    go_ret
    exact ⟨rfl, rfl⟩
set_option maxRecDepth 100000 in
set_option maxHeartbeats 3200000 in
theorem r36_out (k t j d a r y n : Int) (w : World) (h : k < 1 ∨ 8 < k) :
    Calls Tryz.prog 45 #[.agg #[.int .i64 k, .int .i64 t, .int .i64 j, .int .i64 d, .int .i64 a, .int .i64 r, .int .i64 y, .int .i64 n]] w (EvCheckIs (Lx.evErr ⟨k, t, j, d, a, r, y, n⟩) w) := by
  have E := Lib.hid (Lx.ev_out (t := t) (j := j) (d := d) (a := a) (r := r) (y := y) (n := n) h)
  rcases h with h | h
  · have d1 : decide (k < 1) = true := decide_eq_true h
    go_enter Tryz.func45, Tryz.ntmps45
    go_wp2_with fail
    go_ret
    exact ⟨Lx.ret_int E.out.symm, (Below.refl _ _).alloc (Nat.le_refl _) _⟩
  · have d1 : decide (k < 1) = false := decide_eq_false (by omega)
    have d2 : decide (8 < k) = true := decide_eq_true h
    go_enter Tryz.func45, Tryz.ntmps45
    go_wp2_with fail
    go_ret
    exact ⟨Lx.ret_int E.out.symm, (Below.refl _ _).alloc (Nat.le_refl _) _⟩
set_option maxRecDepth 100000 in
set_option maxHeartbeats 3200000 in
theorem r36_check_1 (t j d a r y n : Int) (w : World) (hr : r ≤ 9223372036854775807) :
    Calls Tryz.prog 45 #[.agg #[.int .i64 1, .int .i64 t, .int .i64 j, .int .i64 d, .int .i64 a, .int .i64 r, .int .i64 y, .int .i64 n]] w (EvCheckIs (Lx.evErr ⟨1, t, j, d, a, r, y, n⟩) w) := by
  have HT := Lib.hid (fun (x : Int) W => r36time_any x W)
  cases ht : Lx.timeV t with
  | false =>
    have E := Lib.hid (show Lx.evErr ⟨1, t, j, d, a, r, y, n⟩ = 14 from Lx.ev14 (by omega) (.inl ht))
    have HT1 := Lib.hid (HT.out t)
    rw [ht] at HT1
    clear ht HT
    go_enter Tryz.func45, Tryz.ntmps45
    go_wp2_with fail
    refine (HT1.out _).mono ?_
    rintro e w1 ⟨rfl, rfl⟩
    go_wp2_with fail
    go_ret
    exact ⟨Lx.ret_int E.out.symm, (Below.refl _ _).alloc (Nat.le_refl _) _⟩
  | true =>
    have HT1 := Lib.hid (HT.out t)
    rw [ht] at HT1
    have tt := Lib.hid (Lx.time_of ht)
    have ht := Lib.hid ht
    cases hd : Lx.timeV d with
    | false =>
      have E := Lib.hid (show Lx.evErr ⟨1, t, j, d, a, r, y, n⟩ = 14 from Lx.ev14 (by omega) (.inr ⟨by decide, hd⟩))
      have HT2 := Lib.hid (HT.out d)
      rw [hd] at HT2
      clear hd HT
      go_enter Tryz.func45, Tryz.ntmps45
      go_wp2_with fail
      refine (HT1.out _).mono ?_
      rintro e w1 ⟨rfl, rfl⟩
      go_wp2_with fail
      refine (HT2.out _).mono ?_
      rintro e w2 ⟨rfl, rfl⟩
      go_wp2_with fail
      go_ret
      exact ⟨Lx.ret_int E.out.symm, (Below.refl _ _).alloc (Nat.le_refl _) _⟩
    | true =>
      have HT2 := Lib.hid (HT.out d)
      rw [hd] at HT2
      have td := Lib.hid (Lx.time_of hd)
      have hd := Lib.hid hd
      clear HT
      go_enter Tryz.func45, Tryz.ntmps45
      go_wp2_with fail
      refine (HT1.out _).mono ?_
      rintro e w1 ⟨rfl, rfl⟩
      go_wp2_with fail
      refine (HT2.out _).mono ?_
      rintro e w2 ⟨rfl, rfl⟩
      go_upto_region 9 with fail
      by_cases h1 : j < 0
      · have E := Lib.hid (show Lx.evErr ⟨1, t, j, d, a, r, y, n⟩ = 2 from Lx.ev2 (by omega) ht.out (fun _ => hd.out) (by unfold Lx.Good; dsimp only; omega))
        have e1 : decide (j < 0) = true := decide_eq_true h1
        go_wp2_with fail
        go_ret
        exact ⟨Lx.ret_int E.out.symm, (Below.refl _ _).alloc (Nat.le_refl _) _⟩
      · have e1 : decide (j < 0) = false := decide_eq_false h1
        by_cases h2 : 63 < j
        · have E := Lib.hid (show Lx.evErr ⟨1, t, j, d, a, r, y, n⟩ = 2 from Lx.ev2 (by omega) ht.out (fun _ => hd.out) (by unfold Lx.Good; dsimp only; omega))
          have e2 : decide (63 < j) = true := decide_eq_true h2
          go_wp2_with fail
          go_ret
          exact ⟨Lx.ret_int E.out.symm, (Below.refl _ _).alloc (Nat.le_refl _) _⟩
        · have e2 : decide (63 < j) = false := decide_eq_false h2
          go_upto_region 11 with fail
          by_cases h3 : t < d
          · have E := Lib.hid (show Lx.evErr ⟨1, t, j, d, a, r, y, n⟩ = 2 from Lx.ev2 (by omega) ht.out (fun _ => hd.out) (by unfold Lx.Good; dsimp only; omega))
            have e3 : decide (t < d) = true := decide_eq_true h3
            go_wp2_with fail
            go_ret
            exact ⟨Lx.ret_int E.out.symm, (Below.refl _ _).alloc (Nat.le_refl _) _⟩
          · have e3 : decide (t < d) = false := decide_eq_false h3
            by_cases h4 : a < 1
            · have E := Lib.hid (show Lx.evErr ⟨1, t, j, d, a, r, y, n⟩ = 2 from Lx.ev2 (by omega) ht.out (fun _ => hd.out) (by unfold Lx.Good; dsimp only; omega))
              have e4 : decide (a < 1) = true := decide_eq_true h4
              go_wp2_with fail
              go_ret
              exact ⟨Lx.ret_int E.out.symm, (Below.refl _ _).alloc (Nat.le_refl _) _⟩
            · have e4 : decide (a < 1) = false := decide_eq_false h4
              by_cases h5 : 21 < a
              · have E := Lib.hid (show Lx.evErr ⟨1, t, j, d, a, r, y, n⟩ = 2 from Lx.ev2 (by omega) ht.out (fun _ => hd.out) (by unfold Lx.Good; dsimp only; omega))
                have e5 : decide (21 < a) = true := decide_eq_true h5
                go_wp2_with fail
                go_ret
                exact ⟨Lx.ret_int E.out.symm, (Below.refl _ _).alloc (Nat.le_refl _) _⟩
              · have e5 : decide (21 < a) = false := decide_eq_false h5
                go_upto_region 13 with fail
                by_cases h6 : r < 1
                · have E := Lib.hid (show Lx.evErr ⟨1, t, j, d, a, r, y, n⟩ = 2 from Lx.ev2 (by omega) ht.out (fun _ => hd.out) (by unfold Lx.Good; dsimp only; omega))
                  have e6 : decide (r < 1) = true := decide_eq_true h6
                  go_wp2_with fail
                  go_ret
                  exact ⟨Lx.ret_int E.out.symm, (Below.refl _ _).alloc (Nat.le_refl _) _⟩
                · have e6 : decide (r < 1) = false := decide_eq_false h6
                  go_upto_region 15 with fail
                  by_cases h7 : n = 0
                  · subst h7
                    go_upto_region 22 with fail
                    by_cases h8 : y < 0
                    · have E := Lib.hid (show Lx.evErr ⟨1, t, j, d, a, r, y, 0⟩ = 2 from Lx.ev2 (by omega) ht.out (fun _ => hd.out) (by unfold Lx.Good; dsimp only; omega))
                      have e8 : decide (y < 0) = true := decide_eq_true h8
                      go_wp2_with fail
                      go_ret
                      exact ⟨Lx.ret_int E.out.symm, (Below.refl _ _).alloc (Nat.le_refl _) _⟩
                    · have e8 : decide (y < 0) = false := decide_eq_false h8
                      by_cases h9 : 0 < y
                      · have E := Lib.hid (show Lx.evErr ⟨1, t, j, d, a, r, y, 0⟩ = 2 from Lx.ev2 (by omega) ht.out (fun _ => hd.out) (by unfold Lx.Good; dsimp only; omega))
                        have e9 : decide (0 < y) = true := decide_eq_true h9
                        go_wp2_with fail
                        go_ret
                        exact ⟨Lx.ret_int E.out.symm, (Below.refl _ _).alloc (Nat.le_refl _) _⟩
                      · have e9 : decide (0 < y) = false := decide_eq_false h9
                        have E := Lib.hid (show Lx.evErr ⟨1, t, j, d, a, r, y, 0⟩ = 0 from (Lx.evErr_good ⟨1, t, j, d, a, r, y, 0⟩).2 (by have ttt := tt.out; have tdd := td.out; unfold Lx.Good; dsimp only; omega))
                        go_wp2_with fail
                        go_ret
                        exact ⟨Lx.ret_int E.out.symm, (Below.refl _ _).alloc (Nat.le_refl _) _⟩
                  · have E := Lib.hid (show Lx.evErr ⟨1, t, j, d, a, r, y, n⟩ = 2 from Lx.ev2 (by omega) ht.out (fun _ => hd.out) (by unfold Lx.Good; dsimp only; omega))
                    have e7 : (n == 0) = false := by rw [beq_eq_false_iff_ne]; exact h7
                    go_wp2_with fail
                    go_ret
                    exact ⟨Lx.ret_int E.out.symm, (Below.refl _ _).alloc (Nat.le_refl _) _⟩
set_option maxRecDepth 100000 in
set_option maxHeartbeats 3200000 in
theorem r36_check_2 (t j d a r y n : Int) (w : World) (hr : r ≤ 9223372036854775807) :
    Calls Tryz.prog 45 #[.agg #[.int .i64 2, .int .i64 t, .int .i64 j, .int .i64 d, .int .i64 a, .int .i64 r, .int .i64 y, .int .i64 n]] w (EvCheckIs (Lx.evErr ⟨2, t, j, d, a, r, y, n⟩) w) := by
  have HT := Lib.hid (fun (x : Int) W => r36time_any x W)
  cases ht : Lx.timeV t with
  | false =>
    have E := Lib.hid (show Lx.evErr ⟨2, t, j, d, a, r, y, n⟩ = 14 from Lx.ev14 (by omega) (.inl ht))
    have HT1 := Lib.hid (HT.out t)
    rw [ht] at HT1
    clear ht HT
    go_enter Tryz.func45, Tryz.ntmps45
    go_wp2_with fail
    refine (HT1.out _).mono ?_
    rintro e w1 ⟨rfl, rfl⟩
    go_wp2_with fail
    go_ret
    exact ⟨Lx.ret_int E.out.symm, (Below.refl _ _).alloc (Nat.le_refl _) _⟩
  | true =>
    have HT1 := Lib.hid (HT.out t)
    rw [ht] at HT1
    have tt := Lib.hid (Lx.time_of ht)
    have ht := Lib.hid ht
    cases hd : Lx.timeV d with
    | false =>
      have E := Lib.hid (show Lx.evErr ⟨2, t, j, d, a, r, y, n⟩ = 14 from Lx.ev14 (by omega) (.inr ⟨by decide, hd⟩))
      have HT2 := Lib.hid (HT.out d)
      rw [hd] at HT2
      clear hd HT
      go_enter Tryz.func45, Tryz.ntmps45
      go_wp2_with fail
      refine (HT1.out _).mono ?_
      rintro e w1 ⟨rfl, rfl⟩
      go_wp2_with fail
      refine (HT2.out _).mono ?_
      rintro e w2 ⟨rfl, rfl⟩
      go_wp2_with fail
      go_ret
      exact ⟨Lx.ret_int E.out.symm, (Below.refl _ _).alloc (Nat.le_refl _) _⟩
    | true =>
      have HT2 := Lib.hid (HT.out d)
      rw [hd] at HT2
      have td := Lib.hid (Lx.time_of hd)
      have hd := Lib.hid hd
      clear HT
      go_enter Tryz.func45, Tryz.ntmps45
      go_wp2_with fail
      refine (HT1.out _).mono ?_
      rintro e w1 ⟨rfl, rfl⟩
      go_wp2_with fail
      refine (HT2.out _).mono ?_
      rintro e w2 ⟨rfl, rfl⟩
      go_upto_region 9 with fail
      by_cases h1 : j < 0
      · have E := Lib.hid (show Lx.evErr ⟨2, t, j, d, a, r, y, n⟩ = 2 from Lx.ev2 (by omega) ht.out (fun _ => hd.out) (by unfold Lx.Good; dsimp only; omega))
        have e1 : decide (j < 0) = true := decide_eq_true h1
        go_wp2_with fail
        go_ret
        exact ⟨Lx.ret_int E.out.symm, (Below.refl _ _).alloc (Nat.le_refl _) _⟩
      · have e1 : decide (j < 0) = false := decide_eq_false h1
        by_cases h2 : 63 < j
        · have E := Lib.hid (show Lx.evErr ⟨2, t, j, d, a, r, y, n⟩ = 2 from Lx.ev2 (by omega) ht.out (fun _ => hd.out) (by unfold Lx.Good; dsimp only; omega))
          have e2 : decide (63 < j) = true := decide_eq_true h2
          go_wp2_with fail
          go_ret
          exact ⟨Lx.ret_int E.out.symm, (Below.refl _ _).alloc (Nat.le_refl _) _⟩
        · have e2 : decide (63 < j) = false := decide_eq_false h2
          go_upto_region 11 with fail
          by_cases h3 : t < d
          · have E := Lib.hid (show Lx.evErr ⟨2, t, j, d, a, r, y, n⟩ = 2 from Lx.ev2 (by omega) ht.out (fun _ => hd.out) (by unfold Lx.Good; dsimp only; omega))
            have e3 : decide (t < d) = true := decide_eq_true h3
            go_wp2_with fail
            go_ret
            exact ⟨Lx.ret_int E.out.symm, (Below.refl _ _).alloc (Nat.le_refl _) _⟩
          · have e3 : decide (t < d) = false := decide_eq_false h3
            by_cases h4 : a < 1
            · have E := Lib.hid (show Lx.evErr ⟨2, t, j, d, a, r, y, n⟩ = 2 from Lx.ev2 (by omega) ht.out (fun _ => hd.out) (by unfold Lx.Good; dsimp only; omega))
              have e4 : decide (a < 1) = true := decide_eq_true h4
              go_wp2_with fail
              go_ret
              exact ⟨Lx.ret_int E.out.symm, (Below.refl _ _).alloc (Nat.le_refl _) _⟩
            · have e4 : decide (a < 1) = false := decide_eq_false h4
              by_cases h5 : 21 < a
              · have E := Lib.hid (show Lx.evErr ⟨2, t, j, d, a, r, y, n⟩ = 2 from Lx.ev2 (by omega) ht.out (fun _ => hd.out) (by unfold Lx.Good; dsimp only; omega))
                have e5 : decide (21 < a) = true := decide_eq_true h5
                go_wp2_with fail
                go_ret
                exact ⟨Lx.ret_int E.out.symm, (Below.refl _ _).alloc (Nat.le_refl _) _⟩
              · have e5 : decide (21 < a) = false := decide_eq_false h5
                go_upto_region 13 with fail
                by_cases h6 : r < 1
                · have E := Lib.hid (show Lx.evErr ⟨2, t, j, d, a, r, y, n⟩ = 2 from Lx.ev2 (by omega) ht.out (fun _ => hd.out) (by unfold Lx.Good; dsimp only; omega))
                  have e6 : decide (r < 1) = true := decide_eq_true h6
                  go_wp2_with fail
                  go_ret
                  exact ⟨Lx.ret_int E.out.symm, (Below.refl _ _).alloc (Nat.le_refl _) _⟩
                · have e6 : decide (r < 1) = false := decide_eq_false h6
                  go_upto_region 15 with fail
                  by_cases h7 : n = 0
                  · subst h7
                    go_upto_region 22 with fail
                    by_cases h8 : y < 0
                    · have E := Lib.hid (show Lx.evErr ⟨2, t, j, d, a, r, y, 0⟩ = 2 from Lx.ev2 (by omega) ht.out (fun _ => hd.out) (by unfold Lx.Good; dsimp only; omega))
                      have e8 : decide (y < 0) = true := decide_eq_true h8
                      go_wp2_with fail
                      go_ret
                      exact ⟨Lx.ret_int E.out.symm, (Below.refl _ _).alloc (Nat.le_refl _) _⟩
                    · have e8 : decide (y < 0) = false := decide_eq_false h8
                      by_cases h9 : 0 < y
                      · have E := Lib.hid (show Lx.evErr ⟨2, t, j, d, a, r, y, 0⟩ = 2 from Lx.ev2 (by omega) ht.out (fun _ => hd.out) (by unfold Lx.Good; dsimp only; omega))
                        have e9 : decide (0 < y) = true := decide_eq_true h9
                        go_wp2_with fail
                        go_ret
                        exact ⟨Lx.ret_int E.out.symm, (Below.refl _ _).alloc (Nat.le_refl _) _⟩
                      · have e9 : decide (0 < y) = false := decide_eq_false h9
                        have E := Lib.hid (show Lx.evErr ⟨2, t, j, d, a, r, y, 0⟩ = 0 from (Lx.evErr_good ⟨2, t, j, d, a, r, y, 0⟩).2 (by have ttt := tt.out; have tdd := td.out; unfold Lx.Good; dsimp only; omega))
                        go_wp2_with fail
                        go_ret
                        exact ⟨Lx.ret_int E.out.symm, (Below.refl _ _).alloc (Nat.le_refl _) _⟩
                  · have E := Lib.hid (show Lx.evErr ⟨2, t, j, d, a, r, y, n⟩ = 2 from Lx.ev2 (by omega) ht.out (fun _ => hd.out) (by unfold Lx.Good; dsimp only; omega))
                    have e7 : (n == 0) = false := by rw [beq_eq_false_iff_ne]; exact h7
                    go_wp2_with fail
                    go_ret
                    exact ⟨Lx.ret_int E.out.symm, (Below.refl _ _).alloc (Nat.le_refl _) _⟩
set_option maxRecDepth 100000 in
set_option maxHeartbeats 3200000 in
theorem r36_check_3 (t j d a r y n : Int) (w : World) (hr : r ≤ 9223372036854775807) :
    Calls Tryz.prog 45 #[.agg #[.int .i64 3, .int .i64 t, .int .i64 j, .int .i64 d, .int .i64 a, .int .i64 r, .int .i64 y, .int .i64 n]] w (EvCheckIs (Lx.evErr ⟨3, t, j, d, a, r, y, n⟩) w) := by
  have HT := Lib.hid (fun (x : Int) W => r36time_any x W)
  cases ht : Lx.timeV t with
  | false =>
    have E := Lib.hid (show Lx.evErr ⟨3, t, j, d, a, r, y, n⟩ = 14 from Lx.ev14 (by omega) (.inl ht))
    have HT1 := Lib.hid (HT.out t)
    rw [ht] at HT1
    clear ht HT
    go_enter Tryz.func45, Tryz.ntmps45
    go_wp2_with fail
    refine (HT1.out _).mono ?_
    rintro e w1 ⟨rfl, rfl⟩
    go_wp2_with fail
    go_ret
    exact ⟨Lx.ret_int E.out.symm, (Below.refl _ _).alloc (Nat.le_refl _) _⟩
  | true =>
    have HT1 := Lib.hid (HT.out t)
    rw [ht] at HT1
    have tt := Lib.hid (Lx.time_of ht)
    have ht := Lib.hid ht
    cases hd : Lx.timeV d with
    | false =>
      have E := Lib.hid (show Lx.evErr ⟨3, t, j, d, a, r, y, n⟩ = 14 from Lx.ev14 (by omega) (.inr ⟨by decide, hd⟩))
      have HT2 := Lib.hid (HT.out d)
      rw [hd] at HT2
      clear hd HT
      go_enter Tryz.func45, Tryz.ntmps45
      go_wp2_with fail
      refine (HT1.out _).mono ?_
      rintro e w1 ⟨rfl, rfl⟩
      go_wp2_with fail
      refine (HT2.out _).mono ?_
      rintro e w2 ⟨rfl, rfl⟩
      go_wp2_with fail
      go_ret
      exact ⟨Lx.ret_int E.out.symm, (Below.refl _ _).alloc (Nat.le_refl _) _⟩
    | true =>
      have HT2 := Lib.hid (HT.out d)
      rw [hd] at HT2
      have td := Lib.hid (Lx.time_of hd)
      have hd := Lib.hid hd
      clear HT
      go_enter Tryz.func45, Tryz.ntmps45
      go_wp2_with fail
      refine (HT1.out _).mono ?_
      rintro e w1 ⟨rfl, rfl⟩
      go_wp2_with fail
      refine (HT2.out _).mono ?_
      rintro e w2 ⟨rfl, rfl⟩
      go_upto_region 9 with fail
      by_cases h1 : j < 0
      · have E := Lib.hid (show Lx.evErr ⟨3, t, j, d, a, r, y, n⟩ = 2 from Lx.ev2 (by omega) ht.out (fun _ => hd.out) (by unfold Lx.Good; dsimp only; omega))
        have e1 : decide (j < 0) = true := decide_eq_true h1
        go_wp2_with fail
        go_ret
        exact ⟨Lx.ret_int E.out.symm, (Below.refl _ _).alloc (Nat.le_refl _) _⟩
      · have e1 : decide (j < 0) = false := decide_eq_false h1
        by_cases h2 : 63 < j
        · have E := Lib.hid (show Lx.evErr ⟨3, t, j, d, a, r, y, n⟩ = 2 from Lx.ev2 (by omega) ht.out (fun _ => hd.out) (by unfold Lx.Good; dsimp only; omega))
          have e2 : decide (63 < j) = true := decide_eq_true h2
          go_wp2_with fail
          go_ret
          exact ⟨Lx.ret_int E.out.symm, (Below.refl _ _).alloc (Nat.le_refl _) _⟩
        · have e2 : decide (63 < j) = false := decide_eq_false h2
          go_upto_region 11 with fail
          by_cases h3 : t < d
          · have E := Lib.hid (show Lx.evErr ⟨3, t, j, d, a, r, y, n⟩ = 2 from Lx.ev2 (by omega) ht.out (fun _ => hd.out) (by unfold Lx.Good; dsimp only; omega))
            have e3 : decide (t < d) = true := decide_eq_true h3
            go_wp2_with fail
            go_ret
            exact ⟨Lx.ret_int E.out.symm, (Below.refl _ _).alloc (Nat.le_refl _) _⟩
          · have e3 : decide (t < d) = false := decide_eq_false h3
            by_cases h4 : a < 1
            · have E := Lib.hid (show Lx.evErr ⟨3, t, j, d, a, r, y, n⟩ = 2 from Lx.ev2 (by omega) ht.out (fun _ => hd.out) (by unfold Lx.Good; dsimp only; omega))
              have e4 : decide (a < 1) = true := decide_eq_true h4
              go_wp2_with fail
              go_ret
              exact ⟨Lx.ret_int E.out.symm, (Below.refl _ _).alloc (Nat.le_refl _) _⟩
            · have e4 : decide (a < 1) = false := decide_eq_false h4
              by_cases h5 : 21 < a
              · have E := Lib.hid (show Lx.evErr ⟨3, t, j, d, a, r, y, n⟩ = 2 from Lx.ev2 (by omega) ht.out (fun _ => hd.out) (by unfold Lx.Good; dsimp only; omega))
                have e5 : decide (21 < a) = true := decide_eq_true h5
                go_wp2_with fail
                go_ret
                exact ⟨Lx.ret_int E.out.symm, (Below.refl _ _).alloc (Nat.le_refl _) _⟩
              · have e5 : decide (21 < a) = false := decide_eq_false h5
                go_upto_region 13 with fail
                by_cases h6 : r < 1
                · have E := Lib.hid (show Lx.evErr ⟨3, t, j, d, a, r, y, n⟩ = 2 from Lx.ev2 (by omega) ht.out (fun _ => hd.out) (by unfold Lx.Good; dsimp only; omega))
                  have e6 : decide (r < 1) = true := decide_eq_true h6
                  go_wp2_with fail
                  go_ret
                  exact ⟨Lx.ret_int E.out.symm, (Below.refl _ _).alloc (Nat.le_refl _) _⟩
                · have e6 : decide (r < 1) = false := decide_eq_false h6
                  go_upto_region 15 with fail
                  by_cases h7 : n = 0
                  · subst h7
                    go_upto_region 22 with fail
                    by_cases h8 : y < 0
                    · have E := Lib.hid (show Lx.evErr ⟨3, t, j, d, a, r, y, 0⟩ = 2 from Lx.ev2 (by omega) ht.out (fun _ => hd.out) (by unfold Lx.Good; dsimp only; omega))
                      have e8 : decide (y < 0) = true := decide_eq_true h8
                      go_wp2_with fail
                      go_ret
                      exact ⟨Lx.ret_int E.out.symm, (Below.refl _ _).alloc (Nat.le_refl _) _⟩
                    · have e8 : decide (y < 0) = false := decide_eq_false h8
                      by_cases h9 : 0 < y
                      · have E := Lib.hid (show Lx.evErr ⟨3, t, j, d, a, r, y, 0⟩ = 2 from Lx.ev2 (by omega) ht.out (fun _ => hd.out) (by unfold Lx.Good; dsimp only; omega))
                        have e9 : decide (0 < y) = true := decide_eq_true h9
                        go_wp2_with fail
                        go_ret
                        exact ⟨Lx.ret_int E.out.symm, (Below.refl _ _).alloc (Nat.le_refl _) _⟩
                      · have e9 : decide (0 < y) = false := decide_eq_false h9
                        have E := Lib.hid (show Lx.evErr ⟨3, t, j, d, a, r, y, 0⟩ = 0 from (Lx.evErr_good ⟨3, t, j, d, a, r, y, 0⟩).2 (by have ttt := tt.out; have tdd := td.out; unfold Lx.Good; dsimp only; omega))
                        go_wp2_with fail
                        go_ret
                        exact ⟨Lx.ret_int E.out.symm, (Below.refl _ _).alloc (Nat.le_refl _) _⟩
                  · have E := Lib.hid (show Lx.evErr ⟨3, t, j, d, a, r, y, n⟩ = 2 from Lx.ev2 (by omega) ht.out (fun _ => hd.out) (by unfold Lx.Good; dsimp only; omega))
                    have e7 : (n == 0) = false := by rw [beq_eq_false_iff_ne]; exact h7
                    go_wp2_with fail
                    go_ret
                    exact ⟨Lx.ret_int E.out.symm, (Below.refl _ _).alloc (Nat.le_refl _) _⟩
set_option maxRecDepth 100000 in
set_option maxHeartbeats 3200000 in
theorem r36_check_4 (t j d a r y n : Int) (w : World) :
    Calls Tryz.prog 45 #[.agg #[.int .i64 4, .int .i64 t, .int .i64 j, .int .i64 d, .int .i64 a, .int .i64 r, .int .i64 y, .int .i64 n]] w (EvCheckIs (Lx.evErr ⟨4, t, j, d, a, r, y, n⟩) w) := by
  have HT := Lib.hid (fun (x : Int) W => r36time_any x W)
  cases ht : Lx.timeV t with
  | false =>
    have E := Lib.hid (show Lx.evErr ⟨4, t, j, d, a, r, y, n⟩ = 14 from Lx.ev14 (by omega) (.inl ht))
    have HT1 := Lib.hid (HT.out t)
    rw [ht] at HT1
    clear ht HT
    go_enter Tryz.func45, Tryz.ntmps45
    go_wp2_with fail
    refine (HT1.out _).mono ?_
    rintro e w1 ⟨rfl, rfl⟩
    go_wp2_with fail
    go_ret
    exact ⟨Lx.ret_int E.out.symm, (Below.refl _ _).alloc (Nat.le_refl _) _⟩
  | true =>
    have HT1 := Lib.hid (HT.out t)
    rw [ht] at HT1
    have tt := Lib.hid (Lx.time_of ht)
    have ht := Lib.hid ht
    cases hd : Lx.timeV d with
    | false =>
      have E := Lib.hid (show Lx.evErr ⟨4, t, j, d, a, r, y, n⟩ = 14 from Lx.ev14 (by omega) (.inr ⟨by decide, hd⟩))
      have HT2 := Lib.hid (HT.out d)
      rw [hd] at HT2
      clear hd HT
      go_enter Tryz.func45, Tryz.ntmps45
      go_wp2_with fail
      refine (HT1.out _).mono ?_
      rintro e w1 ⟨rfl, rfl⟩
      go_wp2_with fail
      refine (HT2.out _).mono ?_
      rintro e w2 ⟨rfl, rfl⟩
      go_wp2_with fail
      go_ret
      exact ⟨Lx.ret_int E.out.symm, (Below.refl _ _).alloc (Nat.le_refl _) _⟩
    | true =>
      have HT2 := Lib.hid (HT.out d)
      rw [hd] at HT2
      have td := Lib.hid (Lx.time_of hd)
      have hd := Lib.hid hd
      clear HT
      go_enter Tryz.func45, Tryz.ntmps45
      go_wp2_with fail
      refine (HT1.out _).mono ?_
      rintro e w1 ⟨rfl, rfl⟩
      go_wp2_with fail
      refine (HT2.out _).mono ?_
      rintro e w2 ⟨rfl, rfl⟩
      go_upto_region 9 with fail
      by_cases h1 : j < 0
      · have E := Lib.hid (show Lx.evErr ⟨4, t, j, d, a, r, y, n⟩ = 2 from Lx.ev2 (by omega) ht.out (fun _ => hd.out) (by unfold Lx.Good; dsimp only; omega))
        have e1 : decide (j < 0) = true := decide_eq_true h1
        go_wp2_with fail
        go_ret
        exact ⟨Lx.ret_int E.out.symm, (Below.refl _ _).alloc (Nat.le_refl _) _⟩
      · have e1 : decide (j < 0) = false := decide_eq_false h1
        by_cases h2 : 63 < j
        · have E := Lib.hid (show Lx.evErr ⟨4, t, j, d, a, r, y, n⟩ = 2 from Lx.ev2 (by omega) ht.out (fun _ => hd.out) (by unfold Lx.Good; dsimp only; omega))
          have e2 : decide (63 < j) = true := decide_eq_true h2
          go_wp2_with fail
          go_ret
          exact ⟨Lx.ret_int E.out.symm, (Below.refl _ _).alloc (Nat.le_refl _) _⟩
        · have e2 : decide (63 < j) = false := decide_eq_false h2
          go_upto_region 11 with fail
          by_cases h3 : t < d
          · have E := Lib.hid (show Lx.evErr ⟨4, t, j, d, a, r, y, n⟩ = 2 from Lx.ev2 (by omega) ht.out (fun _ => hd.out) (by unfold Lx.Good; dsimp only; omega))
            have e3 : decide (t < d) = true := decide_eq_true h3
            go_wp2_with fail
            go_ret
            exact ⟨Lx.ret_int E.out.symm, (Below.refl _ _).alloc (Nat.le_refl _) _⟩
          · have e3 : decide (t < d) = false := decide_eq_false h3
            by_cases h4 : a < 1
            · have E := Lib.hid (show Lx.evErr ⟨4, t, j, d, a, r, y, n⟩ = 2 from Lx.ev2 (by omega) ht.out (fun _ => hd.out) (by unfold Lx.Good; dsimp only; omega))
              have e4 : decide (a < 1) = true := decide_eq_true h4
              go_wp2_with fail
              go_ret
              exact ⟨Lx.ret_int E.out.symm, (Below.refl _ _).alloc (Nat.le_refl _) _⟩
            · have e4 : decide (a < 1) = false := decide_eq_false h4
              by_cases h5 : 21 < a
              · have E := Lib.hid (show Lx.evErr ⟨4, t, j, d, a, r, y, n⟩ = 2 from Lx.ev2 (by omega) ht.out (fun _ => hd.out) (by unfold Lx.Good; dsimp only; omega))
                have e5 : decide (21 < a) = true := decide_eq_true h5
                go_wp2_with fail
                go_ret
                exact ⟨Lx.ret_int E.out.symm, (Below.refl _ _).alloc (Nat.le_refl _) _⟩
              · have e5 : decide (21 < a) = false := decide_eq_false h5
                go_upto_region 13 with fail
                by_cases h6 : r = 0
                · subst h6
                  by_cases h7 : a < 2
                  · have E := Lib.hid (show Lx.evErr ⟨4, t, j, d, a, 0, y, n⟩ = 2 from Lx.ev2 (by omega) ht.out (fun _ => hd.out) (by unfold Lx.Good; dsimp only; omega))
                    have e7 : decide (a < 2) = true := decide_eq_true h7
                    go_wp2_with fail
                    go_ret
                    exact ⟨Lx.ret_int E.out.symm, (Below.refl _ _).alloc (Nat.le_refl _) _⟩
                  · have e7 : decide (a < 2) = false := decide_eq_false h7
                    go_upto_region 15 with fail
                    by_cases h8 : n ≤ t
                    · have E := Lib.hid (show Lx.evErr ⟨4, t, j, d, a, 0, y, n⟩ = 2 from Lx.ev2 (by omega) ht.out (fun _ => hd.out) (by unfold Lx.Good; dsimp only; omega))
                      have e8 : decide (n ≤ t) = true := decide_eq_true h8
                      go_wp2_with fail
                      go_ret
                      exact ⟨Lx.ret_int E.out.symm, (Below.refl _ _).alloc (Nat.le_refl _) _⟩
                    · have e8 : decide (n ≤ t) = false := decide_eq_false h8
                      by_cases h9 : 4611686018427387904 < n
                      · have E := Lib.hid (show Lx.evErr ⟨4, t, j, d, a, 0, y, n⟩ = 2 from Lx.ev2 (by omega) ht.out (fun _ => hd.out) (by unfold Lx.Good; dsimp only; omega))
                        have e9 : decide (4611686018427387904 < n) = true := decide_eq_true h9
                        go_wp2_with fail
                        go_ret
                        exact ⟨Lx.ret_int E.out.symm, (Below.refl _ _).alloc (Nat.le_refl _) _⟩
                      · have e9 : decide (4611686018427387904 < n) = false := decide_eq_false h9
                        go_upto_region 22 with fail
                        by_cases h10 : y < 0
                        · have E := Lib.hid (show Lx.evErr ⟨4, t, j, d, a, 0, y, n⟩ = 2 from Lx.ev2 (by omega) ht.out (fun _ => hd.out) (by unfold Lx.Good; dsimp only; omega))
                          have e10 : decide (y < 0) = true := decide_eq_true h10
                          go_wp2_with fail
                          go_ret
                          exact ⟨Lx.ret_int E.out.symm, (Below.refl _ _).alloc (Nat.le_refl _) _⟩
                        · have e10 : decide (y < 0) = false := decide_eq_false h10
                          by_cases h11 : 0 < y
                          · have E := Lib.hid (show Lx.evErr ⟨4, t, j, d, a, 0, y, n⟩ = 2 from Lx.ev2 (by omega) ht.out (fun _ => hd.out) (by unfold Lx.Good; dsimp only; omega))
                            have e11 : decide (0 < y) = true := decide_eq_true h11
                            go_wp2_with fail
                            go_ret
                            exact ⟨Lx.ret_int E.out.symm, (Below.refl _ _).alloc (Nat.le_refl _) _⟩
                          · have e11 : decide (0 < y) = false := decide_eq_false h11
                            have E := Lib.hid (show Lx.evErr ⟨4, t, j, d, a, 0, y, n⟩ = 0 from (Lx.evErr_good ⟨4, t, j, d, a, 0, y, n⟩).2 (by have ttt := tt.out; have tdd := td.out; unfold Lx.Good; dsimp only; omega))
                            go_wp2_with fail
                            go_ret
                            exact ⟨Lx.ret_int E.out.symm, (Below.refl _ _).alloc (Nat.le_refl _) _⟩
                · have E := Lib.hid (show Lx.evErr ⟨4, t, j, d, a, r, y, n⟩ = 2 from Lx.ev2 (by omega) ht.out (fun _ => hd.out) (by unfold Lx.Good; dsimp only; omega))
                  have e6 : (r == 0) = false := by rw [beq_eq_false_iff_ne]; exact h6
                  go_wp2_with fail
                  go_ret
                  exact ⟨Lx.ret_int E.out.symm, (Below.refl _ _).alloc (Nat.le_refl _) _⟩
set_option maxRecDepth 100000 in
set_option maxHeartbeats 3200000 in
theorem r36_check_5 (t j d a r y n : Int) (w : World) :
    Calls Tryz.prog 45 #[.agg #[.int .i64 5, .int .i64 t, .int .i64 j, .int .i64 d, .int .i64 a, .int .i64 r, .int .i64 y, .int .i64 n]] w (EvCheckIs (Lx.evErr ⟨5, t, j, d, a, r, y, n⟩) w) := by
  have HT := Lib.hid (fun (x : Int) W => r36time_any x W)
  cases ht : Lx.timeV t with
  | false =>
    have E := Lib.hid (show Lx.evErr ⟨5, t, j, d, a, r, y, n⟩ = 14 from Lx.ev14 (by omega) (.inl ht))
    have HT1 := Lib.hid (HT.out t)
    rw [ht] at HT1
    clear ht HT
    go_enter Tryz.func45, Tryz.ntmps45
    go_wp2_with fail
    refine (HT1.out _).mono ?_
    rintro e w1 ⟨rfl, rfl⟩
    go_wp2_with fail
    go_ret
    exact ⟨Lx.ret_int E.out.symm, (Below.refl _ _).alloc (Nat.le_refl _) _⟩
  | true =>
    have HT1 := Lib.hid (HT.out t)
    rw [ht] at HT1
    have tt := Lib.hid (Lx.time_of ht)
    have ht := Lib.hid ht
    cases hd : Lx.timeV d with
    | false =>
      have E := Lib.hid (show Lx.evErr ⟨5, t, j, d, a, r, y, n⟩ = 14 from Lx.ev14 (by omega) (.inr ⟨by decide, hd⟩))
      have HT2 := Lib.hid (HT.out d)
      rw [hd] at HT2
      clear hd HT
      go_enter Tryz.func45, Tryz.ntmps45
      go_wp2_with fail
      refine (HT1.out _).mono ?_
      rintro e w1 ⟨rfl, rfl⟩
      go_wp2_with fail
      refine (HT2.out _).mono ?_
      rintro e w2 ⟨rfl, rfl⟩
      go_wp2_with fail
      go_ret
      exact ⟨Lx.ret_int E.out.symm, (Below.refl _ _).alloc (Nat.le_refl _) _⟩
    | true =>
      have HT2 := Lib.hid (HT.out d)
      rw [hd] at HT2
      have td := Lib.hid (Lx.time_of hd)
      have hd := Lib.hid hd
      clear HT
      go_enter Tryz.func45, Tryz.ntmps45
      go_wp2_with fail
      refine (HT1.out _).mono ?_
      rintro e w1 ⟨rfl, rfl⟩
      go_wp2_with fail
      refine (HT2.out _).mono ?_
      rintro e w2 ⟨rfl, rfl⟩
      go_upto_region 9 with fail
      by_cases h1 : j < 0
      · have E := Lib.hid (show Lx.evErr ⟨5, t, j, d, a, r, y, n⟩ = 2 from Lx.ev2 (by omega) ht.out (fun _ => hd.out) (by unfold Lx.Good; dsimp only; omega))
        have e1 : decide (j < 0) = true := decide_eq_true h1
        go_wp2_with fail
        go_ret
        exact ⟨Lx.ret_int E.out.symm, (Below.refl _ _).alloc (Nat.le_refl _) _⟩
      · have e1 : decide (j < 0) = false := decide_eq_false h1
        by_cases h2 : 63 < j
        · have E := Lib.hid (show Lx.evErr ⟨5, t, j, d, a, r, y, n⟩ = 2 from Lx.ev2 (by omega) ht.out (fun _ => hd.out) (by unfold Lx.Good; dsimp only; omega))
          have e2 : decide (63 < j) = true := decide_eq_true h2
          go_wp2_with fail
          go_ret
          exact ⟨Lx.ret_int E.out.symm, (Below.refl _ _).alloc (Nat.le_refl _) _⟩
        · have e2 : decide (63 < j) = false := decide_eq_false h2
          go_upto_region 11 with fail
          by_cases h3 : t < d
          · have E := Lib.hid (show Lx.evErr ⟨5, t, j, d, a, r, y, n⟩ = 2 from Lx.ev2 (by omega) ht.out (fun _ => hd.out) (by unfold Lx.Good; dsimp only; omega))
            have e3 : decide (t < d) = true := decide_eq_true h3
            go_wp2_with fail
            go_ret
            exact ⟨Lx.ret_int E.out.symm, (Below.refl _ _).alloc (Nat.le_refl _) _⟩
          · have e3 : decide (t < d) = false := decide_eq_false h3
            by_cases h4 : a < 1
            · have E := Lib.hid (show Lx.evErr ⟨5, t, j, d, a, r, y, n⟩ = 2 from Lx.ev2 (by omega) ht.out (fun _ => hd.out) (by unfold Lx.Good; dsimp only; omega))
              have e4 : decide (a < 1) = true := decide_eq_true h4
              go_wp2_with fail
              go_ret
              exact ⟨Lx.ret_int E.out.symm, (Below.refl _ _).alloc (Nat.le_refl _) _⟩
            · have e4 : decide (a < 1) = false := decide_eq_false h4
              by_cases h5 : 21 < a
              · have E := Lib.hid (show Lx.evErr ⟨5, t, j, d, a, r, y, n⟩ = 2 from Lx.ev2 (by omega) ht.out (fun _ => hd.out) (by unfold Lx.Good; dsimp only; omega))
                have e5 : decide (21 < a) = true := decide_eq_true h5
                go_wp2_with fail
                go_ret
                exact ⟨Lx.ret_int E.out.symm, (Below.refl _ _).alloc (Nat.le_refl _) _⟩
              · have e5 : decide (21 < a) = false := decide_eq_false h5
                go_upto_region 13 with fail
                by_cases h6 : r = 0
                · subst h6
                  go_upto_region 15 with fail
                  by_cases h7 : n = 0
                  · subst h7
                    go_upto_region 22 with fail
                    by_cases h8 : y < 1
                    · have E := Lib.hid (show Lx.evErr ⟨5, t, j, d, a, 0, y, 0⟩ = 2 from Lx.ev2 (by omega) ht.out (fun _ => hd.out) (by unfold Lx.Good; dsimp only; omega))
                      have e8 : decide (y < 1) = true := decide_eq_true h8
                      go_wp2_with fail
                      go_ret
                      exact ⟨Lx.ret_int E.out.symm, (Below.refl _ _).alloc (Nat.le_refl _) _⟩
                    · have e8 : decide (y < 1) = false := decide_eq_false h8
                      by_cases h9 : 6 < y
                      · have E := Lib.hid (show Lx.evErr ⟨5, t, j, d, a, 0, y, 0⟩ = 2 from Lx.ev2 (by omega) ht.out (fun _ => hd.out) (by unfold Lx.Good; dsimp only; omega))
                        have e9 : decide (6 < y) = true := decide_eq_true h9
                        go_wp2_with fail
                        go_ret
                        exact ⟨Lx.ret_int E.out.symm, (Below.refl _ _).alloc (Nat.le_refl _) _⟩
                      · have e9 : decide (6 < y) = false := decide_eq_false h9
                        have E := Lib.hid (show Lx.evErr ⟨5, t, j, d, a, 0, y, 0⟩ = 0 from (Lx.evErr_good ⟨5, t, j, d, a, 0, y, 0⟩).2 (by have ttt := tt.out; have tdd := td.out; unfold Lx.Good; dsimp only; omega))
                        go_wp2_with fail
                        go_ret
                        exact ⟨Lx.ret_int E.out.symm, (Below.refl _ _).alloc (Nat.le_refl _) _⟩
                  · have E := Lib.hid (show Lx.evErr ⟨5, t, j, d, a, 0, y, n⟩ = 2 from Lx.ev2 (by omega) ht.out (fun _ => hd.out) (by unfold Lx.Good; dsimp only; omega))
                    have e7 : (n == 0) = false := by rw [beq_eq_false_iff_ne]; exact h7
                    go_wp2_with fail
                    go_ret
                    exact ⟨Lx.ret_int E.out.symm, (Below.refl _ _).alloc (Nat.le_refl _) _⟩
                · have E := Lib.hid (show Lx.evErr ⟨5, t, j, d, a, r, y, n⟩ = 2 from Lx.ev2 (by omega) ht.out (fun _ => hd.out) (by unfold Lx.Good; dsimp only; omega))
                  have e6 : (r == 0) = false := by rw [beq_eq_false_iff_ne]; exact h6
                  go_wp2_with fail
                  go_ret
                  exact ⟨Lx.ret_int E.out.symm, (Below.refl _ _).alloc (Nat.le_refl _) _⟩
set_option maxRecDepth 100000 in
set_option maxHeartbeats 3200000 in
theorem r36_check_6 (t j d a r y n : Int) (w : World) :
    Calls Tryz.prog 45 #[.agg #[.int .i64 6, .int .i64 t, .int .i64 j, .int .i64 d, .int .i64 a, .int .i64 r, .int .i64 y, .int .i64 n]] w (EvCheckIs (Lx.evErr ⟨6, t, j, d, a, r, y, n⟩) w) := by
  have HT := Lib.hid (fun (x : Int) W => r36time_any x W)
  cases ht : Lx.timeV t with
  | false =>
    have E := Lib.hid (show Lx.evErr ⟨6, t, j, d, a, r, y, n⟩ = 14 from Lx.ev14 (by omega) (.inl ht))
    have HT1 := Lib.hid (HT.out t)
    rw [ht] at HT1
    clear ht HT
    go_enter Tryz.func45, Tryz.ntmps45
    go_wp2_with fail
    refine (HT1.out _).mono ?_
    rintro e w1 ⟨rfl, rfl⟩
    go_wp2_with fail
    go_ret
    exact ⟨Lx.ret_int E.out.symm, (Below.refl _ _).alloc (Nat.le_refl _) _⟩
  | true =>
    have HT1 := Lib.hid (HT.out t)
    rw [ht] at HT1
    have tt := Lib.hid (Lx.time_of ht)
    have ht := Lib.hid ht
    clear HT
    go_enter Tryz.func45, Tryz.ntmps45
    go_wp2_with fail
    refine (HT1.out _).mono ?_
    rintro e w1 ⟨rfl, rfl⟩
    go_upto_region 9 with fail
    by_cases h1 : j = 0
    · subst h1
      go_upto_region 11 with fail
      by_cases h2 : d = 0
      · subst h2
        by_cases h3 : a = 0
        · subst h3
          go_upto_region 13 with fail
          by_cases h4 : r = 0
          · subst h4
            go_upto_region 15 with fail
            by_cases h5 : n = 0
            · subst h5
              go_upto_region 22 with fail
              by_cases h6 : y < 1
              · have E := Lib.hid (show Lx.evErr ⟨6, t, 0, 0, 0, 0, y, 0⟩ = 2 from Lx.ev2 (by omega) ht.out (fun c => absurd c (by decide)) (by unfold Lx.Good; dsimp only; omega))
                have e6 : decide (y < 1) = true := decide_eq_true h6
                go_wp2_with fail
                go_ret
                exact ⟨Lx.ret_int E.out.symm, (Below.refl _ _).alloc (Nat.le_refl _) _⟩
              · have e6 : decide (y < 1) = false := decide_eq_false h6
                by_cases h7 : 16 < y
                · have E := Lib.hid (show Lx.evErr ⟨6, t, 0, 0, 0, 0, y, 0⟩ = 2 from Lx.ev2 (by omega) ht.out (fun c => absurd c (by decide)) (by unfold Lx.Good; dsimp only; omega))
                  have e7 : decide (16 < y) = true := decide_eq_true h7
                  go_wp2_with fail
                  go_ret
                  exact ⟨Lx.ret_int E.out.symm, (Below.refl _ _).alloc (Nat.le_refl _) _⟩
                · have e7 : decide (16 < y) = false := decide_eq_false h7
                  have E := Lib.hid (show Lx.evErr ⟨6, t, 0, 0, 0, 0, y, 0⟩ = 0 from (Lx.evErr_good ⟨6, t, 0, 0, 0, 0, y, 0⟩).2 (by have ttt := tt.out; unfold Lx.Good; dsimp only; omega))
                  go_wp2_with fail
                  go_ret
                  exact ⟨Lx.ret_int E.out.symm, (Below.refl _ _).alloc (Nat.le_refl _) _⟩
            · have E := Lib.hid (show Lx.evErr ⟨6, t, 0, 0, 0, 0, y, n⟩ = 2 from Lx.ev2 (by omega) ht.out (fun c => absurd c (by decide)) (by unfold Lx.Good; dsimp only; omega))
              have e5 : (n == 0) = false := by rw [beq_eq_false_iff_ne]; exact h5
              go_wp2_with fail
              go_ret
              exact ⟨Lx.ret_int E.out.symm, (Below.refl _ _).alloc (Nat.le_refl _) _⟩
          · have E := Lib.hid (show Lx.evErr ⟨6, t, 0, 0, 0, r, y, n⟩ = 2 from Lx.ev2 (by omega) ht.out (fun c => absurd c (by decide)) (by unfold Lx.Good; dsimp only; omega))
            have e4 : (r == 0) = false := by rw [beq_eq_false_iff_ne]; exact h4
            go_wp2_with fail
            go_ret
            exact ⟨Lx.ret_int E.out.symm, (Below.refl _ _).alloc (Nat.le_refl _) _⟩
        · have E := Lib.hid (show Lx.evErr ⟨6, t, 0, 0, a, r, y, n⟩ = 2 from Lx.ev2 (by omega) ht.out (fun c => absurd c (by decide)) (by unfold Lx.Good; dsimp only; omega))
          have e3 : (a == 0) = false := by rw [beq_eq_false_iff_ne]; exact h3
          go_wp2_with fail
          go_ret
          exact ⟨Lx.ret_int E.out.symm, (Below.refl _ _).alloc (Nat.le_refl _) _⟩
      · have E := Lib.hid (show Lx.evErr ⟨6, t, 0, d, a, r, y, n⟩ = 2 from Lx.ev2 (by omega) ht.out (fun c => absurd c (by decide)) (by unfold Lx.Good; dsimp only; omega))
        have e2 : (d == 0) = false := by rw [beq_eq_false_iff_ne]; exact h2
        go_wp2_with fail
        go_ret
        exact ⟨Lx.ret_int E.out.symm, (Below.refl _ _).alloc (Nat.le_refl _) _⟩
    · have E := Lib.hid (show Lx.evErr ⟨6, t, j, d, a, r, y, n⟩ = 2 from Lx.ev2 (by omega) ht.out (fun c => absurd c (by decide)) (by unfold Lx.Good; dsimp only; omega))
      have e1 : (j == 0) = false := by rw [beq_eq_false_iff_ne]; exact h1
      go_wp2_with fail
      go_ret
      exact ⟨Lx.ret_int E.out.symm, (Below.refl _ _).alloc (Nat.le_refl _) _⟩
set_option maxRecDepth 100000 in
set_option maxHeartbeats 3200000 in
theorem r36_check_7 (t j d a r y n : Int) (w : World) :
    Calls Tryz.prog 45 #[.agg #[.int .i64 7, .int .i64 t, .int .i64 j, .int .i64 d, .int .i64 a, .int .i64 r, .int .i64 y, .int .i64 n]] w (EvCheckIs (Lx.evErr ⟨7, t, j, d, a, r, y, n⟩) w) := by
  have HT := Lib.hid (fun (x : Int) W => r36time_any x W)
  cases ht : Lx.timeV t with
  | false =>
    have E := Lib.hid (show Lx.evErr ⟨7, t, j, d, a, r, y, n⟩ = 14 from Lx.ev14 (by omega) (.inl ht))
    have HT1 := Lib.hid (HT.out t)
    rw [ht] at HT1
    clear ht HT
    go_enter Tryz.func45, Tryz.ntmps45
    go_wp2_with fail
    refine (HT1.out _).mono ?_
    rintro e w1 ⟨rfl, rfl⟩
    go_wp2_with fail
    go_ret
    exact ⟨Lx.ret_int E.out.symm, (Below.refl _ _).alloc (Nat.le_refl _) _⟩
  | true =>
    have HT1 := Lib.hid (HT.out t)
    rw [ht] at HT1
    have tt := Lib.hid (Lx.time_of ht)
    have ht := Lib.hid ht
    clear HT
    go_enter Tryz.func45, Tryz.ntmps45
    go_wp2_with fail
    refine (HT1.out _).mono ?_
    rintro e w1 ⟨rfl, rfl⟩
    go_upto_region 9 with fail
    by_cases h1 : j < 0
    · have E := Lib.hid (show Lx.evErr ⟨7, t, j, d, a, r, y, n⟩ = 2 from Lx.ev2 (by omega) ht.out (fun c => absurd c (by decide)) (by unfold Lx.Good; dsimp only; omega))
      have e1 : decide (j < 0) = true := decide_eq_true h1
      go_wp2_with fail
      go_ret
      exact ⟨Lx.ret_int E.out.symm, (Below.refl _ _).alloc (Nat.le_refl _) _⟩
    · have e1 : decide (j < 0) = false := decide_eq_false h1
      by_cases h2 : 63 < j
      · have E := Lib.hid (show Lx.evErr ⟨7, t, j, d, a, r, y, n⟩ = 2 from Lx.ev2 (by omega) ht.out (fun c => absurd c (by decide)) (by unfold Lx.Good; dsimp only; omega))
        have e2 : decide (63 < j) = true := decide_eq_true h2
        go_wp2_with fail
        go_ret
        exact ⟨Lx.ret_int E.out.symm, (Below.refl _ _).alloc (Nat.le_refl _) _⟩
      · have e2 : decide (63 < j) = false := decide_eq_false h2
        go_upto_region 11 with fail
        by_cases h3 : d = 0
        · subst h3
          by_cases h4 : a = 0
          · subst h4
            go_upto_region 13 with fail
            by_cases h5 : r = 0
            · subst h5
              go_upto_region 15 with fail
              by_cases h6 : n ≤ t
              · have E := Lib.hid (show Lx.evErr ⟨7, t, j, 0, 0, 0, y, n⟩ = 2 from Lx.ev2 (by omega) ht.out (fun c => absurd c (by decide)) (by unfold Lx.Good; dsimp only; omega))
                have e6 : decide (n ≤ t) = true := decide_eq_true h6
                go_wp2_with fail
                go_ret
                exact ⟨Lx.ret_int E.out.symm, (Below.refl _ _).alloc (Nat.le_refl _) _⟩
              · have e6 : decide (n ≤ t) = false := decide_eq_false h6
                by_cases h7 : 4611686018427387904 < n
                · have E := Lib.hid (show Lx.evErr ⟨7, t, j, 0, 0, 0, y, n⟩ = 2 from Lx.ev2 (by omega) ht.out (fun c => absurd c (by decide)) (by unfold Lx.Good; dsimp only; omega))
                  have e7 : decide (4611686018427387904 < n) = true := decide_eq_true h7
                  go_wp2_with fail
                  go_ret
                  exact ⟨Lx.ret_int E.out.symm, (Below.refl _ _).alloc (Nat.le_refl _) _⟩
                · have e7 : decide (4611686018427387904 < n) = false := decide_eq_false h7
                  go_upto_region 22 with fail
                  by_cases h8 : y < 0
                  · have E := Lib.hid (show Lx.evErr ⟨7, t, j, 0, 0, 0, y, n⟩ = 2 from Lx.ev2 (by omega) ht.out (fun c => absurd c (by decide)) (by unfold Lx.Good; dsimp only; omega))
                    have e8 : decide (y < 0) = true := decide_eq_true h8
                    go_wp2_with fail
                    go_ret
                    exact ⟨Lx.ret_int E.out.symm, (Below.refl _ _).alloc (Nat.le_refl _) _⟩
                  · have e8 : decide (y < 0) = false := decide_eq_false h8
                    by_cases h9 : 0 < y
                    · have E := Lib.hid (show Lx.evErr ⟨7, t, j, 0, 0, 0, y, n⟩ = 2 from Lx.ev2 (by omega) ht.out (fun c => absurd c (by decide)) (by unfold Lx.Good; dsimp only; omega))
                      have e9 : decide (0 < y) = true := decide_eq_true h9
                      go_wp2_with fail
                      go_ret
                      exact ⟨Lx.ret_int E.out.symm, (Below.refl _ _).alloc (Nat.le_refl _) _⟩
                    · have e9 : decide (0 < y) = false := decide_eq_false h9
                      have E := Lib.hid (show Lx.evErr ⟨7, t, j, 0, 0, 0, y, n⟩ = 0 from (Lx.evErr_good ⟨7, t, j, 0, 0, 0, y, n⟩).2 (by have ttt := tt.out; unfold Lx.Good; dsimp only; omega))
                      go_wp2_with fail
                      go_ret
                      exact ⟨Lx.ret_int E.out.symm, (Below.refl _ _).alloc (Nat.le_refl _) _⟩
            · have E := Lib.hid (show Lx.evErr ⟨7, t, j, 0, 0, r, y, n⟩ = 2 from Lx.ev2 (by omega) ht.out (fun c => absurd c (by decide)) (by unfold Lx.Good; dsimp only; omega))
              have e5 : (r == 0) = false := by rw [beq_eq_false_iff_ne]; exact h5
              go_wp2_with fail
              go_ret
              exact ⟨Lx.ret_int E.out.symm, (Below.refl _ _).alloc (Nat.le_refl _) _⟩
          · have E := Lib.hid (show Lx.evErr ⟨7, t, j, 0, a, r, y, n⟩ = 2 from Lx.ev2 (by omega) ht.out (fun c => absurd c (by decide)) (by unfold Lx.Good; dsimp only; omega))
            have e4 : (a == 0) = false := by rw [beq_eq_false_iff_ne]; exact h4
            go_wp2_with fail
            go_ret
            exact ⟨Lx.ret_int E.out.symm, (Below.refl _ _).alloc (Nat.le_refl _) _⟩
        · have E := Lib.hid (show Lx.evErr ⟨7, t, j, d, a, r, y, n⟩ = 2 from Lx.ev2 (by omega) ht.out (fun c => absurd c (by decide)) (by unfold Lx.Good; dsimp only; omega))
          have e3 : (d == 0) = false := by rw [beq_eq_false_iff_ne]; exact h3
          go_wp2_with fail
          go_ret
          exact ⟨Lx.ret_int E.out.symm, (Below.refl _ _).alloc (Nat.le_refl _) _⟩
set_option maxRecDepth 100000 in
set_option maxHeartbeats 3200000 in
theorem r36_check_8 (t j d a r y n : Int) (w : World) :
    Calls Tryz.prog 45 #[.agg #[.int .i64 8, .int .i64 t, .int .i64 j, .int .i64 d, .int .i64 a, .int .i64 r, .int .i64 y, .int .i64 n]] w (EvCheckIs (Lx.evErr ⟨8, t, j, d, a, r, y, n⟩) w) := by
  have HT := Lib.hid (fun (x : Int) W => r36time_any x W)
  cases ht : Lx.timeV t with
  | false =>
    have E := Lib.hid (show Lx.evErr ⟨8, t, j, d, a, r, y, n⟩ = 14 from Lx.ev14 (by omega) (.inl ht))
    have HT1 := Lib.hid (HT.out t)
    rw [ht] at HT1
    clear ht HT
    go_enter Tryz.func45, Tryz.ntmps45
    go_wp2_with fail
    refine (HT1.out _).mono ?_
    rintro e w1 ⟨rfl, rfl⟩
    go_wp2_with fail
    go_ret
    exact ⟨Lx.ret_int E.out.symm, (Below.refl _ _).alloc (Nat.le_refl _) _⟩
  | true =>
    have HT1 := Lib.hid (HT.out t)
    rw [ht] at HT1
    have tt := Lib.hid (Lx.time_of ht)
    have ht := Lib.hid ht
    clear HT
    go_enter Tryz.func45, Tryz.ntmps45
    go_wp2_with fail
    refine (HT1.out _).mono ?_
    rintro e w1 ⟨rfl, rfl⟩
    go_upto_region 9 with fail
    by_cases h1 : j < 0
    · have E := Lib.hid (show Lx.evErr ⟨8, t, j, d, a, r, y, n⟩ = 2 from Lx.ev2 (by omega) ht.out (fun c => absurd c (by decide)) (by unfold Lx.Good; dsimp only; omega))
      have e1 : decide (j < 0) = true := decide_eq_true h1
      go_wp2_with fail
      go_ret
      exact ⟨Lx.ret_int E.out.symm, (Below.refl _ _).alloc (Nat.le_refl _) _⟩
    · have e1 : decide (j < 0) = false := decide_eq_false h1
      by_cases h2 : 63 < j
      · have E := Lib.hid (show Lx.evErr ⟨8, t, j, d, a, r, y, n⟩ = 2 from Lx.ev2 (by omega) ht.out (fun c => absurd c (by decide)) (by unfold Lx.Good; dsimp only; omega))
        have e2 : decide (63 < j) = true := decide_eq_true h2
        go_wp2_with fail
        go_ret
        exact ⟨Lx.ret_int E.out.symm, (Below.refl _ _).alloc (Nat.le_refl _) _⟩
      · have e2 : decide (63 < j) = false := decide_eq_false h2
        go_upto_region 11 with fail
        by_cases h3 : d = 0
        · subst h3
          by_cases h4 : a = 0
          · subst h4
            go_upto_region 13 with fail
            by_cases h5 : r = 0
            · subst h5
              go_upto_region 15 with fail
              by_cases h6 : n = 0
              · subst h6
                go_upto_region 22 with fail
                by_cases h7 : y < 0
                · have E := Lib.hid (show Lx.evErr ⟨8, t, j, 0, 0, 0, y, 0⟩ = 2 from Lx.ev2 (by omega) ht.out (fun c => absurd c (by decide)) (by unfold Lx.Good; dsimp only; omega))
                  have e7 : decide (y < 0) = true := decide_eq_true h7
                  go_wp2_with fail
                  go_ret
                  exact ⟨Lx.ret_int E.out.symm, (Below.refl _ _).alloc (Nat.le_refl _) _⟩
                · have e7 : decide (y < 0) = false := decide_eq_false h7
                  by_cases h8 : 0 < y
                  · have E := Lib.hid (show Lx.evErr ⟨8, t, j, 0, 0, 0, y, 0⟩ = 2 from Lx.ev2 (by omega) ht.out (fun c => absurd c (by decide)) (by unfold Lx.Good; dsimp only; omega))
                    have e8 : decide (0 < y) = true := decide_eq_true h8
                    go_wp2_with fail
                    go_ret
                    exact ⟨Lx.ret_int E.out.symm, (Below.refl _ _).alloc (Nat.le_refl _) _⟩
                  · have e8 : decide (0 < y) = false := decide_eq_false h8
                    have E := Lib.hid (show Lx.evErr ⟨8, t, j, 0, 0, 0, y, 0⟩ = 0 from (Lx.evErr_good ⟨8, t, j, 0, 0, 0, y, 0⟩).2 (by have ttt := tt.out; unfold Lx.Good; dsimp only; omega))
                    go_wp2_with fail
                    go_ret
                    exact ⟨Lx.ret_int E.out.symm, (Below.refl _ _).alloc (Nat.le_refl _) _⟩
              · have E := Lib.hid (show Lx.evErr ⟨8, t, j, 0, 0, 0, y, n⟩ = 2 from Lx.ev2 (by omega) ht.out (fun c => absurd c (by decide)) (by unfold Lx.Good; dsimp only; omega))
                have e6 : (n == 0) = false := by rw [beq_eq_false_iff_ne]; exact h6
                go_wp2_with fail
                go_ret
                exact ⟨Lx.ret_int E.out.symm, (Below.refl _ _).alloc (Nat.le_refl _) _⟩
            · have E := Lib.hid (show Lx.evErr ⟨8, t, j, 0, 0, r, y, n⟩ = 2 from Lx.ev2 (by omega) ht.out (fun c => absurd c (by decide)) (by unfold Lx.Good; dsimp only; omega))
              have e5 : (r == 0) = false := by rw [beq_eq_false_iff_ne]; exact h5
              go_wp2_with fail
              go_ret
              exact ⟨Lx.ret_int E.out.symm, (Below.refl _ _).alloc (Nat.le_refl _) _⟩
          · have E := Lib.hid (show Lx.evErr ⟨8, t, j, 0, a, r, y, n⟩ = 2 from Lx.ev2 (by omega) ht.out (fun c => absurd c (by decide)) (by unfold Lx.Good; dsimp only; omega))
            have e4 : (a == 0) = false := by rw [beq_eq_false_iff_ne]; exact h4
            go_wp2_with fail
            go_ret
            exact ⟨Lx.ret_int E.out.symm, (Below.refl _ _).alloc (Nat.le_refl _) _⟩
        · have E := Lib.hid (show Lx.evErr ⟨8, t, j, d, a, r, y, n⟩ = 2 from Lx.ev2 (by omega) ht.out (fun c => absurd c (by decide)) (by unfold Lx.Good; dsimp only; omega))
          have e3 : (d == 0) = false := by rw [beq_eq_false_iff_ne]; exact h3
          go_wp2_with fail
          go_ret
          exact ⟨Lx.ret_int E.out.symm, (Below.refl _ _).alloc (Nat.le_refl _) _⟩
theorem r36check_any (o : Lx.EvV) (hi : o.In) (w : World) : Calls Tryz.prog 45 #[o.val] w (EvCheckIs (Lx.evErr o) w) := by
  have hr : o.r ≤ 9223372036854775807 := hi.2.2.2.2.2.1.2
  obtain ⟨k, t, j, d, a, r, y, n⟩ := o
  by_cases h : k < 1 ∨ 8 < k
  · exact r36_out k t j d a r y n w h
  · rcases Lx.kind_cases (k := k) (by omega) with rfl | rfl | rfl | rfl | rfl | rfl | rfl | rfl
    · exact r36_check_1 t j d a r y n w hr
    · exact r36_check_2 t j d a r y n w hr
    · exact r36_check_3 t j d a r y n w hr
    · exact r36_check_4 t j d a r y n w
    · exact r36_check_5 t j d a r y n w
    · exact r36_check_6 t j d a r y n w
    · exact r36_check_7 t j d a r y n w
    · exact r36_check_8 t j d a r y n w
end Go.Proofs.YtmpcekpdnikghaaGreatDoor
namespace Go.Proofs.YtmpcekpdnikghaaGreatDoor
open Go.RowKit

namespace Lx
/-- At most 100 names of at most 100 bytes. -/
def fewV (NS : List ByteArray) : Bool := decide (NS.length ≤ 100) && NS.all (fun x => decide (x.size ≤ 100))
theorem few_big {NS : List ByteArray} (h : 100 < NS.length) : fewV NS = false := by
  unfold fewV; rw [decide_eq_false (by omega), Bool.false_and]
theorem few_at {NS : List ByteArray} {k : Nat} {x : ByteArray} (h : NS[k]? = some x) (hx : 100 < x.size) : fewV NS = false := by
  unfold fewV
  rw [Bool.and_eq_false_iff]
  refine .inr ?_
  rw [List.all_eq_false]
  exact ⟨x, List.mem_of_getElem? h, by simp; omega⟩
theorem few_all {NS : List ByteArray} (h : NS.length ≤ 100) (hall : ∀ (k : Nat) (x : ByteArray), NS[k]? = some x → x.size ≤ 100) : fewV NS = true := by
  unfold fewV
  rw [decide_eq_true h, Bool.true_and, List.all_eq_true]
  intro x hx
  obtain ⟨k, hk⟩ := List.mem_iff_getElem?.1 hx
  exact decide_eq_true (hall k x hk)
theorem few_of {NS : List ByteArray} (h : fewV NS = true) : NS.length ≤ 100 ∧ ∀ x ∈ NS, x.size ≤ 100 := by
  unfold fewV at h
  rw [Bool.and_eq_true, List.all_eq_true] at h
  exact ⟨of_decide_eq_true h.1, fun x hx => of_decide_eq_true (h.2 x hx)⟩
theorem nm_big {NS : List ByteArray} (h : 64 < NS.length) : nmErr NS = 12 := by unfold nmErr; rw [if_pos h]
theorem nm_at {NS : List ByteArray} (hl : NS.length ≤ 64) {k : Nat} {x : ByteArray} (h : NS[k]? = some x) (hx : isName x = false) : nmErr NS = 15 := by
  unfold nmErr
  rw [if_neg (by omega), if_pos]
  rw [List.any_eq_true]
  exact ⟨x, List.mem_of_getElem? h, by rw [hx]; rfl⟩
theorem nm_any {NS : List ByteArray} (hall : ∀ (k : Nat) (x : ByteArray), NS[k]? = some x → isName x = true) : ¬ (NS.any (fun x => !isName x) = true) := by
  rw [List.any_eq_true]
  rintro ⟨x, hx, h⟩
  obtain ⟨k, hk⟩ := List.mem_iff_getElem?.1 hx
  rw [hall k x hk] at h
  cases h
theorem nm_dup {NS : List ByteArray} (hl : NS.length ≤ 64) (hall : ∀ (k : Nat) (x : ByteArray), NS[k]? = some x → isName x = true) {i k : Nat} {x : ByteArray} (hi : NS[i]? = some x) (hk : NS[k]? = some x) (h : k < i) : nmErr NS = 6 := by
  unfold nmErr
  rw [if_neg (by omega), if_neg (nm_any hall), if_neg]
  intro hd
  obtain ⟨hi', ei⟩ := List.getElem?_eq_some_iff.1 hi
  obtain ⟨hk', ek⟩ := List.getElem?_eq_some_iff.1 hk
  exact (List.pairwise_iff_getElem.1 hd) k i hk' hi' h (ek.trans ei.symm)
theorem nm_fine {NS : List ByteArray} (hl : NS.length ≤ 64) (hall : ∀ (k : Nat) (x : ByteArray), NS[k]? = some x → isName x = true) (hd : ∀ (i k : Nat) (x : ByteArray), NS[i]? = some x → k < i → NS[k]? ≠ some x) : nmErr NS = 0 := by
  unfold nmErr
  rw [if_neg (by omega), if_neg (nm_any hall), if_pos]
  refine List.pairwise_iff_getElem.2 fun k i hk hi h e => ?_
  exact hd i k _ (List.getElem?_eq_getElem hi) h (by rw [List.getElem?_eq_getElem hk, e])
end Lx
set_option maxRecDepth 100000 in
theorem few_any (ad : Option Addr) (n cap : Nat) (NS : List ByteArray) (w : World) (h : Lx.IsNames w ad n NS) (hz : ∀ x ∈ NS, x.size ≤ maxLen) :
    Calls Tryz.prog 5 #[.slice ad n cap] w fun e w' => e = .returned (.bool (Lx.fewV NS)) ∧ Below w.heap.size w w' := by
  have hl := h.1
  by_cases hbig : 100 < n
  · have hs : Lx.fewV NS = false := Lx.few_big (by omega)
    have hbi : (100 : Int) < (n : Int) := by omega
    rw [hs]
    clear hs h hz hl
    go_enter Tryz.func5, Tryz.ntmps5
    go_wp2_with fail
    go_ret
    exact ⟨rfl, Below.refl _ _⟩
  have hbi : (n : Int) ≤ 100 := by omega
  have hbd : decide ((100 : Int) < (n : Int)) = false := decide_eq_false (by omega)
  obtain ⟨z, hzz⟩ : ∃ z, z = Lx.fewV NS := ⟨_, rfl⟩
  rw [← hzz]
  have HZ := Lib.hid hzz
  have H := Lib.hid h
  have HL := Lib.hid hl
  have HJ := Lib.hid hz
  clear hzz h hl hz
  go_enter Tryz.func5, Tryz.ntmps5
  go_wp2_with fail
  go_loopw [3] (fun i wr => ∃ k : Nat, k ≤ n ∧ i = .int .i64 k ∧ (∀ (j : Nat) (x : ByteArray), j < k → NS[j]? = some x → x.size ≤ 100) ∧ Below w.heap.size w wr) (fun i _ => n - (intOf i).toNat)
  case atStart => exact ⟨0, Nat.zero_le _, rfl, (fun j x hj => absurd hj (Nat.not_lt_zero _)), Below.refl _ _⟩
  case round =>
    obtain ⟨k, hk, rfl, hall, hb⟩ := hrel
    have Hb := Lib.hid hb
    have HA := Lib.hid hall
    clear hb hall
    by_cases hlt : k < n
    · have hki : (k : Int) < (n : Int) := by omega
      obtain ⟨x, hx⟩ : ∃ x, NS[k]? = some x := ⟨_, List.getElem?_eq_getElem (by rw [HL.out]; exact hlt)⟩
      obtain ⟨g, off, rfl, lt, hc⟩ := (H.out.below Hb.out).2 (by omega)
      have hcx := hc k x hx
      have hsz := HJ.out x (List.mem_of_getElem? hx)
      unfold maxLen at hsz
      have HX := Lib.hid hx
      clear hc hx
      by_cases h100 : 100 < x.size
      · have d1 : (100 : Int) < (x.size : Int) := by omega
        have hs := HZ.out.trans (Lx.few_at HX.out h100)
        subst hs
        clear HZ
        go_wp2_with fail
        go_ret
        exact ⟨rfl, Hb.out⟩
      · have d1 : (x.size : Int) ≤ 100 := by omega
        go_wp2_with fail
        go_roundw
        case rel => exact ⟨k + 1, by omega, by go_num, (fun j y hj hy => by rcases Nat.lt_or_eq_of_le (Nat.le_of_lt_succ hj) with c | c; (exact HA.out j y c hy); (subst c; rw [HX.out] at hy; cases hy; omega)), Hb.out⟩
        case measure => simp [intOf]; omega
    · obtain rfl : k = n := by omega
      have hki : decide ((k : Int) < (k : Int)) = false := decide_eq_false (by omega)
      have hs := HZ.out.trans (Lx.few_all (by rw [HL.out]; omega) (fun j x hx => HA.out j x (by rw [← HL.out]; exact (List.getElem?_eq_some_iff.1 hx).1) hx))
      subst hs
      clear HZ
      go_wp2_with fail
      go_ret
      exact ⟨rfl, Hb.out⟩
set_option maxRecDepth 100000 in
set_option maxHeartbeats 1600000 in
theorem r36list_any (ad : Option Addr) (n cap : Nat) (NS : List ByteArray) (w : World) (h : Lx.IsNames w ad n NS) (hz : ∀ x ∈ NS, x.size ≤ maxLen) :
    Calls Tryz.prog 22 #[.slice ad n cap] w fun e w' => e = .returned (.int .i64 (Lx.nmErr NS)) ∧ Below w.heap.size w w' := by
  have hl := h.1
  by_cases hbig : 64 < n
  · have hs : Lx.nmErr NS = 12 := Lx.nm_big (by omega)
    have hbi : (64 : Int) < (n : Int) := by omega
    rw [hs]
    clear hs h hz hl
    go_enter Tryz.func22, Tryz.ntmps22
    go_wp2_with fail
    go_ret
    exact ⟨rfl, Below.refl _ _⟩
  have hbi : (n : Int) ≤ 64 := by omega
  have hbd : decide ((64 : Int) < (n : Int)) = false := decide_eq_false (by omega)
  have HNM := Lib.hid (fun (x : ByteArray) (W : World) (hx : x.size ≤ maxLen) => ref_name_any x W hx)
  obtain ⟨z, hzz⟩ : ∃ z, z = Lx.nmErr NS := ⟨_, rfl⟩
  rw [← hzz]
  have HZ := Lib.hid hzz
  have H := Lib.hid h
  have HL := Lib.hid hl
  have HL64 := Lib.hid (show NS.length ≤ 64 by omega)
  have HJ := Lib.hid hz
  clear hzz h hl hz
  go_enter Tryz.func22, Tryz.ntmps22
  go_wp2_with fail
  go_loopw [3] (fun i wr => ∃ k : Nat, k ≤ n ∧ i = .int .i64 k ∧ (∀ (j : Nat) (x : ByteArray), j < k → NS[j]? = some x → Lx.isName x = true) ∧ Below w.heap.size w wr) (fun i _ => n - (intOf i).toNat)
  case atStart => exact ⟨0, Nat.zero_le _, rfl, (fun j x hj => absurd hj (Nat.not_lt_zero _)), Below.refl _ _⟩
  case round =>
    obtain ⟨k, hk, rfl, hall, hb⟩ := hrel
    have Hb := Lib.hid hb
    have HA := Lib.hid hall
    clear hb hall
    by_cases hlt : k < n
    · have hki : (k : Int) < (n : Int) := by omega
      obtain ⟨x, hx⟩ : ∃ x, NS[k]? = some x := ⟨_, List.getElem?_eq_getElem (by rw [HL.out]; exact hlt)⟩
      obtain ⟨g, off, rfl, lt, hc⟩ := (H.out.below Hb.out).2 (by omega)
      have hcx := hc k x hx
      have HN1 := Lib.hid (fun W => HNM.out x W (HJ.out x (List.mem_of_getElem? hx)))
      have HX := Lib.hid hx
      clear hc hx
      cases hnx : Lx.isName x
      · rw [hnx] at HN1
        have hs := HZ.out.trans (Lx.nm_at HL64.out HX.out hnx)
        subst hs
        clear HZ hnx
        go_wp2_with fail
        refine (HN1.out _).mono ?_
        rintro e w1 ⟨rfl, rfl⟩
        go_wp2_with fail
        go_ret
        exact ⟨rfl, Hb.out⟩
      · rw [hnx] at HN1
        have HNX := Lib.hid hnx
        clear hnx
        go_wp2_with fail
        refine (HN1.out _).mono ?_
        rintro e w1 ⟨rfl, rfl⟩
        go_wp2_with fail
        go_roundw
        case rel => exact ⟨k + 1, by omega, by go_num, (fun j y hj hy => by rcases Nat.lt_or_eq_of_le (Nat.le_of_lt_succ hj) with c | c; (exact HA.out j y c hy); (subst c; rw [HX.out] at hy; cases hy; exact HNX.out)), Hb.out⟩
        case measure => simp [intOf]; omega
    · obtain rfl : k = n := by omega
      have hki : decide ((k : Int) < (k : Int)) = false := decide_eq_false (by omega)
      have hall : ∀ (j : Nat) (x : ByteArray), NS[j]? = some x → Lx.isName x = true := fun j x hx => HA.out j x (by rw [← HL.out]; exact (List.getElem?_eq_some_iff.1 hx).1) hx
      have HALL := Lib.hid hall
      have Hb0 := Hb
      clear hall HA HNM Hb
      go_wp2_with fail
      clear hki hlt hk
      go_loopw [4] (fun i wr => ∃ a : Nat, a ≤ k ∧ i = .int .i64 a ∧ (∀ (j b : Nat) (x : ByteArray), j < a → NS[j]? = some x → b < j → NS[b]? ≠ some x) ∧ Below w.heap.size w wr) (fun i _ => k - (intOf i).toNat)
      case atStart => exact ⟨0, Nat.zero_le _, rfl, (fun j b x hj => absurd hj (Nat.not_lt_zero _)), Hb0.out⟩
      case round =>
        obtain ⟨a, ha, rfl, hdis, hb⟩ := hrel
        have Hb := Lib.hid hb
        have HD := Lib.hid hdis
        clear hb hdis Hb0
        by_cases hlt : a < k
        · have hki : (a : Int) < (k : Int) := by omega
          obtain ⟨x, hx⟩ : ∃ x, NS[a]? = some x := ⟨_, List.getElem?_eq_getElem (by rw [HL.out]; exact hlt)⟩
          have HX := Lib.hid hx
          have Hb0 := Hb
          clear hx Hb
          go_wp2_with fail
          go_loopw [5] (fun i wr => ∃ b : Nat, b ≤ a ∧ i = .int .i64 b ∧ (∀ j : Nat, j < b → NS[j]? ≠ some x) ∧ Below w.heap.size w wr) (fun i _ => a - (intOf i).toNat)
          case atStart => exact ⟨0, Nat.zero_le _, rfl, (fun j hj => absurd hj (Nat.not_lt_zero _)), Hb0.out⟩
          case round =>
            obtain ⟨b, hb', rfl, hne, hb⟩ := hrel
            have Hb := Lib.hid hb
            have HE := Lib.hid hne
            clear hb hne Hb0
            by_cases hlb : b < a
            · have hbi2 : (b : Int) < (a : Int) := by omega
              obtain ⟨y, hy⟩ : ∃ y, NS[b]? = some y := ⟨_, List.getElem?_eq_getElem (by rw [HL.out]; omega)⟩
              obtain ⟨g, off, rfl, lt, hc⟩ := (H.out.below Hb.out).2 (by omega)
              have hcx := hc a x HX.out
              have hcy := hc b y hy
              have HY := Lib.hid hy
              have hbk : (b : Int) < (k : Int) := by omega
              clear hc hy
              by_cases hxy : x = y
              · subst hxy
                have hs := HZ.out.trans (Lx.nm_dup HL64.out HALL.out HX.out HY.out hlb)
                subst hs
                have hee : (x.toList == x.toList) = true := by rw [beq_iff_eq]
                clear HZ
                go_wp2_with fail
                go_quiet (fail)
                go_wp2_with fail
                go_ret
                exact ⟨rfl, Hb.out.trans (below_drewN _ _ _)⟩
              · have hee : (x.toList == y.toList) = false := by rw [beq_eq_false_iff_ne]; intro e; rw [Lib.toList_data, Lib.toList_data] at e; exact hxy (ByteArray.ext (Array.toList_inj.1 e))
                have HXY := Lib.hid hxy
                clear hxy
                go_wp2_with fail
                go_quiet (fail)
                go_wp2_with fail
                go_roundw
                case rel => exact ⟨b + 1, by omega, by go_num, (fun j hj hy => by rcases Nat.lt_or_eq_of_le (Nat.le_of_lt_succ hj) with c | c; (exact HE.out j c hy); (subst c; rw [HY.out] at hy; cases hy; exact HXY.out rfl)), Hb.out.trans (below_drewN _ _ _)⟩
                case measure => simp [intOf]; omega
            · obtain rfl : b = a := by omega
              have hbi2 : decide ((b : Int) < (b : Int)) = false := decide_eq_false (by omega)
              go_wp2_with fail
              go_roundw
              case rel => exact ⟨b + 1, by omega, by go_num, (fun j c y hj hy hcj => by rcases Nat.lt_or_eq_of_le (Nat.le_of_lt_succ hj) with d | d; (exact HD.out j c y d hy hcj); (subst d; rw [HX.out] at hy; cases hy; exact HE.out c hcj)), Hb.out⟩
              case measure => simp [intOf]; omega
        · obtain rfl : a = k := by omega
          have hki : decide ((a : Int) < (a : Int)) = false := decide_eq_false (by omega)
          have hs := HZ.out.trans (Lx.nm_fine HL64.out HALL.out (fun i b x hi hbi => HD.out i b x (by rw [← HL.out]; exact (List.getElem?_eq_some_iff.1 hi).1) hi hbi))
          subst hs
          clear HZ
          go_wp2_with fail
          go_ret
          exact ⟨rfl, Hb.out⟩
end Go.Proofs.YtmpcekpdnikghaaGreatDoor
namespace Go.Proofs.YtmpcekpdnikghaaGreatDoor
open Go.RowKit

theorem r36number_any (n : Int) (w : World) (h0 : -9223372036854775808 ≤ n) (h1 : n ≤ 9223372036854775807) :
    Calls Tryz.prog 46 #[.int .i64 n] w fun e w' => e = .returned (.string ⟨(Lx.untilW n).toArray⟩) ∧ Below w.heap.size w w' := by
  by_cases hn : n = 4611686018427387904
  · subst hn
    have hv : (⟨(Lx.untilW 4611686018427387904).toArray⟩ : ByteArray) = ⟨#[110, 101, 118, 101, 114]⟩ := rfl
    rw [hv]
    go_enter Tryz.func46, Tryz.ntmps46
    go_wp2_with fail
    go_ret
    exact ⟨rfl, Below.refl _ _⟩
  · have hb : (n == 4611686018427387904) = false := by rw [beq_eq_false_iff_ne]; exact hn
    have hv : Lx.untilW n = Lib.itoa n := by unfold Lx.untilW; rw [if_neg hn]
    rw [hv]
    have HD := Lib.hid (ref_digits_any n w h0 h1)
    clear hn hv
    go_enter Tryz.func46, Tryz.ntmps46
    go_wp2_with fail
    refine HD.out.mono ?_
    rintro e w1 ⟨rfl, c1⟩
    go_wp2_with fail
    go_ret
    exact ⟨rfl, c1⟩
set_option maxHeartbeats 1600000 in
theorem r36word_any (k : Nat) (hk : k < 9) (w : World) :
    Calls Tryz.prog 25 #[.int .i64 k] w fun e w' => e = .returned (.string ⟨(Lx.evWord k).toArray⟩) ∧ Below w.heap.size w w' := by
  rcases Lx.nine hk with rfl | rfl | rfl | rfl | rfl | rfl | rfl | rfl | rfl <;>
  · go_enter Tryz.func25, Tryz.ntmps25
    go_wp2_with fail
    go_ret
    exact ⟨rfl, (Below.refl _ _).alloc (Nat.le_refl _) _⟩
theorem Lx.seven {q : Nat} (h : q < 7) : q = 0 ∨ q = 1 ∨ q = 2 ∨ q = 3 ∨ q = 4 ∨ q = 5 ∨ q = 6 := by omega
set_option maxHeartbeats 1600000 in
theorem r36why_any (k : Nat) (hk : k < 7) (w : World) :
    Calls Tryz.prog 27 #[.int .i64 k] w fun e w' => e = .returned (.string ⟨(Lx.reasonW k).toArray⟩) ∧ Below w.heap.size w w' := by
  rcases Lx.seven hk with rfl | rfl | rfl | rfl | rfl | rfl | rfl <;>
  · go_enter Tryz.func27, Tryz.ntmps27
    go_wp2_with fail
    go_ret
    exact ⟨rfl, (Below.refl _ _).alloc (Nat.le_refl _) _⟩
end Go.Proofs.YtmpcekpdnikghaaGreatDoor
namespace Go.Proofs.YtmpcekpdnikghaaGreatDoor
open Go.RowKit

namespace Lx
theorem app_eq {V : ByteArray} {l : List UInt8} (h : V.data.toList = l) : V = ⟨l.toArray⟩ := by
  apply ByteArray.ext
  apply Array.toList_inj.1
  exact h
theorem fits {a b : Nat} (h : a + b ≤ 1000000) : ¬ (9223372036854775807 < a + b) := by omega
theorem sp_size : (⟨#[32]⟩ : ByteArray).size = 1 := rfl
theorem word_len (k : Int) : (evWord k).length ≤ 24 := by unfold evWord; (repeat' split) <;> decide
theorem reason_len (k : Int) : (reasonW k).length ≤ 24 := by unfold reasonW; (repeat' split) <;> decide
theorem until_len {n : Int} (h : inR n) : (untilW n).length ≤ 24 := by
  unfold untilW; split
  · decide
  · have := it_len h; omega
end Lx
theorem r36num_any (n : Int) (w : World) (h : 0 ≤ n ∧ n ≤ 253402300799) :
    Calls Tryz.prog 46 #[.int .i64 n] w fun e w' => e = .returned (.string ⟨(Lib.itoa n).toArray⟩) ∧ Below w.heap.size w w' := by
  have := r36number_any n w (by omega) (by omega)
  rw [show Lx.untilW n = Lib.itoa n from by unfold Lx.untilW; rw [if_neg (by omega)]] at this
  exact this
set_option maxRecDepth 100000 in
set_option maxHeartbeats 1600000 in
theorem r36_print_1 (t d a r : Int) (p : Nat) (x : ByteArray) (hxs : x.size ≤ 24) (ad : Option Addr) (m cap : Nat) (NS : List ByteArray) (w : World) (h : Lx.IsNames w ad m NS) (hz : ∀ x ∈ NS, x.size ≤ maxLen) (hN : Lx.nmErr NS = 0) (hx : NS[p]? = some x) (g : Lx.Good ⟨1, t, (p : Nat), d, a, r, 0, 0⟩) :
    Calls Tryz.prog 28 #[.agg #[.int .i64 1, .int .i64 t, .int .i64 (p : Nat), .int .i64 d, .int .i64 a, .int .i64 r, .int .i64 0, .int .i64 0], .slice ad m cap] w (WriteIs (Lx.evText ⟨1, t, (p : Nat), d, a, r, 0, 0⟩ x.data.toList) 0 w) := by
  have hI := Lx.good_in g
  have HC := Lib.hid (fun W => r36check_any ⟨1, t, (p : Nat), d, a, r, 0, 0⟩ hI W)
  rw [(Lx.evErr_good _).2 g] at HC
  unfold EvCheckIs Lx.EvV.val at HC
  dsimp only at HC
  have HL := Lib.hid (fun W (b : Below w.heap.size w W) => r36list_any ad m cap NS W (h.below b) hz)
  rw [hN] at HL
  have HN := Lib.hid (fun W (b : Below w.heap.size w W) => h.below b)
  have hm := h.1
  unfold Lx.EvV.In Lx.inR at hI
  unfold Lx.Good at g
  dsimp only at hI g
  have ht0 : 0 ≤ t ∧ t ≤ 253402300799 := by omega
  have hTl := Lx.it_len (n := t) (by unfold Lx.inR; omega)
  have hWl := Lx.word_len (1 : Nat)
  obtain ⟨VT, hVT⟩ : ∃ V : ByteArray, V = ⟨(Lib.itoa t).toArray⟩ := ⟨_, rfl⟩
  obtain ⟨VW, hVW⟩ : ∃ V : ByteArray, V = ⟨(Lx.evWord (1 : Nat)).toArray⟩ := ⟨_, rfl⟩
  have HT : ∀ W, Calls Tryz.prog 46 #[.int .i64 t] W fun e w' => e = .returned (.string VT) ∧ Below W.heap.size W w' := fun W => by rw [hVT]; exact r36num_any t W ht0
  have HW : ∀ W, Calls Tryz.prog 25 #[.int .i64 1] W fun e w' => e = .returned (.string VW) ∧ Below W.heap.size W w' := fun W => by rw [hVW]; exact r36word_any 1 (by omega) W
  have hVTd : VT.data.toList = Lib.itoa t := by rw [hVT]
  have hVWd : VW.data.toList = Lx.evWord (1 : Nat) := by rw [hVW]
  have hVTs : VT.size ≤ 21 := by rw [Lib.size_eq, hVTd]; omega
  have hVWs : VW.size ≤ 24 := by rw [Lib.size_eq, hVWd]; omega
  have HT := Lib.hid HT
  have HW := Lib.hid HW
  have HVTD := Lib.hid hVTd
  have HVWD := Lib.hid hVWd
  have z1 : ¬ (9223372036854775807 < VT.size + 1) := Lx.fits (by omega)
  have z2 : ¬ (9223372036854775807 < VT.size + 1 + VW.size) := Lx.fits (by omega)
  clear hVT hVW hVTd hVWd
  have HD := Lib.hid (fun W => r36num_any d W (by omega))
  have hDl := Lx.it_len (n := d) (by unfold Lx.inR; omega)
  have HA := Lib.hid (fun W => r36num_any a W (by omega))
  have hAl := Lx.it_len (n := a) (by unfold Lx.inR; omega)
  have HR := Lib.hid (fun W => ref_digits_any r W (by omega) (by omega))
  have hRl := Lx.it_len (n := r) (by unfold Lx.inR; omega)
  have ba : Below w.heap.size w (w.alloc (.cells #[.int .i64 1, .int .i64 t, .int .i64 (p : Nat), .int .i64 d, .int .i64 a, .int .i64 r, .int .i64 0, .int .i64 0] 26)) := (Below.refl _ w).alloc (Nat.le_refl _) _
  have BO0 := Lib.hid (Lx.EvBox.new w 1 t (p : Nat) d a r 0 0 26)
  have B0 := Lib.hid ba
  clear ba
  have hp : p < m := by rw [← hm]; exact (List.getElem?_eq_some_iff.1 hx).1
  have hpi : (p : Int) < (m : Int) := by omega
  have hpd : decide ((m : Int) ≤ (p : Int)) = false := decide_eq_false (by omega)
  have HX := Lib.hid hx
  clear hx
  have HG := Lib.hid g
  clear g hI h hz hN hm
  go_enter Tryz.func28, Tryz.ntmps28
  go_wp2_with fail
  refine (HL.out _ B0.out).mono ?_
  rintro e w1 ⟨rfl, c1⟩
  have BO1 := Lib.hid (BO0.out.below c1)
  have B1 := Lib.hid (B0.out.trans (c1.mono B0.out.size))
  clear c1 BO0 B0 HL
  obtain ⟨q0, q1, q2, q3, q4, q5, q6, q7⟩ := BO1.out.eight
  go_wp2_with fail
  refine (HC.out _).mono ?_
  rintro e w2 ⟨rfl, c2⟩
  have BO2 := Lib.hid (BO1.out.below c2)
  have B2 := Lib.hid (B1.out.trans (c2.mono B1.out.size))
  clear c2 BO1 B1 HC q0 q1 q2 q3 q4 q5 q6 q7
  obtain ⟨W0, rfl⟩ : ∃ W, W = w2 := ⟨_, rfl⟩
  have hl := BO2.out.1
  obtain ⟨q0, q1, q2, q3, q4, q5, q6, q7⟩ := BO2.out.eight
  go_upto_region 6 with (fail)
  go_cut [7] (fun s7 wx => (∃ T : ByteArray, s7 = .string T ∧ T.data.toList = Lib.itoa t ++ 32 :: Lx.evWord (1 : Nat) ∧ T.size ≤ 46) ∧ Below W0.heap.size W0 wx)
  case first =>
    have HP := Lib.hid (fun W (hb : Below W0.heap.size W0 W) => And.intro ((hb.cell (p := ⟨w.heap.size, 1, none⟩) hl).trans q1) ((hb.cell (p := ⟨w.heap.size, 0, none⟩) hl).trans q0))
    have hS0 : (fun wx => Below W0.heap.size W0 wx ∧ wx.cell? ⟨w.heap.size, 1, none⟩ = some (.int .i64 t) ∧ wx.cell? ⟨w.heap.size, 0, none⟩ = some (.int .i64 1)) W0.drew := ⟨(Below.refl _ _).drew, q1, q0⟩
    dsimp only at hS0
    clear q0 q1 q2 q3 q4 q5 q6 q7
    go_region_held3 (fun wx => Below W0.heap.size W0 wx ∧ wx.cell? ⟨w.heap.size, 1, none⟩ = some (.int .i64 t) ∧ wx.cell? ⟨w.heap.size, 0, none⟩ = some (.int .i64 1))
      (first | assumption | (refine Lx.mkS HP.out ?_; repeat (first | assumption | exact Below.refl _ _ | apply Lx.bDrew | apply Lx.bAlloc)))
      (first
        | (go_at_call 46; with_reducible refine (HT.out _).mono ?_; rintro e w3 ⟨rfl, cb⟩; have kb2 := Lx.bCall (P := fun wx => wx.cell? ⟨w.heap.size, 1, none⟩ = some (.int .i64 t) ∧ wx.cell? ⟨w.heap.size, 0, none⟩ = some (.int .i64 1)) (by assumption) cb; have hzz := kb2.size; have kS := Lx.mkS HP.out kb2; clear cb)
        | (go_at_call 25; with_reducible refine (HW.out _).mono ?_; rintro e w4 ⟨rfl, cb⟩; have kb2 := Lx.bCall (P := fun wx => wx.cell? ⟨w.heap.size, 1, none⟩ = some (.int .i64 t) ∧ wx.cell? ⟨w.heap.size, 0, none⟩ = some (.int .i64 1)) (by assumption) cb; have hzz := kb2.size; have kS := Lx.mkS HP.out kb2; clear cb))
    all_goals (go_wp2_with fail; go_meet)
    all_goals exact ⟨⟨_, rfl, by simp only [ByteArray.data_append, Array.toList_append, HVTD.out, HVWD.out]; simp, by simp only [ByteArray.size_append, Lx.sp_size]; omega⟩, And.left (by assumption)⟩
  case rest =>
    obtain ⟨⟨T1, rfl, hT1, hs1⟩, hb⟩ := hcut
    have HT1 := Lib.hid hT1
    have B3 := Lib.hid (B2.out.trans (hb.mono B2.out.size))
    have BO3 := Lib.hid (BO2.out.below hb)
    clear hb hT1 q0 q1 q2 q3 q4 q5 q6 q7
    obtain ⟨q0, q1, q2, q3, q4, q5, q6, q7⟩ := BO3.out.eight
    have f1 : ¬ (9223372036854775807 < T1.size + 1) := Lx.fits (by omega)
    have f1b : ¬ (9223372036854775807 < T1.size + (⟨#[32]⟩ : ByteArray).size) := f1
    obtain ⟨gn, off, rfl, ltn, hcn⟩ := (HN.out _ B3.out).2 (by omega)
    have xn := hcn p x HX.out
    clear hcn
    have f2 : ¬ (9223372036854775807 < T1.size + 1 + x.size) := Lx.fits (by omega)
    have f2b : ¬ (9223372036854775807 < (T1 ++ ⟨#[32]⟩ : ByteArray).size + x.size) := by rw [ByteArray.size_append, Lx.sp_size]; exact f2
    go_upto_region 13 with (fail)
    obtain ⟨T2, hT2⟩ : ∃ T2 : ByteArray, T2 = T1 ++ ⟨#[32]⟩ ++ x := ⟨_, rfl⟩
    rw [← hT2]
    have hs2 : T2.size ≤ 71 := by rw [hT2, ByteArray.size_append, ByteArray.size_append, Lx.sp_size]; omega
    have HT2 := Lib.hid (show T2.data.toList = (Lib.itoa t ++ 32 :: Lx.evWord (1 : Nat)) ++ 32 :: x.data.toList by rw [hT2, ByteArray.data_append, ByteArray.data_append, Array.toList_append, Array.toList_append, HT1.out]; simp)
    clear hT2 xn f1 f1b f2 f2b HT1
    obtain ⟨W0, rfl⟩ : ∃ W, W = wc := ⟨_, rfl⟩
    have hl := BO3.out.1
    have g1 : ¬ (9223372036854775807 < T2.size + 1) := Lx.fits (by omega)
    have g1b : ¬ (9223372036854775807 < T2.size + (⟨#[32]⟩ : ByteArray).size) := g1
    obtain ⟨VD, hVD⟩ : ∃ V : ByteArray, V = ⟨(Lib.itoa d).toArray⟩ := ⟨_, rfl⟩
    rw [← hVD] at HD
    have hVDd : VD.data.toList = Lib.itoa d := by rw [hVD]
    have hVDs : VD.size ≤ 24 := by rw [Lib.size_eq, hVDd]; omega
    obtain ⟨VA, hVA⟩ : ∃ V : ByteArray, V = ⟨(Lib.itoa a).toArray⟩ := ⟨_, rfl⟩
    rw [← hVA] at HA
    have hVAd : VA.data.toList = Lib.itoa a := by rw [hVA]
    have hVAs : VA.size ≤ 24 := by rw [Lib.size_eq, hVAd]; omega
    have HVDD := Lib.hid hVDd
    have HVAD := Lib.hid hVAd
    clear hVD hVDd hVA hVAd
    have g2 : ¬ (9223372036854775807 < T2.size + 1 + VD.size) := Lx.fits (by omega)
    have g3 : ¬ (9223372036854775807 < T2.size + 1 + VD.size + 1) := Lx.fits (by omega)
    have g4 : ¬ (9223372036854775807 < T2.size + 1 + VD.size + 1 + VA.size) := Lx.fits (by omega)
    go_cut [7] (fun s7 wx => (∃ T : ByteArray, s7 = .string T ∧ T.data.toList = ((Lib.itoa t ++ 32 :: Lx.evWord (1 : Nat)) ++ 32 :: x.data.toList) ++ 32 :: (Lib.itoa d ++ 32 :: Lib.itoa a) ∧ T.size ≤ 130) ∧ Below W0.heap.size W0 wx)
    case first =>
      have HP := Lib.hid (fun W (hb : Below W0.heap.size W0 W) => And.intro ((hb.cell (p := ⟨w.heap.size, 3, none⟩) hl).trans q3) ((hb.cell (p := ⟨w.heap.size, 4, none⟩) hl).trans q4))
      have hS0 : (fun wx => Below W0.heap.size W0 wx ∧ wx.cell? ⟨w.heap.size, 3, none⟩ = some (.int .i64 d) ∧ wx.cell? ⟨w.heap.size, 4, none⟩ = some (.int .i64 a)) W0.drew := ⟨(Below.refl _ _).drew, q3, q4⟩
      dsimp only at hS0
      clear q0 q1 q2 q3 q4 q5 q6 q7
      go_region_held3 (fun wx => Below W0.heap.size W0 wx ∧ wx.cell? ⟨w.heap.size, 3, none⟩ = some (.int .i64 d) ∧ wx.cell? ⟨w.heap.size, 4, none⟩ = some (.int .i64 a))
        (first | assumption | (refine Lx.mkS HP.out ?_; repeat (first | assumption | exact Below.refl _ _ | apply Lx.bDrew | apply Lx.bAlloc)))
        (first
          | (go_at_call 46; with_reducible refine (HD.out _).mono ?_; rintro e w5 ⟨rfl, cb⟩; have kb2 := Lx.bCall (P := fun wx => wx.cell? ⟨w.heap.size, 3, none⟩ = some (.int .i64 d) ∧ wx.cell? ⟨w.heap.size, 4, none⟩ = some (.int .i64 a)) (by assumption) cb; have hzz := kb2.size; have kS := Lx.mkS HP.out kb2; clear cb)
          | (go_at_call 46; with_reducible refine (HA.out _).mono ?_; rintro e w6 ⟨rfl, cb⟩; have kb2 := Lx.bCall (P := fun wx => wx.cell? ⟨w.heap.size, 3, none⟩ = some (.int .i64 d) ∧ wx.cell? ⟨w.heap.size, 4, none⟩ = some (.int .i64 a)) (by assumption) cb; have hzz := kb2.size; have kS := Lx.mkS HP.out kb2; clear cb))
      all_goals (go_wp2_with fail; go_meet)
      all_goals exact ⟨⟨_, rfl, by simp only [ByteArray.data_append, Array.toList_append, HT2.out, HVDD.out, HVAD.out]; simp, by simp only [ByteArray.size_append, Lx.sp_size]; omega⟩, And.left (by assumption)⟩
    case rest =>
      obtain ⟨⟨T3, rfl, hT3, hs3⟩, hb⟩ := hcut
      have HT3 := Lib.hid hT3
      have B4 := Lib.hid (B3.out.trans (hb.mono B3.out.size))
      have BO4 := Lib.hid (BO3.out.below hb)
      clear hb hT3 q0 q1 q2 q3 q4 q5 q6 q7
      obtain ⟨q0, q1, q2, q3, q4, q5, q6, q7⟩ := BO4.out.eight
      have f8 : ¬ (9223372036854775807 < T3.size + 1) := Lx.fits (by omega)
      have f8b : ¬ (9223372036854775807 < T3.size + (⟨#[32]⟩ : ByteArray).size) := f8
      obtain ⟨V, hV⟩ : ∃ V : ByteArray, V = ⟨(Lib.itoa r).toArray⟩ := ⟨_, rfl⟩
      rw [← hV] at HR
      have hVd : V.data.toList = Lib.itoa r := by rw [hV]
      have hVs : V.size ≤ 24 := by rw [Lib.size_eq, hVd]; omega
      have f9 : ¬ (9223372036854775807 < T3.size + 1 + V.size) := Lx.fits (by omega)
      have f9b : ¬ (9223372036854775807 < (T3 ++ ⟨#[32]⟩ : ByteArray).size + V.size) := by rw [ByteArray.size_append, Lx.sp_size]; exact f9
      have HVD := Lib.hid hVd
      clear hV hVd
      go_wp2_with fail
      refine (HR.out _).mono ?_
      rintro e w8 ⟨rfl, c8⟩
      have B8 := Lib.hid (B4.out.trans (c8.mono B4.out.size))
      have BO8 := Lib.hid (BO4.out.below c8)
      clear c8 q0 q1 q2 q3 q4 q5 q6 q7
      obtain ⟨q0, q1, q2, q3, q4, q5, q6, q7⟩ := BO8.out.eight
      go_wp2_with fail
      go_ret2
      exact ⟨Lx.ret_t2 (Lx.v_str (Lx.app_eq (by simp only [ByteArray.data_append, Array.toList_append, HT3.out, HVD.out]; simp [Lx.evText, Lx.evParts, Lx.joinSp]))) rfl, B8.out⟩
set_option maxRecDepth 100000 in
set_option maxHeartbeats 1600000 in
theorem r36_print_2 (t d a r : Int) (p : Nat) (x : ByteArray) (hxs : x.size ≤ 24) (ad : Option Addr) (m cap : Nat) (NS : List ByteArray) (w : World) (h : Lx.IsNames w ad m NS) (hz : ∀ x ∈ NS, x.size ≤ maxLen) (hN : Lx.nmErr NS = 0) (hx : NS[p]? = some x) (g : Lx.Good ⟨2, t, (p : Nat), d, a, r, 0, 0⟩) :
    Calls Tryz.prog 28 #[.agg #[.int .i64 2, .int .i64 t, .int .i64 (p : Nat), .int .i64 d, .int .i64 a, .int .i64 r, .int .i64 0, .int .i64 0], .slice ad m cap] w (WriteIs (Lx.evText ⟨2, t, (p : Nat), d, a, r, 0, 0⟩ x.data.toList) 0 w) := by
  have hI := Lx.good_in g
  have HC := Lib.hid (fun W => r36check_any ⟨2, t, (p : Nat), d, a, r, 0, 0⟩ hI W)
  rw [(Lx.evErr_good _).2 g] at HC
  unfold EvCheckIs Lx.EvV.val at HC
  dsimp only at HC
  have HL := Lib.hid (fun W (b : Below w.heap.size w W) => r36list_any ad m cap NS W (h.below b) hz)
  rw [hN] at HL
  have HN := Lib.hid (fun W (b : Below w.heap.size w W) => h.below b)
  have hm := h.1
  unfold Lx.EvV.In Lx.inR at hI
  unfold Lx.Good at g
  dsimp only at hI g
  have ht0 : 0 ≤ t ∧ t ≤ 253402300799 := by omega
  have hTl := Lx.it_len (n := t) (by unfold Lx.inR; omega)
  have hWl := Lx.word_len (2 : Nat)
  obtain ⟨VT, hVT⟩ : ∃ V : ByteArray, V = ⟨(Lib.itoa t).toArray⟩ := ⟨_, rfl⟩
  obtain ⟨VW, hVW⟩ : ∃ V : ByteArray, V = ⟨(Lx.evWord (2 : Nat)).toArray⟩ := ⟨_, rfl⟩
  have HT : ∀ W, Calls Tryz.prog 46 #[.int .i64 t] W fun e w' => e = .returned (.string VT) ∧ Below W.heap.size W w' := fun W => by rw [hVT]; exact r36num_any t W ht0
  have HW : ∀ W, Calls Tryz.prog 25 #[.int .i64 2] W fun e w' => e = .returned (.string VW) ∧ Below W.heap.size W w' := fun W => by rw [hVW]; exact r36word_any 2 (by omega) W
  have hVTd : VT.data.toList = Lib.itoa t := by rw [hVT]
  have hVWd : VW.data.toList = Lx.evWord (2 : Nat) := by rw [hVW]
  have hVTs : VT.size ≤ 21 := by rw [Lib.size_eq, hVTd]; omega
  have hVWs : VW.size ≤ 24 := by rw [Lib.size_eq, hVWd]; omega
  have HT := Lib.hid HT
  have HW := Lib.hid HW
  have HVTD := Lib.hid hVTd
  have HVWD := Lib.hid hVWd
  have z1 : ¬ (9223372036854775807 < VT.size + 1) := Lx.fits (by omega)
  have z2 : ¬ (9223372036854775807 < VT.size + 1 + VW.size) := Lx.fits (by omega)
  clear hVT hVW hVTd hVWd
  have HD := Lib.hid (fun W => r36num_any d W (by omega))
  have hDl := Lx.it_len (n := d) (by unfold Lx.inR; omega)
  have HA := Lib.hid (fun W => r36num_any a W (by omega))
  have hAl := Lx.it_len (n := a) (by unfold Lx.inR; omega)
  have HR := Lib.hid (fun W => ref_digits_any r W (by omega) (by omega))
  have hRl := Lx.it_len (n := r) (by unfold Lx.inR; omega)
  have ba : Below w.heap.size w (w.alloc (.cells #[.int .i64 2, .int .i64 t, .int .i64 (p : Nat), .int .i64 d, .int .i64 a, .int .i64 r, .int .i64 0, .int .i64 0] 26)) := (Below.refl _ w).alloc (Nat.le_refl _) _
  have BO0 := Lib.hid (Lx.EvBox.new w 2 t (p : Nat) d a r 0 0 26)
  have B0 := Lib.hid ba
  clear ba
  have hp : p < m := by rw [← hm]; exact (List.getElem?_eq_some_iff.1 hx).1
  have hpi : (p : Int) < (m : Int) := by omega
  have hpd : decide ((m : Int) ≤ (p : Int)) = false := decide_eq_false (by omega)
  have HX := Lib.hid hx
  clear hx
  have HG := Lib.hid g
  clear g hI h hz hN hm
  go_enter Tryz.func28, Tryz.ntmps28
  go_wp2_with fail
  refine (HL.out _ B0.out).mono ?_
  rintro e w1 ⟨rfl, c1⟩
  have BO1 := Lib.hid (BO0.out.below c1)
  have B1 := Lib.hid (B0.out.trans (c1.mono B0.out.size))
  clear c1 BO0 B0 HL
  obtain ⟨q0, q1, q2, q3, q4, q5, q6, q7⟩ := BO1.out.eight
  go_wp2_with fail
  refine (HC.out _).mono ?_
  rintro e w2 ⟨rfl, c2⟩
  have BO2 := Lib.hid (BO1.out.below c2)
  have B2 := Lib.hid (B1.out.trans (c2.mono B1.out.size))
  clear c2 BO1 B1 HC q0 q1 q2 q3 q4 q5 q6 q7
  obtain ⟨W0, rfl⟩ : ∃ W, W = w2 := ⟨_, rfl⟩
  have hl := BO2.out.1
  obtain ⟨q0, q1, q2, q3, q4, q5, q6, q7⟩ := BO2.out.eight
  go_upto_region 6 with (fail)
  go_cut [7] (fun s7 wx => (∃ T : ByteArray, s7 = .string T ∧ T.data.toList = Lib.itoa t ++ 32 :: Lx.evWord (2 : Nat) ∧ T.size ≤ 46) ∧ Below W0.heap.size W0 wx)
  case first =>
    have HP := Lib.hid (fun W (hb : Below W0.heap.size W0 W) => And.intro ((hb.cell (p := ⟨w.heap.size, 1, none⟩) hl).trans q1) ((hb.cell (p := ⟨w.heap.size, 0, none⟩) hl).trans q0))
    have hS0 : (fun wx => Below W0.heap.size W0 wx ∧ wx.cell? ⟨w.heap.size, 1, none⟩ = some (.int .i64 t) ∧ wx.cell? ⟨w.heap.size, 0, none⟩ = some (.int .i64 2)) W0.drew := ⟨(Below.refl _ _).drew, q1, q0⟩
    dsimp only at hS0
    clear q0 q1 q2 q3 q4 q5 q6 q7
    go_region_held3 (fun wx => Below W0.heap.size W0 wx ∧ wx.cell? ⟨w.heap.size, 1, none⟩ = some (.int .i64 t) ∧ wx.cell? ⟨w.heap.size, 0, none⟩ = some (.int .i64 2))
      (first | assumption | (refine Lx.mkS HP.out ?_; repeat (first | assumption | exact Below.refl _ _ | apply Lx.bDrew | apply Lx.bAlloc)))
      (first
        | (go_at_call 46; with_reducible refine (HT.out _).mono ?_; rintro e w3 ⟨rfl, cb⟩; have kb2 := Lx.bCall (P := fun wx => wx.cell? ⟨w.heap.size, 1, none⟩ = some (.int .i64 t) ∧ wx.cell? ⟨w.heap.size, 0, none⟩ = some (.int .i64 2)) (by assumption) cb; have hzz := kb2.size; have kS := Lx.mkS HP.out kb2; clear cb)
        | (go_at_call 25; with_reducible refine (HW.out _).mono ?_; rintro e w4 ⟨rfl, cb⟩; have kb2 := Lx.bCall (P := fun wx => wx.cell? ⟨w.heap.size, 1, none⟩ = some (.int .i64 t) ∧ wx.cell? ⟨w.heap.size, 0, none⟩ = some (.int .i64 2)) (by assumption) cb; have hzz := kb2.size; have kS := Lx.mkS HP.out kb2; clear cb))
    all_goals (go_wp2_with fail; go_meet)
    all_goals exact ⟨⟨_, rfl, by simp only [ByteArray.data_append, Array.toList_append, HVTD.out, HVWD.out]; simp, by simp only [ByteArray.size_append, Lx.sp_size]; omega⟩, And.left (by assumption)⟩
  case rest =>
    obtain ⟨⟨T1, rfl, hT1, hs1⟩, hb⟩ := hcut
    have HT1 := Lib.hid hT1
    have B3 := Lib.hid (B2.out.trans (hb.mono B2.out.size))
    have BO3 := Lib.hid (BO2.out.below hb)
    clear hb hT1 q0 q1 q2 q3 q4 q5 q6 q7
    obtain ⟨q0, q1, q2, q3, q4, q5, q6, q7⟩ := BO3.out.eight
    have f1 : ¬ (9223372036854775807 < T1.size + 1) := Lx.fits (by omega)
    have f1b : ¬ (9223372036854775807 < T1.size + (⟨#[32]⟩ : ByteArray).size) := f1
    obtain ⟨gn, off, rfl, ltn, hcn⟩ := (HN.out _ B3.out).2 (by omega)
    have xn := hcn p x HX.out
    clear hcn
    have f2 : ¬ (9223372036854775807 < T1.size + 1 + x.size) := Lx.fits (by omega)
    have f2b : ¬ (9223372036854775807 < (T1 ++ ⟨#[32]⟩ : ByteArray).size + x.size) := by rw [ByteArray.size_append, Lx.sp_size]; exact f2
    go_upto_region 13 with (fail)
    obtain ⟨T2, hT2⟩ : ∃ T2 : ByteArray, T2 = T1 ++ ⟨#[32]⟩ ++ x := ⟨_, rfl⟩
    rw [← hT2]
    have hs2 : T2.size ≤ 71 := by rw [hT2, ByteArray.size_append, ByteArray.size_append, Lx.sp_size]; omega
    have HT2 := Lib.hid (show T2.data.toList = (Lib.itoa t ++ 32 :: Lx.evWord (2 : Nat)) ++ 32 :: x.data.toList by rw [hT2, ByteArray.data_append, ByteArray.data_append, Array.toList_append, Array.toList_append, HT1.out]; simp)
    clear hT2 xn f1 f1b f2 f2b HT1
    obtain ⟨W0, rfl⟩ : ∃ W, W = wc := ⟨_, rfl⟩
    have hl := BO3.out.1
    have g1 : ¬ (9223372036854775807 < T2.size + 1) := Lx.fits (by omega)
    have g1b : ¬ (9223372036854775807 < T2.size + (⟨#[32]⟩ : ByteArray).size) := g1
    obtain ⟨VD, hVD⟩ : ∃ V : ByteArray, V = ⟨(Lib.itoa d).toArray⟩ := ⟨_, rfl⟩
    rw [← hVD] at HD
    have hVDd : VD.data.toList = Lib.itoa d := by rw [hVD]
    have hVDs : VD.size ≤ 24 := by rw [Lib.size_eq, hVDd]; omega
    obtain ⟨VA, hVA⟩ : ∃ V : ByteArray, V = ⟨(Lib.itoa a).toArray⟩ := ⟨_, rfl⟩
    rw [← hVA] at HA
    have hVAd : VA.data.toList = Lib.itoa a := by rw [hVA]
    have hVAs : VA.size ≤ 24 := by rw [Lib.size_eq, hVAd]; omega
    have HVDD := Lib.hid hVDd
    have HVAD := Lib.hid hVAd
    clear hVD hVDd hVA hVAd
    have g2 : ¬ (9223372036854775807 < T2.size + 1 + VD.size) := Lx.fits (by omega)
    have g3 : ¬ (9223372036854775807 < T2.size + 1 + VD.size + 1) := Lx.fits (by omega)
    have g4 : ¬ (9223372036854775807 < T2.size + 1 + VD.size + 1 + VA.size) := Lx.fits (by omega)
    go_cut [7] (fun s7 wx => (∃ T : ByteArray, s7 = .string T ∧ T.data.toList = ((Lib.itoa t ++ 32 :: Lx.evWord (2 : Nat)) ++ 32 :: x.data.toList) ++ 32 :: (Lib.itoa d ++ 32 :: Lib.itoa a) ∧ T.size ≤ 130) ∧ Below W0.heap.size W0 wx)
    case first =>
      have HP := Lib.hid (fun W (hb : Below W0.heap.size W0 W) => And.intro ((hb.cell (p := ⟨w.heap.size, 3, none⟩) hl).trans q3) ((hb.cell (p := ⟨w.heap.size, 4, none⟩) hl).trans q4))
      have hS0 : (fun wx => Below W0.heap.size W0 wx ∧ wx.cell? ⟨w.heap.size, 3, none⟩ = some (.int .i64 d) ∧ wx.cell? ⟨w.heap.size, 4, none⟩ = some (.int .i64 a)) W0.drew := ⟨(Below.refl _ _).drew, q3, q4⟩
      dsimp only at hS0
      clear q0 q1 q2 q3 q4 q5 q6 q7
      go_region_held3 (fun wx => Below W0.heap.size W0 wx ∧ wx.cell? ⟨w.heap.size, 3, none⟩ = some (.int .i64 d) ∧ wx.cell? ⟨w.heap.size, 4, none⟩ = some (.int .i64 a))
        (first | assumption | (refine Lx.mkS HP.out ?_; repeat (first | assumption | exact Below.refl _ _ | apply Lx.bDrew | apply Lx.bAlloc)))
        (first
          | (go_at_call 46; with_reducible refine (HD.out _).mono ?_; rintro e w5 ⟨rfl, cb⟩; have kb2 := Lx.bCall (P := fun wx => wx.cell? ⟨w.heap.size, 3, none⟩ = some (.int .i64 d) ∧ wx.cell? ⟨w.heap.size, 4, none⟩ = some (.int .i64 a)) (by assumption) cb; have hzz := kb2.size; have kS := Lx.mkS HP.out kb2; clear cb)
          | (go_at_call 46; with_reducible refine (HA.out _).mono ?_; rintro e w6 ⟨rfl, cb⟩; have kb2 := Lx.bCall (P := fun wx => wx.cell? ⟨w.heap.size, 3, none⟩ = some (.int .i64 d) ∧ wx.cell? ⟨w.heap.size, 4, none⟩ = some (.int .i64 a)) (by assumption) cb; have hzz := kb2.size; have kS := Lx.mkS HP.out kb2; clear cb))
      all_goals (go_wp2_with fail; go_meet)
      all_goals exact ⟨⟨_, rfl, by simp only [ByteArray.data_append, Array.toList_append, HT2.out, HVDD.out, HVAD.out]; simp, by simp only [ByteArray.size_append, Lx.sp_size]; omega⟩, And.left (by assumption)⟩
    case rest =>
      obtain ⟨⟨T3, rfl, hT3, hs3⟩, hb⟩ := hcut
      have HT3 := Lib.hid hT3
      have B4 := Lib.hid (B3.out.trans (hb.mono B3.out.size))
      have BO4 := Lib.hid (BO3.out.below hb)
      clear hb hT3 q0 q1 q2 q3 q4 q5 q6 q7
      obtain ⟨q0, q1, q2, q3, q4, q5, q6, q7⟩ := BO4.out.eight
      have f8 : ¬ (9223372036854775807 < T3.size + 1) := Lx.fits (by omega)
      have f8b : ¬ (9223372036854775807 < T3.size + (⟨#[32]⟩ : ByteArray).size) := f8
      obtain ⟨V, hV⟩ : ∃ V : ByteArray, V = ⟨(Lib.itoa r).toArray⟩ := ⟨_, rfl⟩
      rw [← hV] at HR
      have hVd : V.data.toList = Lib.itoa r := by rw [hV]
      have hVs : V.size ≤ 24 := by rw [Lib.size_eq, hVd]; omega
      have f9 : ¬ (9223372036854775807 < T3.size + 1 + V.size) := Lx.fits (by omega)
      have f9b : ¬ (9223372036854775807 < (T3 ++ ⟨#[32]⟩ : ByteArray).size + V.size) := by rw [ByteArray.size_append, Lx.sp_size]; exact f9
      have HVD := Lib.hid hVd
      clear hV hVd
      go_wp2_with fail
      refine (HR.out _).mono ?_
      rintro e w8 ⟨rfl, c8⟩
      have B8 := Lib.hid (B4.out.trans (c8.mono B4.out.size))
      have BO8 := Lib.hid (BO4.out.below c8)
      clear c8 q0 q1 q2 q3 q4 q5 q6 q7
      obtain ⟨q0, q1, q2, q3, q4, q5, q6, q7⟩ := BO8.out.eight
      go_wp2_with fail
      go_ret2
      exact ⟨Lx.ret_t2 (Lx.v_str (Lx.app_eq (by simp only [ByteArray.data_append, Array.toList_append, HT3.out, HVD.out]; simp [Lx.evText, Lx.evParts, Lx.joinSp]))) rfl, B8.out⟩
set_option maxRecDepth 100000 in
set_option maxHeartbeats 1600000 in
theorem r36_print_3 (t d a r : Int) (p : Nat) (x : ByteArray) (hxs : x.size ≤ 24) (ad : Option Addr) (m cap : Nat) (NS : List ByteArray) (w : World) (h : Lx.IsNames w ad m NS) (hz : ∀ x ∈ NS, x.size ≤ maxLen) (hN : Lx.nmErr NS = 0) (hx : NS[p]? = some x) (g : Lx.Good ⟨3, t, (p : Nat), d, a, r, 0, 0⟩) :
    Calls Tryz.prog 28 #[.agg #[.int .i64 3, .int .i64 t, .int .i64 (p : Nat), .int .i64 d, .int .i64 a, .int .i64 r, .int .i64 0, .int .i64 0], .slice ad m cap] w (WriteIs (Lx.evText ⟨3, t, (p : Nat), d, a, r, 0, 0⟩ x.data.toList) 0 w) := by
  have hI := Lx.good_in g
  have HC := Lib.hid (fun W => r36check_any ⟨3, t, (p : Nat), d, a, r, 0, 0⟩ hI W)
  rw [(Lx.evErr_good _).2 g] at HC
  unfold EvCheckIs Lx.EvV.val at HC
  dsimp only at HC
  have HL := Lib.hid (fun W (b : Below w.heap.size w W) => r36list_any ad m cap NS W (h.below b) hz)
  rw [hN] at HL
  have HN := Lib.hid (fun W (b : Below w.heap.size w W) => h.below b)
  have hm := h.1
  unfold Lx.EvV.In Lx.inR at hI
  unfold Lx.Good at g
  dsimp only at hI g
  have ht0 : 0 ≤ t ∧ t ≤ 253402300799 := by omega
  have hTl := Lx.it_len (n := t) (by unfold Lx.inR; omega)
  have hWl := Lx.word_len (3 : Nat)
  obtain ⟨VT, hVT⟩ : ∃ V : ByteArray, V = ⟨(Lib.itoa t).toArray⟩ := ⟨_, rfl⟩
  obtain ⟨VW, hVW⟩ : ∃ V : ByteArray, V = ⟨(Lx.evWord (3 : Nat)).toArray⟩ := ⟨_, rfl⟩
  have HT : ∀ W, Calls Tryz.prog 46 #[.int .i64 t] W fun e w' => e = .returned (.string VT) ∧ Below W.heap.size W w' := fun W => by rw [hVT]; exact r36num_any t W ht0
  have HW : ∀ W, Calls Tryz.prog 25 #[.int .i64 3] W fun e w' => e = .returned (.string VW) ∧ Below W.heap.size W w' := fun W => by rw [hVW]; exact r36word_any 3 (by omega) W
  have hVTd : VT.data.toList = Lib.itoa t := by rw [hVT]
  have hVWd : VW.data.toList = Lx.evWord (3 : Nat) := by rw [hVW]
  have hVTs : VT.size ≤ 21 := by rw [Lib.size_eq, hVTd]; omega
  have hVWs : VW.size ≤ 24 := by rw [Lib.size_eq, hVWd]; omega
  have HT := Lib.hid HT
  have HW := Lib.hid HW
  have HVTD := Lib.hid hVTd
  have HVWD := Lib.hid hVWd
  have z1 : ¬ (9223372036854775807 < VT.size + 1) := Lx.fits (by omega)
  have z2 : ¬ (9223372036854775807 < VT.size + 1 + VW.size) := Lx.fits (by omega)
  clear hVT hVW hVTd hVWd
  have HD := Lib.hid (fun W => r36num_any d W (by omega))
  have hDl := Lx.it_len (n := d) (by unfold Lx.inR; omega)
  have HA := Lib.hid (fun W => r36num_any a W (by omega))
  have hAl := Lx.it_len (n := a) (by unfold Lx.inR; omega)
  have HR := Lib.hid (fun W => ref_digits_any r W (by omega) (by omega))
  have hRl := Lx.it_len (n := r) (by unfold Lx.inR; omega)
  have ba : Below w.heap.size w (w.alloc (.cells #[.int .i64 3, .int .i64 t, .int .i64 (p : Nat), .int .i64 d, .int .i64 a, .int .i64 r, .int .i64 0, .int .i64 0] 26)) := (Below.refl _ w).alloc (Nat.le_refl _) _
  have BO0 := Lib.hid (Lx.EvBox.new w 3 t (p : Nat) d a r 0 0 26)
  have B0 := Lib.hid ba
  clear ba
  have hp : p < m := by rw [← hm]; exact (List.getElem?_eq_some_iff.1 hx).1
  have hpi : (p : Int) < (m : Int) := by omega
  have hpd : decide ((m : Int) ≤ (p : Int)) = false := decide_eq_false (by omega)
  have HX := Lib.hid hx
  clear hx
  have HG := Lib.hid g
  clear g hI h hz hN hm
  go_enter Tryz.func28, Tryz.ntmps28
  go_wp2_with fail
  refine (HL.out _ B0.out).mono ?_
  rintro e w1 ⟨rfl, c1⟩
  have BO1 := Lib.hid (BO0.out.below c1)
  have B1 := Lib.hid (B0.out.trans (c1.mono B0.out.size))
  clear c1 BO0 B0 HL
  obtain ⟨q0, q1, q2, q3, q4, q5, q6, q7⟩ := BO1.out.eight
  go_wp2_with fail
  refine (HC.out _).mono ?_
  rintro e w2 ⟨rfl, c2⟩
  have BO2 := Lib.hid (BO1.out.below c2)
  have B2 := Lib.hid (B1.out.trans (c2.mono B1.out.size))
  clear c2 BO1 B1 HC q0 q1 q2 q3 q4 q5 q6 q7
  obtain ⟨W0, rfl⟩ : ∃ W, W = w2 := ⟨_, rfl⟩
  have hl := BO2.out.1
  obtain ⟨q0, q1, q2, q3, q4, q5, q6, q7⟩ := BO2.out.eight
  go_upto_region 6 with (fail)
  go_cut [7] (fun s7 wx => (∃ T : ByteArray, s7 = .string T ∧ T.data.toList = Lib.itoa t ++ 32 :: Lx.evWord (3 : Nat) ∧ T.size ≤ 46) ∧ Below W0.heap.size W0 wx)
  case first =>
    have HP := Lib.hid (fun W (hb : Below W0.heap.size W0 W) => And.intro ((hb.cell (p := ⟨w.heap.size, 1, none⟩) hl).trans q1) ((hb.cell (p := ⟨w.heap.size, 0, none⟩) hl).trans q0))
    have hS0 : (fun wx => Below W0.heap.size W0 wx ∧ wx.cell? ⟨w.heap.size, 1, none⟩ = some (.int .i64 t) ∧ wx.cell? ⟨w.heap.size, 0, none⟩ = some (.int .i64 3)) W0.drew := ⟨(Below.refl _ _).drew, q1, q0⟩
    dsimp only at hS0
    clear q0 q1 q2 q3 q4 q5 q6 q7
    go_region_held3 (fun wx => Below W0.heap.size W0 wx ∧ wx.cell? ⟨w.heap.size, 1, none⟩ = some (.int .i64 t) ∧ wx.cell? ⟨w.heap.size, 0, none⟩ = some (.int .i64 3))
      (first | assumption | (refine Lx.mkS HP.out ?_; repeat (first | assumption | exact Below.refl _ _ | apply Lx.bDrew | apply Lx.bAlloc)))
      (first
        | (go_at_call 46; with_reducible refine (HT.out _).mono ?_; rintro e w3 ⟨rfl, cb⟩; have kb2 := Lx.bCall (P := fun wx => wx.cell? ⟨w.heap.size, 1, none⟩ = some (.int .i64 t) ∧ wx.cell? ⟨w.heap.size, 0, none⟩ = some (.int .i64 3)) (by assumption) cb; have hzz := kb2.size; have kS := Lx.mkS HP.out kb2; clear cb)
        | (go_at_call 25; with_reducible refine (HW.out _).mono ?_; rintro e w4 ⟨rfl, cb⟩; have kb2 := Lx.bCall (P := fun wx => wx.cell? ⟨w.heap.size, 1, none⟩ = some (.int .i64 t) ∧ wx.cell? ⟨w.heap.size, 0, none⟩ = some (.int .i64 3)) (by assumption) cb; have hzz := kb2.size; have kS := Lx.mkS HP.out kb2; clear cb))
    all_goals (go_wp2_with fail; go_meet)
    all_goals exact ⟨⟨_, rfl, by simp only [ByteArray.data_append, Array.toList_append, HVTD.out, HVWD.out]; simp, by simp only [ByteArray.size_append, Lx.sp_size]; omega⟩, And.left (by assumption)⟩
  case rest =>
    obtain ⟨⟨T1, rfl, hT1, hs1⟩, hb⟩ := hcut
    have HT1 := Lib.hid hT1
    have B3 := Lib.hid (B2.out.trans (hb.mono B2.out.size))
    have BO3 := Lib.hid (BO2.out.below hb)
    clear hb hT1 q0 q1 q2 q3 q4 q5 q6 q7
    obtain ⟨q0, q1, q2, q3, q4, q5, q6, q7⟩ := BO3.out.eight
    have f1 : ¬ (9223372036854775807 < T1.size + 1) := Lx.fits (by omega)
    have f1b : ¬ (9223372036854775807 < T1.size + (⟨#[32]⟩ : ByteArray).size) := f1
    obtain ⟨gn, off, rfl, ltn, hcn⟩ := (HN.out _ B3.out).2 (by omega)
    have xn := hcn p x HX.out
    clear hcn
    have f2 : ¬ (9223372036854775807 < T1.size + 1 + x.size) := Lx.fits (by omega)
    have f2b : ¬ (9223372036854775807 < (T1 ++ ⟨#[32]⟩ : ByteArray).size + x.size) := by rw [ByteArray.size_append, Lx.sp_size]; exact f2
    go_upto_region 13 with (fail)
    obtain ⟨T2, hT2⟩ : ∃ T2 : ByteArray, T2 = T1 ++ ⟨#[32]⟩ ++ x := ⟨_, rfl⟩
    rw [← hT2]
    have hs2 : T2.size ≤ 71 := by rw [hT2, ByteArray.size_append, ByteArray.size_append, Lx.sp_size]; omega
    have HT2 := Lib.hid (show T2.data.toList = (Lib.itoa t ++ 32 :: Lx.evWord (3 : Nat)) ++ 32 :: x.data.toList by rw [hT2, ByteArray.data_append, ByteArray.data_append, Array.toList_append, Array.toList_append, HT1.out]; simp)
    clear hT2 xn f1 f1b f2 f2b HT1
    obtain ⟨W0, rfl⟩ : ∃ W, W = wc := ⟨_, rfl⟩
    have hl := BO3.out.1
    have g1 : ¬ (9223372036854775807 < T2.size + 1) := Lx.fits (by omega)
    have g1b : ¬ (9223372036854775807 < T2.size + (⟨#[32]⟩ : ByteArray).size) := g1
    obtain ⟨VD, hVD⟩ : ∃ V : ByteArray, V = ⟨(Lib.itoa d).toArray⟩ := ⟨_, rfl⟩
    rw [← hVD] at HD
    have hVDd : VD.data.toList = Lib.itoa d := by rw [hVD]
    have hVDs : VD.size ≤ 24 := by rw [Lib.size_eq, hVDd]; omega
    obtain ⟨VA, hVA⟩ : ∃ V : ByteArray, V = ⟨(Lib.itoa a).toArray⟩ := ⟨_, rfl⟩
    rw [← hVA] at HA
    have hVAd : VA.data.toList = Lib.itoa a := by rw [hVA]
    have hVAs : VA.size ≤ 24 := by rw [Lib.size_eq, hVAd]; omega
    have HVDD := Lib.hid hVDd
    have HVAD := Lib.hid hVAd
    clear hVD hVDd hVA hVAd
    have g2 : ¬ (9223372036854775807 < T2.size + 1 + VD.size) := Lx.fits (by omega)
    have g3 : ¬ (9223372036854775807 < T2.size + 1 + VD.size + 1) := Lx.fits (by omega)
    have g4 : ¬ (9223372036854775807 < T2.size + 1 + VD.size + 1 + VA.size) := Lx.fits (by omega)
    go_cut [7] (fun s7 wx => (∃ T : ByteArray, s7 = .string T ∧ T.data.toList = ((Lib.itoa t ++ 32 :: Lx.evWord (3 : Nat)) ++ 32 :: x.data.toList) ++ 32 :: (Lib.itoa d ++ 32 :: Lib.itoa a) ∧ T.size ≤ 130) ∧ Below W0.heap.size W0 wx)
    case first =>
      have HP := Lib.hid (fun W (hb : Below W0.heap.size W0 W) => And.intro ((hb.cell (p := ⟨w.heap.size, 3, none⟩) hl).trans q3) ((hb.cell (p := ⟨w.heap.size, 4, none⟩) hl).trans q4))
      have hS0 : (fun wx => Below W0.heap.size W0 wx ∧ wx.cell? ⟨w.heap.size, 3, none⟩ = some (.int .i64 d) ∧ wx.cell? ⟨w.heap.size, 4, none⟩ = some (.int .i64 a)) W0.drew := ⟨(Below.refl _ _).drew, q3, q4⟩
      dsimp only at hS0
      clear q0 q1 q2 q3 q4 q5 q6 q7
      go_region_held3 (fun wx => Below W0.heap.size W0 wx ∧ wx.cell? ⟨w.heap.size, 3, none⟩ = some (.int .i64 d) ∧ wx.cell? ⟨w.heap.size, 4, none⟩ = some (.int .i64 a))
        (first | assumption | (refine Lx.mkS HP.out ?_; repeat (first | assumption | exact Below.refl _ _ | apply Lx.bDrew | apply Lx.bAlloc)))
        (first
          | (go_at_call 46; with_reducible refine (HD.out _).mono ?_; rintro e w5 ⟨rfl, cb⟩; have kb2 := Lx.bCall (P := fun wx => wx.cell? ⟨w.heap.size, 3, none⟩ = some (.int .i64 d) ∧ wx.cell? ⟨w.heap.size, 4, none⟩ = some (.int .i64 a)) (by assumption) cb; have hzz := kb2.size; have kS := Lx.mkS HP.out kb2; clear cb)
          | (go_at_call 46; with_reducible refine (HA.out _).mono ?_; rintro e w6 ⟨rfl, cb⟩; have kb2 := Lx.bCall (P := fun wx => wx.cell? ⟨w.heap.size, 3, none⟩ = some (.int .i64 d) ∧ wx.cell? ⟨w.heap.size, 4, none⟩ = some (.int .i64 a)) (by assumption) cb; have hzz := kb2.size; have kS := Lx.mkS HP.out kb2; clear cb))
      all_goals (go_wp2_with fail; go_meet)
      all_goals exact ⟨⟨_, rfl, by simp only [ByteArray.data_append, Array.toList_append, HT2.out, HVDD.out, HVAD.out]; simp, by simp only [ByteArray.size_append, Lx.sp_size]; omega⟩, And.left (by assumption)⟩
    case rest =>
      obtain ⟨⟨T3, rfl, hT3, hs3⟩, hb⟩ := hcut
      have HT3 := Lib.hid hT3
      have B4 := Lib.hid (B3.out.trans (hb.mono B3.out.size))
      have BO4 := Lib.hid (BO3.out.below hb)
      clear hb hT3 q0 q1 q2 q3 q4 q5 q6 q7
      obtain ⟨q0, q1, q2, q3, q4, q5, q6, q7⟩ := BO4.out.eight
      have f8 : ¬ (9223372036854775807 < T3.size + 1) := Lx.fits (by omega)
      have f8b : ¬ (9223372036854775807 < T3.size + (⟨#[32]⟩ : ByteArray).size) := f8
      obtain ⟨V, hV⟩ : ∃ V : ByteArray, V = ⟨(Lib.itoa r).toArray⟩ := ⟨_, rfl⟩
      rw [← hV] at HR
      have hVd : V.data.toList = Lib.itoa r := by rw [hV]
      have hVs : V.size ≤ 24 := by rw [Lib.size_eq, hVd]; omega
      have f9 : ¬ (9223372036854775807 < T3.size + 1 + V.size) := Lx.fits (by omega)
      have f9b : ¬ (9223372036854775807 < (T3 ++ ⟨#[32]⟩ : ByteArray).size + V.size) := by rw [ByteArray.size_append, Lx.sp_size]; exact f9
      have HVD := Lib.hid hVd
      clear hV hVd
      go_wp2_with fail
      refine (HR.out _).mono ?_
      rintro e w8 ⟨rfl, c8⟩
      have B8 := Lib.hid (B4.out.trans (c8.mono B4.out.size))
      have BO8 := Lib.hid (BO4.out.below c8)
      clear c8 q0 q1 q2 q3 q4 q5 q6 q7
      obtain ⟨q0, q1, q2, q3, q4, q5, q6, q7⟩ := BO8.out.eight
      go_wp2_with fail
      go_ret2
      exact ⟨Lx.ret_t2 (Lx.v_str (Lx.app_eq (by simp only [ByteArray.data_append, Array.toList_append, HT3.out, HVD.out]; simp [Lx.evText, Lx.evParts, Lx.joinSp]))) rfl, B8.out⟩
set_option maxRecDepth 100000 in
set_option maxHeartbeats 1600000 in
theorem r36_print_4 (t d a n : Int) (p : Nat) (x : ByteArray) (hxs : x.size ≤ 24) (ad : Option Addr) (m cap : Nat) (NS : List ByteArray) (w : World) (h : Lx.IsNames w ad m NS) (hz : ∀ x ∈ NS, x.size ≤ maxLen) (hN : Lx.nmErr NS = 0) (hx : NS[p]? = some x) (g : Lx.Good ⟨4, t, (p : Nat), d, a, 0, 0, n⟩) :
    Calls Tryz.prog 28 #[.agg #[.int .i64 4, .int .i64 t, .int .i64 (p : Nat), .int .i64 d, .int .i64 a, .int .i64 0, .int .i64 0, .int .i64 n], .slice ad m cap] w (WriteIs (Lx.evText ⟨4, t, (p : Nat), d, a, 0, 0, n⟩ x.data.toList) 0 w) := by
  have hI := Lx.good_in g
  have HC := Lib.hid (fun W => r36check_any ⟨4, t, (p : Nat), d, a, 0, 0, n⟩ hI W)
  rw [(Lx.evErr_good _).2 g] at HC
  unfold EvCheckIs Lx.EvV.val at HC
  dsimp only at HC
  have HL := Lib.hid (fun W (b : Below w.heap.size w W) => r36list_any ad m cap NS W (h.below b) hz)
  rw [hN] at HL
  have HN := Lib.hid (fun W (b : Below w.heap.size w W) => h.below b)
  have hm := h.1
  unfold Lx.EvV.In Lx.inR at hI
  unfold Lx.Good at g
  dsimp only at hI g
  have ht0 : 0 ≤ t ∧ t ≤ 253402300799 := by omega
  have hTl := Lx.it_len (n := t) (by unfold Lx.inR; omega)
  have hWl := Lx.word_len (4 : Nat)
  obtain ⟨VT, hVT⟩ : ∃ V : ByteArray, V = ⟨(Lib.itoa t).toArray⟩ := ⟨_, rfl⟩
  obtain ⟨VW, hVW⟩ : ∃ V : ByteArray, V = ⟨(Lx.evWord (4 : Nat)).toArray⟩ := ⟨_, rfl⟩
  have HT : ∀ W, Calls Tryz.prog 46 #[.int .i64 t] W fun e w' => e = .returned (.string VT) ∧ Below W.heap.size W w' := fun W => by rw [hVT]; exact r36num_any t W ht0
  have HW : ∀ W, Calls Tryz.prog 25 #[.int .i64 4] W fun e w' => e = .returned (.string VW) ∧ Below W.heap.size W w' := fun W => by rw [hVW]; exact r36word_any 4 (by omega) W
  have hVTd : VT.data.toList = Lib.itoa t := by rw [hVT]
  have hVWd : VW.data.toList = Lx.evWord (4 : Nat) := by rw [hVW]
  have hVTs : VT.size ≤ 21 := by rw [Lib.size_eq, hVTd]; omega
  have hVWs : VW.size ≤ 24 := by rw [Lib.size_eq, hVWd]; omega
  have HT := Lib.hid HT
  have HW := Lib.hid HW
  have HVTD := Lib.hid hVTd
  have HVWD := Lib.hid hVWd
  have z1 : ¬ (9223372036854775807 < VT.size + 1) := Lx.fits (by omega)
  have z2 : ¬ (9223372036854775807 < VT.size + 1 + VW.size) := Lx.fits (by omega)
  clear hVT hVW hVTd hVWd
  have HD := Lib.hid (fun W => r36num_any d W (by omega))
  have hDl := Lx.it_len (n := d) (by unfold Lx.inR; omega)
  have HA := Lib.hid (fun W => r36num_any a W (by omega))
  have hAl := Lx.it_len (n := a) (by unfold Lx.inR; omega)
  have HM := Lib.hid (fun W => r36number_any n W (by omega) (by omega))
  have hMl := Lx.until_len (n := n) (by unfold Lx.inR; omega)
  have ba : Below w.heap.size w (w.alloc (.cells #[.int .i64 4, .int .i64 t, .int .i64 (p : Nat), .int .i64 d, .int .i64 a, .int .i64 0, .int .i64 0, .int .i64 n] 26)) := (Below.refl _ w).alloc (Nat.le_refl _) _
  have BO0 := Lib.hid (Lx.EvBox.new w 4 t (p : Nat) d a 0 0 n 26)
  have B0 := Lib.hid ba
  clear ba
  have hp : p < m := by rw [← hm]; exact (List.getElem?_eq_some_iff.1 hx).1
  have hpi : (p : Int) < (m : Int) := by omega
  have hpd : decide ((m : Int) ≤ (p : Int)) = false := decide_eq_false (by omega)
  have HX := Lib.hid hx
  clear hx
  have HG := Lib.hid g
  clear g hI h hz hN hm
  go_enter Tryz.func28, Tryz.ntmps28
  go_wp2_with fail
  refine (HL.out _ B0.out).mono ?_
  rintro e w1 ⟨rfl, c1⟩
  have BO1 := Lib.hid (BO0.out.below c1)
  have B1 := Lib.hid (B0.out.trans (c1.mono B0.out.size))
  clear c1 BO0 B0 HL
  obtain ⟨q0, q1, q2, q3, q4, q5, q6, q7⟩ := BO1.out.eight
  go_wp2_with fail
  refine (HC.out _).mono ?_
  rintro e w2 ⟨rfl, c2⟩
  have BO2 := Lib.hid (BO1.out.below c2)
  have B2 := Lib.hid (B1.out.trans (c2.mono B1.out.size))
  clear c2 BO1 B1 HC q0 q1 q2 q3 q4 q5 q6 q7
  obtain ⟨W0, rfl⟩ : ∃ W, W = w2 := ⟨_, rfl⟩
  have hl := BO2.out.1
  obtain ⟨q0, q1, q2, q3, q4, q5, q6, q7⟩ := BO2.out.eight
  go_upto_region 6 with (fail)
  go_cut [7] (fun s7 wx => (∃ T : ByteArray, s7 = .string T ∧ T.data.toList = Lib.itoa t ++ 32 :: Lx.evWord (4 : Nat) ∧ T.size ≤ 46) ∧ Below W0.heap.size W0 wx)
  case first =>
    have HP := Lib.hid (fun W (hb : Below W0.heap.size W0 W) => And.intro ((hb.cell (p := ⟨w.heap.size, 1, none⟩) hl).trans q1) ((hb.cell (p := ⟨w.heap.size, 0, none⟩) hl).trans q0))
    have hS0 : (fun wx => Below W0.heap.size W0 wx ∧ wx.cell? ⟨w.heap.size, 1, none⟩ = some (.int .i64 t) ∧ wx.cell? ⟨w.heap.size, 0, none⟩ = some (.int .i64 4)) W0.drew := ⟨(Below.refl _ _).drew, q1, q0⟩
    dsimp only at hS0
    clear q0 q1 q2 q3 q4 q5 q6 q7
    go_region_held3 (fun wx => Below W0.heap.size W0 wx ∧ wx.cell? ⟨w.heap.size, 1, none⟩ = some (.int .i64 t) ∧ wx.cell? ⟨w.heap.size, 0, none⟩ = some (.int .i64 4))
      (first | assumption | (refine Lx.mkS HP.out ?_; repeat (first | assumption | exact Below.refl _ _ | apply Lx.bDrew | apply Lx.bAlloc)))
      (first
        | (go_at_call 46; with_reducible refine (HT.out _).mono ?_; rintro e w3 ⟨rfl, cb⟩; have kb2 := Lx.bCall (P := fun wx => wx.cell? ⟨w.heap.size, 1, none⟩ = some (.int .i64 t) ∧ wx.cell? ⟨w.heap.size, 0, none⟩ = some (.int .i64 4)) (by assumption) cb; have hzz := kb2.size; have kS := Lx.mkS HP.out kb2; clear cb)
        | (go_at_call 25; with_reducible refine (HW.out _).mono ?_; rintro e w4 ⟨rfl, cb⟩; have kb2 := Lx.bCall (P := fun wx => wx.cell? ⟨w.heap.size, 1, none⟩ = some (.int .i64 t) ∧ wx.cell? ⟨w.heap.size, 0, none⟩ = some (.int .i64 4)) (by assumption) cb; have hzz := kb2.size; have kS := Lx.mkS HP.out kb2; clear cb))
    all_goals (go_wp2_with fail; go_meet)
    all_goals exact ⟨⟨_, rfl, by simp only [ByteArray.data_append, Array.toList_append, HVTD.out, HVWD.out]; simp, by simp only [ByteArray.size_append, Lx.sp_size]; omega⟩, And.left (by assumption)⟩
  case rest =>
    obtain ⟨⟨T1, rfl, hT1, hs1⟩, hb⟩ := hcut
    have HT1 := Lib.hid hT1
    have B3 := Lib.hid (B2.out.trans (hb.mono B2.out.size))
    have BO3 := Lib.hid (BO2.out.below hb)
    clear hb hT1 q0 q1 q2 q3 q4 q5 q6 q7
    obtain ⟨q0, q1, q2, q3, q4, q5, q6, q7⟩ := BO3.out.eight
    have f1 : ¬ (9223372036854775807 < T1.size + 1) := Lx.fits (by omega)
    have f1b : ¬ (9223372036854775807 < T1.size + (⟨#[32]⟩ : ByteArray).size) := f1
    obtain ⟨gn, off, rfl, ltn, hcn⟩ := (HN.out _ B3.out).2 (by omega)
    have xn := hcn p x HX.out
    clear hcn
    have f2 : ¬ (9223372036854775807 < T1.size + 1 + x.size) := Lx.fits (by omega)
    have f2b : ¬ (9223372036854775807 < (T1 ++ ⟨#[32]⟩ : ByteArray).size + x.size) := by rw [ByteArray.size_append, Lx.sp_size]; exact f2
    go_upto_region 13 with (fail)
    obtain ⟨T2, hT2⟩ : ∃ T2 : ByteArray, T2 = T1 ++ ⟨#[32]⟩ ++ x := ⟨_, rfl⟩
    rw [← hT2]
    have hs2 : T2.size ≤ 71 := by rw [hT2, ByteArray.size_append, ByteArray.size_append, Lx.sp_size]; omega
    have HT2 := Lib.hid (show T2.data.toList = (Lib.itoa t ++ 32 :: Lx.evWord (4 : Nat)) ++ 32 :: x.data.toList by rw [hT2, ByteArray.data_append, ByteArray.data_append, Array.toList_append, Array.toList_append, HT1.out]; simp)
    clear hT2 xn f1 f1b f2 f2b HT1
    obtain ⟨W0, rfl⟩ : ∃ W, W = wc := ⟨_, rfl⟩
    have hl := BO3.out.1
    have g1 : ¬ (9223372036854775807 < T2.size + 1) := Lx.fits (by omega)
    have g1b : ¬ (9223372036854775807 < T2.size + (⟨#[32]⟩ : ByteArray).size) := g1
    obtain ⟨VD, hVD⟩ : ∃ V : ByteArray, V = ⟨(Lib.itoa d).toArray⟩ := ⟨_, rfl⟩
    rw [← hVD] at HD
    have hVDd : VD.data.toList = Lib.itoa d := by rw [hVD]
    have hVDs : VD.size ≤ 24 := by rw [Lib.size_eq, hVDd]; omega
    obtain ⟨VA, hVA⟩ : ∃ V : ByteArray, V = ⟨(Lib.itoa a).toArray⟩ := ⟨_, rfl⟩
    rw [← hVA] at HA
    have hVAd : VA.data.toList = Lib.itoa a := by rw [hVA]
    have hVAs : VA.size ≤ 24 := by rw [Lib.size_eq, hVAd]; omega
    have HVDD := Lib.hid hVDd
    have HVAD := Lib.hid hVAd
    clear hVD hVDd hVA hVAd
    have g2 : ¬ (9223372036854775807 < T2.size + 1 + VD.size) := Lx.fits (by omega)
    have g3 : ¬ (9223372036854775807 < T2.size + 1 + VD.size + 1) := Lx.fits (by omega)
    have g4 : ¬ (9223372036854775807 < T2.size + 1 + VD.size + 1 + VA.size) := Lx.fits (by omega)
    go_cut [7] (fun s7 wx => (∃ T : ByteArray, s7 = .string T ∧ T.data.toList = ((Lib.itoa t ++ 32 :: Lx.evWord (4 : Nat)) ++ 32 :: x.data.toList) ++ 32 :: (Lib.itoa d ++ 32 :: Lib.itoa a) ∧ T.size ≤ 130) ∧ Below W0.heap.size W0 wx)
    case first =>
      have HP := Lib.hid (fun W (hb : Below W0.heap.size W0 W) => And.intro ((hb.cell (p := ⟨w.heap.size, 3, none⟩) hl).trans q3) ((hb.cell (p := ⟨w.heap.size, 4, none⟩) hl).trans q4))
      have hS0 : (fun wx => Below W0.heap.size W0 wx ∧ wx.cell? ⟨w.heap.size, 3, none⟩ = some (.int .i64 d) ∧ wx.cell? ⟨w.heap.size, 4, none⟩ = some (.int .i64 a)) W0.drew := ⟨(Below.refl _ _).drew, q3, q4⟩
      dsimp only at hS0
      clear q0 q1 q2 q3 q4 q5 q6 q7
      go_region_held3 (fun wx => Below W0.heap.size W0 wx ∧ wx.cell? ⟨w.heap.size, 3, none⟩ = some (.int .i64 d) ∧ wx.cell? ⟨w.heap.size, 4, none⟩ = some (.int .i64 a))
        (first | assumption | (refine Lx.mkS HP.out ?_; repeat (first | assumption | exact Below.refl _ _ | apply Lx.bDrew | apply Lx.bAlloc)))
        (first
          | (go_at_call 46; with_reducible refine (HD.out _).mono ?_; rintro e w5 ⟨rfl, cb⟩; have kb2 := Lx.bCall (P := fun wx => wx.cell? ⟨w.heap.size, 3, none⟩ = some (.int .i64 d) ∧ wx.cell? ⟨w.heap.size, 4, none⟩ = some (.int .i64 a)) (by assumption) cb; have hzz := kb2.size; have kS := Lx.mkS HP.out kb2; clear cb)
          | (go_at_call 46; with_reducible refine (HA.out _).mono ?_; rintro e w6 ⟨rfl, cb⟩; have kb2 := Lx.bCall (P := fun wx => wx.cell? ⟨w.heap.size, 3, none⟩ = some (.int .i64 d) ∧ wx.cell? ⟨w.heap.size, 4, none⟩ = some (.int .i64 a)) (by assumption) cb; have hzz := kb2.size; have kS := Lx.mkS HP.out kb2; clear cb))
      all_goals (go_wp2_with fail; go_meet)
      all_goals exact ⟨⟨_, rfl, by simp only [ByteArray.data_append, Array.toList_append, HT2.out, HVDD.out, HVAD.out]; simp, by simp only [ByteArray.size_append, Lx.sp_size]; omega⟩, And.left (by assumption)⟩
    case rest =>
      obtain ⟨⟨T3, rfl, hT3, hs3⟩, hb⟩ := hcut
      have HT3 := Lib.hid hT3
      have B4 := Lib.hid (B3.out.trans (hb.mono B3.out.size))
      have BO4 := Lib.hid (BO3.out.below hb)
      clear hb hT3 q0 q1 q2 q3 q4 q5 q6 q7
      obtain ⟨q0, q1, q2, q3, q4, q5, q6, q7⟩ := BO4.out.eight
      have f8 : ¬ (9223372036854775807 < T3.size + 1) := Lx.fits (by omega)
      have f8b : ¬ (9223372036854775807 < T3.size + (⟨#[32]⟩ : ByteArray).size) := f8
      obtain ⟨V, hV⟩ : ∃ V : ByteArray, V = ⟨(Lx.untilW n).toArray⟩ := ⟨_, rfl⟩
      rw [← hV] at HM
      have hVd : V.data.toList = Lx.untilW n := by rw [hV]
      have hVs : V.size ≤ 24 := by rw [Lib.size_eq, hVd]; omega
      have f9 : ¬ (9223372036854775807 < T3.size + 1 + V.size) := Lx.fits (by omega)
      have f9b : ¬ (9223372036854775807 < (T3 ++ ⟨#[32]⟩ : ByteArray).size + V.size) := by rw [ByteArray.size_append, Lx.sp_size]; exact f9
      have HVD := Lib.hid hVd
      clear hV hVd
      go_wp2_with fail
      refine (HM.out _).mono ?_
      rintro e w8 ⟨rfl, c8⟩
      have B8 := Lib.hid (B4.out.trans (c8.mono B4.out.size))
      have BO8 := Lib.hid (BO4.out.below c8)
      clear c8 q0 q1 q2 q3 q4 q5 q6 q7
      obtain ⟨q0, q1, q2, q3, q4, q5, q6, q7⟩ := BO8.out.eight
      go_wp2_with fail
      go_ret2
      exact ⟨Lx.ret_t2 (Lx.v_str (Lx.app_eq (by simp only [ByteArray.data_append, Array.toList_append, HT3.out, HVD.out]; simp [Lx.evText, Lx.evParts, Lx.joinSp]))) rfl, B8.out⟩
set_option maxRecDepth 100000 in
set_option maxHeartbeats 1600000 in
theorem r36_print_5 (t d a : Int) (y : Nat) (p : Nat) (x : ByteArray) (hxs : x.size ≤ 24) (ad : Option Addr) (m cap : Nat) (NS : List ByteArray) (w : World) (h : Lx.IsNames w ad m NS) (hz : ∀ x ∈ NS, x.size ≤ maxLen) (hN : Lx.nmErr NS = 0) (hx : NS[p]? = some x) (g : Lx.Good ⟨5, t, (p : Nat), d, a, 0, (y : Nat), 0⟩) :
    Calls Tryz.prog 28 #[.agg #[.int .i64 5, .int .i64 t, .int .i64 (p : Nat), .int .i64 d, .int .i64 a, .int .i64 0, .int .i64 (y : Nat), .int .i64 0], .slice ad m cap] w (WriteIs (Lx.evText ⟨5, t, (p : Nat), d, a, 0, (y : Nat), 0⟩ x.data.toList) 0 w) := by
  have hI := Lx.good_in g
  have HC := Lib.hid (fun W => r36check_any ⟨5, t, (p : Nat), d, a, 0, (y : Nat), 0⟩ hI W)
  rw [(Lx.evErr_good _).2 g] at HC
  unfold EvCheckIs Lx.EvV.val at HC
  dsimp only at HC
  have HL := Lib.hid (fun W (b : Below w.heap.size w W) => r36list_any ad m cap NS W (h.below b) hz)
  rw [hN] at HL
  have HN := Lib.hid (fun W (b : Below w.heap.size w W) => h.below b)
  have hm := h.1
  unfold Lx.EvV.In Lx.inR at hI
  unfold Lx.Good at g
  dsimp only at hI g
  have ht0 : 0 ≤ t ∧ t ≤ 253402300799 := by omega
  have hTl := Lx.it_len (n := t) (by unfold Lx.inR; omega)
  have hWl := Lx.word_len (5 : Nat)
  obtain ⟨VT, hVT⟩ : ∃ V : ByteArray, V = ⟨(Lib.itoa t).toArray⟩ := ⟨_, rfl⟩
  obtain ⟨VW, hVW⟩ : ∃ V : ByteArray, V = ⟨(Lx.evWord (5 : Nat)).toArray⟩ := ⟨_, rfl⟩
  have HT : ∀ W, Calls Tryz.prog 46 #[.int .i64 t] W fun e w' => e = .returned (.string VT) ∧ Below W.heap.size W w' := fun W => by rw [hVT]; exact r36num_any t W ht0
  have HW : ∀ W, Calls Tryz.prog 25 #[.int .i64 5] W fun e w' => e = .returned (.string VW) ∧ Below W.heap.size W w' := fun W => by rw [hVW]; exact r36word_any 5 (by omega) W
  have hVTd : VT.data.toList = Lib.itoa t := by rw [hVT]
  have hVWd : VW.data.toList = Lx.evWord (5 : Nat) := by rw [hVW]
  have hVTs : VT.size ≤ 21 := by rw [Lib.size_eq, hVTd]; omega
  have hVWs : VW.size ≤ 24 := by rw [Lib.size_eq, hVWd]; omega
  have HT := Lib.hid HT
  have HW := Lib.hid HW
  have HVTD := Lib.hid hVTd
  have HVWD := Lib.hid hVWd
  have z1 : ¬ (9223372036854775807 < VT.size + 1) := Lx.fits (by omega)
  have z2 : ¬ (9223372036854775807 < VT.size + 1 + VW.size) := Lx.fits (by omega)
  clear hVT hVW hVTd hVWd
  have HD := Lib.hid (fun W => r36num_any d W (by omega))
  have hDl := Lx.it_len (n := d) (by unfold Lx.inR; omega)
  have HA := Lib.hid (fun W => r36num_any a W (by omega))
  have hAl := Lx.it_len (n := a) (by unfold Lx.inR; omega)
  have HY := Lib.hid (fun W => r36why_any y (by omega) W)
  have hYl := Lx.reason_len (y : Nat)
  have ba : Below w.heap.size w (w.alloc (.cells #[.int .i64 5, .int .i64 t, .int .i64 (p : Nat), .int .i64 d, .int .i64 a, .int .i64 0, .int .i64 (y : Nat), .int .i64 0] 26)) := (Below.refl _ w).alloc (Nat.le_refl _) _
  have BO0 := Lib.hid (Lx.EvBox.new w 5 t (p : Nat) d a 0 (y : Nat) 0 26)
  have B0 := Lib.hid ba
  clear ba
  have hp : p < m := by rw [← hm]; exact (List.getElem?_eq_some_iff.1 hx).1
  have hpi : (p : Int) < (m : Int) := by omega
  have hpd : decide ((m : Int) ≤ (p : Int)) = false := decide_eq_false (by omega)
  have HX := Lib.hid hx
  clear hx
  have HG := Lib.hid g
  clear g hI h hz hN hm
  go_enter Tryz.func28, Tryz.ntmps28
  go_wp2_with fail
  refine (HL.out _ B0.out).mono ?_
  rintro e w1 ⟨rfl, c1⟩
  have BO1 := Lib.hid (BO0.out.below c1)
  have B1 := Lib.hid (B0.out.trans (c1.mono B0.out.size))
  clear c1 BO0 B0 HL
  obtain ⟨q0, q1, q2, q3, q4, q5, q6, q7⟩ := BO1.out.eight
  go_wp2_with fail
  refine (HC.out _).mono ?_
  rintro e w2 ⟨rfl, c2⟩
  have BO2 := Lib.hid (BO1.out.below c2)
  have B2 := Lib.hid (B1.out.trans (c2.mono B1.out.size))
  clear c2 BO1 B1 HC q0 q1 q2 q3 q4 q5 q6 q7
  obtain ⟨W0, rfl⟩ : ∃ W, W = w2 := ⟨_, rfl⟩
  have hl := BO2.out.1
  obtain ⟨q0, q1, q2, q3, q4, q5, q6, q7⟩ := BO2.out.eight
  go_upto_region 6 with (fail)
  go_cut [7] (fun s7 wx => (∃ T : ByteArray, s7 = .string T ∧ T.data.toList = Lib.itoa t ++ 32 :: Lx.evWord (5 : Nat) ∧ T.size ≤ 46) ∧ Below W0.heap.size W0 wx)
  case first =>
    have HP := Lib.hid (fun W (hb : Below W0.heap.size W0 W) => And.intro ((hb.cell (p := ⟨w.heap.size, 1, none⟩) hl).trans q1) ((hb.cell (p := ⟨w.heap.size, 0, none⟩) hl).trans q0))
    have hS0 : (fun wx => Below W0.heap.size W0 wx ∧ wx.cell? ⟨w.heap.size, 1, none⟩ = some (.int .i64 t) ∧ wx.cell? ⟨w.heap.size, 0, none⟩ = some (.int .i64 5)) W0.drew := ⟨(Below.refl _ _).drew, q1, q0⟩
    dsimp only at hS0
    clear q0 q1 q2 q3 q4 q5 q6 q7
    go_region_held3 (fun wx => Below W0.heap.size W0 wx ∧ wx.cell? ⟨w.heap.size, 1, none⟩ = some (.int .i64 t) ∧ wx.cell? ⟨w.heap.size, 0, none⟩ = some (.int .i64 5))
      (first | assumption | (refine Lx.mkS HP.out ?_; repeat (first | assumption | exact Below.refl _ _ | apply Lx.bDrew | apply Lx.bAlloc)))
      (first
        | (go_at_call 46; with_reducible refine (HT.out _).mono ?_; rintro e w3 ⟨rfl, cb⟩; have kb2 := Lx.bCall (P := fun wx => wx.cell? ⟨w.heap.size, 1, none⟩ = some (.int .i64 t) ∧ wx.cell? ⟨w.heap.size, 0, none⟩ = some (.int .i64 5)) (by assumption) cb; have hzz := kb2.size; have kS := Lx.mkS HP.out kb2; clear cb)
        | (go_at_call 25; with_reducible refine (HW.out _).mono ?_; rintro e w4 ⟨rfl, cb⟩; have kb2 := Lx.bCall (P := fun wx => wx.cell? ⟨w.heap.size, 1, none⟩ = some (.int .i64 t) ∧ wx.cell? ⟨w.heap.size, 0, none⟩ = some (.int .i64 5)) (by assumption) cb; have hzz := kb2.size; have kS := Lx.mkS HP.out kb2; clear cb))
    all_goals (go_wp2_with fail; go_meet)
    all_goals exact ⟨⟨_, rfl, by simp only [ByteArray.data_append, Array.toList_append, HVTD.out, HVWD.out]; simp, by simp only [ByteArray.size_append, Lx.sp_size]; omega⟩, And.left (by assumption)⟩
  case rest =>
    obtain ⟨⟨T1, rfl, hT1, hs1⟩, hb⟩ := hcut
    have HT1 := Lib.hid hT1
    have B3 := Lib.hid (B2.out.trans (hb.mono B2.out.size))
    have BO3 := Lib.hid (BO2.out.below hb)
    clear hb hT1 q0 q1 q2 q3 q4 q5 q6 q7
    obtain ⟨q0, q1, q2, q3, q4, q5, q6, q7⟩ := BO3.out.eight
    have f1 : ¬ (9223372036854775807 < T1.size + 1) := Lx.fits (by omega)
    have f1b : ¬ (9223372036854775807 < T1.size + (⟨#[32]⟩ : ByteArray).size) := f1
    obtain ⟨gn, off, rfl, ltn, hcn⟩ := (HN.out _ B3.out).2 (by omega)
    have xn := hcn p x HX.out
    clear hcn
    have f2 : ¬ (9223372036854775807 < T1.size + 1 + x.size) := Lx.fits (by omega)
    have f2b : ¬ (9223372036854775807 < (T1 ++ ⟨#[32]⟩ : ByteArray).size + x.size) := by rw [ByteArray.size_append, Lx.sp_size]; exact f2
    go_upto_region 13 with (fail)
    obtain ⟨T2, hT2⟩ : ∃ T2 : ByteArray, T2 = T1 ++ ⟨#[32]⟩ ++ x := ⟨_, rfl⟩
    rw [← hT2]
    have hs2 : T2.size ≤ 71 := by rw [hT2, ByteArray.size_append, ByteArray.size_append, Lx.sp_size]; omega
    have HT2 := Lib.hid (show T2.data.toList = (Lib.itoa t ++ 32 :: Lx.evWord (5 : Nat)) ++ 32 :: x.data.toList by rw [hT2, ByteArray.data_append, ByteArray.data_append, Array.toList_append, Array.toList_append, HT1.out]; simp)
    clear hT2 xn f1 f1b f2 f2b HT1
    obtain ⟨W0, rfl⟩ : ∃ W, W = wc := ⟨_, rfl⟩
    have hl := BO3.out.1
    have g1 : ¬ (9223372036854775807 < T2.size + 1) := Lx.fits (by omega)
    have g1b : ¬ (9223372036854775807 < T2.size + (⟨#[32]⟩ : ByteArray).size) := g1
    obtain ⟨VD, hVD⟩ : ∃ V : ByteArray, V = ⟨(Lib.itoa d).toArray⟩ := ⟨_, rfl⟩
    rw [← hVD] at HD
    have hVDd : VD.data.toList = Lib.itoa d := by rw [hVD]
    have hVDs : VD.size ≤ 24 := by rw [Lib.size_eq, hVDd]; omega
    obtain ⟨VA, hVA⟩ : ∃ V : ByteArray, V = ⟨(Lib.itoa a).toArray⟩ := ⟨_, rfl⟩
    rw [← hVA] at HA
    have hVAd : VA.data.toList = Lib.itoa a := by rw [hVA]
    have hVAs : VA.size ≤ 24 := by rw [Lib.size_eq, hVAd]; omega
    have HVDD := Lib.hid hVDd
    have HVAD := Lib.hid hVAd
    clear hVD hVDd hVA hVAd
    have g2 : ¬ (9223372036854775807 < T2.size + 1 + VD.size) := Lx.fits (by omega)
    have g3 : ¬ (9223372036854775807 < T2.size + 1 + VD.size + 1) := Lx.fits (by omega)
    have g4 : ¬ (9223372036854775807 < T2.size + 1 + VD.size + 1 + VA.size) := Lx.fits (by omega)
    go_cut [7] (fun s7 wx => (∃ T : ByteArray, s7 = .string T ∧ T.data.toList = ((Lib.itoa t ++ 32 :: Lx.evWord (5 : Nat)) ++ 32 :: x.data.toList) ++ 32 :: (Lib.itoa d ++ 32 :: Lib.itoa a) ∧ T.size ≤ 130) ∧ Below W0.heap.size W0 wx)
    case first =>
      have HP := Lib.hid (fun W (hb : Below W0.heap.size W0 W) => And.intro ((hb.cell (p := ⟨w.heap.size, 3, none⟩) hl).trans q3) ((hb.cell (p := ⟨w.heap.size, 4, none⟩) hl).trans q4))
      have hS0 : (fun wx => Below W0.heap.size W0 wx ∧ wx.cell? ⟨w.heap.size, 3, none⟩ = some (.int .i64 d) ∧ wx.cell? ⟨w.heap.size, 4, none⟩ = some (.int .i64 a)) W0.drew := ⟨(Below.refl _ _).drew, q3, q4⟩
      dsimp only at hS0
      clear q0 q1 q2 q3 q4 q5 q6 q7
      go_region_held3 (fun wx => Below W0.heap.size W0 wx ∧ wx.cell? ⟨w.heap.size, 3, none⟩ = some (.int .i64 d) ∧ wx.cell? ⟨w.heap.size, 4, none⟩ = some (.int .i64 a))
        (first | assumption | (refine Lx.mkS HP.out ?_; repeat (first | assumption | exact Below.refl _ _ | apply Lx.bDrew | apply Lx.bAlloc)))
        (first
          | (go_at_call 46; with_reducible refine (HD.out _).mono ?_; rintro e w5 ⟨rfl, cb⟩; have kb2 := Lx.bCall (P := fun wx => wx.cell? ⟨w.heap.size, 3, none⟩ = some (.int .i64 d) ∧ wx.cell? ⟨w.heap.size, 4, none⟩ = some (.int .i64 a)) (by assumption) cb; have hzz := kb2.size; have kS := Lx.mkS HP.out kb2; clear cb)
          | (go_at_call 46; with_reducible refine (HA.out _).mono ?_; rintro e w6 ⟨rfl, cb⟩; have kb2 := Lx.bCall (P := fun wx => wx.cell? ⟨w.heap.size, 3, none⟩ = some (.int .i64 d) ∧ wx.cell? ⟨w.heap.size, 4, none⟩ = some (.int .i64 a)) (by assumption) cb; have hzz := kb2.size; have kS := Lx.mkS HP.out kb2; clear cb))
      all_goals (go_wp2_with fail; go_meet)
      all_goals exact ⟨⟨_, rfl, by simp only [ByteArray.data_append, Array.toList_append, HT2.out, HVDD.out, HVAD.out]; simp, by simp only [ByteArray.size_append, Lx.sp_size]; omega⟩, And.left (by assumption)⟩
    case rest =>
      obtain ⟨⟨T3, rfl, hT3, hs3⟩, hb⟩ := hcut
      have HT3 := Lib.hid hT3
      have B4 := Lib.hid (B3.out.trans (hb.mono B3.out.size))
      have BO4 := Lib.hid (BO3.out.below hb)
      clear hb hT3 q0 q1 q2 q3 q4 q5 q6 q7
      obtain ⟨q0, q1, q2, q3, q4, q5, q6, q7⟩ := BO4.out.eight
      have f8 : ¬ (9223372036854775807 < T3.size + 1) := Lx.fits (by omega)
      have f8b : ¬ (9223372036854775807 < T3.size + (⟨#[32]⟩ : ByteArray).size) := f8
      obtain ⟨V, hV⟩ : ∃ V : ByteArray, V = ⟨(Lx.reasonW (y : Nat)).toArray⟩ := ⟨_, rfl⟩
      rw [← hV] at HY
      have hVd : V.data.toList = Lx.reasonW (y : Nat) := by rw [hV]
      have hVs : V.size ≤ 24 := by rw [Lib.size_eq, hVd]; omega
      have f9 : ¬ (9223372036854775807 < T3.size + 1 + V.size) := Lx.fits (by omega)
      have f9b : ¬ (9223372036854775807 < (T3 ++ ⟨#[32]⟩ : ByteArray).size + V.size) := by rw [ByteArray.size_append, Lx.sp_size]; exact f9
      have HVD := Lib.hid hVd
      clear hV hVd
      go_wp2_with fail
      refine (HY.out _).mono ?_
      rintro e w8 ⟨rfl, c8⟩
      have B8 := Lib.hid (B4.out.trans (c8.mono B4.out.size))
      have BO8 := Lib.hid (BO4.out.below c8)
      clear c8 q0 q1 q2 q3 q4 q5 q6 q7
      obtain ⟨q0, q1, q2, q3, q4, q5, q6, q7⟩ := BO8.out.eight
      go_wp2_with fail
      go_ret2
      exact ⟨Lx.ret_t2 (Lx.v_str (Lx.app_eq (by simp only [ByteArray.data_append, Array.toList_append, HT3.out, HVD.out]; simp [Lx.evText, Lx.evParts, Lx.joinSp]))) rfl, B8.out⟩
set_option maxRecDepth 100000 in
set_option maxHeartbeats 1600000 in
theorem r36_print_6 (t y : Int) (x : ByteArray) (_hxs : x.size ≤ 24) (ad : Option Addr) (m cap : Nat) (NS : List ByteArray) (w : World) (h : Lx.IsNames w ad m NS) (hz : ∀ x ∈ NS, x.size ≤ maxLen) (hN : Lx.nmErr NS = 0) (g : Lx.Good ⟨6, t, 0, 0, 0, 0, y, 0⟩) :
    Calls Tryz.prog 28 #[.agg #[.int .i64 6, .int .i64 t, .int .i64 0, .int .i64 0, .int .i64 0, .int .i64 0, .int .i64 y, .int .i64 0], .slice ad m cap] w (WriteIs (Lx.evText ⟨6, t, 0, 0, 0, 0, y, 0⟩ x.data.toList) 0 w) := by
  have hI := Lx.good_in g
  have HC := Lib.hid (fun W => r36check_any ⟨6, t, 0, 0, 0, 0, y, 0⟩ hI W)
  rw [(Lx.evErr_good _).2 g] at HC
  unfold EvCheckIs Lx.EvV.val at HC
  dsimp only at HC
  have HL := Lib.hid (fun W (b : Below w.heap.size w W) => r36list_any ad m cap NS W (h.below b) hz)
  rw [hN] at HL
  have HN := Lib.hid (fun W (b : Below w.heap.size w W) => h.below b)
  have hm := h.1
  unfold Lx.EvV.In Lx.inR at hI
  unfold Lx.Good at g
  dsimp only at hI g
  have ht0 : 0 ≤ t ∧ t ≤ 253402300799 := by omega
  have hTl := Lx.it_len (n := t) (by unfold Lx.inR; omega)
  have hWl := Lx.word_len (6 : Nat)
  obtain ⟨VT, hVT⟩ : ∃ V : ByteArray, V = ⟨(Lib.itoa t).toArray⟩ := ⟨_, rfl⟩
  obtain ⟨VW, hVW⟩ : ∃ V : ByteArray, V = ⟨(Lx.evWord (6 : Nat)).toArray⟩ := ⟨_, rfl⟩
  have HT : ∀ W, Calls Tryz.prog 46 #[.int .i64 t] W fun e w' => e = .returned (.string VT) ∧ Below W.heap.size W w' := fun W => by rw [hVT]; exact r36num_any t W ht0
  have HW : ∀ W, Calls Tryz.prog 25 #[.int .i64 6] W fun e w' => e = .returned (.string VW) ∧ Below W.heap.size W w' := fun W => by rw [hVW]; exact r36word_any 6 (by omega) W
  have hVTd : VT.data.toList = Lib.itoa t := by rw [hVT]
  have hVWd : VW.data.toList = Lx.evWord (6 : Nat) := by rw [hVW]
  have hVTs : VT.size ≤ 21 := by rw [Lib.size_eq, hVTd]; omega
  have hVWs : VW.size ≤ 24 := by rw [Lib.size_eq, hVWd]; omega
  have HT := Lib.hid HT
  have HW := Lib.hid HW
  have HVTD := Lib.hid hVTd
  have HVWD := Lib.hid hVWd
  have z1 : ¬ (9223372036854775807 < VT.size + 1) := Lx.fits (by omega)
  have z2 : ¬ (9223372036854775807 < VT.size + 1 + VW.size) := Lx.fits (by omega)
  clear hVT hVW hVTd hVWd
  have HY := Lib.hid (fun W => r36num_any y W (by omega))
  have hYl := Lx.it_len (n := y) (by unfold Lx.inR; omega)
  have ba : Below w.heap.size w (w.alloc (.cells #[.int .i64 6, .int .i64 t, .int .i64 0, .int .i64 0, .int .i64 0, .int .i64 0, .int .i64 y, .int .i64 0] 26)) := (Below.refl _ w).alloc (Nat.le_refl _) _
  have BO0 := Lib.hid (Lx.EvBox.new w 6 t 0 0 0 0 y 0 26)
  have B0 := Lib.hid ba
  clear ba
  have HG := Lib.hid g
  clear g hI h hz hN hm
  go_enter Tryz.func28, Tryz.ntmps28
  go_wp2_with fail
  refine (HL.out _ B0.out).mono ?_
  rintro e w1 ⟨rfl, c1⟩
  have BO1 := Lib.hid (BO0.out.below c1)
  have B1 := Lib.hid (B0.out.trans (c1.mono B0.out.size))
  clear c1 BO0 B0 HL
  obtain ⟨q0, q1, q2, q3, q4, q5, q6, q7⟩ := BO1.out.eight
  go_wp2_with fail
  refine (HC.out _).mono ?_
  rintro e w2 ⟨rfl, c2⟩
  have BO2 := Lib.hid (BO1.out.below c2)
  have B2 := Lib.hid (B1.out.trans (c2.mono B1.out.size))
  clear c2 BO1 B1 HC q0 q1 q2 q3 q4 q5 q6 q7
  obtain ⟨W0, rfl⟩ : ∃ W, W = w2 := ⟨_, rfl⟩
  have hl := BO2.out.1
  obtain ⟨q0, q1, q2, q3, q4, q5, q6, q7⟩ := BO2.out.eight
  go_upto_region 6 with (fail)
  go_cut [7] (fun s7 wx => (∃ T : ByteArray, s7 = .string T ∧ T.data.toList = Lib.itoa t ++ 32 :: Lx.evWord (6 : Nat) ∧ T.size ≤ 46) ∧ Below W0.heap.size W0 wx)
  case first =>
    have HP := Lib.hid (fun W (hb : Below W0.heap.size W0 W) => And.intro ((hb.cell (p := ⟨w.heap.size, 1, none⟩) hl).trans q1) ((hb.cell (p := ⟨w.heap.size, 0, none⟩) hl).trans q0))
    have hS0 : (fun wx => Below W0.heap.size W0 wx ∧ wx.cell? ⟨w.heap.size, 1, none⟩ = some (.int .i64 t) ∧ wx.cell? ⟨w.heap.size, 0, none⟩ = some (.int .i64 6)) W0.drew := ⟨(Below.refl _ _).drew, q1, q0⟩
    dsimp only at hS0
    clear q0 q1 q2 q3 q4 q5 q6 q7
    go_region_held3 (fun wx => Below W0.heap.size W0 wx ∧ wx.cell? ⟨w.heap.size, 1, none⟩ = some (.int .i64 t) ∧ wx.cell? ⟨w.heap.size, 0, none⟩ = some (.int .i64 6))
      (first | assumption | (refine Lx.mkS HP.out ?_; repeat (first | assumption | exact Below.refl _ _ | apply Lx.bDrew | apply Lx.bAlloc)))
      (first
        | (go_at_call 46; with_reducible refine (HT.out _).mono ?_; rintro e w3 ⟨rfl, cb⟩; have kb2 := Lx.bCall (P := fun wx => wx.cell? ⟨w.heap.size, 1, none⟩ = some (.int .i64 t) ∧ wx.cell? ⟨w.heap.size, 0, none⟩ = some (.int .i64 6)) (by assumption) cb; have hzz := kb2.size; have kS := Lx.mkS HP.out kb2; clear cb)
        | (go_at_call 25; with_reducible refine (HW.out _).mono ?_; rintro e w4 ⟨rfl, cb⟩; have kb2 := Lx.bCall (P := fun wx => wx.cell? ⟨w.heap.size, 1, none⟩ = some (.int .i64 t) ∧ wx.cell? ⟨w.heap.size, 0, none⟩ = some (.int .i64 6)) (by assumption) cb; have hzz := kb2.size; have kS := Lx.mkS HP.out kb2; clear cb))
    all_goals (go_wp2_with fail; go_meet)
    all_goals exact ⟨⟨_, rfl, by simp only [ByteArray.data_append, Array.toList_append, HVTD.out, HVWD.out]; simp, by simp only [ByteArray.size_append, Lx.sp_size]; omega⟩, And.left (by assumption)⟩
  case rest =>
    obtain ⟨⟨T1, rfl, hT1, hs1⟩, hb⟩ := hcut
    have HT1 := Lib.hid hT1
    have B3 := Lib.hid (B2.out.trans (hb.mono B2.out.size))
    have BO3 := Lib.hid (BO2.out.below hb)
    clear hb hT1 q0 q1 q2 q3 q4 q5 q6 q7
    obtain ⟨q0, q1, q2, q3, q4, q5, q6, q7⟩ := BO3.out.eight
    have f1 : ¬ (9223372036854775807 < T1.size + 1) := Lx.fits (by omega)
    have f1b : ¬ (9223372036854775807 < T1.size + (⟨#[32]⟩ : ByteArray).size) := f1
    have f8 : ¬ (9223372036854775807 < T1.size + 1) := Lx.fits (by omega)
    have f8b : ¬ (9223372036854775807 < T1.size + (⟨#[32]⟩ : ByteArray).size) := f8
    obtain ⟨V, hV⟩ : ∃ V : ByteArray, V = ⟨(Lib.itoa y).toArray⟩ := ⟨_, rfl⟩
    rw [← hV] at HY
    have hVd : V.data.toList = Lib.itoa y := by rw [hV]
    have hVs : V.size ≤ 24 := by rw [Lib.size_eq, hVd]; omega
    have f9 : ¬ (9223372036854775807 < T1.size + 1 + V.size) := Lx.fits (by omega)
    have f9b : ¬ (9223372036854775807 < (T1 ++ ⟨#[32]⟩ : ByteArray).size + V.size) := by rw [ByteArray.size_append, Lx.sp_size]; exact f9
    have HVD := Lib.hid hVd
    clear hV hVd
    go_wp2_with fail
    refine (HY.out _).mono ?_
    rintro e w8 ⟨rfl, c8⟩
    have B8 := Lib.hid (B3.out.trans (c8.mono B3.out.size))
    have BO8 := Lib.hid (BO3.out.below c8)
    clear c8 q0 q1 q2 q3 q4 q5 q6 q7
    obtain ⟨q0, q1, q2, q3, q4, q5, q6, q7⟩ := BO8.out.eight
    go_wp2_with fail
    go_ret2
    exact ⟨Lx.ret_t2 (Lx.v_str (Lx.app_eq (by simp only [ByteArray.data_append, Array.toList_append, HT1.out, HVD.out]; simp [Lx.evText, Lx.evParts, Lx.joinSp]))) rfl, B8.out⟩
set_option maxRecDepth 100000 in
set_option maxHeartbeats 1600000 in
theorem r36_print_7 (t n : Int) (p : Nat) (x : ByteArray) (hxs : x.size ≤ 24) (ad : Option Addr) (m cap : Nat) (NS : List ByteArray) (w : World) (h : Lx.IsNames w ad m NS) (hz : ∀ x ∈ NS, x.size ≤ maxLen) (hN : Lx.nmErr NS = 0) (hx : NS[p]? = some x) (g : Lx.Good ⟨7, t, (p : Nat), 0, 0, 0, 0, n⟩) :
    Calls Tryz.prog 28 #[.agg #[.int .i64 7, .int .i64 t, .int .i64 (p : Nat), .int .i64 0, .int .i64 0, .int .i64 0, .int .i64 0, .int .i64 n], .slice ad m cap] w (WriteIs (Lx.evText ⟨7, t, (p : Nat), 0, 0, 0, 0, n⟩ x.data.toList) 0 w) := by
  have hI := Lx.good_in g
  have HC := Lib.hid (fun W => r36check_any ⟨7, t, (p : Nat), 0, 0, 0, 0, n⟩ hI W)
  rw [(Lx.evErr_good _).2 g] at HC
  unfold EvCheckIs Lx.EvV.val at HC
  dsimp only at HC
  have HL := Lib.hid (fun W (b : Below w.heap.size w W) => r36list_any ad m cap NS W (h.below b) hz)
  rw [hN] at HL
  have HN := Lib.hid (fun W (b : Below w.heap.size w W) => h.below b)
  have hm := h.1
  unfold Lx.EvV.In Lx.inR at hI
  unfold Lx.Good at g
  dsimp only at hI g
  have ht0 : 0 ≤ t ∧ t ≤ 253402300799 := by omega
  have hTl := Lx.it_len (n := t) (by unfold Lx.inR; omega)
  have hWl := Lx.word_len (7 : Nat)
  obtain ⟨VT, hVT⟩ : ∃ V : ByteArray, V = ⟨(Lib.itoa t).toArray⟩ := ⟨_, rfl⟩
  obtain ⟨VW, hVW⟩ : ∃ V : ByteArray, V = ⟨(Lx.evWord (7 : Nat)).toArray⟩ := ⟨_, rfl⟩
  have HT : ∀ W, Calls Tryz.prog 46 #[.int .i64 t] W fun e w' => e = .returned (.string VT) ∧ Below W.heap.size W w' := fun W => by rw [hVT]; exact r36num_any t W ht0
  have HW : ∀ W, Calls Tryz.prog 25 #[.int .i64 7] W fun e w' => e = .returned (.string VW) ∧ Below W.heap.size W w' := fun W => by rw [hVW]; exact r36word_any 7 (by omega) W
  have hVTd : VT.data.toList = Lib.itoa t := by rw [hVT]
  have hVWd : VW.data.toList = Lx.evWord (7 : Nat) := by rw [hVW]
  have hVTs : VT.size ≤ 21 := by rw [Lib.size_eq, hVTd]; omega
  have hVWs : VW.size ≤ 24 := by rw [Lib.size_eq, hVWd]; omega
  have HT := Lib.hid HT
  have HW := Lib.hid HW
  have HVTD := Lib.hid hVTd
  have HVWD := Lib.hid hVWd
  have z1 : ¬ (9223372036854775807 < VT.size + 1) := Lx.fits (by omega)
  have z2 : ¬ (9223372036854775807 < VT.size + 1 + VW.size) := Lx.fits (by omega)
  clear hVT hVW hVTd hVWd
  have HM := Lib.hid (fun W => r36number_any n W (by omega) (by omega))
  have hMl := Lx.until_len (n := n) (by unfold Lx.inR; omega)
  have ba : Below w.heap.size w (w.alloc (.cells #[.int .i64 7, .int .i64 t, .int .i64 (p : Nat), .int .i64 0, .int .i64 0, .int .i64 0, .int .i64 0, .int .i64 n] 26)) := (Below.refl _ w).alloc (Nat.le_refl _) _
  have BO0 := Lib.hid (Lx.EvBox.new w 7 t (p : Nat) 0 0 0 0 n 26)
  have B0 := Lib.hid ba
  clear ba
  have hp : p < m := by rw [← hm]; exact (List.getElem?_eq_some_iff.1 hx).1
  have hpi : (p : Int) < (m : Int) := by omega
  have hpd : decide ((m : Int) ≤ (p : Int)) = false := decide_eq_false (by omega)
  have HX := Lib.hid hx
  clear hx
  have HG := Lib.hid g
  clear g hI h hz hN hm
  go_enter Tryz.func28, Tryz.ntmps28
  go_wp2_with fail
  refine (HL.out _ B0.out).mono ?_
  rintro e w1 ⟨rfl, c1⟩
  have BO1 := Lib.hid (BO0.out.below c1)
  have B1 := Lib.hid (B0.out.trans (c1.mono B0.out.size))
  clear c1 BO0 B0 HL
  obtain ⟨q0, q1, q2, q3, q4, q5, q6, q7⟩ := BO1.out.eight
  go_wp2_with fail
  refine (HC.out _).mono ?_
  rintro e w2 ⟨rfl, c2⟩
  have BO2 := Lib.hid (BO1.out.below c2)
  have B2 := Lib.hid (B1.out.trans (c2.mono B1.out.size))
  clear c2 BO1 B1 HC q0 q1 q2 q3 q4 q5 q6 q7
  obtain ⟨W0, rfl⟩ : ∃ W, W = w2 := ⟨_, rfl⟩
  have hl := BO2.out.1
  obtain ⟨q0, q1, q2, q3, q4, q5, q6, q7⟩ := BO2.out.eight
  go_upto_region 6 with (fail)
  go_cut [7] (fun s7 wx => (∃ T : ByteArray, s7 = .string T ∧ T.data.toList = Lib.itoa t ++ 32 :: Lx.evWord (7 : Nat) ∧ T.size ≤ 46) ∧ Below W0.heap.size W0 wx)
  case first =>
    have HP := Lib.hid (fun W (hb : Below W0.heap.size W0 W) => And.intro ((hb.cell (p := ⟨w.heap.size, 1, none⟩) hl).trans q1) ((hb.cell (p := ⟨w.heap.size, 0, none⟩) hl).trans q0))
    have hS0 : (fun wx => Below W0.heap.size W0 wx ∧ wx.cell? ⟨w.heap.size, 1, none⟩ = some (.int .i64 t) ∧ wx.cell? ⟨w.heap.size, 0, none⟩ = some (.int .i64 7)) W0.drew := ⟨(Below.refl _ _).drew, q1, q0⟩
    dsimp only at hS0
    clear q0 q1 q2 q3 q4 q5 q6 q7
    go_region_held3 (fun wx => Below W0.heap.size W0 wx ∧ wx.cell? ⟨w.heap.size, 1, none⟩ = some (.int .i64 t) ∧ wx.cell? ⟨w.heap.size, 0, none⟩ = some (.int .i64 7))
      (first | assumption | (refine Lx.mkS HP.out ?_; repeat (first | assumption | exact Below.refl _ _ | apply Lx.bDrew | apply Lx.bAlloc)))
      (first
        | (go_at_call 46; with_reducible refine (HT.out _).mono ?_; rintro e w3 ⟨rfl, cb⟩; have kb2 := Lx.bCall (P := fun wx => wx.cell? ⟨w.heap.size, 1, none⟩ = some (.int .i64 t) ∧ wx.cell? ⟨w.heap.size, 0, none⟩ = some (.int .i64 7)) (by assumption) cb; have hzz := kb2.size; have kS := Lx.mkS HP.out kb2; clear cb)
        | (go_at_call 25; with_reducible refine (HW.out _).mono ?_; rintro e w4 ⟨rfl, cb⟩; have kb2 := Lx.bCall (P := fun wx => wx.cell? ⟨w.heap.size, 1, none⟩ = some (.int .i64 t) ∧ wx.cell? ⟨w.heap.size, 0, none⟩ = some (.int .i64 7)) (by assumption) cb; have hzz := kb2.size; have kS := Lx.mkS HP.out kb2; clear cb))
    all_goals (go_wp2_with fail; go_meet)
    all_goals exact ⟨⟨_, rfl, by simp only [ByteArray.data_append, Array.toList_append, HVTD.out, HVWD.out]; simp, by simp only [ByteArray.size_append, Lx.sp_size]; omega⟩, And.left (by assumption)⟩
  case rest =>
    obtain ⟨⟨T1, rfl, hT1, hs1⟩, hb⟩ := hcut
    have HT1 := Lib.hid hT1
    have B3 := Lib.hid (B2.out.trans (hb.mono B2.out.size))
    have BO3 := Lib.hid (BO2.out.below hb)
    clear hb hT1 q0 q1 q2 q3 q4 q5 q6 q7
    obtain ⟨q0, q1, q2, q3, q4, q5, q6, q7⟩ := BO3.out.eight
    have f1 : ¬ (9223372036854775807 < T1.size + 1) := Lx.fits (by omega)
    have f1b : ¬ (9223372036854775807 < T1.size + (⟨#[32]⟩ : ByteArray).size) := f1
    obtain ⟨gn, off, rfl, ltn, hcn⟩ := (HN.out _ B3.out).2 (by omega)
    have xn := hcn p x HX.out
    clear hcn
    have f2 : ¬ (9223372036854775807 < T1.size + 1 + x.size) := Lx.fits (by omega)
    have f2b : ¬ (9223372036854775807 < (T1 ++ ⟨#[32]⟩ : ByteArray).size + x.size) := by rw [ByteArray.size_append, Lx.sp_size]; exact f2
    go_upto_region 18 with (fail)
    obtain ⟨T2, hT2⟩ : ∃ T2 : ByteArray, T2 = T1 ++ ⟨#[32]⟩ ++ x := ⟨_, rfl⟩
    rw [← hT2]
    have hs2 : T2.size ≤ 71 := by rw [hT2, ByteArray.size_append, ByteArray.size_append, Lx.sp_size]; omega
    have HT2 := Lib.hid (show T2.data.toList = (Lib.itoa t ++ 32 :: Lx.evWord (7 : Nat)) ++ 32 :: x.data.toList by rw [hT2, ByteArray.data_append, ByteArray.data_append, Array.toList_append, Array.toList_append, HT1.out]; simp)
    clear hT2 xn f1 f1b f2 f2b HT1
    have f8 : ¬ (9223372036854775807 < T2.size + 1) := Lx.fits (by omega)
    have f8b : ¬ (9223372036854775807 < T2.size + (⟨#[32]⟩ : ByteArray).size) := f8
    obtain ⟨V, hV⟩ : ∃ V : ByteArray, V = ⟨(Lx.untilW n).toArray⟩ := ⟨_, rfl⟩
    rw [← hV] at HM
    have hVd : V.data.toList = Lx.untilW n := by rw [hV]
    have hVs : V.size ≤ 24 := by rw [Lib.size_eq, hVd]; omega
    have f9 : ¬ (9223372036854775807 < T2.size + 1 + V.size) := Lx.fits (by omega)
    have f9b : ¬ (9223372036854775807 < (T2 ++ ⟨#[32]⟩ : ByteArray).size + V.size) := by rw [ByteArray.size_append, Lx.sp_size]; exact f9
    have HVD := Lib.hid hVd
    clear hV hVd
    go_wp2_with fail
    refine (HM.out _).mono ?_
    rintro e w8 ⟨rfl, c8⟩
    have B8 := Lib.hid (B3.out.trans (c8.mono B3.out.size))
    have BO8 := Lib.hid (BO3.out.below c8)
    clear c8 q0 q1 q2 q3 q4 q5 q6 q7
    obtain ⟨q0, q1, q2, q3, q4, q5, q6, q7⟩ := BO8.out.eight
    go_wp2_with fail
    go_ret2
    exact ⟨Lx.ret_t2 (Lx.v_str (Lx.app_eq (by simp only [ByteArray.data_append, Array.toList_append, HT2.out, HVD.out]; simp [Lx.evText, Lx.evParts, Lx.joinSp]))) rfl, B8.out⟩
set_option maxRecDepth 100000 in
set_option maxHeartbeats 1600000 in
theorem r36_print_8 (t : Int) (p : Nat) (x : ByteArray) (hxs : x.size ≤ 24) (ad : Option Addr) (m cap : Nat) (NS : List ByteArray) (w : World) (h : Lx.IsNames w ad m NS) (hz : ∀ x ∈ NS, x.size ≤ maxLen) (hN : Lx.nmErr NS = 0) (hx : NS[p]? = some x) (g : Lx.Good ⟨8, t, (p : Nat), 0, 0, 0, 0, 0⟩) :
    Calls Tryz.prog 28 #[.agg #[.int .i64 8, .int .i64 t, .int .i64 (p : Nat), .int .i64 0, .int .i64 0, .int .i64 0, .int .i64 0, .int .i64 0], .slice ad m cap] w (WriteIs (Lx.evText ⟨8, t, (p : Nat), 0, 0, 0, 0, 0⟩ x.data.toList) 0 w) := by
  have hI := Lx.good_in g
  have HC := Lib.hid (fun W => r36check_any ⟨8, t, (p : Nat), 0, 0, 0, 0, 0⟩ hI W)
  rw [(Lx.evErr_good _).2 g] at HC
  unfold EvCheckIs Lx.EvV.val at HC
  dsimp only at HC
  have HL := Lib.hid (fun W (b : Below w.heap.size w W) => r36list_any ad m cap NS W (h.below b) hz)
  rw [hN] at HL
  have HN := Lib.hid (fun W (b : Below w.heap.size w W) => h.below b)
  have hm := h.1
  unfold Lx.EvV.In Lx.inR at hI
  unfold Lx.Good at g
  dsimp only at hI g
  have ht0 : 0 ≤ t ∧ t ≤ 253402300799 := by omega
  have hTl := Lx.it_len (n := t) (by unfold Lx.inR; omega)
  have hWl := Lx.word_len (8 : Nat)
  obtain ⟨VT, hVT⟩ : ∃ V : ByteArray, V = ⟨(Lib.itoa t).toArray⟩ := ⟨_, rfl⟩
  obtain ⟨VW, hVW⟩ : ∃ V : ByteArray, V = ⟨(Lx.evWord (8 : Nat)).toArray⟩ := ⟨_, rfl⟩
  have HT : ∀ W, Calls Tryz.prog 46 #[.int .i64 t] W fun e w' => e = .returned (.string VT) ∧ Below W.heap.size W w' := fun W => by rw [hVT]; exact r36num_any t W ht0
  have HW : ∀ W, Calls Tryz.prog 25 #[.int .i64 8] W fun e w' => e = .returned (.string VW) ∧ Below W.heap.size W w' := fun W => by rw [hVW]; exact r36word_any 8 (by omega) W
  have hVTd : VT.data.toList = Lib.itoa t := by rw [hVT]
  have hVWd : VW.data.toList = Lx.evWord (8 : Nat) := by rw [hVW]
  have hVTs : VT.size ≤ 21 := by rw [Lib.size_eq, hVTd]; omega
  have hVWs : VW.size ≤ 24 := by rw [Lib.size_eq, hVWd]; omega
  have HT := Lib.hid HT
  have HW := Lib.hid HW
  have HVTD := Lib.hid hVTd
  have HVWD := Lib.hid hVWd
  have z1 : ¬ (9223372036854775807 < VT.size + 1) := Lx.fits (by omega)
  have z2 : ¬ (9223372036854775807 < VT.size + 1 + VW.size) := Lx.fits (by omega)
  clear hVT hVW hVTd hVWd
  have ba : Below w.heap.size w (w.alloc (.cells #[.int .i64 8, .int .i64 t, .int .i64 (p : Nat), .int .i64 0, .int .i64 0, .int .i64 0, .int .i64 0, .int .i64 0] 26)) := (Below.refl _ w).alloc (Nat.le_refl _) _
  have BO0 := Lib.hid (Lx.EvBox.new w 8 t (p : Nat) 0 0 0 0 0 26)
  have B0 := Lib.hid ba
  clear ba
  have hp : p < m := by rw [← hm]; exact (List.getElem?_eq_some_iff.1 hx).1
  have hpi : (p : Int) < (m : Int) := by omega
  have hpd : decide ((m : Int) ≤ (p : Int)) = false := decide_eq_false (by omega)
  have HX := Lib.hid hx
  clear hx
  have HG := Lib.hid g
  clear g hI h hz hN hm
  go_enter Tryz.func28, Tryz.ntmps28
  go_wp2_with fail
  refine (HL.out _ B0.out).mono ?_
  rintro e w1 ⟨rfl, c1⟩
  have BO1 := Lib.hid (BO0.out.below c1)
  have B1 := Lib.hid (B0.out.trans (c1.mono B0.out.size))
  clear c1 BO0 B0 HL
  obtain ⟨q0, q1, q2, q3, q4, q5, q6, q7⟩ := BO1.out.eight
  go_wp2_with fail
  refine (HC.out _).mono ?_
  rintro e w2 ⟨rfl, c2⟩
  have BO2 := Lib.hid (BO1.out.below c2)
  have B2 := Lib.hid (B1.out.trans (c2.mono B1.out.size))
  clear c2 BO1 B1 HC q0 q1 q2 q3 q4 q5 q6 q7
  obtain ⟨W0, rfl⟩ : ∃ W, W = w2 := ⟨_, rfl⟩
  have hl := BO2.out.1
  obtain ⟨q0, q1, q2, q3, q4, q5, q6, q7⟩ := BO2.out.eight
  go_upto_region 6 with (fail)
  go_cut [7] (fun s7 wx => (∃ T : ByteArray, s7 = .string T ∧ T.data.toList = Lib.itoa t ++ 32 :: Lx.evWord (8 : Nat) ∧ T.size ≤ 46) ∧ Below W0.heap.size W0 wx)
  case first =>
    have HP := Lib.hid (fun W (hb : Below W0.heap.size W0 W) => And.intro ((hb.cell (p := ⟨w.heap.size, 1, none⟩) hl).trans q1) ((hb.cell (p := ⟨w.heap.size, 0, none⟩) hl).trans q0))
    have hS0 : (fun wx => Below W0.heap.size W0 wx ∧ wx.cell? ⟨w.heap.size, 1, none⟩ = some (.int .i64 t) ∧ wx.cell? ⟨w.heap.size, 0, none⟩ = some (.int .i64 8)) W0.drew := ⟨(Below.refl _ _).drew, q1, q0⟩
    dsimp only at hS0
    clear q0 q1 q2 q3 q4 q5 q6 q7
    go_region_held3 (fun wx => Below W0.heap.size W0 wx ∧ wx.cell? ⟨w.heap.size, 1, none⟩ = some (.int .i64 t) ∧ wx.cell? ⟨w.heap.size, 0, none⟩ = some (.int .i64 8))
      (first | assumption | (refine Lx.mkS HP.out ?_; repeat (first | assumption | exact Below.refl _ _ | apply Lx.bDrew | apply Lx.bAlloc)))
      (first
        | (go_at_call 46; with_reducible refine (HT.out _).mono ?_; rintro e w3 ⟨rfl, cb⟩; have kb2 := Lx.bCall (P := fun wx => wx.cell? ⟨w.heap.size, 1, none⟩ = some (.int .i64 t) ∧ wx.cell? ⟨w.heap.size, 0, none⟩ = some (.int .i64 8)) (by assumption) cb; have hzz := kb2.size; have kS := Lx.mkS HP.out kb2; clear cb)
        | (go_at_call 25; with_reducible refine (HW.out _).mono ?_; rintro e w4 ⟨rfl, cb⟩; have kb2 := Lx.bCall (P := fun wx => wx.cell? ⟨w.heap.size, 1, none⟩ = some (.int .i64 t) ∧ wx.cell? ⟨w.heap.size, 0, none⟩ = some (.int .i64 8)) (by assumption) cb; have hzz := kb2.size; have kS := Lx.mkS HP.out kb2; clear cb))
    all_goals (go_wp2_with fail; go_meet)
    all_goals exact ⟨⟨_, rfl, by simp only [ByteArray.data_append, Array.toList_append, HVTD.out, HVWD.out]; simp, by simp only [ByteArray.size_append, Lx.sp_size]; omega⟩, And.left (by assumption)⟩
  case rest =>
    obtain ⟨⟨T1, rfl, hT1, hs1⟩, hb⟩ := hcut
    have HT1 := Lib.hid hT1
    have B3 := Lib.hid (B2.out.trans (hb.mono B2.out.size))
    have BO3 := Lib.hid (BO2.out.below hb)
    clear hb hT1 q0 q1 q2 q3 q4 q5 q6 q7
    obtain ⟨q0, q1, q2, q3, q4, q5, q6, q7⟩ := BO3.out.eight
    have f1 : ¬ (9223372036854775807 < T1.size + 1) := Lx.fits (by omega)
    have f1b : ¬ (9223372036854775807 < T1.size + (⟨#[32]⟩ : ByteArray).size) := f1
    obtain ⟨gn, off, rfl, ltn, hcn⟩ := (HN.out _ B3.out).2 (by omega)
    have xn := hcn p x HX.out
    clear hcn
    have f2 : ¬ (9223372036854775807 < T1.size + 1 + x.size) := Lx.fits (by omega)
    have f2b : ¬ (9223372036854775807 < (T1 ++ ⟨#[32]⟩ : ByteArray).size + x.size) := by rw [ByteArray.size_append, Lx.sp_size]; exact f2
    go_wp2_with fail
    go_ret2
    exact ⟨Lx.ret_t2 (Lx.v_str (Lx.app_eq (by simp only [ByteArray.data_append, Array.toList_append, HT1.out]; simp [Lx.evText, Lx.evParts, Lx.joinSp]))) rfl, B3.out⟩
set_option maxRecDepth 100000 in
set_option maxHeartbeats 1600000 in
theorem r36_print_range (k : Nat) (hk : 1 ≤ k ∧ k ≤ 8 ∧ k ≠ 6) (t j d a r y n : Int) (ad : Option Addr) (m cap : Nat) (NS : List ByteArray) (w : World) (h : Lx.IsNames w ad m NS) (hz : ∀ x ∈ NS, x.size ≤ maxLen) (hN : Lx.nmErr NS = 0) (hj : (m : Int) ≤ j) (g : Lx.Good ⟨(k : Nat), t, j, d, a, r, y, n⟩) :
    Calls Tryz.prog 28 #[.agg #[.int .i64 (k : Nat), .int .i64 t, .int .i64 j, .int .i64 d, .int .i64 a, .int .i64 r, .int .i64 y, .int .i64 n], .slice ad m cap] w (WriteIs [] 3 w) := by
  have hI := Lx.good_in g
  have HC := Lib.hid (fun W => r36check_any ⟨(k : Nat), t, j, d, a, r, y, n⟩ hI W)
  rw [(Lx.evErr_good _).2 g] at HC
  unfold EvCheckIs Lx.EvV.val at HC
  dsimp only at HC
  have HL := Lib.hid (fun W (b : Below w.heap.size w W) => r36list_any ad m cap NS W (h.below b) hz)
  rw [hN] at HL
  have ht : 0 ≤ t ∧ t ≤ 253402300799 := g.1
  have ht0 := ht
  have hTl := Lx.it_len (n := t) (by unfold Lx.inR; omega)
  have hWl := Lx.word_len (k : Nat)
  obtain ⟨VT, hVT⟩ : ∃ V : ByteArray, V = ⟨(Lib.itoa t).toArray⟩ := ⟨_, rfl⟩
  obtain ⟨VW, hVW⟩ : ∃ V : ByteArray, V = ⟨(Lx.evWord (k : Nat)).toArray⟩ := ⟨_, rfl⟩
  have HT : ∀ W, Calls Tryz.prog 46 #[.int .i64 t] W fun e w' => e = .returned (.string VT) ∧ Below W.heap.size W w' := fun W => by rw [hVT]; exact r36num_any t W ht0
  have HW : ∀ W, Calls Tryz.prog 25 #[.int .i64 (k : Nat)] W fun e w' => e = .returned (.string VW) ∧ Below W.heap.size W w' := fun W => by rw [hVW]; exact r36word_any k (by omega) W
  have hVTd : VT.data.toList = Lib.itoa t := by rw [hVT]
  have hVWd : VW.data.toList = Lx.evWord (k : Nat) := by rw [hVW]
  have hVTs : VT.size ≤ 21 := by rw [Lib.size_eq, hVTd]; omega
  have hVWs : VW.size ≤ 24 := by rw [Lib.size_eq, hVWd]; omega
  have HT := Lib.hid HT
  have HW := Lib.hid HW
  have HVTD := Lib.hid hVTd
  have HVWD := Lib.hid hVWd
  have z1 : ¬ (9223372036854775807 < VT.size + 1) := Lx.fits (by omega)
  have z2 : ¬ (9223372036854775807 < VT.size + 1 + VW.size) := Lx.fits (by omega)
  clear hVT hVW hVTd hVWd
  have ba : Below w.heap.size w (w.alloc (.cells #[.int .i64 (k : Nat), .int .i64 t, .int .i64 j, .int .i64 d, .int .i64 a, .int .i64 r, .int .i64 y, .int .i64 n] 26)) := (Below.refl _ w).alloc (Nat.le_refl _) _
  have BO0 := Lib.hid (Lx.EvBox.new w (k : Nat) t j d a r y n 26)
  have B0 := Lib.hid ba
  have k6 : ((k : Int) == 6) = false := by rw [beq_eq_false_iff_ne]; omega
  have k6n : (k == 6) = false := by rw [beq_eq_false_iff_ne]; omega
  have hjd : decide ((m : Int) ≤ j) = true := decide_eq_true hj
  clear ba g hI h hz hN
  go_enter Tryz.func28, Tryz.ntmps28
  go_wp2_with fail
  refine (HL.out _ B0.out).mono ?_
  rintro e w1 ⟨rfl, c1⟩
  have BO1 := Lib.hid (BO0.out.below c1)
  have B1 := Lib.hid (B0.out.trans (c1.mono B0.out.size))
  clear c1 BO0 B0 HL
  obtain ⟨q0, q1, q2, q3, q4, q5, q6, q7⟩ := BO1.out.eight
  go_wp2_with fail
  refine (HC.out _).mono ?_
  rintro e w2 ⟨rfl, c2⟩
  have BO2 := Lib.hid (BO1.out.below c2)
  have B2 := Lib.hid (B1.out.trans (c2.mono B1.out.size))
  clear c2 BO1 B1 HC q0 q1 q2 q3 q4 q5 q6 q7
  obtain ⟨W0, rfl⟩ : ∃ W, W = w2 := ⟨_, rfl⟩
  have hl := BO2.out.1
  obtain ⟨q0, q1, q2, q3, q4, q5, q6, q7⟩ := BO2.out.eight
  go_upto_region 6 with (fail)
  go_cut [7] (fun s7 wx => (∃ T : ByteArray, s7 = .string T ∧ T.data.toList = Lib.itoa t ++ 32 :: Lx.evWord (k : Nat) ∧ T.size ≤ 46) ∧ Below W0.heap.size W0 wx)
  case first =>
    have HP := Lib.hid (fun W (hb : Below W0.heap.size W0 W) => And.intro ((hb.cell (p := ⟨w.heap.size, 1, none⟩) hl).trans q1) ((hb.cell (p := ⟨w.heap.size, 0, none⟩) hl).trans q0))
    have hS0 : (fun wx => Below W0.heap.size W0 wx ∧ wx.cell? ⟨w.heap.size, 1, none⟩ = some (.int .i64 t) ∧ wx.cell? ⟨w.heap.size, 0, none⟩ = some (.int .i64 (k : Nat))) W0.drew := ⟨(Below.refl _ _).drew, q1, q0⟩
    dsimp only at hS0
    clear q0 q1 q2 q3 q4 q5 q6 q7
    go_region_held3 (fun wx => Below W0.heap.size W0 wx ∧ wx.cell? ⟨w.heap.size, 1, none⟩ = some (.int .i64 t) ∧ wx.cell? ⟨w.heap.size, 0, none⟩ = some (.int .i64 (k : Nat)))
      (first | assumption | (refine Lx.mkS HP.out ?_; repeat (first | assumption | exact Below.refl _ _ | apply Lx.bDrew | apply Lx.bAlloc)))
      (first
        | (go_at_call 46; with_reducible refine (HT.out _).mono ?_; rintro e w3 ⟨rfl, cb⟩; have kb2 := Lx.bCall (P := fun wx => wx.cell? ⟨w.heap.size, 1, none⟩ = some (.int .i64 t) ∧ wx.cell? ⟨w.heap.size, 0, none⟩ = some (.int .i64 (k : Nat))) (by assumption) cb; have hzz := kb2.size; have kS := Lx.mkS HP.out kb2; clear cb)
        | (go_at_call 25; with_reducible refine (HW.out _).mono ?_; rintro e w4 ⟨rfl, cb⟩; have kb2 := Lx.bCall (P := fun wx => wx.cell? ⟨w.heap.size, 1, none⟩ = some (.int .i64 t) ∧ wx.cell? ⟨w.heap.size, 0, none⟩ = some (.int .i64 (k : Nat))) (by assumption) cb; have hzz := kb2.size; have kS := Lx.mkS HP.out kb2; clear cb))
    all_goals (go_wp2_with fail; go_meet)
    all_goals exact ⟨⟨_, rfl, by simp only [ByteArray.data_append, Array.toList_append, HVTD.out, HVWD.out]; simp, by simp only [ByteArray.size_append, Lx.sp_size]; omega⟩, And.left (by assumption)⟩
  case rest =>
    obtain ⟨⟨T1, rfl, hT1, hs1⟩, hb⟩ := hcut
    have B3 := Lib.hid (B2.out.trans (hb.mono B2.out.size))
    have BO3 := Lib.hid (BO2.out.below hb)
    clear hb hT1 q0 q1 q2 q3 q4 q5 q6 q7
    obtain ⟨q0, q1, q2, q3, q4, q5, q6, q7⟩ := BO3.out.eight
    go_wp2_with fail
    go_ret2
    exact ⟨rfl, B3.out⟩
set_option maxRecDepth 100000 in
set_option maxHeartbeats 1600000 in
/-- An error of the names, or of the event. -/
theorem r36_print_bad (o : Lx.EvV) (hi : o.In) (ad : Option Addr) (m cap : Nat) (NS : List ByteArray) (w : World) (h : Lx.IsNames w ad m NS) (hz : ∀ x ∈ NS, x.size ≤ maxLen) (hb : Lx.nmErr NS ≠ 0 ∨ Lx.evErr o ≠ 0) :
    Calls Tryz.prog 28 #[o.val, .slice ad m cap] w (WriteIs [] (if Lx.nmErr NS ≠ 0 then Lx.nmErr NS else Lx.evErr o) w) := by
  have HC := Lib.hid (fun W => r36check_any o hi W)
  have HL := Lib.hid (fun W (b : Below w.heap.size w W) => r36list_any ad m cap NS W (h.below b) hz)
  unfold EvCheckIs at HC
  generalize Lx.nmErr NS = x at *
  generalize Lx.evErr o = y at *
  obtain ⟨k, t, j, d, a, r, yy, n⟩ := o
  unfold Lx.EvV.val at HC ⊢
  dsimp only at HC ⊢
  have ba : Below w.heap.size w (w.alloc (.cells #[.int .i64 k, .int .i64 t, .int .i64 j, .int .i64 d, .int .i64 a, .int .i64 r, .int .i64 yy, .int .i64 n] 26)) := (Below.refl _ w).alloc (Nat.le_refl _) _
  have BO0 := Lib.hid (Lx.EvBox.new w k t j d a r yy n 26)
  have B0 := Lib.hid ba
  clear ba h hz hi
  by_cases hx : x = 0
  · subst hx
    have hy : y ≠ 0 := hb.resolve_left (fun c => c rfl)
    rw [if_neg (fun c => c rfl)]
    have hyb : (y != 0) = true := by rw [bne_iff_ne]; exact hy
    clear hb hy
    go_enter Tryz.func28, Tryz.ntmps28
    go_wp2_with fail
    refine (HL.out _ B0.out).mono ?_
    rintro e w1 ⟨rfl, c1⟩
    have BO1 := Lib.hid (BO0.out.below c1)
    have B1 := Lib.hid (B0.out.trans (c1.mono B0.out.size))
    clear c1 BO0 B0 HL
    obtain ⟨q0, q1, q2, q3, q4, q5, q6, q7⟩ := BO1.out.eight
    go_wp2_with fail
    refine (HC.out _).mono ?_
    rintro e w2 ⟨rfl, c2⟩
    go_wp2_with fail
    go_ret2
    exact ⟨rfl, B1.out.trans (c2.mono B1.out.size)⟩
  · rw [if_pos hx]
    have hxb : (x == 0) = false := by rw [beq_eq_false_iff_ne]; exact hx
    have hxn : (x != 0) = true := by rw [bne_iff_ne]; exact hx
    clear hb hx
    go_enter Tryz.func28, Tryz.ntmps28
    go_wp2_with fail
    refine (HL.out _ B0.out).mono ?_
    rintro e w1 ⟨rfl, c1⟩
    go_wp2_with fail
    go_ret2
    exact ⟨rfl, B0.out.trans (c1.mono B0.out.size)⟩
theorem r36print_any (o : Lx.EvV) (hi : o.In) (ad : Option Addr) (m cap : Nat) (NS : List ByteArray) (w : World) (h : Lx.IsNames w ad m NS) (hz : ∀ x ∈ NS, x.size ≤ maxLen) :
    Calls Tryz.prog 28 #[o.val, .slice ad m cap] w (WriteIs (Lx.prS NS o) (Lx.prE NS o) w) := by
  by_cases hN : Lx.nmErr NS = 0
  · by_cases hG : Lx.evErr o = 0
    · have g := (Lx.evErr_good o).1 hG
      have hm := h.1
      have hz24 : ∀ x ∈ NS, x.size ≤ 24 := fun x hx => by
        have := ((Lx.nmErr_ok NS).1 hN).2.1 x hx
        unfold Lx.isName at this
        rw [Bool.and_eq_true, Bool.and_eq_true, decide_eq_true_iff, decide_eq_true_iff] at this
        exact this.1.2
      by_cases hj : o.k ≠ 6 ∧ (NS.length : Int) ≤ o.j
      · have e2 : Lx.prE NS o = 3 := by unfold Lx.prE; rw [if_neg (fun c => c hN)]; exact (Lx.wr_range g hj.1 hj.2).1
        have e1 : Lx.prS NS o = [] := by unfold Lx.prS; rw [if_neg (by rw [e2]; decide)]
        rw [e1, e2]
        have hk := Lx.good_kind g
        obtain ⟨k, t, j, d, a, r, y, n⟩ := o
        dsimp only at hj hk
        obtain ⟨q, rfl⟩ : ∃ q : Nat, k = q := ⟨k.toNat, by omega⟩
        exact r36_print_range q (by omega) t j d a r y n ad m cap NS w h hz hN (by omega) g
      · have hj' : o.k ≠ 6 → o.j < NS.length := fun c => by
          have := fun c2 => hj ⟨c, c2⟩
          omega
        have e := Lx.pr_of ((Lx.nmErr_ok NS).1 hN) g hj'
        rw [e.1, e.2]
        have hk := Lx.good_kind g
        obtain ⟨k, t, j, d, a, r, y, n⟩ := o
        have g0 := g
        unfold Lx.Good at g0
        dsimp only at hj' hk g0 ⊢
        clear e hj hG hi
        by_cases h6 : k = 6
        · subst h6
          obtain ⟨rfl, rfl, rfl, rfl, rfl⟩ : j = 0 ∧ d = 0 ∧ a = 0 ∧ r = 0 ∧ n = 0 := by omega
          have := r36_print_6 t y ⟨#[]⟩ (by decide) ad m cap NS w h hz hN g
          have et : Lx.evText ⟨6, t, 0, 0, 0, 0, y, 0⟩ (⟨#[]⟩ : ByteArray).data.toList = Lx.evText ⟨6, t, 0, 0, 0, 0, y, 0⟩ (Lx.nmAt NS 0) := by simp [Lx.evText, Lx.evParts]
          rw [et] at this
          exact this
        · obtain ⟨p, rfl⟩ : ∃ p : Nat, j = p := ⟨j.toNat, by omega⟩
          have hp : p < NS.length := by have := hj' h6; omega
          obtain ⟨x, hx⟩ : ∃ x, NS[p]? = some x := ⟨_, List.getElem?_eq_getElem hp⟩
          have hxs := hz24 x (List.mem_of_getElem? hx)
          rw [Lx.nmAt_some hx]
          rcases Lx.kind_cases hk with rfl | rfl | rfl | rfl | rfl | rfl | rfl | rfl
          · obtain ⟨rfl, rfl⟩ : y = 0 ∧ n = 0 := by omega
            exact r36_print_1 t d a r p x hxs ad m cap NS w h hz hN hx g
          · obtain ⟨rfl, rfl⟩ : y = 0 ∧ n = 0 := by omega
            exact r36_print_2 t d a r p x hxs ad m cap NS w h hz hN hx g
          · obtain ⟨rfl, rfl⟩ : y = 0 ∧ n = 0 := by omega
            exact r36_print_3 t d a r p x hxs ad m cap NS w h hz hN hx g
          · obtain ⟨rfl, rfl⟩ : y = 0 ∧ r = 0 := by omega
            exact r36_print_4 t d a n p x hxs ad m cap NS w h hz hN hx g
          · obtain ⟨rfl, rfl⟩ : r = 0 ∧ n = 0 := by omega
            obtain ⟨q, rfl⟩ : ∃ q : Nat, y = q := ⟨y.toNat, by omega⟩
            exact r36_print_5 t d a q p x hxs ad m cap NS w h hz hN hx g
          · exact absurd rfl h6
          · obtain ⟨rfl, rfl, rfl, rfl⟩ : d = 0 ∧ a = 0 ∧ r = 0 ∧ y = 0 := by omega
            exact r36_print_7 t n p x hxs ad m cap NS w h hz hN hx g
          · obtain ⟨rfl, rfl, rfl, rfl, rfl⟩ : d = 0 ∧ a = 0 ∧ r = 0 ∧ y = 0 ∧ n = 0 := by omega
            exact r36_print_8 t p x hxs ad m cap NS w h hz hN hx g
    · have e2 : Lx.prE NS o = Lx.evErr o := by unfold Lx.prE; rw [if_neg (fun c => c hN)]; exact (Lx.wr_bad hG).1
      have e1 : Lx.prS NS o = [] := by unfold Lx.prS; rw [if_neg (by rw [e2]; exact hG)]
      have := r36_print_bad o hi ad m cap NS w h hz (.inr hG)
      rw [if_neg (fun c => c hN)] at this
      rw [e1, e2]; exact this
  · have e2 : Lx.prE NS o = Lx.nmErr NS := by unfold Lx.prE; rw [if_pos hN]
    have e1 : Lx.prS NS o = [] := by unfold Lx.prS; rw [if_neg (by rw [e2]; exact hN)]
    have := r36_print_bad o hi ad m cap NS w h hz (.inl hN)
    rw [if_pos hN] at this
    rw [e1, e2]; exact this
end Go.Proofs.YtmpcekpdnikghaaGreatDoor
