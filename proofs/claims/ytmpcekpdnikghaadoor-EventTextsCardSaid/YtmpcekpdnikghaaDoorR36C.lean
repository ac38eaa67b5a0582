/- The reference of chapter 36: time, Check. (printed by gen_r36.py) -/
import Derived.Test.YtmpcekpdnikghaaDoorEvB
import Derived.Test.YtmpcekpdnikghaaDoorEvC
import Derived.Deep.CutRange
namespace Go.Proofs.YtmpcekpdnikghaaDoor
open Go.RowKit

theorem Lx.ev14 {k t j d a r y n : Int} (hk : 1 ≤ k ∧ k ≤ 8) (h : Lx.timeV t = false ∨ (Lx.uD k = true ∧ Lx.timeV d = false)) : Lx.evErr ⟨k, t, j, d, a, r, y, n⟩ = 14 := by
  unfold Lx.evErr
  dsimp only
  rw [if_neg (by omega), if_pos h]
theorem Lx.ev2 {k t j d a r y n : Int} (hk : 1 ≤ k ∧ k ≤ 8) (h1 : Lx.timeV t = true) (h2 : Lx.uD k = true → Lx.timeV d = true) (h : ¬ Lx.Good ⟨k, t, j, d, a, r, y, n⟩) : Lx.evErr ⟨k, t, j, d, a, r, y, n⟩ = 2 := by
  have hz : Lx.evErr ⟨k, t, j, d, a, r, y, n⟩ ≠ 0 := fun e => h ((Lx.evErr_good _).1 e)
  revert hz
  unfold Lx.evErr
  dsimp only
  rw [if_neg (by omega), if_neg (by rintro (c | ⟨c1, c2⟩); (rw [h1] at c; cases c); (rw [h2 c1] at c2; cases c2))]
  split
  · intro c; exact absurd rfl c
  · intro _; rfl
theorem Lx.ev_out {k t j d a r y n : Int} (h : k < 1 ∨ 8 < k) : Lx.evErr ⟨k, t, j, d, a, r, y, n⟩ = 2 := by
  unfold Lx.evErr
  dsimp only
  rw [if_pos h]
theorem Lx.time_of {t : Int} (h : Lx.timeV t = true) : 0 ≤ t ∧ t ≤ 253402300799 := of_decide_eq_true h
theorem r36time_any (t : Int) (w : World) : Calls Tryd.prog 33 #[.int .i64 t] w fun e w' => e = .returned (.bool (Lx.timeV t)) ∧ w' = w := by
  by_cases h0 : 0 ≤ t
  · by_cases h1 : t ≤ 253402300799
    · have e1 : decide (0 ≤ t) = true := decide_eq_true h0
      have e2 : decide (t ≤ 253402300799) = true := decide_eq_true h1
      have hv : Lx.timeV t = true := decide_eq_true ⟨h0, h1⟩
      rw [hv]; clear hv h0 h1
      go_enter Tryd.func33, Tryd.ntmps33
      go_wp2_with fail
      go_ret
      exact ⟨rfl, rfl⟩
    · have e1 : decide (0 ≤ t) = true := decide_eq_true h0
      have e2 : decide (t ≤ 253402300799) = false := decide_eq_false h1
      have hv : Lx.timeV t = false := decide_eq_false (fun h => h1 h.2)
      rw [hv]; clear hv h0 h1
      go_enter Tryd.func33, Tryd.ntmps33
      go_wp2_with fail
      go_ret
      exact ⟨rfl, rfl⟩
  · have e1 : decide (0 ≤ t) = false := decide_eq_false h0
    have hv : Lx.timeV t = false := decide_eq_false (fun h => h0 h.1)
    rw [hv]; clear hv h0
    go_enter Tryd.func33, Tryd.ntmps33
    go_wp2_with fail
    go_ret
    exact ⟨rfl, rfl⟩
set_option maxRecDepth 100000 in
set_option maxHeartbeats 3200000 in
theorem r36_out (k t j d a r y n : Int) (w : World) (h : k < 1 ∨ 8 < k) :
    Calls Tryd.prog 15 #[.agg #[.int .i64 k, .int .i64 t, .int .i64 j, .int .i64 d, .int .i64 a, .int .i64 r, .int .i64 y, .int .i64 n]] w (EvCheckIs (Lx.evErr ⟨k, t, j, d, a, r, y, n⟩) w) := by
  have E := Lib.hid (Lx.ev_out (t := t) (j := j) (d := d) (a := a) (r := r) (y := y) (n := n) h)
  rcases h with h | h
  · have d1 : decide (k < 1) = true := decide_eq_true h
    go_enter Tryd.func15, Tryd.ntmps15
    go_wp2_with fail
    go_ret
    exact ⟨Lx.ret_int E.out.symm, (Below.refl _ _).alloc (Nat.le_refl _) _⟩
  · have d1 : decide (k < 1) = false := decide_eq_false (by omega)
    have d2 : decide (8 < k) = true := decide_eq_true h
    go_enter Tryd.func15, Tryd.ntmps15
    go_wp2_with fail
    go_ret
    exact ⟨Lx.ret_int E.out.symm, (Below.refl _ _).alloc (Nat.le_refl _) _⟩
set_option maxRecDepth 100000 in
set_option maxHeartbeats 3200000 in
theorem r36_check_1 (t j d a r y n : Int) (w : World) (hr : r ≤ 9223372036854775807) :
    Calls Tryd.prog 15 #[.agg #[.int .i64 1, .int .i64 t, .int .i64 j, .int .i64 d, .int .i64 a, .int .i64 r, .int .i64 y, .int .i64 n]] w (EvCheckIs (Lx.evErr ⟨1, t, j, d, a, r, y, n⟩) w) := by
  have HT := Lib.hid (fun (x : Int) W => r36time_any x W)
  cases ht : Lx.timeV t with
  | false =>
    have E := Lib.hid (show Lx.evErr ⟨1, t, j, d, a, r, y, n⟩ = 14 from Lx.ev14 (by omega) (.inl ht))
    have HT1 := Lib.hid (HT.out t)
    rw [ht] at HT1
    clear ht HT
    go_enter Tryd.func15, Tryd.ntmps15
    go_wp2_with fail
    refine (HT1.out _).mono ?_
    rintro e w1 ⟨rfl, rfl⟩
    go_wp2_with fail
    go_ret
    exact ⟨Lx.ret_int E.out.symm, (Below.refl _ _).alloc (Nat.le_refl _) _⟩
  | true =>
    have HT1 := Lib.hid (HT.out t)
    rw [ht] at HT1
    have tt := Lib.hid (Lx.time_of ht)
    have ht := Lib.hid ht
    cases hd : Lx.timeV d with
    | false =>
      have E := Lib.hid (show Lx.evErr ⟨1, t, j, d, a, r, y, n⟩ = 14 from Lx.ev14 (by omega) (.inr ⟨by decide, hd⟩))
      have HT2 := Lib.hid (HT.out d)
      rw [hd] at HT2
      clear hd HT
      go_enter Tryd.func15, Tryd.ntmps15
      go_wp2_with fail
      refine (HT1.out _).mono ?_
      rintro e w1 ⟨rfl, rfl⟩
      go_wp2_with fail
      refine (HT2.out _).mono ?_
      rintro e w2 ⟨rfl, rfl⟩
      go_wp2_with fail
      go_ret
      exact ⟨Lx.ret_int E.out.symm, (Below.refl _ _).alloc (Nat.le_refl _) _⟩
    | true =>
      have HT2 := Lib.hid (HT.out d)
      rw [hd] at HT2
      have td := Lib.hid (Lx.time_of hd)
      have hd := Lib.hid hd
      clear HT
      go_enter Tryd.func15, Tryd.ntmps15
      go_wp2_with fail
      refine (HT1.out _).mono ?_
      rintro e w1 ⟨rfl, rfl⟩
      go_wp2_with fail
      refine (HT2.out _).mono ?_
      rintro e w2 ⟨rfl, rfl⟩
      go_upto_region 9 with fail
      by_cases h1 : j < 0
      · have E := Lib.hid (show Lx.evErr ⟨1, t, j, d, a, r, y, n⟩ = 2 from Lx.ev2 (by omega) ht.out (fun _ => hd.out) (by unfold Lx.Good; dsimp only; omega))
        have e1 : decide (j < 0) = true := decide_eq_true h1
        go_wp2_with fail
        go_ret
        exact ⟨Lx.ret_int E.out.symm, (Below.refl _ _).alloc (Nat.le_refl _) _⟩
      · have e1 : decide (j < 0) = false := decide_eq_false h1
        by_cases h2 : 63 < j
        · have E := Lib.hid (show Lx.evErr ⟨1, t, j, d, a, r, y, n⟩ = 2 from Lx.ev2 (by omega) ht.out (fun _ => hd.out) (by unfold Lx.Good; dsimp only; omega))
          have e2 : decide (63 < j) = true := decide_eq_true h2
          go_wp2_with fail
          go_ret
          exact ⟨Lx.ret_int E.out.symm, (Below.refl _ _).alloc (Nat.le_refl _) _⟩
        · have e2 : decide (63 < j) = false := decide_eq_false h2
          go_upto_region 11 with fail
          by_cases h3 : t < d
          · have E := Lib.hid (show Lx.evErr ⟨1, t, j, d, a, r, y, n⟩ = 2 from Lx.ev2 (by omega) ht.out (fun _ => hd.out) (by unfold Lx.Good; dsimp only; omega))
            have e3 : decide (t < d) = true := decide_eq_true h3
            go_wp2_with fail
            go_ret
            exact ⟨Lx.ret_int E.out.symm, (Below.refl _ _).alloc (Nat.le_refl _) _⟩
          · have e3 : decide (t < d) = false := decide_eq_false h3
            by_cases h4 : a < 1
            · have E := Lib.hid (show Lx.evErr ⟨1, t, j, d, a, r, y, n⟩ = 2 from Lx.ev2 (by omega) ht.out (fun _ => hd.out) (by unfold Lx.Good; dsimp only; omega))
              have e4 : decide (a < 1) = true := decide_eq_true h4
              go_wp2_with fail
              go_ret
              exact ⟨Lx.ret_int E.out.symm, (Below.refl _ _).alloc (Nat.le_refl _) _⟩
            · have e4 : decide (a < 1) = false := decide_eq_false h4
              by_cases h5 : 21 < a
              · have E := Lib.hid (show Lx.evErr ⟨1, t, j, d, a, r, y, n⟩ = 2 from Lx.ev2 (by omega) ht.out (fun _ => hd.out) (by unfold Lx.Good; dsimp only; omega))
                have e5 : decide (21 < a) = true := decide_eq_true h5
                go_wp2_with fail
                go_ret
                exact ⟨Lx.ret_int E.out.symm, (Below.refl _ _).alloc (Nat.le_refl _) _⟩
              · have e5 : decide (21 < a) = false := decide_eq_false h5
                go_upto_region 13 with fail
                by_cases h6 : r < 1
                · have E := Lib.hid (show Lx.evErr ⟨1, t, j, d, a, r, y, n⟩ = 2 from Lx.ev2 (by omega) ht.out (fun _ => hd.out) (by unfold Lx.Good; dsimp only; omega))
                  have e6 : decide (r < 1) = true := decide_eq_true h6
                  go_wp2_with fail
                  go_ret
                  exact ⟨Lx.ret_int E.out.symm, (Below.refl _ _).alloc (Nat.le_refl _) _⟩
                · have e6 : decide (r < 1) = false := decide_eq_false h6
                  go_upto_region 15 with fail
                  by_cases h7 : n = 0
                  · subst h7
                    go_upto_region 22 with fail
                    by_cases h8 : y < 0
                    · have E := Lib.hid (show Lx.evErr ⟨1, t, j, d, a, r, y, 0⟩ = 2 from Lx.ev2 (by omega) ht.out (fun _ => hd.out) (by unfold Lx.Good; dsimp only; omega))
                      have e8 : decide (y < 0) = true := decide_eq_true h8
                      go_wp2_with fail
                      go_ret
                      exact ⟨Lx.ret_int E.out.symm, (Below.refl _ _).alloc (Nat.le_refl _) _⟩
                    · have e8 : decide (y < 0) = false := decide_eq_false h8
                      by_cases h9 : 0 < y
                      · have E := Lib.hid (show Lx.evErr ⟨1, t, j, d, a, r, y, 0⟩ = 2 from Lx.ev2 (by omega) ht.out (fun _ => hd.out) (by unfold Lx.Good; dsimp only; omega))
                        have e9 : decide (0 < y) = true := decide_eq_true h9
                        go_wp2_with fail
                        go_ret
                        exact ⟨Lx.ret_int E.out.symm, (Below.refl _ _).alloc (Nat.le_refl _) _⟩
                      · have e9 : decide (0 < y) = false := decide_eq_false h9
                        have E := Lib.hid (show Lx.evErr ⟨1, t, j, d, a, r, y, 0⟩ = 0 from (Lx.evErr_good ⟨1, t, j, d, a, r, y, 0⟩).2 (by have ttt := tt.out; have tdd := td.out; unfold Lx.Good; dsimp only; omega))
                        go_wp2_with fail
                        go_ret
                        exact ⟨Lx.ret_int E.out.symm, (Below.refl _ _).alloc (Nat.le_refl _) _⟩
                  · have E := Lib.hid (show Lx.evErr ⟨1, t, j, d, a, r, y, n⟩ = 2 from Lx.ev2 (by omega) ht.out (fun _ => hd.out) (by unfold Lx.Good; dsimp only; omega))
                    have e7 : (n == 0) = false := by rw [beq_eq_false_iff_ne]; exact h7
                    go_wp2_with fail
                    go_ret
                    exact ⟨Lx.ret_int E.out.symm, (Below.refl _ _).alloc (Nat.le_refl _) _⟩
set_option maxRecDepth 100000 in
set_option maxHeartbeats 3200000 in
theorem r36_check_2 (t j d a r y n : Int) (w : World) (hr : r ≤ 9223372036854775807) :
    Calls Tryd.prog 15 #[.agg #[.int .i64 2, .int .i64 t, .int .i64 j, .int .i64 d, .int .i64 a, .int .i64 r, .int .i64 y, .int .i64 n]] w (EvCheckIs (Lx.evErr ⟨2, t, j, d, a, r, y, n⟩) w) := by
  have HT := Lib.hid (fun (x : Int) W => r36time_any x W)
  cases ht : Lx.timeV t with
  | false =>
    have E := Lib.hid (show Lx.evErr ⟨2, t, j, d, a, r, y, n⟩ = 14 from Lx.ev14 (by omega) (.inl ht))
    have HT1 := Lib.hid (HT.out t)
    rw [ht] at HT1
    clear ht HT
    go_enter Tryd.func15, Tryd.ntmps15
    go_wp2_with fail
    refine (HT1.out _).mono ?_
    rintro e w1 ⟨rfl, rfl⟩
    go_wp2_with fail
    go_ret
    exact ⟨Lx.ret_int E.out.symm, (Below.refl _ _).alloc (Nat.le_refl _) _⟩
  | true =>
    have HT1 := Lib.hid (HT.out t)
    rw [ht] at HT1
    have tt := Lib.hid (Lx.time_of ht)
    have ht := Lib.hid ht
    cases hd : Lx.timeV d with
    | false =>
      have E := Lib.hid (show Lx.evErr ⟨2, t, j, d, a, r, y, n⟩ = 14 from Lx.ev14 (by omega) (.inr ⟨by decide, hd⟩))
      have HT2 := Lib.hid (HT.out d)
      rw [hd] at HT2
      clear hd HT
      go_enter Tryd.func15, Tryd.ntmps15
      go_wp2_with fail
      refine (HT1.out _).mono ?_
      rintro e w1 ⟨rfl, rfl⟩
      go_wp2_with fail
      refine (HT2.out _).mono ?_
      rintro e w2 ⟨rfl, rfl⟩
      go_wp2_with fail
      go_ret
      exact ⟨Lx.ret_int E.out.symm, (Below.refl _ _).alloc (Nat.le_refl _) _⟩
    | true =>
      have HT2 := Lib.hid (HT.out d)
      rw [hd] at HT2
      have td := Lib.hid (Lx.time_of hd)
      have hd := Lib.hid hd
      clear HT
      go_enter Tryd.func15, Tryd.ntmps15
      go_wp2_with fail
      refine (HT1.out _).mono ?_
      rintro e w1 ⟨rfl, rfl⟩
      go_wp2_with fail
      refine (HT2.out _).mono ?_
      rintro e w2 ⟨rfl, rfl⟩
      go_upto_region 9 with fail
      by_cases h1 : j < 0
      · have E := Lib.hid (show Lx.evErr ⟨2, t, j, d, a, r, y, n⟩ = 2 from Lx.ev2 (by omega) ht.out (fun _ => hd.out) (by unfold Lx.Good; dsimp only; omega))
        have e1 : decide (j < 0) = true := decide_eq_true h1
        go_wp2_with fail
        go_ret
        exact ⟨Lx.ret_int E.out.symm, (Below.refl _ _).alloc (Nat.le_refl _) _⟩
      · have e1 : decide (j < 0) = false := decide_eq_false h1
        by_cases h2 : 63 < j
        · have E := Lib.hid (show Lx.evErr ⟨2, t, j, d, a, r, y, n⟩ = 2 from Lx.ev2 (by omega) ht.out (fun _ => hd.out) (by unfold Lx.Good; dsimp only; omega))
          have e2 : decide (63 < j) = true := decide_eq_true h2
          go_wp2_with fail
          go_ret
          exact ⟨Lx.ret_int E.out.symm, (Below.refl _ _).alloc (Nat.le_refl _) _⟩
        · have e2 : decide (63 < j) = false := decide_eq_false h2
          go_upto_region 11 with fail
          by_cases h3 : t < d
          · have E := Lib.hid (show Lx.evErr ⟨2, t, j, d, a, r, y, n⟩ = 2 from Lx.ev2 (by omega) ht.out (fun _ => hd.out) (by unfold Lx.Good; dsimp only; omega))
            have e3 : decide (t < d) = true := decide_eq_true h3
            go_wp2_with fail
            go_ret
            exact ⟨Lx.ret_int E.out.symm, (Below.refl _ _).alloc (Nat.le_refl _) _⟩
          · have e3 : decide (t < d) = false := decide_eq_false h3
            by_cases h4 : a < 1
            · have E := Lib.hid (show Lx.evErr ⟨2, t, j, d, a, r, y, n⟩ = 2 from Lx.ev2 (by omega) ht.out (fun _ => hd.out) (by unfold Lx.Good; dsimp only; omega))
              have e4 : decide (a < 1) = true := decide_eq_true h4
              go_wp2_with fail
              go_ret
              exact ⟨Lx.ret_int E.out.symm, (Below.refl _ _).alloc (Nat.le_refl _) _⟩
            · have e4 : decide (a < 1) = false := decide_eq_false h4
              by_cases h5 : 21 < a
              · have E := Lib.hid (show Lx.evErr ⟨2, t, j, d, a, r, y, n⟩ = 2 from Lx.ev2 (by omega) ht.out (fun _ => hd.out) (by unfold Lx.Good; dsimp only; omega))
                have e5 : decide (21 < a) = true := decide_eq_true h5
                go_wp2_with fail
                go_ret
                exact ⟨Lx.ret_int E.out.symm, (Below.refl _ _).alloc (Nat.le_refl _) _⟩
              · have e5 : decide (21 < a) = false := decide_eq_false h5
                go_upto_region 13 with fail
                by_cases h6 : r < 1
                · have E := Lib.hid (show Lx.evErr ⟨2, t, j, d, a, r, y, n⟩ = 2 from Lx.ev2 (by omega) ht.out (fun _ => hd.out) (by unfold Lx.Good; dsimp only; omega))
                  have e6 : decide (r < 1) = true := decide_eq_true h6
                  go_wp2_with fail
                  go_ret
                  exact ⟨Lx.ret_int E.out.symm, (Below.refl _ _).alloc (Nat.le_refl _) _⟩
                · have e6 : decide (r < 1) = false := decide_eq_false h6
                  go_upto_region 15 with fail
                  by_cases h7 : n = 0
                  · subst h7
                    go_upto_region 22 with fail
                    by_cases h8 : y < 0
                    · have E := Lib.hid (show Lx.evErr ⟨2, t, j, d, a, r, y, 0⟩ = 2 from Lx.ev2 (by omega) ht.out (fun _ => hd.out) (by unfold Lx.Good; dsimp only; omega))
                      have e8 : decide (y < 0) = true := decide_eq_true h8
                      go_wp2_with fail
                      go_ret
                      exact ⟨Lx.ret_int E.out.symm, (Below.refl _ _).alloc (Nat.le_refl _) _⟩
                    · have e8 : decide (y < 0) = false := decide_eq_false h8
                      by_cases h9 : 0 < y
                      · have E := Lib.hid (show Lx.evErr ⟨2, t, j, d, a, r, y, 0⟩ = 2 from Lx.ev2 (by omega) ht.out (fun _ => hd.out) (by unfold Lx.Good; dsimp only; omega))
                        have e9 : decide (0 < y) = true := decide_eq_true h9
                        go_wp2_with fail
                        go_ret
                        exact ⟨Lx.ret_int E.out.symm, (Below.refl _ _).alloc (Nat.le_refl _) _⟩
                      · have e9 : decide (0 < y) = false := decide_eq_false h9
                        have E := Lib.hid (show Lx.evErr ⟨2, t, j, d, a, r, y, 0⟩ = 0 from (Lx.evErr_good ⟨2, t, j, d, a, r, y, 0⟩).2 (by have ttt := tt.out; have tdd := td.out; unfold Lx.Good; dsimp only; omega))
                        go_wp2_with fail
                        go_ret
                        exact ⟨Lx.ret_int E.out.symm, (Below.refl _ _).alloc (Nat.le_refl _) _⟩
                  · have E := Lib.hid (show Lx.evErr ⟨2, t, j, d, a, r, y, n⟩ = 2 from Lx.ev2 (by omega) ht.out (fun _ => hd.out) (by unfold Lx.Good; dsimp only; omega))
                    have e7 : (n == 0) = false := by rw [beq_eq_false_iff_ne]; exact h7
                    go_wp2_with fail
                    go_ret
                    exact ⟨Lx.ret_int E.out.symm, (Below.refl _ _).alloc (Nat.le_refl _) _⟩
set_option maxRecDepth 100000 in
set_option maxHeartbeats 3200000 in
theorem r36_check_3 (t j d a r y n : Int) (w : World) (hr : r ≤ 9223372036854775807) :
    Calls Tryd.prog 15 #[.agg #[.int .i64 3, .int .i64 t, .int .i64 j, .int .i64 d, .int .i64 a, .int .i64 r, .int .i64 y, .int .i64 n]] w (EvCheckIs (Lx.evErr ⟨3, t, j, d, a, r, y, n⟩) w) := by
  have HT := Lib.hid (fun (x : Int) W => r36time_any x W)
  cases ht : Lx.timeV t with
  | false =>
    have E := Lib.hid (show Lx.evErr ⟨3, t, j, d, a, r, y, n⟩ = 14 from Lx.ev14 (by omega) (.inl ht))
    have HT1 := Lib.hid (HT.out t)
    rw [ht] at HT1
    clear ht HT
    go_enter Tryd.func15, Tryd.ntmps15
    go_wp2_with fail
    refine (HT1.out _).mono ?_
    rintro e w1 ⟨rfl, rfl⟩
    go_wp2_with fail
    go_ret
    exact ⟨Lx.ret_int E.out.symm, (Below.refl _ _).alloc (Nat.le_refl _) _⟩
  | true =>
    have HT1 := Lib.hid (HT.out t)
    rw [ht] at HT1
    have tt := Lib.hid (Lx.time_of ht)
    have ht := Lib.hid ht
    cases hd : Lx.timeV d with
    | false =>
      have E := Lib.hid (show Lx.evErr ⟨3, t, j, d, a, r, y, n⟩ = 14 from Lx.ev14 (by omega) (.inr ⟨by decide, hd⟩))
      have HT2 := Lib.hid (HT.out d)
      rw [hd] at HT2
      clear hd HT
      go_enter Tryd.func15, Tryd.ntmps15
      go_wp2_with fail
      refine (HT1.out _).mono ?_
      rintro e w1 ⟨rfl, rfl⟩
      go_wp2_with fail
      refine (HT2.out _).mono ?_
      rintro e w2 ⟨rfl, rfl⟩
      go_wp2_with fail
      go_ret
      exact ⟨Lx.ret_int E.out.symm, (Below.refl _ _).alloc (Nat.le_refl _) _⟩
    | true =>
      have HT2 := Lib.hid (HT.out d)
      rw [hd] at HT2
      have td := Lib.hid (Lx.time_of hd)
      have hd := Lib.hid hd
      clear HT
      go_enter Tryd.func15, Tryd.ntmps15
      go_wp2_with fail
      refine (HT1.out _).mono ?_
      rintro e w1 ⟨rfl, rfl⟩
      go_wp2_with fail
      refine (HT2.out _).mono ?_
      rintro e w2 ⟨rfl, rfl⟩
      go_upto_region 9 with fail
      by_cases h1 : j < 0
      · have E := Lib.hid (show Lx.evErr ⟨3, t, j, d, a, r, y, n⟩ = 2 from Lx.ev2 (by omega) ht.out (fun _ => hd.out) (by unfold Lx.Good; dsimp only; omega))
        have e1 : decide (j < 0) = true := decide_eq_true h1
        go_wp2_with fail
        go_ret
        exact ⟨Lx.ret_int E.out.symm, (Below.refl _ _).alloc (Nat.le_refl _) _⟩
      · have e1 : decide (j < 0) = false := decide_eq_false h1
        by_cases h2 : 63 < j
        · have E := Lib.hid (show Lx.evErr ⟨3, t, j, d, a, r, y, n⟩ = 2 from Lx.ev2 (by omega) ht.out (fun _ => hd.out) (by unfold Lx.Good; dsimp only; omega))
          have e2 : decide (63 < j) = true := decide_eq_true h2
          go_wp2_with fail
          go_ret
          exact ⟨Lx.ret_int E.out.symm, (Below.refl _ _).alloc (Nat.le_refl _) _⟩
        · have e2 : decide (63 < j) = false := decide_eq_false h2
          go_upto_region 11 with fail
          by_cases h3 : t < d
          · have E := Lib.hid (show Lx.evErr ⟨3, t, j, d, a, r, y, n⟩ = 2 from Lx.ev2 (by omega) ht.out (fun _ => hd.out) (by unfold Lx.Good; dsimp only; omega))
            have e3 : decide (t < d) = true := decide_eq_true h3
            go_wp2_with fail
            go_ret
            exact ⟨Lx.ret_int E.out.symm, (Below.refl _ _).alloc (Nat.le_refl _) _⟩
          · have e3 : decide (t < d) = false := decide_eq_false h3
            by_cases h4 : a < 1
            · have E := Lib.hid (show Lx.evErr ⟨3, t, j, d, a, r, y, n⟩ = 2 from Lx.ev2 (by omega) ht.out (fun _ => hd.out) (by unfold Lx.Good; dsimp only; omega))
              have e4 : decide (a < 1) = true := decide_eq_true h4
              go_wp2_with fail
              go_ret
              exact ⟨Lx.ret_int E.out.symm, (Below.refl _ _).alloc (Nat.le_refl _) _⟩
            · have e4 : decide (a < 1) = false := decide_eq_false h4
              by_cases h5 : 21 < a
              · have E := Lib.hid (show Lx.evErr ⟨3, t, j, d, a, r, y, n⟩ = 2 from Lx.ev2 (by omega) ht.out (fun _ => hd.out) (by unfold Lx.Good; dsimp only; omega))
                have e5 : decide (21 < a) = true := decide_eq_true h5
                go_wp2_with fail
                go_ret
                exact ⟨Lx.ret_int E.out.symm, (Below.refl _ _).alloc (Nat.le_refl _) _⟩
              · have e5 : decide (21 < a) = false := decide_eq_false h5
                go_upto_region 13 with fail
                by_cases h6 : r < 1
                · have E := Lib.hid (show Lx.evErr ⟨3, t, j, d, a, r, y, n⟩ = 2 from Lx.ev2 (by omega) ht.out (fun _ => hd.out) (by unfold Lx.Good; dsimp only; omega))
                  have e6 : decide (r < 1) = true := decide_eq_true h6
                  go_wp2_with fail
                  go_ret
                  exact ⟨Lx.ret_int E.out.symm, (Below.refl _ _).alloc (Nat.le_refl _) _⟩
                · have e6 : decide (r < 1) = false := decide_eq_false h6
                  go_upto_region 15 with fail
                  by_cases h7 : n = 0
                  · subst h7
                    go_upto_region 22 with fail
                    by_cases h8 : y < 0
                    · have E := Lib.hid (show Lx.evErr ⟨3, t, j, d, a, r, y, 0⟩ = 2 from Lx.ev2 (by omega) ht.out (fun _ => hd.out) (by unfold Lx.Good; dsimp only; omega))
                      have e8 : decide (y < 0) = true := decide_eq_true h8
                      go_wp2_with fail
                      go_ret
                      exact ⟨Lx.ret_int E.out.symm, (Below.refl _ _).alloc (Nat.le_refl _) _⟩
                    · have e8 : decide (y < 0) = false := decide_eq_false h8
                      by_cases h9 : 0 < y
                      · have E := Lib.hid (show Lx.evErr ⟨3, t, j, d, a, r, y, 0⟩ = 2 from Lx.ev2 (by omega) ht.out (fun _ => hd.out) (by unfold Lx.Good; dsimp only; omega))
                        have e9 : decide (0 < y) = true := decide_eq_true h9
                        go_wp2_with fail
                        go_ret
                        exact ⟨Lx.ret_int E.out.symm, (Below.refl _ _).alloc (Nat.le_refl _) _⟩
                      · have e9 : decide (0 < y) = false := decide_eq_false h9
                        have E := Lib.hid (show Lx.evErr ⟨3, t, j, d, a, r, y, 0⟩ = 0 from (Lx.evErr_good ⟨3, t, j, d, a, r, y, 0⟩).2 (by have ttt := tt.out; have tdd := td.out; unfold Lx.Good; dsimp only; omega))
                        go_wp2_with fail
                        go_ret
                        exact ⟨Lx.ret_int E.out.symm, (Below.refl _ _).alloc (Nat.le_refl _) _⟩
                  · have E := Lib.hid (show Lx.evErr ⟨3, t, j, d, a, r, y, n⟩ = 2 from Lx.ev2 (by omega) ht.out (fun _ => hd.out) (by unfold Lx.Good; dsimp only; omega))
                    have e7 : (n == 0) = false := by rw [beq_eq_false_iff_ne]; exact h7
                    go_wp2_with fail
                    go_ret
                    exact ⟨Lx.ret_int E.out.symm, (Below.refl _ _).alloc (Nat.le_refl _) _⟩
set_option maxRecDepth 100000 in
set_option maxHeartbeats 3200000 in
theorem r36_check_4 (t j d a r y n : Int) (w : World) :
    Calls Tryd.prog 15 #[.agg #[.int .i64 4, .int .i64 t, .int .i64 j, .int .i64 d, .int .i64 a, .int .i64 r, .int .i64 y, .int .i64 n]] w (EvCheckIs (Lx.evErr ⟨4, t, j, d, a, r, y, n⟩) w) := by
  have HT := Lib.hid (fun (x : Int) W => r36time_any x W)
  cases ht : Lx.timeV t with
  | false =>
    have E := Lib.hid (show Lx.evErr ⟨4, t, j, d, a, r, y, n⟩ = 14 from Lx.ev14 (by omega) (.inl ht))
    have HT1 := Lib.hid (HT.out t)
    rw [ht] at HT1
    clear ht HT
    go_enter Tryd.func15, Tryd.ntmps15
    go_wp2_with fail
    refine (HT1.out _).mono ?_
    rintro e w1 ⟨rfl, rfl⟩
    go_wp2_with fail
    go_ret
    exact ⟨Lx.ret_int E.out.symm, (Below.refl _ _).alloc (Nat.le_refl _) _⟩
  | true =>
    have HT1 := Lib.hid (HT.out t)
    rw [ht] at HT1
    have tt := Lib.hid (Lx.time_of ht)
    have ht := Lib.hid ht
    cases hd : Lx.timeV d with
    | false =>
      have E := Lib.hid (show Lx.evErr ⟨4, t, j, d, a, r, y, n⟩ = 14 from Lx.ev14 (by omega) (.inr ⟨by decide, hd⟩))
      have HT2 := Lib.hid (HT.out d)
      rw [hd] at HT2
      clear hd HT
      go_enter Tryd.func15, Tryd.ntmps15
      go_wp2_with fail
      refine (HT1.out _).mono ?_
      rintro e w1 ⟨rfl, rfl⟩
      go_wp2_with fail
      refine (HT2.out _).mono ?_
      rintro e w2 ⟨rfl, rfl⟩
      go_wp2_with fail
      go_ret
      exact ⟨Lx.ret_int E.out.symm, (Below.refl _ _).alloc (Nat.le_refl _) _⟩
    | true =>
      have HT2 := Lib.hid (HT.out d)
      rw [hd] at HT2
      have td := Lib.hid (Lx.time_of hd)
      have hd := Lib.hid hd
      clear HT
      go_enter Tryd.func15, Tryd.ntmps15
      go_wp2_with fail
      refine (HT1.out _).mono ?_
      rintro e w1 ⟨rfl, rfl⟩
      go_wp2_with fail
      refine (HT2.out _).mono ?_
      rintro e w2 ⟨rfl, rfl⟩
      go_upto_region 9 with fail
      by_cases h1 : j < 0
      · have E := Lib.hid (show Lx.evErr ⟨4, t, j, d, a, r, y, n⟩ = 2 from Lx.ev2 (by omega) ht.out (fun _ => hd.out) (by unfold Lx.Good; dsimp only; omega))
        have e1 : decide (j < 0) = true := decide_eq_true h1
        go_wp2_with fail
        go_ret
        exact ⟨Lx.ret_int E.out.symm, (Below.refl _ _).alloc (Nat.le_refl _) _⟩
      · have e1 : decide (j < 0) = false := decide_eq_false h1
        by_cases h2 : 63 < j
        · have E := Lib.hid (show Lx.evErr ⟨4, t, j, d, a, r, y, n⟩ = 2 from Lx.ev2 (by omega) ht.out (fun _ => hd.out) (by unfold Lx.Good; dsimp only; omega))
          have e2 : decide (63 < j) = true := decide_eq_true h2
          go_wp2_with fail
          go_ret
          exact ⟨Lx.ret_int E.out.symm, (Below.refl _ _).alloc (Nat.le_refl _) _⟩
        · have e2 : decide (63 < j) = false := decide_eq_false h2
          go_upto_region 11 with fail
          by_cases h3 : t < d
          · have E := Lib.hid (show Lx.evErr ⟨4, t, j, d, a, r, y, n⟩ = 2 from Lx.ev2 (by omega) ht.out (fun _ => hd.out) (by unfold Lx.Good; dsimp only; omega))
            have e3 : decide (t < d) = true := decide_eq_true h3
            go_wp2_with fail
            go_ret
            exact ⟨Lx.ret_int E.out.symm, (Below.refl _ _).alloc (Nat.le_refl _) _⟩
          · have e3 : decide (t < d) = false := decide_eq_false h3
            by_cases h4 : a < 1
            · have E := Lib.hid (show Lx.evErr ⟨4, t, j, d, a, r, y, n⟩ = 2 from Lx.ev2 (by omega) ht.out (fun _ => hd.out) (by unfold Lx.Good; dsimp only; omega))
              have e4 : decide (a < 1) = true := decide_eq_true h4
              go_wp2_with fail
              go_ret
              exact ⟨Lx.ret_int E.out.symm, (Below.refl _ _).alloc (Nat.le_refl _) _⟩
            · have e4 : decide (a < 1) = false := decide_eq_false h4
              by_cases h5 : 21 < a
              · have E := Lib.hid (show Lx.evErr ⟨4, t, j, d, a, r, y, n⟩ = 2 from Lx.ev2 (by omega) ht.out (fun _ => hd.out) (by unfold Lx.Good; dsimp only; omega))
                have e5 : decide (21 < a) = true := decide_eq_true h5
                go_wp2_with fail
                go_ret
                exact ⟨Lx.ret_int E.out.symm, (Below.refl _ _).alloc (Nat.le_refl _) _⟩
              · have e5 : decide (21 < a) = false := decide_eq_false h5
                go_upto_region 13 with fail
                by_cases h6 : r = 0
                · subst h6
                  by_cases h7 : a < 2
                  · have E := Lib.hid (show Lx.evErr ⟨4, t, j, d, a, 0, y, n⟩ = 2 from Lx.ev2 (by omega) ht.out (fun _ => hd.out) (by unfold Lx.Good; dsimp only; omega))
                    have e7 : decide (a < 2) = true := decide_eq_true h7
                    go_wp2_with fail
                    go_ret
                    exact ⟨Lx.ret_int E.out.symm, (Below.refl _ _).alloc (Nat.le_refl _) _⟩
                  · have e7 : decide (a < 2) = false := decide_eq_false h7
                    go_upto_region 15 with fail
                    by_cases h8 : n ≤ t
                    · have E := Lib.hid (show Lx.evErr ⟨4, t, j, d, a, 0, y, n⟩ = 2 from Lx.ev2 (by omega) ht.out (fun _ => hd.out) (by unfold Lx.Good; dsimp only; omega))
                      have e8 : decide (n ≤ t) = true := decide_eq_true h8
                      go_wp2_with fail
                      go_ret
                      exact ⟨Lx.ret_int E.out.symm, (Below.refl _ _).alloc (Nat.le_refl _) _⟩
                    · have e8 : decide (n ≤ t) = false := decide_eq_false h8
                      by_cases h9 : 4611686018427387904 < n
                      · have E := Lib.hid (show Lx.evErr ⟨4, t, j, d, a, 0, y, n⟩ = 2 from Lx.ev2 (by omega) ht.out (fun _ => hd.out) (by unfold Lx.Good; dsimp only; omega))
                        have e9 : decide (4611686018427387904 < n) = true := decide_eq_true h9
                        go_wp2_with fail
                        go_ret
                        exact ⟨Lx.ret_int E.out.symm, (Below.refl _ _).alloc (Nat.le_refl _) _⟩
                      · have e9 : decide (4611686018427387904 < n) = false := decide_eq_false h9
                        go_upto_region 22 with fail
                        by_cases h10 : y < 0
                        · have E := Lib.hid (show Lx.evErr ⟨4, t, j, d, a, 0, y, n⟩ = 2 from Lx.ev2 (by omega) ht.out (fun _ => hd.out) (by unfold Lx.Good; dsimp only; omega))
                          have e10 : decide (y < 0) = true := decide_eq_true h10
                          go_wp2_with fail
                          go_ret
                          exact ⟨Lx.ret_int E.out.symm, (Below.refl _ _).alloc (Nat.le_refl _) _⟩
                        · have e10 : decide (y < 0) = false := decide_eq_false h10
                          by_cases h11 : 0 < y
                          · have E := Lib.hid (show Lx.evErr ⟨4, t, j, d, a, 0, y, n⟩ = 2 from Lx.ev2 (by omega) ht.out (fun _ => hd.out) (by unfold Lx.Good; dsimp only; omega))
                            have e11 : decide (0 < y) = true := decide_eq_true h11
                            go_wp2_with fail
                            go_ret
                            exact ⟨Lx.ret_int E.out.symm, (Below.refl _ _).alloc (Nat.le_refl _) _⟩
                          · have e11 : decide (0 < y) = false := decide_eq_false h11
                            have E := Lib.hid (show Lx.evErr ⟨4, t, j, d, a, 0, y, n⟩ = 0 from (Lx.evErr_good ⟨4, t, j, d, a, 0, y, n⟩).2 (by have ttt := tt.out; have tdd := td.out; unfold Lx.Good; dsimp only; omega))
                            go_wp2_with fail
                            go_ret
                            exact ⟨Lx.ret_int E.out.symm, (Below.refl _ _).alloc (Nat.le_refl _) _⟩
                · have E := Lib.hid (show Lx.evErr ⟨4, t, j, d, a, r, y, n⟩ = 2 from Lx.ev2 (by omega) ht.out (fun _ => hd.out) (by unfold Lx.Good; dsimp only; omega))
                  have e6 : (r == 0) = false := by rw [beq_eq_false_iff_ne]; exact h6
                  go_wp2_with fail
                  go_ret
                  exact ⟨Lx.ret_int E.out.symm, (Below.refl _ _).alloc (Nat.le_refl _) _⟩
set_option maxRecDepth 100000 in
set_option maxHeartbeats 3200000 in
theorem r36_check_5 (t j d a r y n : Int) (w : World) :
    Calls Tryd.prog 15 #[.agg #[.int .i64 5, .int .i64 t, .int .i64 j, .int .i64 d, .int .i64 a, .int .i64 r, .int .i64 y, .int .i64 n]] w (EvCheckIs (Lx.evErr ⟨5, t, j, d, a, r, y, n⟩) w) := by
  have HT := Lib.hid (fun (x : Int) W => r36time_any x W)
  cases ht : Lx.timeV t with
  | false =>
    have E := Lib.hid (show Lx.evErr ⟨5, t, j, d, a, r, y, n⟩ = 14 from Lx.ev14 (by omega) (.inl ht))
    have HT1 := Lib.hid (HT.out t)
    rw [ht] at HT1
    clear ht HT
    go_enter Tryd.func15, Tryd.ntmps15
    go_wp2_with fail
    refine (HT1.out _).mono ?_
    rintro e w1 ⟨rfl, rfl⟩
    go_wp2_with fail
    go_ret
    exact ⟨Lx.ret_int E.out.symm, (Below.refl _ _).alloc (Nat.le_refl _) _⟩
  | true =>
    have HT1 := Lib.hid (HT.out t)
    rw [ht] at HT1
    have tt := Lib.hid (Lx.time_of ht)
    have ht := Lib.hid ht
    cases hd : Lx.timeV d with
    | false =>
      have E := Lib.hid (show Lx.evErr ⟨5, t, j, d, a, r, y, n⟩ = 14 from Lx.ev14 (by omega) (.inr ⟨by decide, hd⟩))
      have HT2 := Lib.hid (HT.out d)
      rw [hd] at HT2
      clear hd HT
      go_enter Tryd.func15, Tryd.ntmps15
      go_wp2_with fail
      refine (HT1.out _).mono ?_
      rintro e w1 ⟨rfl, rfl⟩
      go_wp2_with fail
      refine (HT2.out _).mono ?_
      rintro e w2 ⟨rfl, rfl⟩
      go_wp2_with fail
      go_ret
      exact ⟨Lx.ret_int E.out.symm, (Below.refl _ _).alloc (Nat.le_refl _) _⟩
    | true =>
      have HT2 := Lib.hid (HT.out d)
      rw [hd] at HT2
      have td := Lib.hid (Lx.time_of hd)
      have hd := Lib.hid hd
      clear HT
      go_enter Tryd.func15, Tryd.ntmps15
      go_wp2_with fail
      refine (HT1.out _).mono ?_
      rintro e w1 ⟨rfl, rfl⟩
      go_wp2_with fail
      refine (HT2.out _).mono ?_
      rintro e w2 ⟨rfl, rfl⟩
      go_upto_region 9 with fail
      by_cases h1 : j < 0
      · have E := Lib.hid (show Lx.evErr ⟨5, t, j, d, a, r, y, n⟩ = 2 from Lx.ev2 (by omega) ht.out (fun _ => hd.out) (by unfold Lx.Good; dsimp only; omega))
        have e1 : decide (j < 0) = true := decide_eq_true h1
        go_wp2_with fail
        go_ret
        exact ⟨Lx.ret_int E.out.symm, (Below.refl _ _).alloc (Nat.le_refl _) _⟩
      · have e1 : decide (j < 0) = false := decide_eq_false h1
        by_cases h2 : 63 < j
        · have E := Lib.hid (show Lx.evErr ⟨5, t, j, d, a, r, y, n⟩ = 2 from Lx.ev2 (by omega) ht.out (fun _ => hd.out) (by unfold Lx.Good; dsimp only; omega))
          have e2 : decide (63 < j) = true := decide_eq_true h2
          go_wp2_with fail
          go_ret
          exact ⟨Lx.ret_int E.out.symm, (Below.refl _ _).alloc (Nat.le_refl _) _⟩
        · have e2 : decide (63 < j) = false := decide_eq_false h2
          go_upto_region 11 with fail
          by_cases h3 : t < d
          · have E := Lib.hid (show Lx.evErr ⟨5, t, j, d, a, r, y, n⟩ = 2 from Lx.ev2 (by omega) ht.out (fun _ => hd.out) (by unfold Lx.Good; dsimp only; omega))
            have e3 : decide (t < d) = true := decide_eq_true h3
            go_wp2_with fail
            go_ret
            exact ⟨Lx.ret_int E.out.symm, (Below.refl _ _).alloc (Nat.le_refl _) _⟩
          · have e3 : decide (t < d) = false := decide_eq_false h3
            by_cases h4 : a < 1
            · have E := Lib.hid (show Lx.evErr ⟨5, t, j, d, a, r, y, n⟩ = 2 from Lx.ev2 (by omega) ht.out (fun _ => hd.out) (by unfold Lx.Good; dsimp only; omega))
              have e4 : decide (a < 1) = true := decide_eq_true h4
              go_wp2_with fail
              go_ret
              exact ⟨Lx.ret_int E.out.symm, (Below.refl _ _).alloc (Nat.le_refl _) _⟩
            · have e4 : decide (a < 1) = false := decide_eq_false h4
              by_cases h5 : 21 < a
              · have E := Lib.hid (show Lx.evErr ⟨5, t, j, d, a, r, y, n⟩ = 2 from Lx.ev2 (by omega) ht.out (fun _ => hd.out) (by unfold Lx.Good; dsimp only; omega))
                have e5 : decide (21 < a) = true := decide_eq_true h5
                go_wp2_with fail
                go_ret
                exact ⟨Lx.ret_int E.out.symm, (Below.refl _ _).alloc (Nat.le_refl _) _⟩
              · have e5 : decide (21 < a) = false := decide_eq_false h5
                go_upto_region 13 with fail
                by_cases h6 : r = 0
                · subst h6
                  go_upto_region 15 with fail
                  by_cases h7 : n = 0
                  · subst h7
                    go_upto_region 22 with fail
                    by_cases h8 : y < 1
                    · have E := Lib.hid (show Lx.evErr ⟨5, t, j, d, a, 0, y, 0⟩ = 2 from Lx.ev2 (by omega) ht.out (fun _ => hd.out) (by unfold Lx.Good; dsimp only; omega))
                      have e8 : decide (y < 1) = true := decide_eq_true h8
                      go_wp2_with fail
                      go_ret
                      exact ⟨Lx.ret_int E.out.symm, (Below.refl _ _).alloc (Nat.le_refl _) _⟩
                    · have e8 : decide (y < 1) = false := decide_eq_false h8
                      by_cases h9 : 6 < y
                      · have E := Lib.hid (show Lx.evErr ⟨5, t, j, d, a, 0, y, 0⟩ = 2 from Lx.ev2 (by omega) ht.out (fun _ => hd.out) (by unfold Lx.Good; dsimp only; omega))
                        have e9 : decide (6 < y) = true := decide_eq_true h9
                        go_wp2_with fail
                        go_ret
                        exact ⟨Lx.ret_int E.out.symm, (Below.refl _ _).alloc (Nat.le_refl _) _⟩
                      · have e9 : decide (6 < y) = false := decide_eq_false h9
                        have E := Lib.hid (show Lx.evErr ⟨5, t, j, d, a, 0, y, 0⟩ = 0 from (Lx.evErr_good ⟨5, t, j, d, a, 0, y, 0⟩).2 (by have ttt := tt.out; have tdd := td.out; unfold Lx.Good; dsimp only; omega))
                        go_wp2_with fail
                        go_ret
                        exact ⟨Lx.ret_int E.out.symm, (Below.refl _ _).alloc (Nat.le_refl _) _⟩
                  · have E := Lib.hid (show Lx.evErr ⟨5, t, j, d, a, 0, y, n⟩ = 2 from Lx.ev2 (by omega) ht.out (fun _ => hd.out) (by unfold Lx.Good; dsimp only; omega))
                    have e7 : (n == 0) = false := by rw [beq_eq_false_iff_ne]; exact h7
                    go_wp2_with fail
                    go_ret
                    exact ⟨Lx.ret_int E.out.symm, (Below.refl _ _).alloc (Nat.le_refl _) _⟩
                · have E := Lib.hid (show Lx.evErr ⟨5, t, j, d, a, r, y, n⟩ = 2 from Lx.ev2 (by omega) ht.out (fun _ => hd.out) (by unfold Lx.Good; dsimp only; omega))
                  have e6 : (r == 0) = false := by rw [beq_eq_false_iff_ne]; exact h6
                  go_wp2_with fail
                  go_ret
                  exact ⟨Lx.ret_int E.out.symm, (Below.refl _ _).alloc (Nat.le_refl _) _⟩
set_option maxRecDepth 100000 in
set_option maxHeartbeats 3200000 in
theorem r36_check_6 (t j d a r y n : Int) (w : World) :
    Calls Tryd.prog 15 #[.agg #[.int .i64 6, .int .i64 t, .int .i64 j, .int .i64 d, .int .i64 a, .int .i64 r, .int .i64 y, .int .i64 n]] w (EvCheckIs (Lx.evErr ⟨6, t, j, d, a, r, y, n⟩) w) := by
  have HT := Lib.hid (fun (x : Int) W => r36time_any x W)
  cases ht : Lx.timeV t with
  | false =>
    have E := Lib.hid (show Lx.evErr ⟨6, t, j, d, a, r, y, n⟩ = 14 from Lx.ev14 (by omega) (.inl ht))
    have HT1 := Lib.hid (HT.out t)
    rw [ht] at HT1
    clear ht HT
    go_enter Tryd.func15, Tryd.ntmps15
    go_wp2_with fail
    refine (HT1.out _).mono ?_
    rintro e w1 ⟨rfl, rfl⟩
    go_wp2_with fail
    go_ret
    exact ⟨Lx.ret_int E.out.symm, (Below.refl _ _).alloc (Nat.le_refl _) _⟩
  | true =>
    have HT1 := Lib.hid (HT.out t)
    rw [ht] at HT1
    have tt := Lib.hid (Lx.time_of ht)
    have ht := Lib.hid ht
    clear HT
    go_enter Tryd.func15, Tryd.ntmps15
    go_wp2_with fail
    refine (HT1.out _).mono ?_
    rintro e w1 ⟨rfl, rfl⟩
    go_upto_region 9 with fail
    by_cases h1 : j = 0
    · subst h1
      go_upto_region 11 with fail
      by_cases h2 : d = 0
      · subst h2
        by_cases h3 : a = 0
        · subst h3
          go_upto_region 13 with fail
          by_cases h4 : r = 0
          · subst h4
            go_upto_region 15 with fail
            by_cases h5 : n = 0
            · subst h5
              go_upto_region 22 with fail
              by_cases h6 : y < 1
              · have E := Lib.hid (show Lx.evErr ⟨6, t, 0, 0, 0, 0, y, 0⟩ = 2 from Lx.ev2 (by omega) ht.out (fun c => absurd c (by decide)) (by unfold Lx.Good; dsimp only; omega))
                have e6 : decide (y < 1) = true := decide_eq_true h6
                go_wp2_with fail
                go_ret
                exact ⟨Lx.ret_int E.out.symm, (Below.refl _ _).alloc (Nat.le_refl _) _⟩
              · have e6 : decide (y < 1) = false := decide_eq_false h6
                by_cases h7 : 16 < y
                · have E := Lib.hid (show Lx.evErr ⟨6, t, 0, 0, 0, 0, y, 0⟩ = 2 from Lx.ev2 (by omega) ht.out (fun c => absurd c (by decide)) (by unfold Lx.Good; dsimp only; omega))
                  have e7 : decide (16 < y) = true := decide_eq_true h7
                  go_wp2_with fail
                  go_ret
                  exact ⟨Lx.ret_int E.out.symm, (Below.refl _ _).alloc (Nat.le_refl _) _⟩
                · have e7 : decide (16 < y) = false := decide_eq_false h7
                  have E := Lib.hid (show Lx.evErr ⟨6, t, 0, 0, 0, 0, y, 0⟩ = 0 from (Lx.evErr_good ⟨6, t, 0, 0, 0, 0, y, 0⟩).2 (by have ttt := tt.out; unfold Lx.Good; dsimp only; omega))
                  go_wp2_with fail
                  go_ret
                  exact ⟨Lx.ret_int E.out.symm, (Below.refl _ _).alloc (Nat.le_refl _) _⟩
            · have E := Lib.hid (show Lx.evErr ⟨6, t, 0, 0, 0, 0, y, n⟩ = 2 from Lx.ev2 (by omega) ht.out (fun c => absurd c (by decide)) (by unfold Lx.Good; dsimp only; omega))
              have e5 : (n == 0) = false := by rw [beq_eq_false_iff_ne]; exact h5
              go_wp2_with fail
              go_ret
              exact ⟨Lx.ret_int E.out.symm, (Below.refl _ _).alloc (Nat.le_refl _) _⟩
          · have E := Lib.hid (show Lx.evErr ⟨6, t, 0, 0, 0, r, y, n⟩ = 2 from Lx.ev2 (by omega) ht.out (fun c => absurd c (by decide)) (by unfold Lx.Good; dsimp only; omega))
            have e4 : (r == 0) = false := by rw [beq_eq_false_iff_ne]; exact h4
            go_wp2_with fail
            go_ret
            exact ⟨Lx.ret_int E.out.symm, (Below.refl _ _).alloc (Nat.le_refl _) _⟩
        · have E := Lib.hid (show Lx.evErr ⟨6, t, 0, 0, a, r, y, n⟩ = 2 from Lx.ev2 (by omega) ht.out (fun c => absurd c (by decide)) (by unfold Lx.Good; dsimp only; omega))
          have e3 : (a == 0) = false := by rw [beq_eq_false_iff_ne]; exact h3
          go_wp2_with fail
          go_ret
          exact ⟨Lx.ret_int E.out.symm, (Below.refl _ _).alloc (Nat.le_refl _) _⟩
      · have E := Lib.hid (show Lx.evErr ⟨6, t, 0, d, a, r, y, n⟩ = 2 from Lx.ev2 (by omega) ht.out (fun c => absurd c (by decide)) (by unfold Lx.Good; dsimp only; omega))
        have e2 : (d == 0) = false := by rw [beq_eq_false_iff_ne]; exact h2
        go_wp2_with fail
        go_ret
        exact ⟨Lx.ret_int E.out.symm, (Below.refl _ _).alloc (Nat.le_refl _) _⟩
    · have E := Lib.hid (show Lx.evErr ⟨6, t, j, d, a, r, y, n⟩ = 2 from Lx.ev2 (by omega) ht.out (fun c => absurd c (by decide)) (by unfold Lx.Good; dsimp only; omega))
      have e1 : (j == 0) = false := by rw [beq_eq_false_iff_ne]; exact h1
      go_wp2_with fail
      go_ret
      exact ⟨Lx.ret_int E.out.symm, (Below.refl _ _).alloc (Nat.le_refl _) _⟩
set_option maxRecDepth 100000 in
set_option maxHeartbeats 3200000 in
theorem r36_check_7 (t j d a r y n : Int) (w : World) :
    Calls Tryd.prog 15 #[.agg #[.int .i64 7, .int .i64 t, .int .i64 j, .int .i64 d, .int .i64 a, .int .i64 r, .int .i64 y, .int .i64 n]] w (EvCheckIs (Lx.evErr ⟨7, t, j, d, a, r, y, n⟩) w) := by
  have HT := Lib.hid (fun (x : Int) W => r36time_any x W)
  cases ht : Lx.timeV t with
  | false =>
    have E := Lib.hid (show Lx.evErr ⟨7, t, j, d, a, r, y, n⟩ = 14 from Lx.ev14 (by omega) (.inl ht))
    have HT1 := Lib.hid (HT.out t)
    rw [ht] at HT1
    clear ht HT
    go_enter Tryd.func15, Tryd.ntmps15
    go_wp2_with fail
    refine (HT1.out _).mono ?_
    rintro e w1 ⟨rfl, rfl⟩
    go_wp2_with fail
    go_ret
    exact ⟨Lx.ret_int E.out.symm, (Below.refl _ _).alloc (Nat.le_refl _) _⟩
  | true =>
    have HT1 := Lib.hid (HT.out t)
    rw [ht] at HT1
    have tt := Lib.hid (Lx.time_of ht)
    have ht := Lib.hid ht
    clear HT
    go_enter Tryd.func15, Tryd.ntmps15
    go_wp2_with fail
    refine (HT1.out _).mono ?_
    rintro e w1 ⟨rfl, rfl⟩
    go_upto_region 9 with fail
    by_cases h1 : j < 0
    · have E := Lib.hid (show Lx.evErr ⟨7, t, j, d, a, r, y, n⟩ = 2 from Lx.ev2 (by omega) ht.out (fun c => absurd c (by decide)) (by unfold Lx.Good; dsimp only; omega))
      have e1 : decide (j < 0) = true := decide_eq_true h1
      go_wp2_with fail
      go_ret
      exact ⟨Lx.ret_int E.out.symm, (Below.refl _ _).alloc (Nat.le_refl _) _⟩
    · have e1 : decide (j < 0) = false := decide_eq_false h1
      by_cases h2 : 63 < j
      · have E := Lib.hid (show Lx.evErr ⟨7, t, j, d, a, r, y, n⟩ = 2 from Lx.ev2 (by omega) ht.out (fun c => absurd c (by decide)) (by unfold Lx.Good; dsimp only; omega))
        have e2 : decide (63 < j) = true := decide_eq_true h2
        go_wp2_with fail
        go_ret
        exact ⟨Lx.ret_int E.out.symm, (Below.refl _ _).alloc (Nat.le_refl _) _⟩
      · have e2 : decide (63 < j) = false := decide_eq_false h2
        go_upto_region 11 with fail
        by_cases h3 : d = 0
        · subst h3
          by_cases h4 : a = 0
          · subst h4
            go_upto_region 13 with fail
            by_cases h5 : r = 0
            · subst h5
              go_upto_region 15 with fail
              by_cases h6 : n ≤ t
              · have E := Lib.hid (show Lx.evErr ⟨7, t, j, 0, 0, 0, y, n⟩ = 2 from Lx.ev2 (by omega) ht.out (fun c => absurd c (by decide)) (by unfold Lx.Good; dsimp only; omega))
                have e6 : decide (n ≤ t) = true := decide_eq_true h6
                go_wp2_with fail
                go_ret
                exact ⟨Lx.ret_int E.out.symm, (Below.refl _ _).alloc (Nat.le_refl _) _⟩
              · have e6 : decide (n ≤ t) = false := decide_eq_false h6
                by_cases h7 : 4611686018427387904 < n
                · have E := Lib.hid (show Lx.evErr ⟨7, t, j, 0, 0, 0, y, n⟩ = 2 from Lx.ev2 (by omega) ht.out (fun c => absurd c (by decide)) (by unfold Lx.Good; dsimp only; omega))
                  have e7 : decide (4611686018427387904 < n) = true := decide_eq_true h7
                  go_wp2_with fail
                  go_ret
                  exact ⟨Lx.ret_int E.out.symm, (Below.refl _ _).alloc (Nat.le_refl _) _⟩
                · have e7 : decide (4611686018427387904 < n) = false := decide_eq_false h7
                  go_upto_region 22 with fail
                  by_cases h8 : y < 0
                  · have E := Lib.hid (show Lx.evErr ⟨7, t, j, 0, 0, 0, y, n⟩ = 2 from Lx.ev2 (by omega) ht.out (fun c => absurd c (by decide)) (by unfold Lx.Good; dsimp only; omega))
                    have e8 : decide (y < 0) = true := decide_eq_true h8
                    go_wp2_with fail
                    go_ret
                    exact ⟨Lx.ret_int E.out.symm, (Below.refl _ _).alloc (Nat.le_refl _) _⟩
                  · have e8 : decide (y < 0) = false := decide_eq_false h8
                    by_cases h9 : 0 < y
                    · have E := Lib.hid (show Lx.evErr ⟨7, t, j, 0, 0, 0, y, n⟩ = 2 from Lx.ev2 (by omega) ht.out (fun c => absurd c (by decide)) (by unfold Lx.Good; dsimp only; omega))
                      have e9 : decide (0 < y) = true := decide_eq_true h9
                      go_wp2_with fail
                      go_ret
                      exact ⟨Lx.ret_int E.out.symm, (Below.refl _ _).alloc (Nat.le_refl _) _⟩
                    · have e9 : decide (0 < y) = false := decide_eq_false h9
                      have E := Lib.hid (show Lx.evErr ⟨7, t, j, 0, 0, 0, y, n⟩ = 0 from (Lx.evErr_good ⟨7, t, j, 0, 0, 0, y, n⟩).2 (by have ttt := tt.out; unfold Lx.Good; dsimp only; omega))
                      go_wp2_with fail
                      go_ret
                      exact ⟨Lx.ret_int E.out.symm, (Below.refl _ _).alloc (Nat.le_refl _) _⟩
            · have E := Lib.hid (show Lx.evErr ⟨7, t, j, 0, 0, r, y, n⟩ = 2 from Lx.ev2 (by omega) ht.out (fun c => absurd c (by decide)) (by unfold Lx.Good; dsimp only; omega))
              have e5 : (r == 0) = false := by rw [beq_eq_false_iff_ne]; exact h5
              go_wp2_with fail
              go_ret
              exact ⟨Lx.ret_int E.out.symm, (Below.refl _ _).alloc (Nat.le_refl _) _⟩
          · have E := Lib.hid (show Lx.evErr ⟨7, t, j, 0, a, r, y, n⟩ = 2 from Lx.ev2 (by omega) ht.out (fun c => absurd c (by decide)) (by unfold Lx.Good; dsimp only; omega))
            have e4 : (a == 0) = false := by rw [beq_eq_false_iff_ne]; exact h4
            go_wp2_with fail
            go_ret
            exact ⟨Lx.ret_int E.out.symm, (Below.refl _ _).alloc (Nat.le_refl _) _⟩
        · have E := Lib.hid (show Lx.evErr ⟨7, t, j, d, a, r, y, n⟩ = 2 from Lx.ev2 (by omega) ht.out (fun c => absurd c (by decide)) (by unfold Lx.Good; dsimp only; omega))
          have e3 : (d == 0) = false := by rw [beq_eq_false_iff_ne]; exact h3
          go_wp2_with fail
          go_ret
          exact ⟨Lx.ret_int E.out.symm, (Below.refl _ _).alloc (Nat.le_refl _) _⟩
set_option maxRecDepth 100000 in
set_option maxHeartbeats 3200000 in
theorem r36_check_8 (t j d a r y n : Int) (w : World) :
    Calls Tryd.prog 15 #[.agg #[.int .i64 8, .int .i64 t, .int .i64 j, .int .i64 d, .int .i64 a, .int .i64 r, .int .i64 y, .int .i64 n]] w (EvCheckIs (Lx.evErr ⟨8, t, j, d, a, r, y, n⟩) w) := by
  have HT := Lib.hid (fun (x : Int) W => r36time_any x W)
  cases ht : Lx.timeV t with
  | false =>
    have E := Lib.hid (show Lx.evErr ⟨8, t, j, d, a, r, y, n⟩ = 14 from Lx.ev14 (by omega) (.inl ht))
    have HT1 := Lib.hid (HT.out t)
    rw [ht] at HT1
    clear ht HT
    go_enter Tryd.func15, Tryd.ntmps15
    go_wp2_with fail
    refine (HT1.out _).mono ?_
    rintro e w1 ⟨rfl, rfl⟩
    go_wp2_with fail
    go_ret
    exact ⟨Lx.ret_int E.out.symm, (Below.refl _ _).alloc (Nat.le_refl _) _⟩
  | true =>
    have HT1 := Lib.hid (HT.out t)
    rw [ht] at HT1
    have tt := Lib.hid (Lx.time_of ht)
    have ht := Lib.hid ht
    clear HT
    go_enter Tryd.func15, Tryd.ntmps15
    go_wp2_with fail
    refine (HT1.out _).mono ?_
    rintro e w1 ⟨rfl, rfl⟩
    go_upto_region 9 with fail
    by_cases h1 : j < 0
    · have E := Lib.hid (show Lx.evErr ⟨8, t, j, d, a, r, y, n⟩ = 2 from Lx.ev2 (by omega) ht.out (fun c => absurd c (by decide)) (by unfold Lx.Good; dsimp only; omega))
      have e1 : decide (j < 0) = true := decide_eq_true h1
      go_wp2_with fail
      go_ret
      exact ⟨Lx.ret_int E.out.symm, (Below.refl _ _).alloc (Nat.le_refl _) _⟩
    · have e1 : decide (j < 0) = false := decide_eq_false h1
      by_cases h2 : 63 < j
      · have E := Lib.hid (show Lx.evErr ⟨8, t, j, d, a, r, y, n⟩ = 2 from Lx.ev2 (by omega) ht.out (fun c => absurd c (by decide)) (by unfold Lx.Good; dsimp only; omega))
        have e2 : decide (63 < j) = true := decide_eq_true h2
        go_wp2_with fail
        go_ret
        exact ⟨Lx.ret_int E.out.symm, (Below.refl _ _).alloc (Nat.le_refl _) _⟩
      · have e2 : decide (63 < j) = false := decide_eq_false h2
        go_upto_region 11 with fail
        by_cases h3 : d = 0
        · subst h3
          by_cases h4 : a = 0
          · subst h4
            go_upto_region 13 with fail
            by_cases h5 : r = 0
            · subst h5
              go_upto_region 15 with fail
              by_cases h6 : n = 0
              · subst h6
                go_upto_region 22 with fail
                by_cases h7 : y < 0
                · have E := Lib.hid (show Lx.evErr ⟨8, t, j, 0, 0, 0, y, 0⟩ = 2 from Lx.ev2 (by omega) ht.out (fun c => absurd c (by decide)) (by unfold Lx.Good; dsimp only; omega))
                  have e7 : decide (y < 0) = true := decide_eq_true h7
                  go_wp2_with fail
                  go_ret
                  exact ⟨Lx.ret_int E.out.symm, (Below.refl _ _).alloc (Nat.le_refl _) _⟩
                · have e7 : decide (y < 0) = false := decide_eq_false h7
                  by_cases h8 : 0 < y
                  · have E := Lib.hid (show Lx.evErr ⟨8, t, j, 0, 0, 0, y, 0⟩ = 2 from Lx.ev2 (by omega) ht.out (fun c => absurd c (by decide)) (by unfold Lx.Good; dsimp only; omega))
                    have e8 : decide (0 < y) = true := decide_eq_true h8
                    go_wp2_with fail
                    go_ret
                    exact ⟨Lx.ret_int E.out.symm, (Below.refl _ _).alloc (Nat.le_refl _) _⟩
                  · have e8 : decide (0 < y) = false := decide_eq_false h8
                    have E := Lib.hid (show Lx.evErr ⟨8, t, j, 0, 0, 0, y, 0⟩ = 0 from (Lx.evErr_good ⟨8, t, j, 0, 0, 0, y, 0⟩).2 (by have ttt := tt.out; unfold Lx.Good; dsimp only; omega))
                    go_wp2_with fail
                    go_ret
                    exact ⟨Lx.ret_int E.out.symm, (Below.refl _ _).alloc (Nat.le_refl _) _⟩
              · have E := Lib.hid (show Lx.evErr ⟨8, t, j, 0, 0, 0, y, n⟩ = 2 from Lx.ev2 (by omega) ht.out (fun c => absurd c (by decide)) (by unfold Lx.Good; dsimp only; omega))
                have e6 : (n == 0) = false := by rw [beq_eq_false_iff_ne]; exact h6
                go_wp2_with fail
                go_ret
                exact ⟨Lx.ret_int E.out.symm, (Below.refl _ _).alloc (Nat.le_refl _) _⟩
            · have E := Lib.hid (show Lx.evErr ⟨8, t, j, 0, 0, r, y, n⟩ = 2 from Lx.ev2 (by omega) ht.out (fun c => absurd c (by decide)) (by unfold Lx.Good; dsimp only; omega))
              have e5 : (r == 0) = false := by rw [beq_eq_false_iff_ne]; exact h5
              go_wp2_with fail
              go_ret
              exact ⟨Lx.ret_int E.out.symm, (Below.refl _ _).alloc (Nat.le_refl _) _⟩
          · have E := Lib.hid (show Lx.evErr ⟨8, t, j, 0, a, r, y, n⟩ = 2 from Lx.ev2 (by omega) ht.out (fun c => absurd c (by decide)) (by unfold Lx.Good; dsimp only; omega))
            have e4 : (a == 0) = false := by rw [beq_eq_false_iff_ne]; exact h4
            go_wp2_with fail
            go_ret
            exact ⟨Lx.ret_int E.out.symm, (Below.refl _ _).alloc (Nat.le_refl _) _⟩
        · have E := Lib.hid (show Lx.evErr ⟨8, t, j, d, a, r, y, n⟩ = 2 from Lx.ev2 (by omega) ht.out (fun c => absurd c (by decide)) (by unfold Lx.Good; dsimp only; omega))
          have e3 : (d == 0) = false := by rw [beq_eq_false_iff_ne]; exact h3
          go_wp2_with fail
          go_ret
          exact ⟨Lx.ret_int E.out.symm, (Below.refl _ _).alloc (Nat.le_refl _) _⟩
theorem r36check_any (o : Lx.EvV) (hi : o.In) (w : World) : Calls Tryd.prog 15 #[o.val] w (EvCheckIs (Lx.evErr o) w) := by
  have hr : o.r ≤ 9223372036854775807 := hi.2.2.2.2.2.1.2
  obtain ⟨k, t, j, d, a, r, y, n⟩ := o
  by_cases h : k < 1 ∨ 8 < k
  · exact r36_out k t j d a r y n w h
  · rcases Lx.kind_cases (k := k) (by omega) with rfl | rfl | rfl | rfl | rfl | rfl | rfl | rfl
    · exact r36_check_1 t j d a r y n w hr
    · exact r36_check_2 t j d a r y n w hr
    · exact r36_check_3 t j d a r y n w hr
    · exact r36_check_4 t j d a r y n w
    · exact r36_check_5 t j d a r y n w
    · exact r36_check_6 t j d a r y n w
    · exact r36_check_7 t j d a r y n w
    · exact r36_check_8 t j d a r y n w
end Go.Proofs.YtmpcekpdnikghaaDoor
