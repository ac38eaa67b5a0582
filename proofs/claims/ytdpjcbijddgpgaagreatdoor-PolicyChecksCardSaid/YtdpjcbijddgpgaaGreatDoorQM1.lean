/- The reference of chapter 14: in, and the checks. The reference of chapter 14: Check of a policy, Default, Keys, key, worst, number, span. The reference of chapter 14, plain: the state of parts and of words before a place of the text. The reference of chapter 14: decimal, misfire, parts, words. The reference of chapter 14: parts, words. The reference of chapter 14: misfire, breaker, retry. The reference of chapter 14: the values of the keys; Get. (printed by gen_qf.py) The reference of chapter 14: Span. The reference of chapter 14: Print. (printed by gen_qh.py) -/
import Derived.Test.YtdpjcbijddgpgaaGreatDoorPoM2
import Derived.Lib.Hide
import Derived.Test.YtdpjcbijddgpgaaGreatDoorPoM7
import Derived.Test.YtdpjcbijddgpgaaGreatDoorPoM1
import Derived.Test.YtdpjcbijddgpgaaGreatDoorConv
import Derived.Laws.OwnMore
import Derived.IntWalk
import Derived.OwnWalk
import Derived.Deep.CutRange
import Derived.Test.YtdpjcbijddgpgaaGreatDoorPoN1
import Derived.Test.YtdpjcbijddgpgaaGreatDoorPoM0
namespace Go.Proofs.YtdpjcbijddgpgaaGreatDoor
open Go.RowKit

theorem q14in_any (n lo hi : Int) (w : World) : Calls Tryz.prog 57 #[.int .i64 n, .int .i64 lo, .int .i64 hi] w fun e w' => e = .returned (.bool (Lx.inI n lo hi)) ∧ w = w' := by
  by_cases h : lo ≤ n
  · have hv : Lx.inI n lo hi = decide (n ≤ hi) := by unfold Lx.inI; rw [Bool.eq_iff_iff]; simp [h]
    have e1 : decide (lo ≤ n) = true := decide_eq_true h
    rw [hv]; clear hv h
    go_enter Tryz.func57, Tryz.ntmps57
    go_wp2_with fail
    go_ret
    exact ⟨rfl, rfl⟩
  · have hv : Lx.inI n lo hi = false := decide_eq_false (fun c => h c.1)
    have e1 : decide (lo ≤ n) = false := decide_eq_false h
    rw [hv]; clear hv h
    go_enter Tryz.func57, Tryz.ntmps57
    go_wp2_with fail
    go_ret
    exact ⟨rfl, rfl⟩
set_option maxRecDepth 100000 in
set_option maxHeartbeats 1600000 in
theorem q14lim_any (t u : Int) (w : World) :
    Calls Tryz.prog 25 #[.agg #[.int .i64 t, .int .i64 u]] w fun e w' => e = .returned (.int .i64 (Lx.limErr t u)) ∧ Below w.heap.size w w' := by
  obtain ⟨W0, hW0⟩ : ∃ W0, W0 = (w.alloc (.cells #[.int .i64 t, .int .i64 u] 23)) := ⟨_, rfl⟩
  have b0 : Below w.heap.size w W0 := by rw [hW0]; exact (Below.refl _ w).alloc (Nat.le_refl _) _
  have q0 : W0.cell? ⟨w.heap.size, 0, none⟩ = some (.int .i64 t) := by rw [hW0]; simp
  have q1 : W0.cell? ⟨w.heap.size, 1, none⟩ = some (.int .i64 u) := by rw [hW0]; simp
  have H0 := Lib.hid (fun W => q14in_any t 0 68719476736 W)
  have H1 := Lib.hid (fun W => q14in_any u 0 68719476736 W)
  have HV : Lx.limErr t u = if Lx.inI t 0 68719476736 = true ∧ Lx.inI u 0 68719476736 = true ∧ ((t == 0) = false ∨ (u != 0) = false) then 0 else 16 := by
    unfold Lx.limErr Lx.limOk Lx.inI
    by_cases a : 0 ≤ t ∧ t ≤ 68719476736 <;> by_cases b : 0 ≤ u ∧ u ≤ 68719476736 <;> by_cases c : t = 0 <;> by_cases d : u = 0 <;> simp [a, b, c, d] <;> omega
  generalize Lx.inI t 0 68719476736 = x0 at *
  generalize Lx.inI u 0 68719476736 = x1 at *
  cases x0
  · have HV := Lib.hid (HV.trans (if_neg (by simp)))
    rw [HV.out]
    go_enter Tryz.func25, Tryz.ntmps25
    go_upto_region 1 with (fail)
    rw [show (w.alloc (.cells #[.int .i64 t, .int .i64 u] 23)) = W0 from hW0.symm]
    have B0 := Lib.hid b0
    clear hW0 b0
    go_wp2_with fail
    refine (H0.out _).mono ?_
    rintro e w10 ⟨rfl, rfl⟩
    go_wp2_with fail
    go_ret
    exact ⟨rfl, B0.out⟩
  cases x1
  · have HV := Lib.hid (HV.trans (if_neg (by simp)))
    rw [HV.out]
    go_enter Tryz.func25, Tryz.ntmps25
    go_upto_region 1 with (fail)
    rw [show (w.alloc (.cells #[.int .i64 t, .int .i64 u] 23)) = W0 from hW0.symm]
    have B0 := Lib.hid b0
    clear hW0 b0
    go_wp2_with fail
    refine (H0.out _).mono ?_
    rintro e w10 ⟨rfl, rfl⟩
    go_wp2_with fail
    refine (H1.out _).mono ?_
    rintro e w11 ⟨rfl, rfl⟩
    go_wp2_with fail
    go_ret
    exact ⟨rfl, B0.out⟩
  cases c : (t == 0)
  · have HV := Lib.hid (HV.trans (if_pos ⟨rfl, rfl, .inl c⟩))
    rw [HV.out]
    go_enter Tryz.func25, Tryz.ntmps25
    go_upto_region 1 with (fail)
    rw [show (w.alloc (.cells #[.int .i64 t, .int .i64 u] 23)) = W0 from hW0.symm]
    have B0 := Lib.hid b0
    clear hW0 b0
    go_wp2_with fail
    refine (H0.out _).mono ?_
    rintro e w10 ⟨rfl, rfl⟩
    go_wp2_with fail
    refine (H1.out _).mono ?_
    rintro e w11 ⟨rfl, rfl⟩
    go_wp2_with fail
    go_ret
    exact ⟨rfl, B0.out⟩
  cases d : (u != 0)
  · have HV := Lib.hid (HV.trans (if_pos ⟨rfl, rfl, .inr d⟩))
    rw [HV.out]
    go_enter Tryz.func25, Tryz.ntmps25
    go_upto_region 1 with (fail)
    rw [show (w.alloc (.cells #[.int .i64 t, .int .i64 u] 23)) = W0 from hW0.symm]
    have B0 := Lib.hid b0
    clear hW0 b0
    go_wp2_with fail
    refine (H0.out _).mono ?_
    rintro e w10 ⟨rfl, rfl⟩
    go_wp2_with fail
    refine (H1.out _).mono ?_
    rintro e w11 ⟨rfl, rfl⟩
    go_wp2_with fail
    go_ret
    exact ⟨rfl, B0.out⟩
  have HV := Lib.hid (HV.trans (if_neg (by rw [c, d]; simp)))
  rw [HV.out]
  go_enter Tryz.func25, Tryz.ntmps25
  go_upto_region 1 with (fail)
  rw [show (w.alloc (.cells #[.int .i64 t, .int .i64 u] 23)) = W0 from hW0.symm]
  have B0 := Lib.hid b0
  clear hW0 b0
  go_wp2_with fail
  refine (H0.out _).mono ?_
  rintro e w10 ⟨rfl, rfl⟩
  go_wp2_with fail
  refine (H1.out _).mono ?_
  rintro e w11 ⟨rfl, rfl⟩
  go_wp2_with fail
  go_ret
  exact ⟨rfl, B0.out⟩
set_option maxRecDepth 100000 in
set_option maxHeartbeats 1600000 in
theorem q14br_any (f o p : Int) (w : World) :
    Calls Tryz.prog 59 #[.agg #[.int .i64 f, .int .i64 o, .int .i64 p]] w fun e w' => e = .returned (.int .i64 (Lx.brErr f o p)) ∧ Below w.heap.size w w' := by
  obtain ⟨W0, hW0⟩ : ∃ W0, W0 = (w.alloc (.cells #[.int .i64 f, .int .i64 o, .int .i64 p] 25)) := ⟨_, rfl⟩
  have b0 : Below w.heap.size w W0 := by rw [hW0]; exact (Below.refl _ w).alloc (Nat.le_refl _) _
  have q0 : W0.cell? ⟨w.heap.size, 0, none⟩ = some (.int .i64 f) := by rw [hW0]; simp
  have q1 : W0.cell? ⟨w.heap.size, 1, none⟩ = some (.int .i64 o) := by rw [hW0]; simp
  have q2 : W0.cell? ⟨w.heap.size, 2, none⟩ = some (.int .i64 p) := by rw [hW0]; simp
  have H0 := Lib.hid (fun W => q14in_any f 1 100 W)
  have H1 := Lib.hid (fun W => q14in_any o 1 68719476736 W)
  have H2 := Lib.hid (fun W => q14in_any p 1 100 W)
  have HZ := fun W => eqBr f o p W
  have HV : Lx.brErr f o p = if Lx.brZ f o p = true ∨ (Lx.inI f 1 100 = true ∧ Lx.inI o 1 68719476736 = true ∧ Lx.inI p 1 100 = true) then 0 else 16 := by
    unfold Lx.brErr Lx.brOk; simp only [Bool.or_eq_true, Bool.and_eq_true]
  generalize Lx.inI f 1 100 = x0 at *
  generalize Lx.inI o 1 68719476736 = x1 at *
  generalize Lx.inI p 1 100 = x2 at *
  generalize Lx.brZ f o p = z at *
  cases z
  · cases x0
    · have HV := Lib.hid (HV.trans (if_neg (by simp)))
      rw [HV.out]
      go_enter Tryz.func59, Tryz.ntmps59
      go_upto_region 1 with (fail)
      rw [show (w.alloc (.cells #[.int .i64 f, .int .i64 o, .int .i64 p] 25)) = W0 from hW0.symm]
      have B0 := Lib.hid b0
      clear hW0 b0
      go_wp2_with fail
      refine (H0.out _).mono ?_
      rintro e w10 ⟨rfl, rfl⟩
      go_wp2_with fail
      go_ret
      exact ⟨rfl, B0.out⟩
    cases x1
    · have HV := Lib.hid (HV.trans (if_neg (by simp)))
      rw [HV.out]
      go_enter Tryz.func59, Tryz.ntmps59
      go_upto_region 1 with (fail)
      rw [show (w.alloc (.cells #[.int .i64 f, .int .i64 o, .int .i64 p] 25)) = W0 from hW0.symm]
      have B0 := Lib.hid b0
      clear hW0 b0
      go_wp2_with fail
      refine (H0.out _).mono ?_
      rintro e w10 ⟨rfl, rfl⟩
      go_wp2_with fail
      refine (H1.out _).mono ?_
      rintro e w11 ⟨rfl, rfl⟩
      go_wp2_with fail
      go_ret
      exact ⟨rfl, B0.out⟩
    cases x2
    · have HV := Lib.hid (HV.trans (if_neg (by simp)))
      rw [HV.out]
      go_enter Tryz.func59, Tryz.ntmps59
      go_upto_region 1 with (fail)
      rw [show (w.alloc (.cells #[.int .i64 f, .int .i64 o, .int .i64 p] 25)) = W0 from hW0.symm]
      have B0 := Lib.hid b0
      clear hW0 b0
      go_wp2_with fail
      refine (H0.out _).mono ?_
      rintro e w10 ⟨rfl, rfl⟩
      go_wp2_with fail
      refine (H1.out _).mono ?_
      rintro e w11 ⟨rfl, rfl⟩
      go_wp2_with fail
      refine (H2.out _).mono ?_
      rintro e w12 ⟨rfl, rfl⟩
      go_wp2_with fail
      go_ret
      exact ⟨rfl, B0.out⟩
    have HV := Lib.hid (HV.trans (if_pos (.inr (by simp))))
    rw [HV.out]
    go_enter Tryz.func59, Tryz.ntmps59
    go_upto_region 1 with (fail)
    rw [show (w.alloc (.cells #[.int .i64 f, .int .i64 o, .int .i64 p] 25)) = W0 from hW0.symm]
    have B0 := Lib.hid b0
    clear hW0 b0
    go_wp2_with fail
    refine (H0.out _).mono ?_
    rintro e w10 ⟨rfl, rfl⟩
    go_wp2_with fail
    refine (H1.out _).mono ?_
    rintro e w11 ⟨rfl, rfl⟩
    go_wp2_with fail
    refine (H2.out _).mono ?_
    rintro e w12 ⟨rfl, rfl⟩
    go_wp2_with fail
    go_ret
    exact ⟨rfl, B0.out⟩
  · have HV := Lib.hid (HV.trans (if_pos (.inl rfl)))
    rw [HV.out]
    go_enter Tryz.func59, Tryz.ntmps59
    go_upto_region 1 with (fail)
    rw [show (w.alloc (.cells #[.int .i64 f, .int .i64 o, .int .i64 p] 25)) = W0 from hW0.symm]
    have B0 := Lib.hid b0
    clear hW0 b0
    go_wp2_with fail
    go_ret
    exact ⟨rfl, B0.out⟩
set_option maxRecDepth 100000 in
set_option maxHeartbeats 1600000 in
theorem q14re_any (m b c j : Int) (w : World) :
    Calls Tryz.prog 60 #[.agg #[.int .i64 m, .int .i64 b, .int .i64 c, .int .i64 j]] w fun e w' => e = .returned (.int .i64 (Lx.reErr m b c j)) ∧ Below w.heap.size w w' := by
  obtain ⟨W0, hW0⟩ : ∃ W0, W0 = (w.alloc (.cells #[.int .i64 m, .int .i64 b, .int .i64 c, .int .i64 j] 27)) := ⟨_, rfl⟩
  have b0 : Below w.heap.size w W0 := by rw [hW0]; exact (Below.refl _ w).alloc (Nat.le_refl _) _
  have q0 : W0.cell? ⟨w.heap.size, 0, none⟩ = some (.int .i64 m) := by rw [hW0]; simp
  have q1 : W0.cell? ⟨w.heap.size, 1, none⟩ = some (.int .i64 b) := by rw [hW0]; simp
  have q2 : W0.cell? ⟨w.heap.size, 2, none⟩ = some (.int .i64 c) := by rw [hW0]; simp
  have q3 : W0.cell? ⟨w.heap.size, 3, none⟩ = some (.int .i64 j) := by rw [hW0]; simp
  have H0 := Lib.hid (fun W => q14in_any m 1 20 W)
  have H1 := Lib.hid (fun W => q14in_any b 1 68719476736 W)
  have H2 := Lib.hid (fun W => q14in_any c b 68719476736 W)
  have H3 := Lib.hid (fun W => q14in_any j 0 68719476736 W)
  have HZ := fun W => eqRe m b c j W
  have HV : Lx.reErr m b c j = if Lx.reZ m b c j = true ∨ (Lx.inI m 1 20 = true ∧ Lx.inI b 1 68719476736 = true ∧ Lx.inI c b 68719476736 = true ∧ Lx.inI j 0 68719476736 = true) then 0 else 16 := by
    unfold Lx.reErr Lx.reOk; simp only [Bool.or_eq_true, Bool.and_eq_true]
  generalize Lx.inI m 1 20 = x0 at *
  generalize Lx.inI b 1 68719476736 = x1 at *
  generalize Lx.inI c b 68719476736 = x2 at *
  generalize Lx.inI j 0 68719476736 = x3 at *
  generalize Lx.reZ m b c j = z at *
  cases z
  · cases x0
    · have HV := Lib.hid (HV.trans (if_neg (by simp)))
      rw [HV.out]
      go_enter Tryz.func60, Tryz.ntmps60
      go_upto_region 1 with (fail)
      rw [show (w.alloc (.cells #[.int .i64 m, .int .i64 b, .int .i64 c, .int .i64 j] 27)) = W0 from hW0.symm]
      have B0 := Lib.hid b0
      clear hW0 b0
      go_wp2_with fail
      refine (H0.out _).mono ?_
      rintro e w10 ⟨rfl, rfl⟩
      go_wp2_with fail
      go_ret
      exact ⟨rfl, B0.out⟩
    cases x1
    · have HV := Lib.hid (HV.trans (if_neg (by simp)))
      rw [HV.out]
      go_enter Tryz.func60, Tryz.ntmps60
      go_upto_region 1 with (fail)
      rw [show (w.alloc (.cells #[.int .i64 m, .int .i64 b, .int .i64 c, .int .i64 j] 27)) = W0 from hW0.symm]
      have B0 := Lib.hid b0
      clear hW0 b0
      go_wp2_with fail
      refine (H0.out _).mono ?_
      rintro e w10 ⟨rfl, rfl⟩
      go_wp2_with fail
      refine (H1.out _).mono ?_
      rintro e w11 ⟨rfl, rfl⟩
      go_wp2_with fail
      go_ret
      exact ⟨rfl, B0.out⟩
    cases x2
    · have HV := Lib.hid (HV.trans (if_neg (by simp)))
      rw [HV.out]
      go_enter Tryz.func60, Tryz.ntmps60
      go_upto_region 1 with (fail)
      rw [show (w.alloc (.cells #[.int .i64 m, .int .i64 b, .int .i64 c, .int .i64 j] 27)) = W0 from hW0.symm]
      have B0 := Lib.hid b0
      clear hW0 b0
      go_wp2_with fail
      refine (H0.out _).mono ?_
      rintro e w10 ⟨rfl, rfl⟩
      go_wp2_with fail
      refine (H1.out _).mono ?_
      rintro e w11 ⟨rfl, rfl⟩
      go_wp2_with fail
      refine (H2.out _).mono ?_
      rintro e w12 ⟨rfl, rfl⟩
      go_wp2_with fail
      go_ret
      exact ⟨rfl, B0.out⟩
    cases x3
    · have HV := Lib.hid (HV.trans (if_neg (by simp)))
      rw [HV.out]
      go_enter Tryz.func60, Tryz.ntmps60
      go_upto_region 1 with (fail)
      rw [show (w.alloc (.cells #[.int .i64 m, .int .i64 b, .int .i64 c, .int .i64 j] 27)) = W0 from hW0.symm]
      have B0 := Lib.hid b0
      clear hW0 b0
      go_wp2_with fail
      refine (H0.out _).mono ?_
      rintro e w10 ⟨rfl, rfl⟩
      go_wp2_with fail
      refine (H1.out _).mono ?_
      rintro e w11 ⟨rfl, rfl⟩
      go_wp2_with fail
      refine (H2.out _).mono ?_
      rintro e w12 ⟨rfl, rfl⟩
      go_wp2_with fail
      refine (H3.out _).mono ?_
      rintro e w13 ⟨rfl, rfl⟩
      go_wp2_with fail
      go_ret
      exact ⟨rfl, B0.out⟩
    have HV := Lib.hid (HV.trans (if_pos (.inr (by simp))))
    rw [HV.out]
    go_enter Tryz.func60, Tryz.ntmps60
    go_upto_region 1 with (fail)
    rw [show (w.alloc (.cells #[.int .i64 m, .int .i64 b, .int .i64 c, .int .i64 j] 27)) = W0 from hW0.symm]
    have B0 := Lib.hid b0
    clear hW0 b0
    go_wp2_with fail
    refine (H0.out _).mono ?_
    rintro e w10 ⟨rfl, rfl⟩
    go_wp2_with fail
    refine (H1.out _).mono ?_
    rintro e w11 ⟨rfl, rfl⟩
    go_wp2_with fail
    refine (H2.out _).mono ?_
    rintro e w12 ⟨rfl, rfl⟩
    go_wp2_with fail
    refine (H3.out _).mono ?_
    rintro e w13 ⟨rfl, rfl⟩
    go_wp2_with fail
    go_ret
    exact ⟨rfl, B0.out⟩
  · have HV := Lib.hid (HV.trans (if_pos (.inl rfl)))
    rw [HV.out]
    go_enter Tryz.func60, Tryz.ntmps60
    go_upto_region 1 with (fail)
    rw [show (w.alloc (.cells #[.int .i64 m, .int .i64 b, .int .i64 c, .int .i64 j] 27)) = W0 from hW0.symm]
    have B0 := Lib.hid b0
    clear hW0 b0
    go_wp2_with fail
    go_ret
    exact ⟨rfl, B0.out⟩
set_option maxRecDepth 100000 in
set_option maxHeartbeats 1600000 in
theorem q14mis_any (k q : Int) (w : World) :
    Calls Tryz.prog 58 #[.int .i64 k, .int .i64 q] w fun e w' => e = .returned (.int .i64 (Lx.misErr k q)) ∧ w = w' := by
  have H0 := Lib.hid (fun W => q14in_any q 1 100 W)
  by_cases h0 : k < 0
  · have HV : Lx.misErr k q = 16 := by unfold Lx.misErr Lx.misOk Lx.inI; rw [if_neg (by omega : ¬ k = 3)]; simp; omega
    rw [HV]
    clear HV
    go_enter Tryz.func58, Tryz.ntmps58
    go_wp2_with fail
    go_ret
    exact ⟨rfl, rfl⟩
  by_cases h3 : 3 < k
  · have HV : Lx.misErr k q = 16 := by unfold Lx.misErr Lx.misOk Lx.inI; rw [if_neg (by omega : ¬ k = 3)]; simp; omega
    rw [HV]
    have e0 : decide (k < 0) = false := decide_eq_false h0
    clear HV h0
    go_enter Tryz.func58, Tryz.ntmps58
    go_wp2_with fail
    go_ret
    exact ⟨rfl, rfl⟩
  by_cases hk : k = 3
  · subst hk
    have HV : Lx.misErr 3 q = if Lx.inI q 1 100 = true then 0 else 16 := by unfold Lx.misErr Lx.misOk; rw [if_pos rfl]
    rw [HV]
    generalize Lx.inI q 1 100 = x0 at *
    clear HV h0 h3
    cases x0
    · go_enter Tryz.func58, Tryz.ntmps58
      go_wp2_with fail
      refine (H0.out _).mono ?_
      rintro e w10 ⟨rfl, rfl⟩
      go_wp2_with fail
      go_ret
      exact ⟨rfl, rfl⟩
    · go_enter Tryz.func58, Tryz.ntmps58
      go_wp2_with fail
      refine (H0.out _).mono ?_
      rintro e w10 ⟨rfl, rfl⟩
      go_wp2_with fail
      go_ret
      exact ⟨rfl, rfl⟩
  have e0 : decide (k < 0) = false := decide_eq_false h0
  have e1 : decide (3 < k) = false := decide_eq_false h3
  have e2 : (k == 3) = false := by rw [beq_eq_false_iff_ne]; exact hk
  have e3 : (k != 3) = true := by rw [bne_iff_ne]; exact hk
  by_cases hq : q = 0
  · subst hq
    have HV : Lx.misErr k 0 = 0 := by unfold Lx.misErr Lx.misOk Lx.inI; rw [if_neg hk]; simp; omega
    rw [HV]
    clear HV hk h0 h3
    go_enter Tryz.func58, Tryz.ntmps58
    go_wp2_with fail
    go_ret
    exact ⟨rfl, rfl⟩
  have e4 : (q != 0) = true := by rw [bne_iff_ne]; exact hq
  have HV : Lx.misErr k q = 16 := by unfold Lx.misErr Lx.misOk Lx.inI; rw [if_neg hk]; simp [hq]
  rw [HV]
  clear HV hk h0 h3 hq
  go_enter Tryz.func58, Tryz.ntmps58
  go_wp2_with fail
  go_ret
  exact ⟨rfl, rfl⟩
end Go.Proofs.YtdpjcbijddgpgaaGreatDoor
namespace Go.Proofs.YtdpjcbijddgpgaaGreatDoor
open Go.RowKit

set_option maxRecDepth 100000 in
set_option maxHeartbeats 3200000 in
theorem q14check_any (p : Lx.PolV) (w : World) :
    Calls Tryz.prog 23 #[p.val] w fun e w' => e = .returned (.int .i64 (Lx.polE p)) ∧ Below w.heap.size w w' := by
  obtain ⟨cap, pri, spl, dl, mis, keep, lt, lu, bf, bo, bp, rm, rb, rc, rj⟩ := p
  unfold Lx.PolV.val
  have H0 := fun W => q14in_any cap 1 1000 W
  have H1 := fun W => q14in_any pri 0 100 W
  have H2 := fun W => q14in_any spl 0 68719476736 W
  have H3 := fun W => q14in_any dl 0 68719476736 W
  have H4 := fun W => q14mis_any mis keep W
  have H5 := fun W => q14lim_any lt lu W
  have H6 := fun W => q14br_any bf bo bp W
  have H7 := fun W => q14re_any rm rb rc rj W
  have HV : Lx.polE ⟨cap, pri, spl, dl, mis, keep, lt, lu, bf, bo, bp, rm, rb, rc, rj⟩ = if (Lx.inI cap 1 1000 = true ∧ Lx.inI pri 0 100 = true ∧ Lx.inI spl 0 68719476736 = true ∧ Lx.inI dl 0 68719476736 = true) ∧ Lx.misOk mis keep = true ∧ Lx.limOk lt lu = true ∧ Lx.brOk bf bo bp = true ∧ Lx.reOk rm rb rc rj = true then 0 else 16 := by
    unfold Lx.polE Lx.polOk Lx.fldOk; simp only [Bool.and_eq_true]
  unfold Lx.misErr at H4
  unfold Lx.limErr at H5
  unfold Lx.brErr at H6
  unfold Lx.reErr at H7
  generalize Lx.inI cap 1 1000 = x0 at *
  generalize Lx.inI pri 0 100 = x1 at *
  generalize Lx.inI spl 0 68719476736 = x2 at *
  generalize Lx.inI dl 0 68719476736 = x3 at *
  generalize Lx.misOk mis keep = x4 at *
  generalize Lx.limOk lt lu = x5 at *
  generalize Lx.brOk bf bo bp = x6 at *
  generalize Lx.reOk rm rb rc rj = x7 at *
  obtain ⟨W0, hW0⟩ : ∃ W0, W0 = (w.alloc (.cells #[.int .i64 cap, .int .i64 pri, .int .i64 spl, .int .i64 dl, .int .i64 mis, .int .i64 keep, .int .i64 lt, .int .i64 lu, .int .i64 bf, .int .i64 bo, .int .i64 bp, .int .i64 rm, .int .i64 rb, .int .i64 rc, .int .i64 rj] 29)) := ⟨_, rfl⟩
  have B0 := Lib.hid (show Below w.heap.size w W0 from by rw [hW0]; exact (Below.refl _ w).alloc (Nat.le_refl _) _)
  have HQ := Lib.hid (show ∀ wx, Below W0.heap.size W0 wx → wx.cell? ⟨w.heap.size, 0, none⟩ = some (.int .i64 cap) ∧ wx.cell? ⟨w.heap.size, 1, none⟩ = some (.int .i64 pri) ∧ wx.cell? ⟨w.heap.size, 2, none⟩ = some (.int .i64 spl) ∧ wx.cell? ⟨w.heap.size, 3, none⟩ = some (.int .i64 dl) ∧ wx.cell? ⟨w.heap.size, 4, none⟩ = some (.int .i64 mis) ∧ wx.cell? ⟨w.heap.size, 5, none⟩ = some (.int .i64 keep) ∧ wx.cell? ⟨w.heap.size, 6, none⟩ = some (.int .i64 lt) ∧ wx.cell? ⟨w.heap.size, 7, none⟩ = some (.int .i64 lu) ∧ wx.cell? ⟨w.heap.size, 8, none⟩ = some (.int .i64 bf) ∧ wx.cell? ⟨w.heap.size, 9, none⟩ = some (.int .i64 bo) ∧ wx.cell? ⟨w.heap.size, 10, none⟩ = some (.int .i64 bp) ∧ wx.cell? ⟨w.heap.size, 11, none⟩ = some (.int .i64 rm) ∧ wx.cell? ⟨w.heap.size, 12, none⟩ = some (.int .i64 rb) ∧ wx.cell? ⟨w.heap.size, 13, none⟩ = some (.int .i64 rc) ∧ wx.cell? ⟨w.heap.size, 14, none⟩ = some (.int .i64 rj) from fun wx b => by
    have hlt : w.heap.size < W0.heap.size := by rw [hW0]; simp
    refine ⟨?_, ?_, ?_, ?_, ?_, ?_, ?_, ?_, ?_, ?_, ?_, ?_, ?_, ?_, ?_⟩
    all_goals (refine (b.cell (p := ⟨w.heap.size, _, none⟩) hlt).trans ?_; rw [hW0]; simp))
  cases x0
  · have HV := Lib.hid (HV.trans (if_neg (by simp)))
    rw [HV.out]
    have G0 := Lib.hid H0
    clear H0 H1 H2 H3 H4 H5 H6 H7
    go_enter Tryz.func23, Tryz.ntmps23
    go_upto_region 1 with (fail)
    rw [show (w.alloc (.cells #[.int .i64 cap, .int .i64 pri, .int .i64 spl, .int .i64 dl, .int .i64 mis, .int .i64 keep, .int .i64 lt, .int .i64 lu, .int .i64 bf, .int .i64 bo, .int .i64 bp, .int .i64 rm, .int .i64 rb, .int .i64 rc, .int .i64 rj] 29)) = W0 from hW0.symm]
    clear hW0
    obtain ⟨q0, q1, q2, q3, q4, q5, q6, q7, q8, q9, q10, q11, q12, q13, q14⟩ := HQ.out W0 (Below.refl _ _)
    go_wp2_with fail
    refine (G0.out _).mono ?_
    rintro e w10 ⟨rfl, rfl⟩
    go_wp2_with fail
    go_ret
    exact ⟨rfl, B0.out⟩
  cases x1
  · have HV := Lib.hid (HV.trans (if_neg (by simp)))
    rw [HV.out]
    have G0 := Lib.hid H0
    have G1 := Lib.hid H1
    clear H0 H1 H2 H3 H4 H5 H6 H7
    go_enter Tryz.func23, Tryz.ntmps23
    go_upto_region 1 with (fail)
    rw [show (w.alloc (.cells #[.int .i64 cap, .int .i64 pri, .int .i64 spl, .int .i64 dl, .int .i64 mis, .int .i64 keep, .int .i64 lt, .int .i64 lu, .int .i64 bf, .int .i64 bo, .int .i64 bp, .int .i64 rm, .int .i64 rb, .int .i64 rc, .int .i64 rj] 29)) = W0 from hW0.symm]
    clear hW0
    obtain ⟨q0, q1, q2, q3, q4, q5, q6, q7, q8, q9, q10, q11, q12, q13, q14⟩ := HQ.out W0 (Below.refl _ _)
    go_wp2_with fail
    refine (G0.out _).mono ?_
    rintro e w10 ⟨rfl, rfl⟩
    go_wp2_with fail
    refine (G1.out _).mono ?_
    rintro e w11 ⟨rfl, rfl⟩
    go_wp2_with fail
    go_ret
    exact ⟨rfl, B0.out⟩
  cases x2
  · have HV := Lib.hid (HV.trans (if_neg (by simp)))
    rw [HV.out]
    have G0 := Lib.hid H0
    have G1 := Lib.hid H1
    have G2 := Lib.hid H2
    clear H0 H1 H2 H3 H4 H5 H6 H7
    go_enter Tryz.func23, Tryz.ntmps23
    go_upto_region 1 with (fail)
    rw [show (w.alloc (.cells #[.int .i64 cap, .int .i64 pri, .int .i64 spl, .int .i64 dl, .int .i64 mis, .int .i64 keep, .int .i64 lt, .int .i64 lu, .int .i64 bf, .int .i64 bo, .int .i64 bp, .int .i64 rm, .int .i64 rb, .int .i64 rc, .int .i64 rj] 29)) = W0 from hW0.symm]
    clear hW0
    obtain ⟨q0, q1, q2, q3, q4, q5, q6, q7, q8, q9, q10, q11, q12, q13, q14⟩ := HQ.out W0 (Below.refl _ _)
    go_wp2_with fail
    refine (G0.out _).mono ?_
    rintro e w10 ⟨rfl, rfl⟩
    go_wp2_with fail
    refine (G1.out _).mono ?_
    rintro e w11 ⟨rfl, rfl⟩
    go_wp2_with fail
    refine (G2.out _).mono ?_
    rintro e w12 ⟨rfl, rfl⟩
    go_wp2_with fail
    go_ret
    exact ⟨rfl, B0.out⟩
  cases x3
  · have HV := Lib.hid (HV.trans (if_neg (by simp)))
    rw [HV.out]
    have G0 := Lib.hid H0
    have G1 := Lib.hid H1
    have G2 := Lib.hid H2
    have G3 := Lib.hid H3
    clear H0 H1 H2 H3 H4 H5 H6 H7
    go_enter Tryz.func23, Tryz.ntmps23
    go_upto_region 1 with (fail)
    rw [show (w.alloc (.cells #[.int .i64 cap, .int .i64 pri, .int .i64 spl, .int .i64 dl, .int .i64 mis, .int .i64 keep, .int .i64 lt, .int .i64 lu, .int .i64 bf, .int .i64 bo, .int .i64 bp, .int .i64 rm, .int .i64 rb, .int .i64 rc, .int .i64 rj] 29)) = W0 from hW0.symm]
    clear hW0
    obtain ⟨q0, q1, q2, q3, q4, q5, q6, q7, q8, q9, q10, q11, q12, q13, q14⟩ := HQ.out W0 (Below.refl _ _)
    go_wp2_with fail
    refine (G0.out _).mono ?_
    rintro e w10 ⟨rfl, rfl⟩
    go_wp2_with fail
    refine (G1.out _).mono ?_
    rintro e w11 ⟨rfl, rfl⟩
    go_wp2_with fail
    refine (G2.out _).mono ?_
    rintro e w12 ⟨rfl, rfl⟩
    go_wp2_with fail
    refine (G3.out _).mono ?_
    rintro e w13 ⟨rfl, rfl⟩
    go_wp2_with fail
    go_ret
    exact ⟨rfl, B0.out⟩
  cases x4
  · have HV := Lib.hid (HV.trans (if_neg (by simp)))
    rw [HV.out]
    have G0 := Lib.hid H0
    have G1 := Lib.hid H1
    have G2 := Lib.hid H2
    have G3 := Lib.hid H3
    simp only [Bool.false_eq_true, if_false] at H4
    have G4 := Lib.hid H4
    clear H0 H1 H2 H3 H4 H5 H6 H7
    go_enter Tryz.func23, Tryz.ntmps23
    go_upto_region 1 with (fail)
    rw [show (w.alloc (.cells #[.int .i64 cap, .int .i64 pri, .int .i64 spl, .int .i64 dl, .int .i64 mis, .int .i64 keep, .int .i64 lt, .int .i64 lu, .int .i64 bf, .int .i64 bo, .int .i64 bp, .int .i64 rm, .int .i64 rb, .int .i64 rc, .int .i64 rj] 29)) = W0 from hW0.symm]
    clear hW0
    obtain ⟨q0, q1, q2, q3, q4, q5, q6, q7, q8, q9, q10, q11, q12, q13, q14⟩ := HQ.out W0 (Below.refl _ _)
    go_wp2_with fail
    refine (G0.out _).mono ?_
    rintro e w10 ⟨rfl, rfl⟩
    go_wp2_with fail
    refine (G1.out _).mono ?_
    rintro e w11 ⟨rfl, rfl⟩
    go_wp2_with fail
    refine (G2.out _).mono ?_
    rintro e w12 ⟨rfl, rfl⟩
    go_wp2_with fail
    refine (G3.out _).mono ?_
    rintro e w13 ⟨rfl, rfl⟩
    go_wp2_with fail
    refine (G4.out _).mono ?_
    rintro e w14 ⟨rfl, rfl⟩
    go_wp2_with fail
    go_ret
    exact ⟨rfl, B0.out⟩
  cases x5
  · have HV := Lib.hid (HV.trans (if_neg (by simp)))
    rw [HV.out]
    have G0 := Lib.hid H0
    have G1 := Lib.hid H1
    have G2 := Lib.hid H2
    have G3 := Lib.hid H3
    simp only [if_true] at H4
    have G4 := Lib.hid H4
    simp only [Bool.false_eq_true, if_false] at H5
    have G5 := Lib.hid H5
    clear H0 H1 H2 H3 H4 H5 H6 H7
    go_enter Tryz.func23, Tryz.ntmps23
    go_upto_region 1 with (fail)
    rw [show (w.alloc (.cells #[.int .i64 cap, .int .i64 pri, .int .i64 spl, .int .i64 dl, .int .i64 mis, .int .i64 keep, .int .i64 lt, .int .i64 lu, .int .i64 bf, .int .i64 bo, .int .i64 bp, .int .i64 rm, .int .i64 rb, .int .i64 rc, .int .i64 rj] 29)) = W0 from hW0.symm]
    clear hW0
    obtain ⟨q0, q1, q2, q3, q4, q5, q6, q7, q8, q9, q10, q11, q12, q13, q14⟩ := HQ.out W0 (Below.refl _ _)
    go_wp2_with fail
    refine (G0.out _).mono ?_
    rintro e w10 ⟨rfl, rfl⟩
    go_wp2_with fail
    refine (G1.out _).mono ?_
    rintro e w11 ⟨rfl, rfl⟩
    go_wp2_with fail
    refine (G2.out _).mono ?_
    rintro e w12 ⟨rfl, rfl⟩
    go_wp2_with fail
    refine (G3.out _).mono ?_
    rintro e w13 ⟨rfl, rfl⟩
    go_wp2_with fail
    refine (G4.out _).mono ?_
    rintro e w14 ⟨rfl, rfl⟩
    go_wp2_with fail
    refine (G5.out _).mono ?_
    rintro e w15 ⟨rfl, c5⟩
    have C5 := Lib.hid (c5)
    clear c5 q0 q1 q2 q3 q4 q5 q6 q7 q8 q9 q10 q11 q12 q13 q14
    obtain ⟨q0, q1, q2, q3, q4, q5, q6, q7, q8, q9, q10, q11, q12, q13, q14⟩ := HQ.out w15 C5.out
    go_wp2_with fail
    go_ret
    exact ⟨rfl, B0.out.trans (C5.out.mono B0.out.size)⟩
  cases x6
  · have HV := Lib.hid (HV.trans (if_neg (by simp)))
    rw [HV.out]
    have G0 := Lib.hid H0
    have G1 := Lib.hid H1
    have G2 := Lib.hid H2
    have G3 := Lib.hid H3
    simp only [if_true] at H4
    have G4 := Lib.hid H4
    simp only [if_true] at H5
    have G5 := Lib.hid H5
    simp only [Bool.false_eq_true, if_false] at H6
    have G6 := Lib.hid H6
    clear H0 H1 H2 H3 H4 H5 H6 H7
    go_enter Tryz.func23, Tryz.ntmps23
    go_upto_region 1 with (fail)
    rw [show (w.alloc (.cells #[.int .i64 cap, .int .i64 pri, .int .i64 spl, .int .i64 dl, .int .i64 mis, .int .i64 keep, .int .i64 lt, .int .i64 lu, .int .i64 bf, .int .i64 bo, .int .i64 bp, .int .i64 rm, .int .i64 rb, .int .i64 rc, .int .i64 rj] 29)) = W0 from hW0.symm]
    clear hW0
    obtain ⟨q0, q1, q2, q3, q4, q5, q6, q7, q8, q9, q10, q11, q12, q13, q14⟩ := HQ.out W0 (Below.refl _ _)
    go_wp2_with fail
    refine (G0.out _).mono ?_
    rintro e w10 ⟨rfl, rfl⟩
    go_wp2_with fail
    refine (G1.out _).mono ?_
    rintro e w11 ⟨rfl, rfl⟩
    go_wp2_with fail
    refine (G2.out _).mono ?_
    rintro e w12 ⟨rfl, rfl⟩
    go_wp2_with fail
    refine (G3.out _).mono ?_
    rintro e w13 ⟨rfl, rfl⟩
    go_wp2_with fail
    refine (G4.out _).mono ?_
    rintro e w14 ⟨rfl, rfl⟩
    go_wp2_with fail
    refine (G5.out _).mono ?_
    rintro e w15 ⟨rfl, c5⟩
    have C5 := Lib.hid (c5)
    clear c5 q0 q1 q2 q3 q4 q5 q6 q7 q8 q9 q10 q11 q12 q13 q14
    obtain ⟨q0, q1, q2, q3, q4, q5, q6, q7, q8, q9, q10, q11, q12, q13, q14⟩ := HQ.out w15 C5.out
    go_wp2_with fail
    refine (G6.out _).mono ?_
    rintro e w16 ⟨rfl, c6⟩
    have C6 := Lib.hid (C5.out.trans (c6.mono C5.out.size))
    clear c6 q0 q1 q2 q3 q4 q5 q6 q7 q8 q9 q10 q11 q12 q13 q14
    obtain ⟨q0, q1, q2, q3, q4, q5, q6, q7, q8, q9, q10, q11, q12, q13, q14⟩ := HQ.out w16 C6.out
    go_wp2_with fail
    go_ret
    exact ⟨rfl, B0.out.trans (C6.out.mono B0.out.size)⟩
  cases x7
  · have HV := Lib.hid (HV.trans (if_neg (by simp)))
    rw [HV.out]
    have G0 := Lib.hid H0
    have G1 := Lib.hid H1
    have G2 := Lib.hid H2
    have G3 := Lib.hid H3
    simp only [if_true] at H4
    have G4 := Lib.hid H4
    simp only [if_true] at H5
    have G5 := Lib.hid H5
    simp only [if_true] at H6
    have G6 := Lib.hid H6
    simp only [Bool.false_eq_true, if_false] at H7
    have G7 := Lib.hid H7
    clear H0 H1 H2 H3 H4 H5 H6 H7
    go_enter Tryz.func23, Tryz.ntmps23
    go_upto_region 1 with (fail)
    rw [show (w.alloc (.cells #[.int .i64 cap, .int .i64 pri, .int .i64 spl, .int .i64 dl, .int .i64 mis, .int .i64 keep, .int .i64 lt, .int .i64 lu, .int .i64 bf, .int .i64 bo, .int .i64 bp, .int .i64 rm, .int .i64 rb, .int .i64 rc, .int .i64 rj] 29)) = W0 from hW0.symm]
    clear hW0
    obtain ⟨q0, q1, q2, q3, q4, q5, q6, q7, q8, q9, q10, q11, q12, q13, q14⟩ := HQ.out W0 (Below.refl _ _)
    go_wp2_with fail
    refine (G0.out _).mono ?_
    rintro e w10 ⟨rfl, rfl⟩
    go_wp2_with fail
    refine (G1.out _).mono ?_
    rintro e w11 ⟨rfl, rfl⟩
    go_wp2_with fail
    refine (G2.out _).mono ?_
    rintro e w12 ⟨rfl, rfl⟩
    go_wp2_with fail
    refine (G3.out _).mono ?_
    rintro e w13 ⟨rfl, rfl⟩
    go_wp2_with fail
    refine (G4.out _).mono ?_
    rintro e w14 ⟨rfl, rfl⟩
    go_wp2_with fail
    refine (G5.out _).mono ?_
    rintro e w15 ⟨rfl, c5⟩
    have C5 := Lib.hid (c5)
    clear c5 q0 q1 q2 q3 q4 q5 q6 q7 q8 q9 q10 q11 q12 q13 q14
    obtain ⟨q0, q1, q2, q3, q4, q5, q6, q7, q8, q9, q10, q11, q12, q13, q14⟩ := HQ.out w15 C5.out
    go_wp2_with fail
    refine (G6.out _).mono ?_
    rintro e w16 ⟨rfl, c6⟩
    have C6 := Lib.hid (C5.out.trans (c6.mono C5.out.size))
    clear c6 q0 q1 q2 q3 q4 q5 q6 q7 q8 q9 q10 q11 q12 q13 q14
    obtain ⟨q0, q1, q2, q3, q4, q5, q6, q7, q8, q9, q10, q11, q12, q13, q14⟩ := HQ.out w16 C6.out
    go_wp2_with fail
    refine (G7.out _).mono ?_
    rintro e w17 ⟨rfl, c7⟩
    have C7 := Lib.hid (C6.out.trans (c7.mono C6.out.size))
    clear c7 q0 q1 q2 q3 q4 q5 q6 q7 q8 q9 q10 q11 q12 q13 q14
    obtain ⟨q0, q1, q2, q3, q4, q5, q6, q7, q8, q9, q10, q11, q12, q13, q14⟩ := HQ.out w17 C7.out
    go_wp2_with fail
    go_ret
    exact ⟨rfl, B0.out.trans (C7.out.mono B0.out.size)⟩
  have HV := Lib.hid (HV.trans (if_pos ⟨⟨rfl, rfl, rfl, rfl⟩, rfl, rfl, rfl, rfl⟩))
  rw [HV.out]
  have G0 := Lib.hid H0
  have G1 := Lib.hid H1
  have G2 := Lib.hid H2
  have G3 := Lib.hid H3
  simp only [if_true] at H4
  have G4 := Lib.hid H4
  simp only [if_true] at H5
  have G5 := Lib.hid H5
  simp only [if_true] at H6
  have G6 := Lib.hid H6
  simp only [if_true] at H7
  have G7 := Lib.hid H7
  clear H0 H1 H2 H3 H4 H5 H6 H7
  go_enter Tryz.func23, Tryz.ntmps23
  go_upto_region 1 with (fail)
  rw [show (w.alloc (.cells #[.int .i64 cap, .int .i64 pri, .int .i64 spl, .int .i64 dl, .int .i64 mis, .int .i64 keep, .int .i64 lt, .int .i64 lu, .int .i64 bf, .int .i64 bo, .int .i64 bp, .int .i64 rm, .int .i64 rb, .int .i64 rc, .int .i64 rj] 29)) = W0 from hW0.symm]
  clear hW0
  obtain ⟨q0, q1, q2, q3, q4, q5, q6, q7, q8, q9, q10, q11, q12, q13, q14⟩ := HQ.out W0 (Below.refl _ _)
  go_wp2_with fail
  refine (G0.out _).mono ?_
  rintro e w10 ⟨rfl, rfl⟩
  go_wp2_with fail
  refine (G1.out _).mono ?_
  rintro e w11 ⟨rfl, rfl⟩
  go_wp2_with fail
  refine (G2.out _).mono ?_
  rintro e w12 ⟨rfl, rfl⟩
  go_wp2_with fail
  refine (G3.out _).mono ?_
  rintro e w13 ⟨rfl, rfl⟩
  go_wp2_with fail
  refine (G4.out _).mono ?_
  rintro e w14 ⟨rfl, rfl⟩
  go_wp2_with fail
  refine (G5.out _).mono ?_
  rintro e w15 ⟨rfl, c5⟩
  have C5 := Lib.hid (c5)
  clear c5 q0 q1 q2 q3 q4 q5 q6 q7 q8 q9 q10 q11 q12 q13 q14
  obtain ⟨q0, q1, q2, q3, q4, q5, q6, q7, q8, q9, q10, q11, q12, q13, q14⟩ := HQ.out w15 C5.out
  go_wp2_with fail
  refine (G6.out _).mono ?_
  rintro e w16 ⟨rfl, c6⟩
  have C6 := Lib.hid (C5.out.trans (c6.mono C5.out.size))
  clear c6 q0 q1 q2 q3 q4 q5 q6 q7 q8 q9 q10 q11 q12 q13 q14
  obtain ⟨q0, q1, q2, q3, q4, q5, q6, q7, q8, q9, q10, q11, q12, q13, q14⟩ := HQ.out w16 C6.out
  go_wp2_with fail
  refine (G7.out _).mono ?_
  rintro e w17 ⟨rfl, c7⟩
  have C7 := Lib.hid (C6.out.trans (c7.mono C6.out.size))
  clear c7 q0 q1 q2 q3 q4 q5 q6 q7 q8 q9 q10 q11 q12 q13 q14
  obtain ⟨q0, q1, q2, q3, q4, q5, q6, q7, q8, q9, q10, q11, q12, q13, q14⟩ := HQ.out w17 C7.out
  go_wp2_with fail
  go_ret
  exact ⟨rfl, B0.out.trans (C7.out.mono B0.out.size)⟩
theorem q14default_any (w : World) : Calls Tryz.prog 27 #[] w fun e w' => e = .returned Lx.polD.val ∧ Below w.heap.size w w' := by
  go_enter Tryz.func27, Tryz.ntmps27
  go_wp2_with fail
  refine bodyPost_ret (v := Lx.polD.val) ?_ rfl ⟨rfl, (Below.refl _ w).alloc (Nat.le_refl _) _⟩
  simp [results, Tryz.results27, go_sem, Lx.polD, Lx.PolV.val]
/-- The keys, in a row of its own. -/
def Lx.KeyRow (w : World) (A : Nat) : Prop := ∀ j : Nat, j < 8 → w.cell? ⟨A, j, none⟩ = some (.string ⟨(Lx.keyW j).toArray⟩)
theorem Lx.KeyRow.below {w w' : World} {A : Nat} (h : KeyRow w A) (hA : A < w.heap.size) (hb : Below w.heap.size w w') : KeyRow w' A := fun j hj => (hb.cell (p := ⟨A, j, none⟩) hA).trans (h j hj)
theorem q14keys_any (w : World) : Calls Tryz.prog 30 #[] w fun e w' => ∃ A, e = .returned (.slice (some ⟨A, 0, none⟩) 8 8) ∧ A < w'.heap.size ∧ w.heap.size ≤ A ∧ Lx.KeyRow w' A ∧ Below w.heap.size w w' := by
  go_enter Tryz.func30, Tryz.ntmps30
  go_wp2_with fail
  go_ret
  refine ⟨w.heap.size, rfl, by simp, Nat.le_refl _, fun j hj => ?_, (Below.refl _ w).alloc (Nat.le_refl _) _⟩
  obtain h | h | h | h | h | h | h | h := Lx.cases8 hj
  all_goals (subst h; exact Lx.cellR _ _ _ _ _ rfl)
theorem Lx.keyIx_ne {s : List UInt8} (h : ∀ j : Nat, j < 8 → keyW j ≠ s) : keyIx s = 8 := by
  unfold keyIx
  rw [if_neg (fun c => h 0 (by omega) c.symm), if_neg (fun c => h 1 (by omega) c.symm), if_neg (fun c => h 2 (by omega) c.symm), if_neg (fun c => h 3 (by omega) c.symm), if_neg (fun c => h 4 (by omega) c.symm), if_neg (fun c => h 5 (by omega) c.symm), if_neg (fun c => h 6 (by omega) c.symm), if_neg (fun c => h 7 (by omega) c.symm)]
set_option maxRecDepth 100000 in
set_option maxHeartbeats 1600000 in
theorem q14key_any (s : ByteArray) (w : World) :
    Calls Tryz.prog 47 #[.string s] w fun e w' => e = .returned (.bool (decide (Lx.keyIx s.data.toList < 8))) ∧ Below w.heap.size w w' := by
  obtain ⟨z, hz⟩ : ∃ z, z = decide (Lx.keyIx s.data.toList < 8) := ⟨_, rfl⟩
  rw [← hz]
  have HZ := Lib.hid hz
  clear hz
  go_enter Tryz.func47, Tryz.ntmps47
  go_wp2_with fail
  refine (q14keys_any _).mono ?_
  rintro e w1 ⟨A, rfl, hA, _, hR, c1⟩
  have R1 := Lib.hid hR
  have B1 := Lib.hid c1
  clear hR c1
  go_wp2_with fail
  go_loop [4] (fun i => ∃ k : Nat, k ≤ 8 ∧ i = .int .i64 k ∧ ∀ j : Nat, j < k → Lx.keyW j ≠ s.data.toList) (fun i => 8 - (intOf i).toNat)
  case atStart => exact ⟨0, Nat.zero_le _, rfl, fun j hj => absurd hj (Nat.not_lt_zero _)⟩
  case round =>
    obtain ⟨k, hk, rfl, hne⟩ := hrel
    have HN := Lib.hid hne
    clear hne
    by_cases hlt : k < 8
    · have hki : (k : Int) < 8 := by omega
      have cb := R1.out k hlt
      obtain ⟨T, hT⟩ : ∃ T : ByteArray, T = ⟨(Lx.keyW k).toArray⟩ := ⟨_, rfl⟩
      rw [← hT] at cb
      have HT := Lib.hid (show T.data.toList = Lx.keyW k from by rw [hT])
      clear hT
      by_cases he : Lx.keyW k = s.data.toList
      · have hs := HZ.out.trans (show _ = true from by rw [← he, Lx.keyIx_key hlt]; exact decide_eq_true hlt)
        have e1 : (T.toList == s.toList) = true := by rw [beq_iff_eq, Lib.toList_data, Lib.toList_data, HT.out, he]
        subst hs
        clear HZ he
        go_wp2_with fail
        go_ret
        exact ⟨rfl, B1.out⟩
      · have e1 : (T.toList == s.toList) = false := by rw [beq_eq_false_iff_ne, Lib.toList_data, Lib.toList_data, HT.out]; exact he
        have HE := Lib.hid he
        clear he
        go_wp2_with fail
        go_round
        case rel => exact ⟨k + 1, by omega, by go_num, fun j hj => by rcases Nat.lt_or_eq_of_le (Nat.le_of_lt_succ hj) with c | c; (exact HN.out j c); (subst c; exact HE.out)⟩
        case measure => simp [intOf]; omega
    · obtain rfl : k = 8 := by omega
      have hs := HZ.out.trans (show _ = false from by rw [Lx.keyIx_ne HN.out]; rfl)
      subst hs
      clear HZ
      go_wp2_with fail
      go_ret
      exact ⟨rfl, B1.out⟩
set_option maxRecDepth 100000 in
theorem q14worst_any (g n cap : Nat) (L : List Int) (w : World) (hL : L.length = n) (hn : n ≤ 1000) (hc : Lx.ICells w g L) :
    Calls Tryz.prog 41 #[.slice (some ⟨g, 0, none⟩) n cap] w fun e w' => e = .returned (.int .i64 (Lx.firstE L)) ∧ w = w' := by
  have HC := Lib.hid hc
  have HL := Lib.hid hL
  obtain ⟨z, hz⟩ : ∃ z, z = Lx.firstE L := ⟨_, rfl⟩
  rw [← hz]
  have HZ := Lib.hid hz
  clear hc hL hz
  go_enter Tryz.func41, Tryz.ntmps41
  go_wp2_with fail
  go_loop [3, 4] (fun o i => ∃ k : Nat, k ≤ n ∧ i = .int .i64 k ∧ o = .int .i64 (Lx.fsO L k) ∧ ∀ (j : Nat) (b : Int), j < k → L[j]? = some b → b ≠ 10) (fun _ i => n - (intOf i).toNat)
  case atStart => exact ⟨0, Nat.zero_le _, rfl, rfl, fun j b hj => absurd hj (Nat.not_lt_zero _)⟩
  case round =>
    obtain ⟨k, hk, rfl, rfl, hall⟩ := hrel
    have HA := Lib.hid hall
    clear hall
    by_cases hlt : k < n
    · have hki : (k : Int) < (n : Int) := by omega
      obtain ⟨x, hx⟩ : ∃ x, L[k]? = some x := ⟨_, List.getElem?_eq_getElem (by rw [HL.out]; exact hlt)⟩
      have cb := HC.out k x hx
      have HB := Lib.hid hx
      clear hx
      by_cases h10 : x = 10
      · subst h10
        have hs := HZ.out.trans (Lx.first_hit HB.out)
        subst hs
        clear HZ
        go_wp2_with fail
        go_ret
        exact ⟨rfl, rfl⟩
      · have e10 : (x == 10) = false := by rw [beq_eq_false_iff_ne]; exact h10
        have HN := Lib.hid (show ∀ (j : Nat) (b : Int), j < k + 1 → L[j]? = some b → b ≠ 10 from fun j b hj hb => by rcases Nat.lt_or_eq_of_le (Nat.le_of_lt_succ hj) with c | c; (exact HA.out j b c hb); (subst c; rw [HB.out] at hb; cases hb; exact h10))
        by_cases h0 : x = 0
        · subst h0
          have HS := Lib.hid (Lx.fsO_zero HB.out)
          generalize Lx.fsO L k = f at *
          clear h10
          go_wp2_with fail
          go_round
          case rel => exact ⟨k + 1, by omega, by go_num, by rw [HS.out], HN.out⟩
          case measure => simp [intOf]; omega
        · have e0 : (x != 0) = true := by rw [bne_iff_ne]; exact h0
          have HS := Lib.hid (Lx.fsO_bad HB.out h0)
          generalize Lx.fsO L k = f at *
          clear h10 h0
          go_wp2_with fail
          go_round
          case rel => exact ⟨k + 1, by omega, by go_num, by rw [HS.out], HN.out⟩
          case measure => simp [intOf]; omega
    · obtain rfl : k = n := by omega
      have hki : decide ((k : Int) < (k : Int)) = false := decide_eq_false (by omega)
      have hs := HZ.out.trans (Lx.first_end (fun i x hi => HA.out i x (by rw [← HL.out]; exact (List.getElem?_eq_some_iff.1 hi).1) hi))
      rw [HL.out] at hs
      subst hs
      clear HZ
      go_wp2_with fail
      go_ret
      exact ⟨rfl, rfl⟩
theorem q14number_any (s : ByteArray) (lo hi : Int) (w : World) (hs : s.size ≤ 1000000000) :
    Calls Tryz.prog 35 #[.string s, .int .i64 lo, .int .i64 hi] w fun e w' => e = .returned (.tuple #[.int .i64 (Lx.intV s.data.toList lo hi), .int .i64 (Lx.intE s.data.toList lo hi)]) ∧ w = w' := by
  have H := Lib.hid (ref_int_any s lo hi w hs)
  generalize Lx.intV s.data.toList lo hi = v at *
  generalize Lx.intE s.data.toList lo hi = x at *
  go_enter Tryz.func35, Tryz.ntmps35
  go_wp2_with fail
  refine H.out.mono ?_
  rintro e w1 ⟨rfl, rfl⟩
  go_wp2_with fail
  go_ret2
  exact ⟨rfl, rfl⟩
theorem q14span_any (d : Int) (w : World) :
    Calls Tryz.prog 88 #[.int .i64 d] w fun e w' => e = .returned (.string ⟨(Lx.prnV d).toArray⟩) ∧ Below w.heap.size w w' := by
  have H := Lib.hid (ref_print_any d w)
  generalize (⟨(Lx.prnV d).toArray⟩ : ByteArray) = v at *
  generalize Lx.prnE d = x at *
  go_enter Tryz.func88, Tryz.ntmps88
  go_wp2_with fail
  refine H.out.mono ?_
  rintro e w1 ⟨rfl, c1⟩
  go_wp2_with fail
  go_ret
  exact ⟨rfl, c1⟩
end Go.Proofs.YtdpjcbijddgpgaaGreatDoor
namespace Go.Proofs.YtdpjcbijddgpgaaGreatDoor.Lx
open Go Go.RowKit

theorem blq_inj {A B : List ByteArray} (h : blS A = blS B) : A = B := (List.map_inj_right (fun _ _ h => ByteArray.ext (Array.toList_inj.1 h))).1 h
theorem joinSl_snoc : ∀ (Q : List (List UInt8)) (z : List UInt8), joinSl (Q ++ [z]) = (Q.flatMap fun q => q ++ [47]) ++ z
  | [], z => rfl
  | q :: Q, z => by
    rw [List.cons_append, joinSl_cons _ (by simp), joinSl_snoc Q z]
    simp
theorem pcl_snoc {l : List UInt8} {P : List (List UInt8)} (h : Pcl l P) : Pcl (l ++ [47]) (P ++ [[]]) := by
  obtain ⟨h1, h2, h3⟩ := h
  obtain ⟨Q, z, rfl⟩ : ∃ Q z, P = Q ++ [z] := ⟨P.dropLast, P.getLast h1, (List.dropLast_concat_getLast h1).symm⟩
  refine ⟨by simp, fun p hp => ?_, ?_⟩
  · rcases List.mem_append.1 hp with hp | hp
    · exact h2 p hp
    · simp at hp; subst hp; simp
  · rw [joinSl_snoc, ← h3, joinSl_snoc, List.flatMap_append]
    simp
/-- The state of parts before place k: the pieces Q, and z last. -/
def PtI (s : ByteArray) (Q : List ByteArray) (z : ByteArray) (k : Nat) : Prop := Pcl (s.data.toList.take k) (blS (Q ++ [z])) ∧ Q.length ≤ k ∧ z.size ≤ k
theorem ptI_start (s : ByteArray) : PtI s [] ⟨#[]⟩ 0 := ⟨⟨by simp [blS], by simp [blS], rfl⟩, Nat.le_refl _, Nat.le_refl _⟩
theorem take_at {s : ByteArray} {k : Nat} (hk : k < s.size) : s.data.toList.take (k + 1) = s.data.toList.take k ++ [s[k]] := by
  rw [List.take_succ_eq_append_getElem (by rw [← Lib.size_eq]; exact hk)]
  rfl
theorem ptI_hit {s : ByteArray} {Q : List ByteArray} {z : ByteArray} {k : Nat} (h : PtI s Q z k) (hk : k < s.size) (hc : s[k] = 47) : PtI s (Q ++ [z]) ⟨#[]⟩ (k + 1) := by
  obtain ⟨h1, h2, h3⟩ := h
  refine ⟨?_, by rw [List.length_append]; exact Nat.succ_le_succ h2, Nat.zero_le _⟩
  rw [take_at hk, hc]
  have := pcl_snoc h1
  rw [show blS (Q ++ [z] ++ [⟨#[]⟩]) = blS (Q ++ [z]) ++ [[]] by simp [blS]]
  exact this
theorem ptI_miss {s : ByteArray} {Q : List ByteArray} {z : ByteArray} {k : Nat} (h : PtI s Q z k) (hk : k < s.size) (hc : s[k] ≠ 47) : PtI s Q (z ++ s.extract k (k + 1)) (k + 1) := by
  obtain ⟨⟨g1, g2, g3⟩, h2, h3⟩ := h
  have e : (s.extract k (k + 1)).data.toList = [s[k]] := by
    rw [data_take, drop_at hk, show k + 1 - k = 1 by omega, List.take_succ_cons, List.take_zero]
    rw [get_data hk]
  have e2 : (z ++ s.extract k (k + 1)).data.toList = z.data.toList ++ [s[k]] := by rw [ByteArray.data_append, Array.toList_append, e]
  have eb : ∀ x : ByteArray, blS (Q ++ [x]) = blS Q ++ [x.data.toList] := fun x => by simp [blS]
  rw [eb] at g1 g2 g3
  refine ⟨?_, by omega, ?_⟩
  · rw [eb, take_at hk, e2]
    refine ⟨by simp, fun p hp => ?_, ?_⟩
    · rcases List.mem_append.1 hp with hp | hp
      · exact g2 p (List.mem_append.2 (.inl hp))
      · rw [List.mem_singleton] at hp
        subst hp
        rw [List.mem_append, not_or]
        exact ⟨g2 _ (List.mem_append.2 (.inr List.mem_cons_self)), by rw [List.mem_singleton]; exact fun e => hc e.symm⟩
    · rw [joinSl_snoc, ← List.append_assoc, ← joinSl_snoc, g3]
  · rw [Lib.size_eq, e2, List.length_append, ← Lib.size_eq, List.length_singleton]; omega
theorem ptI_fin {s : ByteArray} {Q : List ByteArray} {z : ByteArray} (h : PtI s Q z s.size) : Q ++ [z] = slS s := by
  apply blq_inj
  refine pcl_one h.1 ?_
  rw [List.take_of_length_le (by rw [← Lib.size_eq]; exact Nat.le_refl _)]
  exact slS_pcl s
/-- The state of words before place k of the text (k at most one behind its end): the words Q, the next one begins at f. -/
def WdI (s : ByteArray) (Q : List ByteArray) (f k : Nat) : Prop :=
  f ≤ k ∧ Q.length ≤ f ∧ (k ≤ s.size → wds s.data.toList = blS Q ++ wdsA (s.extract f k).data.toList (s.data.toList.drop k)) ∧ (s.size < k → Q = wdsB s)
theorem wdI_start (s : ByteArray) : WdI s [] 0 0 := ⟨Nat.le_refl _, Nat.le_refl _, fun _ => by rw [Lib.extract_data]; rfl, fun h => absurd h (Nat.not_lt_zero _)⟩
theorem ext_nil (s : ByteArray) (k : Nat) : (s.extract k k).data.toList = [] := by rw [Lib.extract_data]; simp
theorem ext_len {s : ByteArray} {f k : Nat} (hk : k ≤ s.size) (hf : f < k) : (s.extract f k).data.toList ≠ [] := by
  intro c
  have := congrArg List.length c
  rw [data_take, List.length_take, List.length_drop, ← Lib.size_eq, List.length_nil] at this
  omega
theorem wdI_miss {s : ByteArray} {Q : List ByteArray} {f k : Nat} (h : WdI s Q f k) (hk : k < s.size) (hc : isBl s[k] = false) : WdI s Q f (k + 1) := by
  obtain ⟨h1, h2, h3, h4⟩ := h
  refine ⟨by omega, h2, fun _ => ?_, fun c => absurd c (by omega)⟩
  rw [h3 (by omega), drop_at hk, get_data hk, wdsA, hc, data_take, data_take, take_next hk h1, get_data hk]
  rfl
theorem wdI_hit {s : ByteArray} {Q : List ByteArray} {f k : Nat} (h : WdI s Q f k) (hk : k < s.size) (hc : isBl s[k] = true) (hf : f < k) : WdI s (Q ++ [s.extract f k]) (k + 1) (k + 1) := by
  obtain ⟨h1, h2, h3, h4⟩ := h
  refine ⟨Nat.le_refl _, by rw [List.length_append, List.length_singleton]; omega, fun _ => ?_, fun c => absurd c (by omega)⟩
  rw [h3 (by omega), drop_at hk, get_data hk, wdsA, if_pos hc, if_neg (ext_len (by omega) hf), ext_nil]
  simp [blS]
theorem wdI_skip {s : ByteArray} {Q : List ByteArray} {f k : Nat} (h : WdI s Q f k) (hk : k < s.size) (hc : isBl s[k] = true) (hf : ¬ f < k) : WdI s Q (k + 1) (k + 1) := by
  obtain ⟨h1, h2, h3, h4⟩ := h
  obtain rfl : f = k := by omega
  refine ⟨Nat.le_refl _, by omega, fun _ => ?_, fun c => absurd c (by omega)⟩
  rw [h3 (by omega), drop_at hk, get_data hk, ext_nil, wdsA_bl hc, ext_nil]
theorem wdI_last {s : ByteArray} {Q : List ByteArray} {f : Nat} (h : WdI s Q f s.size) (hf : f < s.size) : WdI s (Q ++ [s.extract f s.size]) (s.size + 1) (s.size + 1) := by
  obtain ⟨h1, h2, h3, h4⟩ := h
  refine ⟨Nat.le_refl _, by rw [List.length_append, List.length_singleton]; omega, fun c => absurd c (by omega), fun _ => ?_⟩
  apply blq_inj
  show _ = (wdsB s).map (·.data.toList)
  rw [wdsB_data, h3 (Nat.le_refl _), List.drop_of_length_le (by rw [← Lib.size_eq]; exact Nat.le_refl _), wdsA, if_neg (ext_len (Nat.le_refl _) hf)]
  simp [blS]
theorem wdI_none {s : ByteArray} {Q : List ByteArray} {f : Nat} (h : WdI s Q f s.size) (hf : ¬ f < s.size) : WdI s Q (s.size + 1) (s.size + 1) := by
  obtain ⟨h1, h2, h3, h4⟩ := h
  obtain rfl : f = s.size := by omega
  refine ⟨Nat.le_refl _, by omega, fun c => absurd c (by omega), fun _ => ?_⟩
  apply blq_inj
  show _ = (wdsB s).map (·.data.toList)
  rw [wdsB_data, h3 (Nat.le_refl _), ext_nil, List.drop_of_length_le (by rw [← Lib.size_eq]; exact Nat.le_refl _), wdsA, if_pos rfl, List.append_nil]
theorem wdI_fin {s : ByteArray} {Q : List ByteArray} {f : Nat} (h : WdI s Q f (s.size + 1)) : Q = wdsB s := h.2.2.2 (Nat.lt_succ_self _)
end Go.Proofs.YtdpjcbijddgpgaaGreatDoor.Lx
namespace Go.Proofs.YtdpjcbijddgpgaaGreatDoor
open Go.RowKit

/-- 'string([]byte{x})' where the byte lies. -/
theorem conv_cell (W : World) (g : Nat) (x : Int) (c : UInt8) (hx : x = (c.toNat : Int)) (hc : W.cell? ⟨g, 0, none⟩ = some (.int .u8 x)) :
    (convert 110 9 (.slice (some ⟨g, 0, none⟩) 1 1)).run Tryz.prog W = .ok (.string (Lx.one c)) W := by
  have := run_convert_bytes_back (P := Tryz.prog) W 110 9 5 ⟨g, 0, none⟩ 1 [c] Tryz.underlying110 Tryz.underlying5 Tryz.underlying9 (by
    intro j hj
    have : j = 0 := by simpa using hj
    subst this
    show W.cell? ⟨g, 0, none⟩ = _
    rw [hc, hx]; rfl)
  exact this
theorem Lx.wrap_u8 (c : UInt8) : IntKind.u8.wrap (c.toNat : Int) = (c.toNat : Int) := by
  have := c.toNat_lt
  show ((c.toNat : Int)) % 256 = _
  omega
theorem Lx.dec_step {n : Nat} (h : ¬ n < 10) : Lib.decDigits n = Lib.decDigits (n / 10) ++ [UInt8.ofNat (48 + n % 10)] := by
  rw [Lib.decDigits, dif_neg h]
set_option maxRecDepth 100000 in
set_option maxHeartbeats 1600000 in
theorem q14dec_any : ∀ (n : Nat), n ≤ 100000 → ∀ w : World,
    Calls Tryz.prog 87 #[.int .i64 n] w fun e w' => e = .returned (.string ⟨(Lib.decDigits n).toArray⟩) ∧ Below w.heap.size w w' := by
  intro n
  induction n using Nat.strongRecOn with
  | ind n ih =>
  intro hn w
  obtain ⟨c, hc⟩ : ∃ c, c = UInt8.ofNat (48 + n % 10) := ⟨_, rfl⟩
  have hcn : (c.toNat : Int) = 48 + ((n % 10 : Nat) : Int) := by rw [hc, UInt8.toNat_ofNat']; omega
  by_cases h : n < 10
  · have hni : (n : Int) < 10 := by omega
    have HT := Lib.hid (show (⟨(Lib.decDigits n).toArray⟩ : ByteArray) = Lx.one c from by
      rw [Lib.decDigits_one h, hc, Nat.mod_eq_of_lt h]; rfl)
    have hcv := conv_one w (48 + (n : Int)) c (by omega)
    clear ih hc hcn h
    go_enter Tryz.func87, Tryz.ntmps87
    go_wp2_with fail
    go_ret
    exact ⟨by rw [HT.out]; rfl, (Below.refl _ w).alloc (Nat.le_refl _) _⟩
  · have hni : decide ((n : Int) < 10) = false := decide_eq_false (by omega)
    obtain ⟨G, hG⟩ : ∃ G : ByteArray, G = ⟨(Lib.decDigits (n / 10)).toArray⟩ := ⟨_, rfl⟩
    have HD := Lib.hid (show ∀ W, Calls Tryz.prog 87 #[.int .i64 ((n : Int) / 10)] W fun e w' => e = .returned (.string G) ∧ Below W.heap.size W w' from fun W => by
      have := ih (n / 10) (by omega) (by omega) W
      rw [← hG] at this
      rw [show ((n : Int) / 10) = ((n / 10 : Nat) : Int) by omega]; exact this)
    have hGs : G.size ≤ 11 := by rw [Lib.size_eq, hG]; exact Lx.dd_len _ (by omega)
    have HT := Lib.hid (show (⟨(Lib.decDigits n).toArray⟩ : ByteArray) = G ++ Lx.one c from by
      apply ByteArray.ext; apply Array.toList_inj.1
      rw [Lx.dec_step h, ByteArray.data_append, hG, hc]; simp [Lx.one])
    have ho1 : (Lx.one c).size = 1 := rfl
    have k1 : ¬ (9223372036854775807 < G.size + 1) := by omega
    obtain ⟨Q, hQ⟩ : ∃ Q : Int, (n : Int).tdiv 10 = Q := ⟨_, rfl⟩
    obtain ⟨R, hR⟩ : ∃ R : Int, (n : Int).tmod 10 = R := ⟨_, rfl⟩
    have eQ : Q = (n : Int) / 10 := by rw [← hQ]; exact Int.tdiv_eq_ediv_of_nonneg (by omega)
    have eR : R = (n : Int) % 10 := by rw [← hR]; exact Int.tmod_eq_emod_of_nonneg (by omega)
    have hQ2 : IntKind.i64.wrap Q = Q := IntWalk.i64_in _ (by omega)
    have hR2 : IntKind.i64.wrap R = R := IntWalk.i64_in _ (by omega)
    have hR3 : 48 + R = (c.toNat : Int) := by omega
    have hR4 : IntKind.i64.wrap (c.toNat : Int) = (c.toNat : Int) := IntWalk.i64_in _ (by omega)
    have hR5 : IntKind.u8.wrap (c.toNat : Int) = (c.toNat : Int) := Lx.wrap_u8 c
    rw [← eQ] at HD
    have hni0 : (0 : Int) ≤ (n : Int) := by omega
    have hni1 : (n : Int) ≤ 100000 := by omega
    clear ih hc hcn h hG eQ eR
    go_enter Tryz.func87, Tryz.ntmps87
    go_upto_region 3 with (fail)
    refine wp_region_held_drew (S := (fun wx => Below w.heap.size w wx)) (by kernel_rfl) ?_ (fun hHeld => ?_)
    · exact (Below.refl _ w).drew
    refine' wpAnyH_take (i := 0) (oi := _) (v := _) ?hi0q1 (by kernel_rfl) (by kernel_rfl) (by kernel_rfl) ?hq0q1 ?hy0q1 (by assumption) ?re0q1
    case hi0q1 => simp only [List.getElem?_toArray, List.getElem?_cons_zero]; rfl
    case hq0q1 => exact fun _ _ _ h => h
    case hy0q1 =>
      refine Or.inl ⟨by rfl, ?_⟩
      intro w hSw; (try dsimp only at hSw); go_simp; try with_reducible rfl
    try simp only [Act.put, List.setIfInBounds_toArray, List.set_cons_zero, List.set_cons_succ]
    refine' wpAnyH_take (i := 1) (oi := _) (v := _) ?hi1q1 (by kernel_rfl) (by kernel_rfl) (by kernel_rfl) ?hq1q1 ?hy1q1 (by assumption) ?re1q1
    case hi1q1 => simp only [List.getElem?_toArray, List.getElem?_cons_succ, List.getElem?_cons_zero]; rfl
    case hq1q1 => exact fun _ _ _ h => h
    case hy1q1 =>
      refine Or.inl ⟨by rfl, ?_⟩
      intro w hSw; (try dsimp only at hSw); go_simp; try with_reducible rfl
    try simp only [Act.put, List.setIfInBounds_toArray, List.set_cons_zero, List.set_cons_succ]
    refine' wpAnyH_take (i := 3) (oi := _) (v := _) ?hi3q1 (by kernel_rfl) (by kernel_rfl) (by kernel_rfl) ?hq3q1 ?hy3q1 (by assumption) ?re3q1
    case hi3q1 => simp only [List.getElem?_toArray, List.getElem?_cons_succ, List.getElem?_cons_zero]; rfl
    case hq3q1 => exact fun _ _ _ h => h
    case hy3q1 =>
      refine Or.inl ⟨by rfl, ?_⟩
      intro w hSw; (try dsimp only at hSw); go_simp; try with_reducible rfl
    try simp only [Act.put, List.setIfInBounds_toArray, List.set_cons_zero, List.set_cons_succ]
    refine' wpAnyH_take (i := 4) (oi := _) (v := _) ?hi4q1 (by kernel_rfl) (by kernel_rfl) (by kernel_rfl) ?hq4q1 ?hy4q1 (by assumption) ?re4q1
    case hi4q1 => simp only [List.getElem?_toArray, List.getElem?_cons_succ, List.getElem?_cons_zero]; rfl
    case hq4q1 => exact fun _ _ _ h => h
    case hy4q1 =>
      refine Or.inl ⟨by rfl, ?_⟩
      intro w hSw; (try dsimp only at hSw); go_simp; try with_reducible rfl
    try simp only [Act.put, List.setIfInBounds_toArray, List.set_cons_zero, List.set_cons_succ]
    refine' wpAnyH_take (i := 5) (oi := _) (v := _) ?hi5q1 (by kernel_rfl) (by kernel_rfl) (by kernel_rfl) ?hq5q1 ?hy5q1 (by assumption) ?re5q1
    case hi5q1 => simp only [List.getElem?_toArray, List.getElem?_cons_succ, List.getElem?_cons_zero]; rfl
    case hq5q1 => exact fun _ _ _ h => h
    case hy5q1 =>
      refine Or.inl ⟨by rfl, ?_⟩
      intro w hSw; (try dsimp only at hSw); go_simp; try with_reducible rfl
    try simp only [Act.put, List.setIfInBounds_toArray, List.set_cons_zero, List.set_cons_succ]
    refine' wpAnyH_take (i := 6) (oi := _) (v := _) ?hi6q1 (by kernel_rfl) (by kernel_rfl) (by kernel_rfl) ?hq6q1 ?hy6q1 (by assumption) ?re6q1
    case hi6q1 => simp only [List.getElem?_toArray, List.getElem?_cons_succ, List.getElem?_cons_zero]; rfl
    case hq6q1 => exact fun _ _ _ h => h
    case hy6q1 =>
      refine Or.inl ⟨by rfl, ?_⟩
      intro w hSw; (try dsimp only at hSw); go_simp; try with_reducible rfl
    try simp only [Act.put, List.setIfInBounds_toArray, List.set_cons_zero, List.set_cons_succ]
    refine wpAnyH_ready (rs := [2, 7]) (by kernel_rfl) (by simp) ?_
    refine' AllReadyH.cons (o := _) ?hi2q1 (fun K hK => ?st2q1) (AllReadyH.cons (o := _) ?hi7q1 (fun K hK => ?st7q1) AllReadyH.nil)
    case hi2q1 => simp only [List.getElem?_toArray, List.getElem?_cons_succ, List.getElem?_cons_zero]; rfl
    case hi7q1 => simp only [List.getElem?_toArray, List.getElem?_cons_succ, List.getElem?_cons_zero]; rfl
    case st2q1 =>
      go_simp
      go_at_call 87; refine (HD.out _).mono ?_; rintro e w5 ⟨rfl, c5⟩; have k8 := hHeld.trans (c5.mono hHeld.size)
      try go_wp2_with fail
      refine hK.out _ _ ?_ (fun hHeld => ?_)
      · exact k8
      clear hK K
      try simp only [Act.put, List.setIfInBounds_toArray, List.set_cons_zero, List.set_cons_succ]
      refine wpAnyH_ready (rs := [7]) (by kernel_rfl) (by simp) ?_
      refine' AllReadyH.cons (o := _) ?hi7q2 (fun K hK => ?st7q2) AllReadyH.nil
      case hi7q2 => simp only [List.getElem?_toArray, List.getElem?_cons_succ, List.getElem?_cons_zero]; rfl
      case st7q2 =>
        go_simp
        have cel : (w5.alloc (.cells #[.int .u8 c.toNat] 5)).cell? ⟨w5.heap.size, 0, none⟩ = some (.int .u8 c.toNat) := Lx.cellR _ _ _ _ _ rfl; have hcv := conv_cell (w5.alloc (.cells #[.int .u8 c.toNat] 5)) w5.heap.size (c.toNat : Int) c rfl cel; have k8 := hHeld.alloc hHeld.size (.cells #[.int .u8 c.toNat] 5)
        try go_wp2_with fail
        refine hK.out _ _ ?_ (fun hHeld => ?_)
        · exact k8
        clear hK K
        try simp only [Act.put, List.setIfInBounds_toArray, List.set_cons_zero, List.set_cons_succ]
        refine wpAnyH_ready (rs := [8]) (by kernel_rfl) (by simp) ?_
        refine' AllReadyH.cons (o := _) ?hi8q3 (fun K hK => ?st8q3) AllReadyH.nil
        case hi8q3 => simp only [List.getElem?_toArray, List.getElem?_cons_succ, List.getElem?_cons_zero]; rfl
        case st8q3 =>
          go_simp
          have k8 := hHeld
          try go_wp2_with fail
          refine hK.out _ _ ?_ (fun hHeld => ?_)
          · exact k8
          clear hK K
          try simp only [Act.put, List.setIfInBounds_toArray, List.set_cons_zero, List.set_cons_succ]
          refine' wpAnyH_take (i := 9) (oi := _) (v := _) ?hi9q4 (by kernel_rfl) (by kernel_rfl) (by kernel_rfl) ?hq9q4 ?hy9q4 (by assumption) ?re9q4
          case hi9q4 => simp only [List.getElem?_toArray, List.getElem?_cons_succ, List.getElem?_cons_zero]; rfl
          case hq9q4 => exact fun _ _ _ h => h
          case hy9q4 =>
            refine Or.inl ⟨by rfl, ?_⟩
            intro w hSw; (try dsimp only at hSw); go_simp; try with_reducible rfl
          try simp only [Act.put, List.setIfInBounds_toArray, List.set_cons_zero, List.set_cons_succ]
          refine' wpAnyH_take (i := 10) (oi := _) (v := _) ?hi10q4 (by kernel_rfl) (by kernel_rfl) (by kernel_rfl) ?hq10q4 ?hy10q4 (by assumption) ?re10q4
          case hi10q4 => simp only [List.getElem?_toArray, List.getElem?_cons_succ, List.getElem?_cons_zero]; rfl
          case hq10q4 => exact fun _ _ _ h => h
          case hy10q4 =>
            refine Or.inl ⟨by rfl, ?_⟩
            intro w hSw; (try dsimp only at hSw); go_simp; try with_reducible rfl
          try simp only [Act.put, List.setIfInBounds_toArray, List.set_cons_zero, List.set_cons_succ]
          refine wpAnyH_done (by kernel_rfl) ?_ _
          go_wp2_with fail
          go_ret
          exact ⟨by rw [HT.out]; rfl, by first | exact hHeld | exact hHeld.trans (Below.refl _ _)⟩
    case st7q1 =>
      go_simp
      have cel : ((w.alloc (.cells #[.int .u8 c.toNat] 5)).drew).cell? ⟨w.heap.size, 0, none⟩ = some (.int .u8 c.toNat) := Lx.cellR w _ _ _ _ rfl; have hcv := conv_cell ((w.alloc (.cells #[.int .u8 c.toNat] 5)).drew) w.heap.size (c.toNat : Int) c rfl cel; have k8 : Below w.heap.size w ((w.alloc (.cells #[.int .u8 c.toNat] 5)).drew) := ((Below.refl _ w).alloc (Nat.le_refl _) (.cells #[.int .u8 c.toNat] 5)).drew
      try go_wp2_with fail
      refine hK.out _ _ ?_ (fun hHeld => ?_)
      · exact k8
      clear hK K
      try simp only [Act.put, List.setIfInBounds_toArray, List.set_cons_zero, List.set_cons_succ]
      refine wpAnyH_ready (rs := [2, 8]) (by kernel_rfl) (by simp) ?_
      refine' AllReadyH.cons (o := _) ?hi2q5 (fun K hK => ?st2q5) (AllReadyH.cons (o := _) ?hi8q5 (fun K hK => ?st8q5) AllReadyH.nil)
      case hi2q5 => simp only [List.getElem?_toArray, List.getElem?_cons_succ, List.getElem?_cons_zero]; rfl
      case hi8q5 => simp only [List.getElem?_toArray, List.getElem?_cons_succ, List.getElem?_cons_zero]; rfl
      case st2q5 =>
        go_simp
        go_at_call 87; refine (HD.out _).mono ?_; rintro e w5 ⟨rfl, c5⟩; have k8 := hHeld.trans (c5.mono hHeld.size); have cel5 := (c5.cell (p := ⟨w.heap.size, 0, none⟩) (by simp)).trans cel; clear hcv; have hcv := conv_cell w5 w.heap.size (c.toNat : Int) c rfl cel5
        try go_wp2_with fail
        refine hK.out _ _ ?_ (fun hHeld => ?_)
        · exact k8
        clear hK K
        try simp only [Act.put, List.setIfInBounds_toArray, List.set_cons_zero, List.set_cons_succ]
        refine wpAnyH_ready (rs := [8]) (by kernel_rfl) (by simp) ?_
        refine' AllReadyH.cons (o := _) ?hi8q6 (fun K hK => ?st8q6) AllReadyH.nil
        case hi8q6 => simp only [List.getElem?_toArray, List.getElem?_cons_succ, List.getElem?_cons_zero]; rfl
        case st8q6 =>
          go_simp
          have k8 := hHeld
          try go_wp2_with fail
          refine hK.out _ _ ?_ (fun hHeld => ?_)
          · exact k8
          clear hK K
          try simp only [Act.put, List.setIfInBounds_toArray, List.set_cons_zero, List.set_cons_succ]
          refine' wpAnyH_take (i := 9) (oi := _) (v := _) ?hi9q7 (by kernel_rfl) (by kernel_rfl) (by kernel_rfl) ?hq9q7 ?hy9q7 (by assumption) ?re9q7
          case hi9q7 => simp only [List.getElem?_toArray, List.getElem?_cons_succ, List.getElem?_cons_zero]; rfl
          case hq9q7 => exact fun _ _ _ h => h
          case hy9q7 =>
            refine Or.inl ⟨by rfl, ?_⟩
            intro w hSw; (try dsimp only at hSw); go_simp; try with_reducible rfl
          try simp only [Act.put, List.setIfInBounds_toArray, List.set_cons_zero, List.set_cons_succ]
          refine' wpAnyH_take (i := 10) (oi := _) (v := _) ?hi10q7 (by kernel_rfl) (by kernel_rfl) (by kernel_rfl) ?hq10q7 ?hy10q7 (by assumption) ?re10q7
          case hi10q7 => simp only [List.getElem?_toArray, List.getElem?_cons_succ, List.getElem?_cons_zero]; rfl
          case hq10q7 => exact fun _ _ _ h => h
          case hy10q7 =>
            refine Or.inl ⟨by rfl, ?_⟩
            intro w hSw; (try dsimp only at hSw); go_simp; try with_reducible rfl
          try simp only [Act.put, List.setIfInBounds_toArray, List.set_cons_zero, List.set_cons_succ]
          refine wpAnyH_done (by kernel_rfl) ?_ _
          go_wp2_with fail
          go_ret
          exact ⟨by rw [HT.out]; rfl, by first | exact hHeld | exact hHeld.trans (Below.refl _ _)⟩
      case st8q5 =>
        go_simp
        have k8 := hHeld
        try go_wp2_with fail
        refine hK.out _ _ ?_ (fun hHeld => ?_)
        · exact k8
        clear hK K
        try simp only [Act.put, List.setIfInBounds_toArray, List.set_cons_zero, List.set_cons_succ]
        refine wpAnyH_ready (rs := [2]) (by kernel_rfl) (by simp) ?_
        refine' AllReadyH.cons (o := _) ?hi2q8 (fun K hK => ?st2q8) AllReadyH.nil
        case hi2q8 => simp only [List.getElem?_toArray, List.getElem?_cons_succ, List.getElem?_cons_zero]; rfl
        case st2q8 =>
          go_simp
          go_at_call 87; refine (HD.out _).mono ?_; rintro e w5 ⟨rfl, c5⟩; have k8 := hHeld.trans (c5.mono hHeld.size)
          try go_wp2_with fail
          refine hK.out _ _ ?_ (fun hHeld => ?_)
          · exact k8
          clear hK K
          try simp only [Act.put, List.setIfInBounds_toArray, List.set_cons_zero, List.set_cons_succ]
          refine' wpAnyH_take (i := 9) (oi := _) (v := _) ?hi9q9 (by kernel_rfl) (by kernel_rfl) (by kernel_rfl) ?hq9q9 ?hy9q9 (by assumption) ?re9q9
          case hi9q9 => simp only [List.getElem?_toArray, List.getElem?_cons_succ, List.getElem?_cons_zero]; rfl
          case hq9q9 => exact fun _ _ _ h => h
          case hy9q9 =>
            refine Or.inl ⟨by rfl, ?_⟩
            intro w hSw; (try dsimp only at hSw); go_simp; try with_reducible rfl
          try simp only [Act.put, List.setIfInBounds_toArray, List.set_cons_zero, List.set_cons_succ]
          refine' wpAnyH_take (i := 10) (oi := _) (v := _) ?hi10q9 (by kernel_rfl) (by kernel_rfl) (by kernel_rfl) ?hq10q9 ?hy10q9 (by assumption) ?re10q9
          case hi10q9 => simp only [List.getElem?_toArray, List.getElem?_cons_succ, List.getElem?_cons_zero]; rfl
          case hq10q9 => exact fun _ _ _ h => h
          case hy10q9 =>
            refine Or.inl ⟨by rfl, ?_⟩
            intro w hSw; (try dsimp only at hSw); go_simp; try with_reducible rfl
          try simp only [Act.put, List.setIfInBounds_toArray, List.set_cons_zero, List.set_cons_succ]
          refine wpAnyH_done (by kernel_rfl) ?_ _
          go_wp2_with fail
          go_ret
          exact ⟨by rw [HT.out]; rfl, by first | exact hHeld | exact hHeld.trans (Below.refl _ _)⟩
theorem q14decI_any (n : Int) (h0 : 0 ≤ n) (h1 : n ≤ 100000) (w : World) :
    Calls Tryz.prog 87 #[.int .i64 n] w fun e w' => e = .returned (.string ⟨(Lib.itoa n).toArray⟩) ∧ Below w.heap.size w w' := by
  obtain ⟨k, rfl⟩ := Int.eq_ofNat_of_zero_le h0
  rw [show Lib.itoa (k : Int) = Lib.decDigits k from Lib.itoa_nonneg k]
  exact q14dec_any k (by omega) w
end Go.Proofs.YtdpjcbijddgpgaaGreatDoor
namespace Go.Proofs.YtdpjcbijddgpgaaGreatDoor
open Go.RowKit

theorem Lx.set_snoc (Q : List ByteArray) (z : Value) {q : Nat} (h : Q.length = q) {u : Value} : (Q.map Value.string ++ [z]).set q u = Q.map Value.string ++ [u] := by
  subst h
  rw [List.set_append_right _ _ (by simp)]
  simp
theorem Lx.map_snocS (Q : List ByteArray) (x : ByteArray) : (Q ++ [x]).map Value.string = Q.map Value.string ++ [.string x] := by rw [List.map_append]; rfl
set_option maxRecDepth 100000 in
set_option maxHeartbeats 1600000 in
theorem q14parts_any (s : ByteArray) (w : World) (hs : s.size ≤ 1000000) :
    Calls Tryz.prog 66 #[.string s] w fun e w' => ∃ v, e = .returned v ∧ w'.ownsRow w.heap.size 9 1 v (Lx.slS s).length ((Lx.slS s).map Value.string) ∧ Below w.heap.size w w' := by
  obtain ⟨i0, hi, hz0, hz1, hz2⟩ := info_parts infoS
  go_enter Tryz.func66, Tryz.ntmps66
  go_wp2_with fail
  go_loopw [3, 4] (fun ov iv wr => ∃ (Q : List ByteArray) (z : ByteArray) (g c k : Nat), k ≤ s.size ∧ ov = .slice (some ⟨g, 0, none⟩) (Q.length + 1 : Nat) c ∧ iv = .int .i64 k ∧ Lx.PtI s Q z k ∧ wr.ownsRow w.heap.size 9 1 (.slice (some ⟨g, 0, none⟩) (Q.length + 1 : Nat) c) (Q.length + 1) (Q.map Value.string ++ [.string z]) ∧ Below w.heap.size w wr) (fun _ i _ => s.size - (intOf i).toNat)
  case atStart => exact ⟨[], ⟨#[]⟩, w.heap.size, 1, 0, Nat.zero_le _, rfl, rfl, Lx.ptI_start s, World.ownsRow_lit w #[.string ⟨#[]⟩] 1 (Nat.le_refl _) (by unfold maxLen; omega) rfl, (Below.refl _ w).alloc (Nat.le_refl _) _⟩
  case round =>
    obtain ⟨Q, z, g, c, k, hk, rfl, rfl, hI, hrow, hb⟩ := hrel
    have hQk : Q.length ≤ k := hI.2.1
    have hzk : z.size ≤ k := hI.2.2
    obtain ⟨q, hq⟩ : ∃ q, Q.length = q := ⟨_, rfl⟩
    rw [hq] at hrow hQk ⊢
    have HQ := Lib.hid hq
    have HI := Lib.hid hI
    have Hrow := Lib.hid hrow
    have Hb := Lib.hid hb
    have hbz := hb.size
    clear hI hrow hb hq
    by_cases hlt : k < s.size
    · have hki : (k : Int) < (s.size : Int) := by omega
      by_cases hc : s[k] = 47
      · have hcb : ((s[k].toNat : Int) == 47) = true := by rw [hc]; rfl
        have HH := Lib.hid (Lx.ptI_hit HI.out hlt hc)
        clear hc
        go_wp2_with (at_builtin; refine wpList_append_own _ rfl _ _ 47 rfl w.heap.size 9 i0 _ 1 16 Tryz.underlying47 hi hz0 hz1 hz2 rfl (by decide) _ _ _ rfl (Hrow.out.alloc _) ⟨wr.heap.size, 0, none⟩ 1 1 [.string ⟨#[]⟩] rfl rfl (Lx.cellNew wr (.string ⟨#[]⟩) 9) (by simp [Value.oneCell']) (by unfold maxLen; omega) (by omega) ((Hb.out.alloc Hb.out.size _).size) ?_)
        intro v' w2 hown2 hgrow _
        have hb2 := (Hb.out.alloc Hb.out.size (.cells #[.string ⟨#[]⟩] 9)).grown hgrow (Hb.out.alloc Hb.out.size _).size (Lx.ownBase Hrow.out)
        obtain ⟨g2, c2, rfl, _, _⟩ := Lx.ownCap hown2 (by omega)
        have Hown := Lib.hid hown2
        have Hb2 := Lib.hid hb2
        clear hgrow hown2 hb2
        go_wp2_with fail
        go_roundw
        case rel => exact ⟨Q ++ [z], ⟨#[]⟩, g2, c2, k + 1, by omega, by rw [List.length_append, HQ.out]; rfl, by go_num, HH.out, by rw [List.length_append, HQ.out, Lx.map_snocS, List.append_assoc]; exact Hown.out, Hb2.out⟩
        case measure => simp [intOf]; omega
      · have hcb : ((s[k].toNat : Int) == 47) = false := by
          rw [beq_eq_false_iff_ne]
          intro e
          exact hc (UInt8.toNat_inj.1 (by show s[k].toNat = 47; omega))
        have HH := Lib.hid (Lx.ptI_miss HI.out hlt hc)
        have hcell := Hrow.out.cellAt q (by omega)
        have hcell2 : wr.cell? ⟨g, q, none⟩ = some (.string z) := by rw [hcell, List.getElem?_append_right (by rw [List.length_map, HQ.out]; exact Nat.le_refl _), List.length_map, HQ.out, Nat.sub_self]; rfl
        have hfr := Hrow.out.frozenAt q
        have HST := Lib.hid (Hrow.out.stored q (.string (z ++ s.extract k (k + 1))))
        have hgb := Lx.ownBase Hrow.out
        have hez : (s.extract k (k + 1)).size = 1 := by rw [ByteArray.size_extract]; omega
        have k1 : ¬ (9223372036854775807 < z.size + 1) := by omega
        have hq1 : IntKind.i64.wrap (((q + 1 : Nat) : Int) - 1) = (q : Int) := by rw [show ((q + 1 : Nat) : Int) - 1 = (q : Int) by omega]; exact IntWalk.i64_in _ (by omega)
        have hki0 : (k : Int) + 1 ≤ (s.size : Int) := by omega
        clear hc hcell
        go_wp2_with fail
        go_region
        have Hb3 := Lib.hid (show Below w.heap.size w (wr.setCell ⟨g, q, none⟩ (.string (z ++ s.extract k (k + 1)))).drew from ((Hb.out.setCell (hgb g rfl) _)).drew)
        have HS3 := Lib.hid (HST.out.1.drew)
        clear hcell2 hfr HST
        go_wp2_with fail
        go_roundw
        case rel => exact ⟨Q, z ++ s.extract k (k + 1), g, c, k + 1, by omega, by rw [HQ.out], by go_num, HH.out, by rw [HQ.out, ← Lx.set_snoc Q (.string z) HQ.out]; exact HS3.out, Hb3.out⟩
        case measure => simp [intOf]; omega
    · obtain rfl : k = s.size := by omega
      have hki : decide ((s.size : Int) < (s.size : Int)) = false := decide_eq_false (by omega)
      have HF := Lib.hid (Lx.ptI_fin HI.out)
      go_wp2_with fail
      go_ret
      exact ⟨_, rfl, by rw [← HF.out, List.length_append, HQ.out, List.map_append]; exact Hrow.out, Hb.out⟩
theorem Lx.blank_not {c : UInt8} (h : isBl c = false) : ((c.toNat : Int) == 32) = false ∧ ((c.toNat : Int) == 9) = false := by
  unfold isBl at h
  rw [Bool.or_eq_false_iff, beq_eq_false_iff_ne, beq_eq_false_iff_ne] at h
  rw [beq_eq_false_iff_ne, beq_eq_false_iff_ne]
  refine ⟨fun e => h.1 (UInt8.toNat_inj.1 ?_), fun e => h.2 (UInt8.toNat_inj.1 ?_)⟩
  · show c.toNat = 32; omega
  · show c.toNat = 9; omega
theorem Lx.blank_yes {c : UInt8} (h : isBl c = true) : ((c.toNat : Int) == 32) = true ∨ ((c.toNat : Int) == 32) = false ∧ ((c.toNat : Int) == 9) = true := by
  unfold isBl at h
  rw [Bool.or_eq_true, beq_iff_eq, beq_iff_eq] at h
  by_cases e : c = 32
  · subst e; exact .inl rfl
  · right
    have e9 := h.resolve_left e
    subst e9
    exact ⟨rfl, rfl⟩
set_option maxRecDepth 100000 in
set_option maxHeartbeats 3200000 in
theorem q14words_any (s : ByteArray) (w : World) (hs : s.size ≤ 65536) :
    Calls Tryz.prog 45 #[.string s] w fun e w' => ∃ v, e = .returned v ∧ w'.ownsRow w.heap.size 9 1 v (Lx.wdsB s).length ((Lx.wdsB s).map Value.string) ∧ Below w.heap.size w w' := by
  obtain ⟨i0, hi, hz0, hz1, hz2⟩ := info_parts infoS
  go_enter Tryz.func45, Tryz.ntmps45
  go_wp2_with fail
  go_loopw [3, 4, 5] (fun ov fv iv wr => ∃ (Q : List ByteArray) (f k : Nat), k ≤ s.size + 1 ∧ fv = .int .i64 f ∧ iv = .int .i64 k ∧ Lx.WdI s Q f k ∧ wr.ownsRow w.heap.size 9 1 ov Q.length (Q.map Value.string) ∧ Below w.heap.size w wr) (fun _ _ i _ => s.size + 1 - (intOf i).toNat)
  case atStart => exact ⟨[], 0, 0, Nat.zero_le _, rfl, rfl, Lx.wdI_start s, World.ownsRow_nil _ _ _ _, Below.refl _ _⟩
  case round =>
    obtain ⟨Q, f, k, hk, rfl, rfl, hI, hrow, hb⟩ := hrel
    have hfk : f ≤ k := hI.1
    have hQf : Q.length ≤ f := hI.2.1
    obtain ⟨q, hq⟩ : ∃ q, Q.length = q := ⟨_, rfl⟩
    rw [hq] at hrow hQf
    have HQ := Lib.hid hq
    have HI := Lib.hid hI
    have Hrow := Lib.hid hrow
    have Hb := Lib.hid hb
    have hbz := hb.size
    clear hI hrow hb hq
    obtain ⟨ad, cp, rfl⟩ := Lx.ownSlice Hrow.out
    have hfi : (f : Int) ≤ (k : Int) := by omega
    by_cases hlt : k < s.size
    · have hki : (k : Int) < (s.size : Int) := by omega
      have hke : (k : Int) ≤ (s.size : Int) := by omega
      have hkb : ((k : Int) == (s.size : Int)) = false := by rw [beq_eq_false_iff_ne]; omega
      have hkb2 : (k == s.size) = false := by rw [beq_eq_false_iff_ne]; omega
      by_cases hc : Lx.isBl s[k] = false
      · obtain ⟨hc1, hc2⟩ := Lx.blank_not hc
        have HH := Lib.hid (Lx.wdI_miss HI.out hlt hc)
        clear hc
        go_wp2_with fail
        go_roundw
        case rel => exact ⟨Q, f, k + 1, by omega, rfl, by go_num, HH.out, by rw [HQ.out]; exact Hrow.out, Hb.out⟩
        case measure => simp [intOf]; omega
      · have hc : Lx.isBl s[k] = true := by simpa using hc
        by_cases hf : f < k
        · have hfi2 : (f : Int) < (k : Int) := by omega
          have HH := Lib.hid (Lx.wdI_hit HI.out hlt hc hf)
          rcases Lx.blank_yes hc with hc1 | ⟨hc1, hc2⟩
          all_goals
            clear hc
            go_wp2_with (at_builtin; refine wpList_append_own _ rfl _ _ 47 rfl w.heap.size 9 i0 _ 1 16 Tryz.underlying47 hi hz0 hz1 hz2 rfl (by decide) _ _ _ rfl (Hrow.out.alloc _) ⟨wr.heap.size, 0, none⟩ 1 1 [.string (s.extract f k)] rfl rfl (Lx.cellNew wr (.string (s.extract f k)) 9) (by simp [Value.oneCell']) (by unfold maxLen; omega) (by omega) ((Hb.out.alloc Hb.out.size _).size) ?_)
            intro v' w2 hown2 hgrow _
            have hb2 := Lib.hid ((Hb.out.alloc Hb.out.size (.cells #[.string (s.extract f k)] 9)).grown hgrow (Hb.out.alloc Hb.out.size _).size (Lx.ownBase Hrow.out))
            have Hown := Lib.hid hown2
            clear hgrow hown2
            go_wp2_with fail
            go_roundw
            case rel => exact ⟨Q ++ [s.extract f k], k + 1, k + 1, by omega, by go_num, by go_num, HH.out, by rw [List.length_append, HQ.out, Lx.map_snocS]; exact Hown.out, hb2.out⟩
            case measure => simp [intOf]; omega
        · have hfi2 : decide ((f : Int) < (k : Int)) = false := decide_eq_false (by omega)
          have hfi3 : decide (f < k) = false := decide_eq_false (by omega)
          have HH := Lib.hid (Lx.wdI_skip HI.out hlt hc hf)
          rcases Lx.blank_yes hc with hc1 | ⟨hc1, hc2⟩
          all_goals
            clear hc
            go_wp2_with fail
            go_roundw
            case rel => exact ⟨Q, k + 1, k + 1, by omega, by go_num, by go_num, HH.out, by rw [HQ.out]; exact Hrow.out, Hb.out⟩
            case measure => simp [intOf]; omega
    · by_cases he : k = s.size
      · subst he
        have hke : (s.size : Int) ≤ (s.size : Int) := by omega
        have hkb : ((s.size : Int) == (s.size : Int)) = true := by rw [beq_iff_eq]
        by_cases hf : f < s.size
        · have hfi2 : (f : Int) < (s.size : Int) := by omega
          have HH := Lib.hid (Lx.wdI_last HI.out hf)
          go_wp2_with (at_builtin; refine wpList_append_own _ rfl _ _ 47 rfl w.heap.size 9 i0 _ 1 16 Tryz.underlying47 hi hz0 hz1 hz2 rfl (by decide) _ _ _ rfl (Hrow.out.alloc _) ⟨wr.heap.size, 0, none⟩ 1 1 [.string (s.extract f s.size)] rfl rfl (Lx.cellNew wr (.string (s.extract f s.size)) 9) (by simp [Value.oneCell']) (by unfold maxLen; omega) (by omega) ((Hb.out.alloc Hb.out.size _).size) ?_)
          intro v' w2 hown2 hgrow _
          have hb2 := Lib.hid ((Hb.out.alloc Hb.out.size (.cells #[.string (s.extract f s.size)] 9)).grown hgrow (Hb.out.alloc Hb.out.size _).size (Lx.ownBase Hrow.out))
          have Hown := Lib.hid hown2
          clear hgrow hown2
          go_wp2_with fail
          go_roundw
          case rel => exact ⟨Q ++ [s.extract f s.size], s.size + 1, s.size + 1, Nat.le_refl _, by go_num, by go_num, HH.out, by rw [List.length_append, HQ.out, Lx.map_snocS]; exact Hown.out, hb2.out⟩
          case measure => simp [intOf]
        · have hfi2 : decide ((f : Int) < (s.size : Int)) = false := decide_eq_false (by omega)
          have hfi3 : decide (f < s.size) = false := decide_eq_false (by omega)
          have HH := Lib.hid (Lx.wdI_none HI.out hf)
          go_wp2_with fail
          go_roundw
          case rel => exact ⟨Q, s.size + 1, s.size + 1, Nat.le_refl _, by go_num, by go_num, HH.out, by rw [HQ.out]; exact Hrow.out, Hb.out⟩
          case measure => simp [intOf]
      · obtain rfl : k = s.size + 1 := by omega
        have hki : decide (((s.size + 1 : Nat) : Int) ≤ (s.size : Int)) = false := decide_eq_false (by omega)
        have hki2 : decide (s.size + 1 ≤ s.size) = false := decide_eq_false (by omega)
        have HF := Lib.hid (Lx.wdI_fin HI.out)
        go_wp2_with fail
        go_ret
        exact ⟨_, rfl, by rw [← HF.out, HQ.out]; exact Hrow.out, Hb.out⟩
end Go.Proofs.YtdpjcbijddgpgaaGreatDoor
namespace Go.Proofs.YtdpjcbijddgpgaaGreatDoor
open Go.RowKit

theorem q14worst1 (x : Int) (w : World) : Calls Tryz.prog 41 #[.slice (some ⟨w.heap.size, 0, none⟩) 1 1] (w.alloc (.cells #[.int .i64 x] 31)) fun e w' => e = .returned (.int .i64 (Lx.firstE [x])) ∧ w.alloc (.cells #[.int .i64 x] 31) = w' :=
  q14worst_any w.heap.size 1 1 [x] _ rfl (by omega) (icells_new w [x] _)
theorem q14worst3 (x0 x1 x2 : Int) (w : World) : Calls Tryz.prog 41 #[.slice (some ⟨w.heap.size, 0, none⟩) 3 3] (w.alloc (.cells #[.int .i64 x0, .int .i64 x1, .int .i64 x2] 31)) fun e w' => e = .returned (.int .i64 (Lx.firstE [x0, x1, x2])) ∧ w.alloc (.cells #[.int .i64 x0, .int .i64 x1, .int .i64 x2] 31) = w' :=
  q14worst_any w.heap.size 3 3 [x0, x1, x2] _ rfl (by omega) (icells_new w [x0, x1, x2] _)
theorem q14worst4 (x0 x1 x2 x3 : Int) (w : World) : Calls Tryz.prog 41 #[.slice (some ⟨w.heap.size, 0, none⟩) 4 4] (w.alloc (.cells #[.int .i64 x0, .int .i64 x1, .int .i64 x2, .int .i64 x3] 31)) fun e w' => e = .returned (.int .i64 (Lx.firstE [x0, x1, x2, x3])) ∧ w.alloc (.cells #[.int .i64 x0, .int .i64 x1, .int .i64 x2, .int .i64 x3] 31) = w' :=
  q14worst_any w.heap.size 4 4 [x0, x1, x2, x3] _ rfl (by omega) (icells_new w [x0, x1, x2, x3] _)
namespace Lx
theorem drop_data {s : ByteArray} {k : Nat} : (s.extract k s.size).data.toList = s.data.toList.drop k := by
  rw [data_take]
  exact List.take_of_length_le (by rw [List.length_drop, ← Lib.size_eq]; exact Nat.le_refl _)
theorem firstE_one {x : Int} (h : x = 0 ∨ x = 10 ∨ x = 16) : firstE [x] = x := by rcases h with rfl | rfl | rfl <;> rfl
theorem fst_two {a b : Int} (hb : b = 0 ∨ b = 16) : firstE [a, b] = if a = 0 then b else firstE [a] := by
  by_cases h0 : a = 0
  · subst h0; rw [if_pos rfl]; rcases hb with rfl | rfl <;> rfl
  · rw [if_neg h0]
    by_cases h1 : a = 10
    · subst h1; rcases hb with rfl | rfl <;> rfl
    · unfold firstE
      rcases hb with rfl | rfl <;> simp [h0, Ne.symm h1]
theorem brErr_two (f o p : Int) : brErr f o p = 0 ∨ brErr f o p = 16 := by unfold brErr; split <;> simp
theorem reErr_two (m b c j : Int) : reErr m b c j = 0 ∨ reErr m b c j = 16 := by unfold reErr; split <;> simp
theorem limErr_two (t u : Int) : limErr t u = 0 ∨ limErr t u = 16 := by unfold limErr; split <;> simp
theorem cellAt1 (w : World) (o : Obj) (cs : Array Value) (T : TypeId) (j : Nat) (v : Value) (h : cs[j]? = some v) : ((w.alloc o).alloc (.cells cs T)).cell? ⟨w.heap.size + 1, j, none⟩ = some v := by
  have := Lx.cellR (w.alloc o) cs T j v h
  rwa [show (w.alloc o).heap.size = w.heap.size + 1 by simp] at this
theorem set3 {W : World} {g : Nat} {a b c : Value} (h0 : W.cell? ⟨g, 0, none⟩ = some a) (h1 : W.cell? ⟨g, 1, none⟩ = some b) (h2 : W.cell? ⟨g, 2, none⟩ = some c) (x y z : Value) :
    (((W.setCell ⟨g, 0, none⟩ x).setCell ⟨g, 1, none⟩ y).setCell ⟨g, 2, none⟩ z).cell? ⟨g, 0, none⟩ = some x ∧ (((W.setCell ⟨g, 0, none⟩ x).setCell ⟨g, 1, none⟩ y).setCell ⟨g, 2, none⟩ z).cell? ⟨g, 1, none⟩ = some y ∧ (((W.setCell ⟨g, 0, none⟩ x).setCell ⟨g, 1, none⟩ y).setCell ⟨g, 2, none⟩ z).cell? ⟨g, 2, none⟩ = some z := by
  have o (w : World) (i j : Nat) (u : Value) (h : i ≠ j) : (w.setCell ⟨g, i, none⟩ u).cell? ⟨g, j, none⟩ = w.cell? ⟨g, j, none⟩ := World.cell?_setCell_other _ _ _ _ (by intro c; injection c with _ c2 _; first | exact h c2 | exact h c2.symm)
  have s (w : World) (i : Nat) (u v : Value) (h : w.cell? ⟨g, i, none⟩ = some u) : (w.setCell ⟨g, i, none⟩ v).cell? ⟨g, i, none⟩ = some v := World.cell?_setCell_same _ _ _ h
  refine ⟨?_, ?_, ?_⟩
  · rw [o _ _ _ _ (by decide), o _ _ _ _ (by decide)]; exact s _ _ _ _ h0
  · rw [o _ _ _ _ (by decide)]; exact s _ _ _ _ ((o _ _ _ _ (by decide)).trans h1)
  · exact s _ _ _ _ ((o _ _ _ _ (by decide)).trans ((o _ _ _ _ (by decide)).trans h2))
theorem set4 {W : World} {g : Nat} {a b c d : Value} (h0 : W.cell? ⟨g, 0, none⟩ = some a) (h1 : W.cell? ⟨g, 1, none⟩ = some b) (h2 : W.cell? ⟨g, 2, none⟩ = some c) (h3 : W.cell? ⟨g, 3, none⟩ = some d) (x y z t : Value) :
    ((((W.setCell ⟨g, 0, none⟩ x).setCell ⟨g, 1, none⟩ y).setCell ⟨g, 2, none⟩ z).setCell ⟨g, 3, none⟩ t).cell? ⟨g, 0, none⟩ = some x ∧ ((((W.setCell ⟨g, 0, none⟩ x).setCell ⟨g, 1, none⟩ y).setCell ⟨g, 2, none⟩ z).setCell ⟨g, 3, none⟩ t).cell? ⟨g, 1, none⟩ = some y ∧ ((((W.setCell ⟨g, 0, none⟩ x).setCell ⟨g, 1, none⟩ y).setCell ⟨g, 2, none⟩ z).setCell ⟨g, 3, none⟩ t).cell? ⟨g, 2, none⟩ = some z ∧ ((((W.setCell ⟨g, 0, none⟩ x).setCell ⟨g, 1, none⟩ y).setCell ⟨g, 2, none⟩ z).setCell ⟨g, 3, none⟩ t).cell? ⟨g, 3, none⟩ = some t := by
  have o (w : World) (i j : Nat) (u : Value) (h : i ≠ j) : (w.setCell ⟨g, i, none⟩ u).cell? ⟨g, j, none⟩ = w.cell? ⟨g, j, none⟩ := World.cell?_setCell_other _ _ _ _ (by intro c; injection c with _ c2 _; first | exact h c2 | exact h c2.symm)
  obtain ⟨k0, k1, k2⟩ := set3 h0 h1 h2 x y z
  refine ⟨(o _ _ _ _ (by decide)).trans k0, (o _ _ _ _ (by decide)).trans k1, (o _ _ _ _ (by decide)).trans k2, ?_⟩
  exact World.cell?_setCell_same _ _ _ ((o _ _ _ _ (by decide)).trans ((o _ _ _ _ (by decide)).trans ((o _ _ _ _ (by decide)).trans h3)))
end Lx
set_option maxRecDepth 100000 in
set_option maxHeartbeats 1600000 in
theorem q14misf_any (s : ByteArray) (w : World) (hs : s.size ≤ 1000000) :
    Calls Tryz.prog 37 #[.string s] w fun e w' => e = .returned (.tuple #[.int .i64 (Lx.rdMis s.data.toList).1.mis, .int .i64 (Lx.rdMis s.data.toList).1.keep, .int .i64 (Lx.firstE [(Lx.rdMis s.data.toList).2])]) ∧ Below w.heap.size w w' := by
  by_cases h0 : s.data.toList = [100, 114, 111, 112]
  · have hv : Lx.misIx s.data.toList = 0 := by rw [h0]; rfl
    have hr : Lx.rdMis s.data.toList = ({ Lx.polZ with mis := 0 }, 0) := by unfold Lx.rdMis; rw [hv, if_pos (by omega)]; rfl
    rw [hr]
    have e0 : (s.toList == [100, 114, 111, 112]) = true := by rw [beq_iff_eq, Lib.toList_data]; exact h0
    clear hv hr h0
    go_enter Tryz.func37, Tryz.ntmps37
    go_wp2_with fail
    go_ret3
    exact ⟨rfl, Below.refl _ _⟩
  have e0 : (s.toList == [100, 114, 111, 112]) = false := by rw [beq_eq_false_iff_ne, Lib.toList_data]; exact h0
  by_cases h1 : s.data.toList = [108, 97, 115, 116]
  · have hv : Lx.misIx s.data.toList = 1 := by rw [h1]; rfl
    have hr : Lx.rdMis s.data.toList = ({ Lx.polZ with mis := 1 }, 0) := by unfold Lx.rdMis; rw [hv, if_pos (by omega)]; rfl
    rw [hr]
    have e1 : (s.toList == [108, 97, 115, 116]) = true := by rw [beq_iff_eq, Lib.toList_data]; exact h1
    clear hv hr h0 h1
    go_enter Tryz.func37, Tryz.ntmps37
    go_wp2_with fail
    go_ret3
    exact ⟨rfl, Below.refl _ _⟩
  have e1 : (s.toList == [108, 97, 115, 116]) = false := by rw [beq_eq_false_iff_ne, Lib.toList_data]; exact h1
  by_cases h2 : s.data.toList = [97, 108, 108]
  · have hv : Lx.misIx s.data.toList = 2 := by rw [h2]; rfl
    have hr : Lx.rdMis s.data.toList = ({ Lx.polZ with mis := 2 }, 0) := by unfold Lx.rdMis; rw [hv, if_pos (by omega)]; rfl
    rw [hr]
    have e2 : (s.toList == [97, 108, 108]) = true := by rw [beq_iff_eq, Lib.toList_data]; exact h2
    clear hv hr h0 h1 h2
    go_enter Tryz.func37, Tryz.ntmps37
    go_wp2_with fail
    go_ret3
    exact ⟨rfl, Below.refl _ _⟩
  have e2 : (s.toList == [97, 108, 108]) = false := by rw [beq_eq_false_iff_ne, Lib.toList_data]; exact h2
  have hv : ¬ Lx.misIx s.data.toList < 3 := by
    have e : Lx.misIx s.data.toList = 3 := by unfold Lx.misIx; rw [if_neg (show ¬ s.data.toList = Lx.misW 0 from h0), if_neg (show ¬ s.data.toList = Lx.misW 1 from h1), if_neg (show ¬ s.data.toList = Lx.misW 2 from h2)]
    omega
  by_cases h5 : s.size < 5
  · have hr : Lx.rdMis s.data.toList = (Lx.polZ, 10) := by
      unfold Lx.rdMis; rw [if_neg hv, if_neg]
      intro c
      have := congrArg List.length c
      rw [List.length_take, ← Lib.size_eq] at this
      have h6 : Lx.someW.length = 5 := rfl
      omega
    rw [hr]
    have hki : (s.size : Int) < 5 := by omega
    clear hv hr h0 h1 h2 h5
    go_enter Tryz.func37, Tryz.ntmps37
    go_wp2_with fail
    go_ret3
    exact ⟨rfl, Below.refl _ _⟩
  have hki : (5 : Int) ≤ (s.size : Int) := by omega
  have hki2 : decide ((s.size : Int) < 5) = false := decide_eq_false (by omega)
  have et : (s.extract 0 5).data.toList = s.data.toList.take 5 := by rw [Lx.data_take]; rfl
  by_cases hw : s.data.toList.take 5 = Lx.someW
  · have hr : Lx.rdMis s.data.toList = ({ Lx.polZ with mis := 3, keep := Lx.intV (s.data.toList.drop 5) 1 100 }, Lx.intE (s.data.toList.drop 5) 1 100) := by unfold Lx.rdMis; rw [if_neg hv, if_pos hw]
    rw [hr]
    have es : ((s.extract 0 5).toList == [115, 111, 109, 101, 58]) = true := by rw [beq_iff_eq, Lib.toList_data, et, hw]; rfl
    have HN := fun W => q14number_any (s.extract 5 s.size) 1 100 W (by rw [ByteArray.size_extract]; omega)
    rw [Lx.drop_data] at HN
    dsimp only
    generalize Lx.intV (s.data.toList.drop 5) 1 100 = v at *
    generalize Lx.intE (s.data.toList.drop 5) 1 100 = x at *
    have HN := Lib.hid HN
    clear hv hr h0 h1 h2 h5 et hw
    go_enter Tryz.func37, Tryz.ntmps37
    go_wp2_with fail
    refine (HN.out _).mono ?_
    rintro e w1 ⟨rfl, rfl⟩
    go_wp2_with fail
    refine (q14worst1 x _).mono ?_
    rintro e w2 ⟨rfl, rfl⟩
    go_wp2_with fail
    go_ret3
    exact ⟨rfl, (Below.refl _ w).alloc (Nat.le_refl _) _⟩
  have hr : Lx.rdMis s.data.toList = (Lx.polZ, 10) := by unfold Lx.rdMis; rw [if_neg hv, if_neg hw]
  rw [hr]
  have es : ((s.extract 0 5).toList == [115, 111, 109, 101, 58]) = false := by rw [beq_eq_false_iff_ne, Lib.toList_data, et]; exact hw
  clear hv hr h0 h1 h2 h5 et hw
  go_enter Tryz.func37, Tryz.ntmps37
  go_wp2_with fail
  go_ret3
  exact ⟨rfl, Below.refl _ _⟩
set_option maxRecDepth 100000 in
set_option maxHeartbeats 1600000 in
theorem q14brk_any (s : ByteArray) (w : World) (hs : s.size ≤ 1000000) :
    Calls Tryz.prog 39 #[.string s] w fun e w' => e = .returned (.tuple #[.agg #[.int .i64 (Lx.rdBr s).1.bf, .int .i64 (Lx.rdBr s).1.bo, .int .i64 (Lx.rdBr s).1.bp], .int .i64 (Lx.rdBr s).2]) ∧ Below w.heap.size w w' := by
  have b0 : Below w.heap.size w (w.alloc (.cells #[.int .i64 0, .int .i64 0, .int .i64 0] 25)) := (Below.refl _ w).alloc (Nat.le_refl _) _
  by_cases hz : s.data.toList = Lx.noneW
  · have hr : Lx.rdBr s = (Lx.polZ, 0) := by unfold Lx.rdBr; rw [if_pos hz]
    rw [hr]
    have e0 : (s.toList == [110, 111, 110, 101]) = true := by rw [beq_iff_eq, Lib.toList_data]; exact hz
    clear hz hr
    go_enter Tryz.func39, Tryz.ntmps39
    go_wp2_with fail
    refine bodyPost_ret (v := .tuple #[.agg #[.int .i64 0, .int .i64 0, .int .i64 0], .int .i64 0]) (by simp [results, Tryz.results39, go_sem]) rfl ⟨rfl, ?_⟩
    exact b0
  have e0 : (s.toList == [110, 111, 110, 101]) = false := by rw [beq_eq_false_iff_ne, Lib.toList_data]; exact hz
  have HP := Lib.hid (fun W => q14parts_any s W hs)
  have hbd := Lx.slS_bd s
  obtain ⟨W0, hW0⟩ : ∃ W0, W0 = w.alloc (.cells #[.int .i64 0, .int .i64 0, .int .i64 0] 25) := ⟨_, rfl⟩
  rw [← hW0] at b0
  have HQ := Lib.hid (show ∀ wx, Below W0.heap.size W0 wx → wx.cell? ⟨w.heap.size, 0, none⟩ = some (.int .i64 0) ∧ wx.cell? ⟨w.heap.size, 1, none⟩ = some (.int .i64 0) ∧ wx.cell? ⟨w.heap.size, 2, none⟩ = some (.int .i64 0) ∧ wx.frozen? ⟨w.heap.size, 0, none⟩ = false ∧ wx.frozen? ⟨w.heap.size, 1, none⟩ = false ∧ wx.frozen? ⟨w.heap.size, 2, none⟩ = false from fun wx b => by
    have hlt : w.heap.size < W0.heap.size := by rw [hW0]; simp
    refine ⟨?_, ?_, ?_, ?_, ?_, ?_⟩
    · exact (b.cell (p := ⟨w.heap.size, 0, none⟩) hlt).trans (by rw [hW0]; simp)
    · exact (b.cell (p := ⟨w.heap.size, 1, none⟩) hlt).trans (by rw [hW0]; simp)
    · exact (b.cell (p := ⟨w.heap.size, 2, none⟩) hlt).trans (by rw [hW0]; simp)
    · exact (b.frozen (p := ⟨w.heap.size, 0, none⟩) hlt).trans (by rw [hW0]; simp)
    · exact (b.frozen (p := ⟨w.heap.size, 1, none⟩) hlt).trans (by rw [hW0]; simp)
    · exact (b.frozen (p := ⟨w.heap.size, 2, none⟩) hlt).trans (by rw [hW0]; simp))
  have hpos : 0 < (Lx.slS s).length := by rw [Lx.slS_len]; omega
  by_cases hlen : (Lx.slS s).length = 3
  · obtain ⟨p0, p1, p2, hL⟩ : ∃ p0 p1 p2, Lx.slS s = [p0, p1, p2] := by
      match h : Lx.slS s, hlen with
      | [p0, p1, p2], _ => exact ⟨p0, p1, p2, rfl⟩
    have hbs : p0.size ≤ 1000000 ∧ p1.size ≤ 1000000 ∧ p2.size ≤ 1000000 := ⟨Nat.le_trans (hbd.1 p0 (by rw [hL]; simp)) hs, Nat.le_trans (hbd.1 p1 (by rw [hL]; simp)) hs, Nat.le_trans (hbd.1 p2 (by rw [hL]; simp)) hs⟩
    have hr : Lx.rdBr s = ({ Lx.polZ with bf := (Lx.intV p0.data.toList 1 100), bo := (Lx.parV p1.data.toList), bp := (Lx.intV p2.data.toList 1 100) }, if Lx.firstE [(Lx.intE p0.data.toList 1 100), (Lx.parE p1.data.toList), (Lx.intE p2.data.toList 1 100)] = 0 then Lx.brErr (Lx.intV p0.data.toList 1 100) (Lx.parV p1.data.toList) (Lx.intV p2.data.toList 1 100) else Lx.firstE [(Lx.intE p0.data.toList 1 100), (Lx.parE p1.data.toList), (Lx.intE p2.data.toList 1 100)]) := by
      unfold Lx.rdBr; rw [if_neg hz, if_neg (fun c => c hlen), hL]
      show (_, Lx.firstE [Lx.firstE [(Lx.intE p0.data.toList 1 100), (Lx.parE p1.data.toList), (Lx.intE p2.data.toList 1 100)], Lx.brErr (Lx.intV p0.data.toList 1 100) (Lx.parV p1.data.toList) (Lx.intV p2.data.toList 1 100)]) = _
      rw [Lx.fst_two (Lx.brErr_two _ _ _), Lx.firstE_one (Lx.firstE_three _)]
      rfl
    rw [hr]
    dsimp only
    have H0 := fun W => q14number_any p0 1 100 W (by omega)
    have H1 := fun W => ref_parse_any p1 (by omega) W
    have H2 := fun W => q14number_any p2 1 100 W (by omega)
    generalize Lx.intV p0.data.toList 1 100 = v0 at *
    generalize Lx.intE p0.data.toList 1 100 = x0 at *
    generalize Lx.parV p1.data.toList = v1 at *
    generalize Lx.parE p1.data.toList = x1 at *
    generalize Lx.intV p2.data.toList 1 100 = v2 at *
    generalize Lx.intE p2.data.toList 1 100 = x2 at *
    have H0 := Lib.hid H0
    have H1 := Lib.hid H1
    have H2 := Lib.hid H2
    have HCk := Lib.hid (fun W => q14br_any v0 v1 v2 W)
    have hzb := hz
    rw [hL] at HP
    generalize Lx.brErr v0 v1 v2 = ce at *
    clear hr hz hzb hbd hpos hlen hL hbs
    obtain ⟨X, hX⟩ : ∃ X, X = Lx.firstE [x0, x1, x2] := ⟨_, rfl⟩
    rw [← hX]
    have HX := Lib.hid hX
    clear hX
    obtain ⟨E, hE⟩ : ∃ E, E = if X = 0 then ce else X := ⟨_, rfl⟩
    rw [← hE]
    have HE := Lib.hid hE
    clear hE
    have HWx := Lib.hid (fun W => q14worst3 x0 x1 x2 W)
    rw [← HX.out] at HWx
    go_enter Tryz.func39, Tryz.ntmps39
    go_upto_region 1 with (fail)
    rw [show w.alloc (.cells #[.int .i64 0, .int .i64 0, .int .i64 0] 25) = W0 from hW0.symm]
    clear hW0
    have B0 := Lib.hid b0
    clear b0
    go_wp2_with fail
    refine (HP.out _).mono ?_
    rintro e w1 ⟨v, rfl, hrow, c1⟩
    obtain ⟨A, c, rfl, hA, _, hcell⟩ := Lx.ownCap hrow (show 0 < [p0, p1, p2].length by simp)
    have C1 := Lib.hid c1
    clear c1 hrow
    have a0 := hcell 0 _ (show _ = some (.string p0) from rfl)
    have a1 := hcell 1 _ (show _ = some (.string p1) from rfl)
    have a2 := hcell 2 _ (show _ = some (.string p2) from rfl)
    have HA := Lib.hid (show ∀ wx, Below w1.heap.size w1 wx → wx.cell? ⟨A, 0, none⟩ = some (.string p0) ∧ wx.cell? ⟨A, 1, none⟩ = some (.string p1) ∧ wx.cell? ⟨A, 2, none⟩ = some (.string p2) from fun wx b => ⟨(b.cell (p := ⟨A, 0, none⟩) hA).trans a0, (b.cell (p := ⟨A, 1, none⟩) hA).trans a1, (b.cell (p := ⟨A, 2, none⟩) hA).trans a2⟩)
    clear hcell hA
    go_wp2_with fail
    refine (H0.out _).mono ?_
    rintro e w10 ⟨rfl, rfl⟩
    go_wp2_with fail
    refine (H1.out _).mono ?_
    rintro e w11 ⟨rfl, c1⟩
    have D1 := Lib.hid (c1)
    clear c1 a0 a1 a2
    obtain ⟨a0, a1, a2⟩ := HA.out w11 D1.out
    go_wp2_with fail
    refine (H2.out _).mono ?_
    rintro e w12 ⟨rfl, rfl⟩
    clear a0 a1 a2
    go_wp2_with fail
    refine (HWx.out _).mono ?_
    rintro e w20 ⟨rfl, rfl⟩
    have F1 := Lib.hid (C1.out.trans (D1.out.mono C1.out.size))
    have F2 := Lib.hid ((F1.out.alloc F1.out.size (.cells #[.int .i64 x0, .int .i64 x1, .int .i64 x2] 31)).alloc (F1.out.alloc F1.out.size (.cells #[.int .i64 x0, .int .i64 x1, .int .i64 x2] 31)).size (.cells #[.int .i64 v0, .int .i64 v1, .int .i64 v2] 25))
    by_cases hx : X = 0
    · have HE2 := Lib.hid (show E = ce from by rw [HE.out, if_pos hx])
      clear HE
      subst hx
      clear HX
      go_wp2_with fail
      refine (HCk.out _).mono ?_
      rintro e w21 ⟨rfl, c21⟩
      have hc0 := (Below.refl _ (w11.alloc (.cells #[.int .i64 x0, .int .i64 x1, .int .i64 x2] 31))).alloc (Nat.le_refl _) (.cells #[.int .i64 v0, .int .i64 v1, .int .i64 v2] 25)
      have t0 := (c21.cell (p := ⟨w11.heap.size + 1, 0, none⟩) (by simp)).trans (Lx.cellAt1 w11 _ _ _ _ _ (show _ = some (.int .i64 v0) from rfl))
      have t1 := (c21.cell (p := ⟨w11.heap.size + 1, 1, none⟩) (by simp)).trans (Lx.cellAt1 w11 _ _ _ _ _ (show _ = some (.int .i64 v1) from rfl))
      have t2 := (c21.cell (p := ⟨w11.heap.size + 1, 2, none⟩) (by simp)).trans (Lx.cellAt1 w11 _ _ _ _ _ (show _ = some (.int .i64 v2) from rfl))
      have F3 := Lib.hid (F2.out.trans (c21.mono F2.out.size))
      obtain ⟨z0, z1, z2, y0, y1, y2⟩ := HQ.out w21 F3.out
      have G3 := Lib.hid (B0.out.trans (F3.out.mono B0.out.size))
      clear c21 hc0
      go_wp2_with fail
      have hD := Lx.set3 z0 z1 z2 (.int .i64 v0) (.int .i64 v1) (.int .i64 v2)
      obtain ⟨d0, d1, d2⟩ := hD
      generalize hW9 : (((w21.setCell ⟨w.heap.size, 0, none⟩ (.int .i64 v0)).setCell ⟨w.heap.size, 1, none⟩ (.int .i64 v1)).setCell ⟨w.heap.size, 2, none⟩ (.int .i64 v2)) = W9 at d0 d1 d2 ⊢
      refine bodyPost_ret (v := .tuple #[.agg #[.int .i64 v0, .int .i64 v1, .int .i64 v2], .int .i64 ce]) (by simp [results, Tryz.results39, go_sem, d0, d1, d2]) rfl ⟨by rw [HE2.out], ?_⟩
      rw [← hW9]
      exact (((G3.out.setCell (Nat.le_refl _) _).setCell (Nat.le_refl _) _).setCell (Nat.le_refl _) _)
    have hxb : (X == 0) = false := by rw [beq_eq_false_iff_ne]; exact hx
    clear HX
    obtain ⟨z0, z1, z2, y0, y1, y2⟩ := HQ.out _ F2.out
    have G3 := Lib.hid (B0.out.trans (F2.out.mono B0.out.size))
    have HE2 := Lib.hid (show E = X from by rw [HE.out, if_neg hx])
    clear hx
    go_wp2_with fail
    have hD := Lx.set3 z0 z1 z2 (.int .i64 v0) (.int .i64 v1) (.int .i64 v2)
    obtain ⟨d0, d1, d2⟩ := hD
    generalize hW9 : (((((w11.alloc (.cells #[.int .i64 x0, .int .i64 x1, .int .i64 x2] 31)).alloc (.cells #[.int .i64 v0, .int .i64 v1, .int .i64 v2] 25)).setCell ⟨w.heap.size, 0, none⟩ (.int .i64 v0)).setCell ⟨w.heap.size, 1, none⟩ (.int .i64 v1)).setCell ⟨w.heap.size, 2, none⟩ (.int .i64 v2)) = W9 at d0 d1 d2 ⊢
    refine bodyPost_ret (v := .tuple #[.agg #[.int .i64 v0, .int .i64 v1, .int .i64 v2], .int .i64 X]) (by simp [results, Tryz.results39, go_sem, d0, d1, d2]) rfl ⟨by rw [HE2.out], ?_⟩
    rw [← hW9]
    exact (((G3.out.setCell (Nat.le_refl _) _).setCell (Nat.le_refl _) _).setCell (Nat.le_refl _) _)
  have hr : Lx.rdBr s = (Lx.polZ, 10) := by unfold Lx.rdBr; rw [if_neg hz, if_pos hlen]
  rw [hr]
  obtain ⟨N, hN⟩ : ∃ N, N = (Lx.slS s).length := ⟨_, rfl⟩
  rw [← hN] at HP hpos hlen hbd
  have hN2 : ((N : Int) != 3) = true := by rw [bne_iff_ne]; omega
  clear hr hz hN
  go_enter Tryz.func39, Tryz.ntmps39
  go_upto_region 1 with (fail)
  rw [show w.alloc (.cells #[.int .i64 0, .int .i64 0, .int .i64 0] 25) = W0 from hW0.symm]
  clear hW0
  have B0 := Lib.hid b0
  clear b0
  go_wp2_with fail
  refine (HP.out _).mono ?_
  rintro e w1 ⟨v, rfl, hrow, c1⟩
  obtain ⟨A, c, rfl, hA, _, hcell⟩ := Lx.ownCap hrow (by omega)
  have C1 := Lib.hid c1
  clear c1 hrow
  clear hcell hA hlen hbd
  obtain ⟨z0, z1, z2, y0, y1, y2⟩ := HQ.out w1 C1.out
  go_wp2_with fail
  have hD := Lx.set3 z0 z1 z2 (.int .i64 0) (.int .i64 0) (.int .i64 0)
  obtain ⟨d0, d1, d2⟩ := hD
  generalize hW9 : (((w1.setCell ⟨w.heap.size, 0, none⟩ (.int .i64 0)).setCell ⟨w.heap.size, 1, none⟩ (.int .i64 0)).setCell ⟨w.heap.size, 2, none⟩ (.int .i64 0)) = W9 at d0 d1 d2 ⊢
  refine bodyPost_ret (v := .tuple #[.agg #[.int .i64 0, .int .i64 0, .int .i64 0], .int .i64 10]) (by simp [results, Tryz.results39, go_sem, d0, d1, d2]) rfl ⟨rfl, ?_⟩
  rw [← hW9]
  have G := B0.out.trans (C1.out.mono B0.out.size)
  exact (((G.setCell (Nat.le_refl _) _).setCell (Nat.le_refl _) _).setCell (Nat.le_refl _) _)
set_option maxRecDepth 100000 in
set_option maxHeartbeats 1600000 in
theorem q14rtr_any (s : ByteArray) (w : World) (hs : s.size ≤ 1000000) :
    Calls Tryz.prog 40 #[.string s] w fun e w' => e = .returned (.tuple #[.agg #[.int .i64 (Lx.rdRe s).1.rm, .int .i64 (Lx.rdRe s).1.rb, .int .i64 (Lx.rdRe s).1.rc, .int .i64 (Lx.rdRe s).1.rj], .int .i64 (Lx.rdRe s).2]) ∧ Below w.heap.size w w' := by
  have b0 : Below w.heap.size w (w.alloc (.cells #[.int .i64 0, .int .i64 0, .int .i64 0, .int .i64 0] 27)) := (Below.refl _ w).alloc (Nat.le_refl _) _
  by_cases hz : s.data.toList = Lx.noneW
  · have hr : Lx.rdRe s = (Lx.polZ, 0) := by unfold Lx.rdRe; rw [if_pos hz]
    rw [hr]
    have e0 : (s.toList == [110, 111, 110, 101]) = true := by rw [beq_iff_eq, Lib.toList_data]; exact hz
    clear hz hr
    go_enter Tryz.func40, Tryz.ntmps40
    go_wp2_with fail
    refine bodyPost_ret (v := .tuple #[.agg #[.int .i64 0, .int .i64 0, .int .i64 0, .int .i64 0], .int .i64 0]) (by simp [results, Tryz.results40, go_sem]) rfl ⟨rfl, ?_⟩
    exact b0
  have e0 : (s.toList == [110, 111, 110, 101]) = false := by rw [beq_eq_false_iff_ne, Lib.toList_data]; exact hz
  have HP := Lib.hid (fun W => q14parts_any s W hs)
  have hbd := Lx.slS_bd s
  obtain ⟨W0, hW0⟩ : ∃ W0, W0 = w.alloc (.cells #[.int .i64 0, .int .i64 0, .int .i64 0, .int .i64 0] 27) := ⟨_, rfl⟩
  rw [← hW0] at b0
  have HQ := Lib.hid (show ∀ wx, Below W0.heap.size W0 wx → wx.cell? ⟨w.heap.size, 0, none⟩ = some (.int .i64 0) ∧ wx.cell? ⟨w.heap.size, 1, none⟩ = some (.int .i64 0) ∧ wx.cell? ⟨w.heap.size, 2, none⟩ = some (.int .i64 0) ∧ wx.cell? ⟨w.heap.size, 3, none⟩ = some (.int .i64 0) ∧ wx.frozen? ⟨w.heap.size, 0, none⟩ = false ∧ wx.frozen? ⟨w.heap.size, 1, none⟩ = false ∧ wx.frozen? ⟨w.heap.size, 2, none⟩ = false ∧ wx.frozen? ⟨w.heap.size, 3, none⟩ = false from fun wx b => by
    have hlt : w.heap.size < W0.heap.size := by rw [hW0]; simp
    refine ⟨?_, ?_, ?_, ?_, ?_, ?_, ?_, ?_⟩
    · exact (b.cell (p := ⟨w.heap.size, 0, none⟩) hlt).trans (by rw [hW0]; simp)
    · exact (b.cell (p := ⟨w.heap.size, 1, none⟩) hlt).trans (by rw [hW0]; simp)
    · exact (b.cell (p := ⟨w.heap.size, 2, none⟩) hlt).trans (by rw [hW0]; simp)
    · exact (b.cell (p := ⟨w.heap.size, 3, none⟩) hlt).trans (by rw [hW0]; simp)
    · exact (b.frozen (p := ⟨w.heap.size, 0, none⟩) hlt).trans (by rw [hW0]; simp)
    · exact (b.frozen (p := ⟨w.heap.size, 1, none⟩) hlt).trans (by rw [hW0]; simp)
    · exact (b.frozen (p := ⟨w.heap.size, 2, none⟩) hlt).trans (by rw [hW0]; simp)
    · exact (b.frozen (p := ⟨w.heap.size, 3, none⟩) hlt).trans (by rw [hW0]; simp))
  have hpos : 0 < (Lx.slS s).length := by rw [Lx.slS_len]; omega
  by_cases hlen : (Lx.slS s).length = 4
  · obtain ⟨p0, p1, p2, p3, hL⟩ : ∃ p0 p1 p2 p3, Lx.slS s = [p0, p1, p2, p3] := by
      match h : Lx.slS s, hlen with
      | [p0, p1, p2, p3], _ => exact ⟨p0, p1, p2, p3, rfl⟩
    have hbs : p0.size ≤ 1000000 ∧ p1.size ≤ 1000000 ∧ p2.size ≤ 1000000 ∧ p3.size ≤ 1000000 := ⟨Nat.le_trans (hbd.1 p0 (by rw [hL]; simp)) hs, Nat.le_trans (hbd.1 p1 (by rw [hL]; simp)) hs, Nat.le_trans (hbd.1 p2 (by rw [hL]; simp)) hs, Nat.le_trans (hbd.1 p3 (by rw [hL]; simp)) hs⟩
    have hr : Lx.rdRe s = ({ Lx.polZ with rm := (Lx.intV p0.data.toList 1 20), rb := (Lx.parV p1.data.toList), rc := (Lx.parV p2.data.toList), rj := (Lx.parV p3.data.toList) }, if Lx.firstE [(Lx.intE p0.data.toList 1 20), (Lx.parE p1.data.toList), (Lx.parE p2.data.toList), (Lx.parE p3.data.toList)] = 0 then Lx.reErr (Lx.intV p0.data.toList 1 20) (Lx.parV p1.data.toList) (Lx.parV p2.data.toList) (Lx.parV p3.data.toList) else Lx.firstE [(Lx.intE p0.data.toList 1 20), (Lx.parE p1.data.toList), (Lx.parE p2.data.toList), (Lx.parE p3.data.toList)]) := by
      unfold Lx.rdRe; rw [if_neg hz, if_neg (fun c => c hlen), hL]
      show (_, Lx.firstE [Lx.firstE [(Lx.intE p0.data.toList 1 20), (Lx.parE p1.data.toList), (Lx.parE p2.data.toList), (Lx.parE p3.data.toList)], Lx.reErr (Lx.intV p0.data.toList 1 20) (Lx.parV p1.data.toList) (Lx.parV p2.data.toList) (Lx.parV p3.data.toList)]) = _
      rw [Lx.fst_two (Lx.reErr_two _ _ _ _), Lx.firstE_one (Lx.firstE_three _)]
      rfl
    rw [hr]
    dsimp only
    have H0 := fun W => q14number_any p0 1 20 W (by omega)
    have H1 := fun W => ref_parse_any p1 (by omega) W
    have H2 := fun W => ref_parse_any p2 (by omega) W
    have H3 := fun W => ref_parse_any p3 (by omega) W
    generalize Lx.intV p0.data.toList 1 20 = v0 at *
    generalize Lx.intE p0.data.toList 1 20 = x0 at *
    generalize Lx.parV p1.data.toList = v1 at *
    generalize Lx.parE p1.data.toList = x1 at *
    generalize Lx.parV p2.data.toList = v2 at *
    generalize Lx.parE p2.data.toList = x2 at *
    generalize Lx.parV p3.data.toList = v3 at *
    generalize Lx.parE p3.data.toList = x3 at *
    have H0 := Lib.hid H0
    have H1 := Lib.hid H1
    have H2 := Lib.hid H2
    have H3 := Lib.hid H3
    have HCk := Lib.hid (fun W => q14re_any v0 v1 v2 v3 W)
    have hzb := hz
    rw [hL] at HP
    generalize Lx.reErr v0 v1 v2 v3 = ce at *
    clear hr hz hzb hbd hpos hlen hL hbs
    obtain ⟨X, hX⟩ : ∃ X, X = Lx.firstE [x0, x1, x2, x3] := ⟨_, rfl⟩
    rw [← hX]
    have HX := Lib.hid hX
    clear hX
    obtain ⟨E, hE⟩ : ∃ E, E = if X = 0 then ce else X := ⟨_, rfl⟩
    rw [← hE]
    have HE := Lib.hid hE
    clear hE
    have HWx := Lib.hid (fun W => q14worst4 x0 x1 x2 x3 W)
    rw [← HX.out] at HWx
    go_enter Tryz.func40, Tryz.ntmps40
    go_upto_region 1 with (fail)
    rw [show w.alloc (.cells #[.int .i64 0, .int .i64 0, .int .i64 0, .int .i64 0] 27) = W0 from hW0.symm]
    clear hW0
    have B0 := Lib.hid b0
    clear b0
    go_wp2_with fail
    refine (HP.out _).mono ?_
    rintro e w1 ⟨v, rfl, hrow, c1⟩
    obtain ⟨A, c, rfl, hA, _, hcell⟩ := Lx.ownCap hrow (show 0 < [p0, p1, p2, p3].length by simp)
    have C1 := Lib.hid c1
    clear c1 hrow
    have a0 := hcell 0 _ (show _ = some (.string p0) from rfl)
    have a1 := hcell 1 _ (show _ = some (.string p1) from rfl)
    have a2 := hcell 2 _ (show _ = some (.string p2) from rfl)
    have a3 := hcell 3 _ (show _ = some (.string p3) from rfl)
    have HA := Lib.hid (show ∀ wx, Below w1.heap.size w1 wx → wx.cell? ⟨A, 0, none⟩ = some (.string p0) ∧ wx.cell? ⟨A, 1, none⟩ = some (.string p1) ∧ wx.cell? ⟨A, 2, none⟩ = some (.string p2) ∧ wx.cell? ⟨A, 3, none⟩ = some (.string p3) from fun wx b => ⟨(b.cell (p := ⟨A, 0, none⟩) hA).trans a0, (b.cell (p := ⟨A, 1, none⟩) hA).trans a1, (b.cell (p := ⟨A, 2, none⟩) hA).trans a2, (b.cell (p := ⟨A, 3, none⟩) hA).trans a3⟩)
    clear hcell hA
    go_wp2_with fail
    refine (H0.out _).mono ?_
    rintro e w10 ⟨rfl, rfl⟩
    go_wp2_with fail
    refine (H1.out _).mono ?_
    rintro e w11 ⟨rfl, c1⟩
    have D1 := Lib.hid (c1)
    clear c1 a0 a1 a2 a3
    obtain ⟨a0, a1, a2, a3⟩ := HA.out w11 D1.out
    go_wp2_with fail
    refine (H2.out _).mono ?_
    rintro e w12 ⟨rfl, c2⟩
    have D2 := Lib.hid (D1.out.trans (c2.mono D1.out.size))
    clear c2 a0 a1 a2 a3
    obtain ⟨a0, a1, a2, a3⟩ := HA.out w12 D2.out
    go_wp2_with fail
    refine (H3.out _).mono ?_
    rintro e w13 ⟨rfl, c3⟩
    have D3 := Lib.hid (D2.out.trans (c3.mono D2.out.size))
    clear c3 a0 a1 a2 a3
    obtain ⟨a0, a1, a2, a3⟩ := HA.out w13 D3.out
    clear a0 a1 a2 a3
    go_wp2_with fail
    refine (HWx.out _).mono ?_
    rintro e w20 ⟨rfl, rfl⟩
    have F1 := Lib.hid (C1.out.trans (D3.out.mono C1.out.size))
    have F2 := Lib.hid ((F1.out.alloc F1.out.size (.cells #[.int .i64 x0, .int .i64 x1, .int .i64 x2, .int .i64 x3] 31)).alloc (F1.out.alloc F1.out.size (.cells #[.int .i64 x0, .int .i64 x1, .int .i64 x2, .int .i64 x3] 31)).size (.cells #[.int .i64 v0, .int .i64 v1, .int .i64 v2, .int .i64 v3] 27))
    by_cases hx : X = 0
    · have HE2 := Lib.hid (show E = ce from by rw [HE.out, if_pos hx])
      clear HE
      subst hx
      clear HX
      go_wp2_with fail
      refine (HCk.out _).mono ?_
      rintro e w21 ⟨rfl, c21⟩
      have hc0 := (Below.refl _ (w13.alloc (.cells #[.int .i64 x0, .int .i64 x1, .int .i64 x2, .int .i64 x3] 31))).alloc (Nat.le_refl _) (.cells #[.int .i64 v0, .int .i64 v1, .int .i64 v2, .int .i64 v3] 27)
      have t0 := (c21.cell (p := ⟨w13.heap.size + 1, 0, none⟩) (by simp)).trans (Lx.cellAt1 w13 _ _ _ _ _ (show _ = some (.int .i64 v0) from rfl))
      have t1 := (c21.cell (p := ⟨w13.heap.size + 1, 1, none⟩) (by simp)).trans (Lx.cellAt1 w13 _ _ _ _ _ (show _ = some (.int .i64 v1) from rfl))
      have t2 := (c21.cell (p := ⟨w13.heap.size + 1, 2, none⟩) (by simp)).trans (Lx.cellAt1 w13 _ _ _ _ _ (show _ = some (.int .i64 v2) from rfl))
      have t3 := (c21.cell (p := ⟨w13.heap.size + 1, 3, none⟩) (by simp)).trans (Lx.cellAt1 w13 _ _ _ _ _ (show _ = some (.int .i64 v3) from rfl))
      have F3 := Lib.hid (F2.out.trans (c21.mono F2.out.size))
      obtain ⟨z0, z1, z2, z3, y0, y1, y2, y3⟩ := HQ.out w21 F3.out
      have G3 := Lib.hid (B0.out.trans (F3.out.mono B0.out.size))
      clear c21 hc0
      go_wp2_with fail
      have hD := Lx.set4 z0 z1 z2 z3 (.int .i64 v0) (.int .i64 v1) (.int .i64 v2) (.int .i64 v3)
      obtain ⟨d0, d1, d2, d3⟩ := hD
      generalize hW9 : ((((w21.setCell ⟨w.heap.size, 0, none⟩ (.int .i64 v0)).setCell ⟨w.heap.size, 1, none⟩ (.int .i64 v1)).setCell ⟨w.heap.size, 2, none⟩ (.int .i64 v2)).setCell ⟨w.heap.size, 3, none⟩ (.int .i64 v3)) = W9 at d0 d1 d2 d3 ⊢
      refine bodyPost_ret (v := .tuple #[.agg #[.int .i64 v0, .int .i64 v1, .int .i64 v2, .int .i64 v3], .int .i64 ce]) (by simp [results, Tryz.results40, go_sem, d0, d1, d2, d3]) rfl ⟨by rw [HE2.out], ?_⟩
      rw [← hW9]
      exact ((((G3.out.setCell (Nat.le_refl _) _).setCell (Nat.le_refl _) _).setCell (Nat.le_refl _) _).setCell (Nat.le_refl _) _)
    have hxb : (X == 0) = false := by rw [beq_eq_false_iff_ne]; exact hx
    clear HX
    obtain ⟨z0, z1, z2, z3, y0, y1, y2, y3⟩ := HQ.out _ F2.out
    have G3 := Lib.hid (B0.out.trans (F2.out.mono B0.out.size))
    have HE2 := Lib.hid (show E = X from by rw [HE.out, if_neg hx])
    clear hx
    go_wp2_with fail
    have hD := Lx.set4 z0 z1 z2 z3 (.int .i64 v0) (.int .i64 v1) (.int .i64 v2) (.int .i64 v3)
    obtain ⟨d0, d1, d2, d3⟩ := hD
    generalize hW9 : ((((((w13.alloc (.cells #[.int .i64 x0, .int .i64 x1, .int .i64 x2, .int .i64 x3] 31)).alloc (.cells #[.int .i64 v0, .int .i64 v1, .int .i64 v2, .int .i64 v3] 27)).setCell ⟨w.heap.size, 0, none⟩ (.int .i64 v0)).setCell ⟨w.heap.size, 1, none⟩ (.int .i64 v1)).setCell ⟨w.heap.size, 2, none⟩ (.int .i64 v2)).setCell ⟨w.heap.size, 3, none⟩ (.int .i64 v3)) = W9 at d0 d1 d2 d3 ⊢
    refine bodyPost_ret (v := .tuple #[.agg #[.int .i64 v0, .int .i64 v1, .int .i64 v2, .int .i64 v3], .int .i64 X]) (by simp [results, Tryz.results40, go_sem, d0, d1, d2, d3]) rfl ⟨by rw [HE2.out], ?_⟩
    rw [← hW9]
    exact ((((G3.out.setCell (Nat.le_refl _) _).setCell (Nat.le_refl _) _).setCell (Nat.le_refl _) _).setCell (Nat.le_refl _) _)
  have hr : Lx.rdRe s = (Lx.polZ, 10) := by unfold Lx.rdRe; rw [if_neg hz, if_pos hlen]
  rw [hr]
  obtain ⟨N, hN⟩ : ∃ N, N = (Lx.slS s).length := ⟨_, rfl⟩
  rw [← hN] at HP hpos hlen hbd
  have hN2 : ((N : Int) != 4) = true := by rw [bne_iff_ne]; omega
  clear hr hz hN
  go_enter Tryz.func40, Tryz.ntmps40
  go_upto_region 1 with (fail)
  rw [show w.alloc (.cells #[.int .i64 0, .int .i64 0, .int .i64 0, .int .i64 0] 27) = W0 from hW0.symm]
  clear hW0
  have B0 := Lib.hid b0
  clear b0
  go_wp2_with fail
  refine (HP.out _).mono ?_
  rintro e w1 ⟨v, rfl, hrow, c1⟩
  obtain ⟨A, c, rfl, hA, _, hcell⟩ := Lx.ownCap hrow (by omega)
  have C1 := Lib.hid c1
  clear c1 hrow
  clear hcell hA hlen hbd
  obtain ⟨z0, z1, z2, z3, y0, y1, y2, y3⟩ := HQ.out w1 C1.out
  go_wp2_with fail
  have hD := Lx.set4 z0 z1 z2 z3 (.int .i64 0) (.int .i64 0) (.int .i64 0) (.int .i64 0)
  obtain ⟨d0, d1, d2, d3⟩ := hD
  generalize hW9 : ((((w1.setCell ⟨w.heap.size, 0, none⟩ (.int .i64 0)).setCell ⟨w.heap.size, 1, none⟩ (.int .i64 0)).setCell ⟨w.heap.size, 2, none⟩ (.int .i64 0)).setCell ⟨w.heap.size, 3, none⟩ (.int .i64 0)) = W9 at d0 d1 d2 d3 ⊢
  refine bodyPost_ret (v := .tuple #[.agg #[.int .i64 0, .int .i64 0, .int .i64 0, .int .i64 0], .int .i64 10]) (by simp [results, Tryz.results40, go_sem, d0, d1, d2, d3]) rfl ⟨rfl, ?_⟩
  rw [← hW9]
  have G := B0.out.trans (C1.out.mono B0.out.size)
  exact ((((G.setCell (Nat.le_refl _) _).setCell (Nat.le_refl _) _).setCell (Nat.le_refl _) _).setCell (Nat.le_refl _) _)
end Go.Proofs.YtdpjcbijddgpgaaGreatDoor
namespace Go.Proofs.YtdpjcbijddgpgaaGreatDoor
open Go.RowKit

set_option maxRecDepth 100000 in
set_option maxHeartbeats 1600000 in
theorem q14val0_any (p : Lx.PolV) (h : Lx.polOk p = true) (s : ByteArray) (hs : s.data.toList = Lx.keyW 0) (w : World) :
    Calls Tryz.prog 56 #[p.val, .string s] w fun e w' => e = .returned (.string ⟨(Lx.valS 0 p).toArray⟩) ∧ Below w.heap.size w w' := by
  obtain ⟨⟨c0, c1⟩, ⟨c2, c3⟩, ⟨c4, c5⟩, ⟨c6, c7⟩, hmis, _, _, _⟩ := Lx.pol_parts h
  obtain ⟨hbr, hre⟩ := Lx.ok_parts h
  have e0 : (s.toList == [99, 97, 112]) = true := by rw [beq_iff_eq, Lib.toList_data, hs]; rfl
  clear hs
  obtain ⟨cap, pri, spl, dl, mis, keep, lt, lu, bf, bo, bp, rm, rb, rc, rj⟩ := p
  unfold Lx.PolV.val Lx.valS
  dsimp only at c0 c1 c2 c3 c4 c5 c6 c7 hmis hbr hre ⊢
  clear h
  obtain ⟨W0, hW0⟩ : ∃ W0, W0 = (w.alloc (.cells #[.int .i64 cap, .int .i64 pri, .int .i64 spl, .int .i64 dl, .int .i64 mis, .int .i64 keep, .int .i64 lt, .int .i64 lu, .int .i64 bf, .int .i64 bo, .int .i64 bp, .int .i64 rm, .int .i64 rb, .int .i64 rc, .int .i64 rj] 29)) := ⟨_, rfl⟩
  have B0 := Lib.hid (show Below w.heap.size w W0 from by rw [hW0]; exact (Below.refl _ w).alloc (Nat.le_refl _) _)
  have HQ := Lib.hid (show ∀ wx, Below W0.heap.size W0 wx → wx.cell? ⟨w.heap.size, 0, none⟩ = some (.int .i64 cap) ∧ wx.cell? ⟨w.heap.size, 1, none⟩ = some (.int .i64 pri) ∧ wx.cell? ⟨w.heap.size, 2, none⟩ = some (.int .i64 spl) ∧ wx.cell? ⟨w.heap.size, 3, none⟩ = some (.int .i64 dl) ∧ wx.cell? ⟨w.heap.size, 4, none⟩ = some (.int .i64 mis) ∧ wx.cell? ⟨w.heap.size, 5, none⟩ = some (.int .i64 keep) ∧ wx.cell? ⟨w.heap.size, 6, none⟩ = some (.int .i64 lt) ∧ wx.cell? ⟨w.heap.size, 7, none⟩ = some (.int .i64 lu) ∧ wx.cell? ⟨w.heap.size, 8, none⟩ = some (.int .i64 bf) ∧ wx.cell? ⟨w.heap.size, 9, none⟩ = some (.int .i64 bo) ∧ wx.cell? ⟨w.heap.size, 10, none⟩ = some (.int .i64 bp) ∧ wx.cell? ⟨w.heap.size, 11, none⟩ = some (.int .i64 rm) ∧ wx.cell? ⟨w.heap.size, 12, none⟩ = some (.int .i64 rb) ∧ wx.cell? ⟨w.heap.size, 13, none⟩ = some (.int .i64 rc) ∧ wx.cell? ⟨w.heap.size, 14, none⟩ = some (.int .i64 rj) from fun wx b => by
    have hlt : w.heap.size < W0.heap.size := by rw [hW0]; simp
    refine ⟨?_, ?_, ?_, ?_, ?_, ?_, ?_, ?_, ?_, ?_, ?_, ?_, ?_, ?_, ?_⟩
    all_goals (refine (b.cell (p := ⟨w.heap.size, _, none⟩) hlt).trans ?_; rw [hW0]; simp))
  have H := Lib.hid (fun W => q14decI_any cap (by omega) (by omega) W)
  generalize (⟨(Lib.itoa cap).toArray⟩ : ByteArray) = V at *
  clear c0 c1 c2 c3 c4 c5 c6 c7 hmis hbr hre
  go_enter Tryz.func56, Tryz.ntmps56
  go_upto_region 1 with (fail)
  rw [show (w.alloc (.cells #[.int .i64 cap, .int .i64 pri, .int .i64 spl, .int .i64 dl, .int .i64 mis, .int .i64 keep, .int .i64 lt, .int .i64 lu, .int .i64 bf, .int .i64 bo, .int .i64 bp, .int .i64 rm, .int .i64 rb, .int .i64 rc, .int .i64 rj] 29)) = W0 from hW0.symm]
  clear hW0
  obtain ⟨q0, q1, q2, q3, q4, q5, q6, q7, q8, q9, q10, q11, q12, q13, q14⟩ := HQ.out W0 (Below.refl _ _)
  go_wp2_with fail
  refine (H.out _).mono ?_
  rintro e w1 ⟨rfl, c1⟩
  go_wp2_with fail
  go_ret
  exact ⟨rfl, B0.out.trans (c1.mono B0.out.size)⟩
set_option maxRecDepth 100000 in
set_option maxHeartbeats 1600000 in
theorem q14val1_any (p : Lx.PolV) (h : Lx.polOk p = true) (s : ByteArray) (hs : s.data.toList = Lx.keyW 1) (w : World) :
    Calls Tryz.prog 56 #[p.val, .string s] w fun e w' => e = .returned (.string ⟨(Lx.valS 1 p).toArray⟩) ∧ Below w.heap.size w w' := by
  obtain ⟨⟨c0, c1⟩, ⟨c2, c3⟩, ⟨c4, c5⟩, ⟨c6, c7⟩, hmis, _, _, _⟩ := Lx.pol_parts h
  obtain ⟨hbr, hre⟩ := Lx.ok_parts h
  have e0 : (s.toList == [99, 97, 112]) = false := by rw [beq_eq_false_iff_ne, Lib.toList_data, hs]; decide
  have e1 : (s.toList == [112, 114, 105, 111, 114, 105, 116, 121]) = true := by rw [beq_iff_eq, Lib.toList_data, hs]; rfl
  clear hs
  obtain ⟨cap, pri, spl, dl, mis, keep, lt, lu, bf, bo, bp, rm, rb, rc, rj⟩ := p
  unfold Lx.PolV.val Lx.valS
  dsimp only at c0 c1 c2 c3 c4 c5 c6 c7 hmis hbr hre ⊢
  clear h
  obtain ⟨W0, hW0⟩ : ∃ W0, W0 = (w.alloc (.cells #[.int .i64 cap, .int .i64 pri, .int .i64 spl, .int .i64 dl, .int .i64 mis, .int .i64 keep, .int .i64 lt, .int .i64 lu, .int .i64 bf, .int .i64 bo, .int .i64 bp, .int .i64 rm, .int .i64 rb, .int .i64 rc, .int .i64 rj] 29)) := ⟨_, rfl⟩
  have B0 := Lib.hid (show Below w.heap.size w W0 from by rw [hW0]; exact (Below.refl _ w).alloc (Nat.le_refl _) _)
  have HQ := Lib.hid (show ∀ wx, Below W0.heap.size W0 wx → wx.cell? ⟨w.heap.size, 0, none⟩ = some (.int .i64 cap) ∧ wx.cell? ⟨w.heap.size, 1, none⟩ = some (.int .i64 pri) ∧ wx.cell? ⟨w.heap.size, 2, none⟩ = some (.int .i64 spl) ∧ wx.cell? ⟨w.heap.size, 3, none⟩ = some (.int .i64 dl) ∧ wx.cell? ⟨w.heap.size, 4, none⟩ = some (.int .i64 mis) ∧ wx.cell? ⟨w.heap.size, 5, none⟩ = some (.int .i64 keep) ∧ wx.cell? ⟨w.heap.size, 6, none⟩ = some (.int .i64 lt) ∧ wx.cell? ⟨w.heap.size, 7, none⟩ = some (.int .i64 lu) ∧ wx.cell? ⟨w.heap.size, 8, none⟩ = some (.int .i64 bf) ∧ wx.cell? ⟨w.heap.size, 9, none⟩ = some (.int .i64 bo) ∧ wx.cell? ⟨w.heap.size, 10, none⟩ = some (.int .i64 bp) ∧ wx.cell? ⟨w.heap.size, 11, none⟩ = some (.int .i64 rm) ∧ wx.cell? ⟨w.heap.size, 12, none⟩ = some (.int .i64 rb) ∧ wx.cell? ⟨w.heap.size, 13, none⟩ = some (.int .i64 rc) ∧ wx.cell? ⟨w.heap.size, 14, none⟩ = some (.int .i64 rj) from fun wx b => by
    have hlt : w.heap.size < W0.heap.size := by rw [hW0]; simp
    refine ⟨?_, ?_, ?_, ?_, ?_, ?_, ?_, ?_, ?_, ?_, ?_, ?_, ?_, ?_, ?_⟩
    all_goals (refine (b.cell (p := ⟨w.heap.size, _, none⟩) hlt).trans ?_; rw [hW0]; simp))
  have H := Lib.hid (fun W => q14decI_any pri (by omega) (by omega) W)
  generalize (⟨(Lib.itoa pri).toArray⟩ : ByteArray) = V at *
  clear c0 c1 c2 c3 c4 c5 c6 c7 hmis hbr hre
  go_enter Tryz.func56, Tryz.ntmps56
  go_upto_region 1 with (fail)
  rw [show (w.alloc (.cells #[.int .i64 cap, .int .i64 pri, .int .i64 spl, .int .i64 dl, .int .i64 mis, .int .i64 keep, .int .i64 lt, .int .i64 lu, .int .i64 bf, .int .i64 bo, .int .i64 bp, .int .i64 rm, .int .i64 rb, .int .i64 rc, .int .i64 rj] 29)) = W0 from hW0.symm]
  clear hW0
  obtain ⟨q0, q1, q2, q3, q4, q5, q6, q7, q8, q9, q10, q11, q12, q13, q14⟩ := HQ.out W0 (Below.refl _ _)
  go_wp2_with fail
  refine (H.out _).mono ?_
  rintro e w1 ⟨rfl, c1⟩
  go_wp2_with fail
  go_ret
  exact ⟨rfl, B0.out.trans (c1.mono B0.out.size)⟩
set_option maxRecDepth 100000 in
set_option maxHeartbeats 1600000 in
theorem q14val2_any (p : Lx.PolV) (h : Lx.polOk p = true) (s : ByteArray) (hs : s.data.toList = Lx.keyW 2) (w : World) :
    Calls Tryz.prog 56 #[p.val, .string s] w fun e w' => e = .returned (.string ⟨(Lx.valS 2 p).toArray⟩) ∧ Below w.heap.size w w' := by
  obtain ⟨⟨c0, c1⟩, ⟨c2, c3⟩, ⟨c4, c5⟩, ⟨c6, c7⟩, hmis, _, _, _⟩ := Lx.pol_parts h
  obtain ⟨hbr, hre⟩ := Lx.ok_parts h
  have e0 : (s.toList == [99, 97, 112]) = false := by rw [beq_eq_false_iff_ne, Lib.toList_data, hs]; decide
  have e1 : (s.toList == [112, 114, 105, 111, 114, 105, 116, 121]) = false := by rw [beq_eq_false_iff_ne, Lib.toList_data, hs]; decide
  have e2 : (s.toList == [115, 112, 108, 97, 121]) = true := by rw [beq_iff_eq, Lib.toList_data, hs]; rfl
  clear hs
  obtain ⟨cap, pri, spl, dl, mis, keep, lt, lu, bf, bo, bp, rm, rb, rc, rj⟩ := p
  unfold Lx.PolV.val Lx.valS
  dsimp only at c0 c1 c2 c3 c4 c5 c6 c7 hmis hbr hre ⊢
  clear h
  obtain ⟨W0, hW0⟩ : ∃ W0, W0 = (w.alloc (.cells #[.int .i64 cap, .int .i64 pri, .int .i64 spl, .int .i64 dl, .int .i64 mis, .int .i64 keep, .int .i64 lt, .int .i64 lu, .int .i64 bf, .int .i64 bo, .int .i64 bp, .int .i64 rm, .int .i64 rb, .int .i64 rc, .int .i64 rj] 29)) := ⟨_, rfl⟩
  have B0 := Lib.hid (show Below w.heap.size w W0 from by rw [hW0]; exact (Below.refl _ w).alloc (Nat.le_refl _) _)
  have HQ := Lib.hid (show ∀ wx, Below W0.heap.size W0 wx → wx.cell? ⟨w.heap.size, 0, none⟩ = some (.int .i64 cap) ∧ wx.cell? ⟨w.heap.size, 1, none⟩ = some (.int .i64 pri) ∧ wx.cell? ⟨w.heap.size, 2, none⟩ = some (.int .i64 spl) ∧ wx.cell? ⟨w.heap.size, 3, none⟩ = some (.int .i64 dl) ∧ wx.cell? ⟨w.heap.size, 4, none⟩ = some (.int .i64 mis) ∧ wx.cell? ⟨w.heap.size, 5, none⟩ = some (.int .i64 keep) ∧ wx.cell? ⟨w.heap.size, 6, none⟩ = some (.int .i64 lt) ∧ wx.cell? ⟨w.heap.size, 7, none⟩ = some (.int .i64 lu) ∧ wx.cell? ⟨w.heap.size, 8, none⟩ = some (.int .i64 bf) ∧ wx.cell? ⟨w.heap.size, 9, none⟩ = some (.int .i64 bo) ∧ wx.cell? ⟨w.heap.size, 10, none⟩ = some (.int .i64 bp) ∧ wx.cell? ⟨w.heap.size, 11, none⟩ = some (.int .i64 rm) ∧ wx.cell? ⟨w.heap.size, 12, none⟩ = some (.int .i64 rb) ∧ wx.cell? ⟨w.heap.size, 13, none⟩ = some (.int .i64 rc) ∧ wx.cell? ⟨w.heap.size, 14, none⟩ = some (.int .i64 rj) from fun wx b => by
    have hlt : w.heap.size < W0.heap.size := by rw [hW0]; simp
    refine ⟨?_, ?_, ?_, ?_, ?_, ?_, ?_, ?_, ?_, ?_, ?_, ?_, ?_, ?_, ?_⟩
    all_goals (refine (b.cell (p := ⟨w.heap.size, _, none⟩) hlt).trans ?_; rw [hW0]; simp))
  have H := Lib.hid (fun W => q14span_any spl W)
  generalize (⟨(Lx.prnV spl).toArray⟩ : ByteArray) = V at *
  clear c0 c1 c2 c3 c4 c5 c6 c7 hmis hbr hre
  go_enter Tryz.func56, Tryz.ntmps56
  go_upto_region 1 with (fail)
  rw [show (w.alloc (.cells #[.int .i64 cap, .int .i64 pri, .int .i64 spl, .int .i64 dl, .int .i64 mis, .int .i64 keep, .int .i64 lt, .int .i64 lu, .int .i64 bf, .int .i64 bo, .int .i64 bp, .int .i64 rm, .int .i64 rb, .int .i64 rc, .int .i64 rj] 29)) = W0 from hW0.symm]
  clear hW0
  obtain ⟨q0, q1, q2, q3, q4, q5, q6, q7, q8, q9, q10, q11, q12, q13, q14⟩ := HQ.out W0 (Below.refl _ _)
  go_wp2_with fail
  refine (H.out _).mono ?_
  rintro e w1 ⟨rfl, c1⟩
  go_wp2_with fail
  go_ret
  exact ⟨rfl, B0.out.trans (c1.mono B0.out.size)⟩
set_option maxRecDepth 100000 in
set_option maxHeartbeats 1600000 in
theorem q14val3_any (p : Lx.PolV) (h : Lx.polOk p = true) (s : ByteArray) (hs : s.data.toList = Lx.keyW 3) (w : World) :
    Calls Tryz.prog 56 #[p.val, .string s] w fun e w' => e = .returned (.string ⟨(Lx.valS 3 p).toArray⟩) ∧ Below w.heap.size w w' := by
  obtain ⟨⟨c0, c1⟩, ⟨c2, c3⟩, ⟨c4, c5⟩, ⟨c6, c7⟩, hmis, _, _, _⟩ := Lx.pol_parts h
  obtain ⟨hbr, hre⟩ := Lx.ok_parts h
  have e0 : (s.toList == [99, 97, 112]) = false := by rw [beq_eq_false_iff_ne, Lib.toList_data, hs]; decide
  have e1 : (s.toList == [112, 114, 105, 111, 114, 105, 116, 121]) = false := by rw [beq_eq_false_iff_ne, Lib.toList_data, hs]; decide
  have e2 : (s.toList == [115, 112, 108, 97, 121]) = false := by rw [beq_eq_false_iff_ne, Lib.toList_data, hs]; decide
  have e3 : (s.toList == [100, 101, 97, 100, 108, 105, 110, 101]) = true := by rw [beq_iff_eq, Lib.toList_data, hs]; rfl
  clear hs
  obtain ⟨cap, pri, spl, dl, mis, keep, lt, lu, bf, bo, bp, rm, rb, rc, rj⟩ := p
  unfold Lx.PolV.val Lx.valS
  dsimp only at c0 c1 c2 c3 c4 c5 c6 c7 hmis hbr hre ⊢
  clear h
  obtain ⟨W0, hW0⟩ : ∃ W0, W0 = (w.alloc (.cells #[.int .i64 cap, .int .i64 pri, .int .i64 spl, .int .i64 dl, .int .i64 mis, .int .i64 keep, .int .i64 lt, .int .i64 lu, .int .i64 bf, .int .i64 bo, .int .i64 bp, .int .i64 rm, .int .i64 rb, .int .i64 rc, .int .i64 rj] 29)) := ⟨_, rfl⟩
  have B0 := Lib.hid (show Below w.heap.size w W0 from by rw [hW0]; exact (Below.refl _ w).alloc (Nat.le_refl _) _)
  have HQ := Lib.hid (show ∀ wx, Below W0.heap.size W0 wx → wx.cell? ⟨w.heap.size, 0, none⟩ = some (.int .i64 cap) ∧ wx.cell? ⟨w.heap.size, 1, none⟩ = some (.int .i64 pri) ∧ wx.cell? ⟨w.heap.size, 2, none⟩ = some (.int .i64 spl) ∧ wx.cell? ⟨w.heap.size, 3, none⟩ = some (.int .i64 dl) ∧ wx.cell? ⟨w.heap.size, 4, none⟩ = some (.int .i64 mis) ∧ wx.cell? ⟨w.heap.size, 5, none⟩ = some (.int .i64 keep) ∧ wx.cell? ⟨w.heap.size, 6, none⟩ = some (.int .i64 lt) ∧ wx.cell? ⟨w.heap.size, 7, none⟩ = some (.int .i64 lu) ∧ wx.cell? ⟨w.heap.size, 8, none⟩ = some (.int .i64 bf) ∧ wx.cell? ⟨w.heap.size, 9, none⟩ = some (.int .i64 bo) ∧ wx.cell? ⟨w.heap.size, 10, none⟩ = some (.int .i64 bp) ∧ wx.cell? ⟨w.heap.size, 11, none⟩ = some (.int .i64 rm) ∧ wx.cell? ⟨w.heap.size, 12, none⟩ = some (.int .i64 rb) ∧ wx.cell? ⟨w.heap.size, 13, none⟩ = some (.int .i64 rc) ∧ wx.cell? ⟨w.heap.size, 14, none⟩ = some (.int .i64 rj) from fun wx b => by
    have hlt : w.heap.size < W0.heap.size := by rw [hW0]; simp
    refine ⟨?_, ?_, ?_, ?_, ?_, ?_, ?_, ?_, ?_, ?_, ?_, ?_, ?_, ?_, ?_⟩
    all_goals (refine (b.cell (p := ⟨w.heap.size, _, none⟩) hlt).trans ?_; rw [hW0]; simp))
  have H := Lib.hid (fun W => q14span_any dl W)
  generalize (⟨(Lx.prnV dl).toArray⟩ : ByteArray) = V at *
  clear c0 c1 c2 c3 c4 c5 c6 c7 hmis hbr hre
  go_enter Tryz.func56, Tryz.ntmps56
  go_upto_region 1 with (fail)
  rw [show (w.alloc (.cells #[.int .i64 cap, .int .i64 pri, .int .i64 spl, .int .i64 dl, .int .i64 mis, .int .i64 keep, .int .i64 lt, .int .i64 lu, .int .i64 bf, .int .i64 bo, .int .i64 bp, .int .i64 rm, .int .i64 rb, .int .i64 rc, .int .i64 rj] 29)) = W0 from hW0.symm]
  clear hW0
  obtain ⟨q0, q1, q2, q3, q4, q5, q6, q7, q8, q9, q10, q11, q12, q13, q14⟩ := HQ.out W0 (Below.refl _ _)
  go_wp2_with fail
  refine (H.out _).mono ?_
  rintro e w1 ⟨rfl, c1⟩
  go_wp2_with fail
  go_ret
  exact ⟨rfl, B0.out.trans (c1.mono B0.out.size)⟩
set_option maxRecDepth 100000 in
set_option maxHeartbeats 1600000 in
theorem q14val4_any (p : Lx.PolV) (h : Lx.polOk p = true) (s : ByteArray) (hs : s.data.toList = Lx.keyW 4) (w : World) :
    Calls Tryz.prog 56 #[p.val, .string s] w fun e w' => e = .returned (.string ⟨(Lx.valS 4 p).toArray⟩) ∧ Below w.heap.size w w' := by
  obtain ⟨⟨c0, c1⟩, ⟨c2, c3⟩, ⟨c4, c5⟩, ⟨c6, c7⟩, hmis, _, _, _⟩ := Lx.pol_parts h
  obtain ⟨hbr, hre⟩ := Lx.ok_parts h
  have e0 : (s.toList == [99, 97, 112]) = false := by rw [beq_eq_false_iff_ne, Lib.toList_data, hs]; decide
  have e1 : (s.toList == [112, 114, 105, 111, 114, 105, 116, 121]) = false := by rw [beq_eq_false_iff_ne, Lib.toList_data, hs]; decide
  have e2 : (s.toList == [115, 112, 108, 97, 121]) = false := by rw [beq_eq_false_iff_ne, Lib.toList_data, hs]; decide
  have e3 : (s.toList == [100, 101, 97, 100, 108, 105, 110, 101]) = false := by rw [beq_eq_false_iff_ne, Lib.toList_data, hs]; decide
  have e4 : (s.toList == [109, 105, 115, 102, 105, 114, 101]) = true := by rw [beq_iff_eq, Lib.toList_data, hs]; rfl
  clear hs
  obtain ⟨cap, pri, spl, dl, mis, keep, lt, lu, bf, bo, bp, rm, rb, rc, rj⟩ := p
  unfold Lx.PolV.val Lx.valS
  dsimp only at c0 c1 c2 c3 c4 c5 c6 c7 hmis hbr hre ⊢
  clear h
  rcases hmis with ⟨h3, hk0, hk1⟩ | ⟨⟨hm0, hm1⟩, hkp⟩
  · subst h3
    obtain ⟨W0, hW0⟩ : ∃ W0, W0 = (w.alloc (.cells #[.int .i64 cap, .int .i64 pri, .int .i64 spl, .int .i64 dl, .int .i64 3, .int .i64 keep, .int .i64 lt, .int .i64 lu, .int .i64 bf, .int .i64 bo, .int .i64 bp, .int .i64 rm, .int .i64 rb, .int .i64 rc, .int .i64 rj] 29)) := ⟨_, rfl⟩
    have B0 := Lib.hid (show Below w.heap.size w W0 from by rw [hW0]; exact (Below.refl _ w).alloc (Nat.le_refl _) _)
    have HQ := Lib.hid (show ∀ wx, Below W0.heap.size W0 wx → wx.cell? ⟨w.heap.size, 0, none⟩ = some (.int .i64 cap) ∧ wx.cell? ⟨w.heap.size, 1, none⟩ = some (.int .i64 pri) ∧ wx.cell? ⟨w.heap.size, 2, none⟩ = some (.int .i64 spl) ∧ wx.cell? ⟨w.heap.size, 3, none⟩ = some (.int .i64 dl) ∧ wx.cell? ⟨w.heap.size, 4, none⟩ = some (.int .i64 3) ∧ wx.cell? ⟨w.heap.size, 5, none⟩ = some (.int .i64 keep) ∧ wx.cell? ⟨w.heap.size, 6, none⟩ = some (.int .i64 lt) ∧ wx.cell? ⟨w.heap.size, 7, none⟩ = some (.int .i64 lu) ∧ wx.cell? ⟨w.heap.size, 8, none⟩ = some (.int .i64 bf) ∧ wx.cell? ⟨w.heap.size, 9, none⟩ = some (.int .i64 bo) ∧ wx.cell? ⟨w.heap.size, 10, none⟩ = some (.int .i64 bp) ∧ wx.cell? ⟨w.heap.size, 11, none⟩ = some (.int .i64 rm) ∧ wx.cell? ⟨w.heap.size, 12, none⟩ = some (.int .i64 rb) ∧ wx.cell? ⟨w.heap.size, 13, none⟩ = some (.int .i64 rc) ∧ wx.cell? ⟨w.heap.size, 14, none⟩ = some (.int .i64 rj) from fun wx b => by
      have hlt : w.heap.size < W0.heap.size := by rw [hW0]; simp
      refine ⟨?_, ?_, ?_, ?_, ?_, ?_, ?_, ?_, ?_, ?_, ?_, ?_, ?_, ?_, ?_⟩
      all_goals (refine (b.cell (p := ⟨w.heap.size, _, none⟩) hlt).trans ?_; rw [hW0]; simp))
    have H := Lib.hid (fun W => q14decI_any keep (by omega) (by omega) W)
    obtain ⟨V, hV⟩ : ∃ V : ByteArray, V = ⟨(Lib.itoa keep).toArray⟩ := ⟨_, rfl⟩
    rw [← hV] at H
    have hVs : V.size ≤ 11 := by rw [Lib.size_eq, hV]; exact Lx.it_len (by omega) (by omega)
    have k5 : (⟨#[115, 111, 109, 101, 58]⟩ : ByteArray).size = 5 := rfl
    have n1 : ¬ (9223372036854775807 < 5 + V.size) := by omega
    have HR := Lib.hid (show (⟨#[115, 111, 109, 101, 58]⟩ : ByteArray) ++ V = ⟨(Lx.misS 3 keep).toArray⟩ from by
      apply ByteArray.ext; apply Array.toList_inj.1
      rw [ByteArray.data_append, hV]; unfold Lx.misS; rw [if_pos rfl]; simp [Lx.someW])
    clear hV hVs
    clear c0 c1 c2 c3 c4 c5 c6 c7 hk0 hk1 hbr hre
    go_enter Tryz.func56, Tryz.ntmps56
    go_upto_region 1 with (fail)
    rw [show (w.alloc (.cells #[.int .i64 cap, .int .i64 pri, .int .i64 spl, .int .i64 dl, .int .i64 3, .int .i64 keep, .int .i64 lt, .int .i64 lu, .int .i64 bf, .int .i64 bo, .int .i64 bp, .int .i64 rm, .int .i64 rb, .int .i64 rc, .int .i64 rj] 29)) = W0 from hW0.symm]
    clear hW0
    obtain ⟨q0, q1, q2, q3, q4, q5, q6, q7, q8, q9, q10, q11, q12, q13, q14⟩ := HQ.out W0 (Below.refl _ _)
    go_upto_region 12 with (fail)
    obtain ⟨W1, hW1⟩ : ∃ W1, W1 = W0.alloc (.cells #[.string ⟨#[100, 114, 111, 112]⟩, .string ⟨#[108, 97, 115, 116]⟩, .string ⟨#[97, 108, 108]⟩, .string ⟨#[115, 111, 109, 101, 58]⟩] 9) := ⟨_, rfl⟩
    rw [show W0.alloc (.cells #[.string ⟨#[100, 114, 111, 112]⟩, .string ⟨#[108, 97, 115, 116]⟩, .string ⟨#[97, 108, 108]⟩, .string ⟨#[115, 111, 109, 101, 58]⟩] 9) = W1 from hW1.symm]
    have C1 := Lib.hid (show Below W0.heap.size W0 W1 from by rw [hW1]; exact (Below.refl _ W0).alloc (Nat.le_refl _) _)
    have r0 : W1.cell? ⟨W0.heap.size, 0, none⟩ = some (.string ⟨#[100, 114, 111, 112]⟩) := by rw [hW1]; exact Lx.cellR _ _ _ _ _ rfl
    have r1 : W1.cell? ⟨W0.heap.size, 1, none⟩ = some (.string ⟨#[108, 97, 115, 116]⟩) := by rw [hW1]; exact Lx.cellR _ _ _ _ _ rfl
    have r2 : W1.cell? ⟨W0.heap.size, 2, none⟩ = some (.string ⟨#[97, 108, 108]⟩) := by rw [hW1]; exact Lx.cellR _ _ _ _ _ rfl
    have r3 : W1.cell? ⟨W0.heap.size, 3, none⟩ = some (.string ⟨#[115, 111, 109, 101, 58]⟩) := by rw [hW1]; exact Lx.cellR _ _ _ _ _ rfl
    have hlt1 : W0.heap.size < W1.heap.size := by rw [hW1]; simp
    have hlt0 : w.heap.size < W1.heap.size := Nat.lt_of_le_of_lt B0.out.size hlt1
    clear hW1 q0 q1 q2 q3 q4 q5 q6 q7 q8 q9 q10 q11 q12 q13 q14
    obtain ⟨_, _, _, _, t4, t5, _⟩ := HQ.out W1 C1.out
    go_upto_region 13 with (fail)
    have HSS := Lib.hid (show ∀ wx, Below W1.heap.size W1 wx → Below W1.heap.size W1 wx ∧ wx.cell? ⟨w.heap.size, 5, none⟩ = some (.int .i64 keep) ∧ wx.cell? ⟨W0.heap.size, 3, none⟩ = some (.string ⟨#[115, 111, 109, 101, 58]⟩) from fun wx b => ⟨b, (b.cell (p := ⟨w.heap.size, 5, none⟩) hlt0).trans t5, (b.cell (p := ⟨W0.heap.size, 3, none⟩) hlt1).trans r3⟩)
    have hS0 := HSS.out W1.drew (Below.refl _ W1).drew
    clear t4 t5 r0 r1 r2 r3 hlt0 hlt1
    refine wp_region_held_drew (S := (fun wx => Below W1.heap.size W1 wx ∧ wx.cell? ⟨w.heap.size, 5, none⟩ = some (.int .i64 keep) ∧ wx.cell? ⟨W0.heap.size, 3, none⟩ = some (.string ⟨#[115, 111, 109, 101, 58]⟩))) (by kernel_rfl) ?_ (fun hHeld => ?_)
    · exact hS0
    refine' wpAnyH_take (i := 0) (oi := _) (v := _) ?hi0r1 (by kernel_rfl) (by kernel_rfl) (by kernel_rfl) ?hq0r1 ?hy0r1 (by assumption) ?re0r1
    case hi0r1 => simp only [List.getElem?_toArray, List.getElem?_cons_zero]; rfl
    case hq0r1 => exact fun _ _ _ h => h
    case hy0r1 =>
      refine Or.inl ⟨by rfl, ?_⟩
      intro w hSw; (try dsimp only at hSw); go_simp; try with_reducible rfl
    try simp only [Act.put, List.setIfInBounds_toArray, List.set_cons_zero, List.set_cons_succ]
    refine' wpAnyH_take (i := 1) (oi := _) (v := _) ?hi1r1 (by kernel_rfl) (by kernel_rfl) (by kernel_rfl) ?hq1r1 ?hy1r1 (by assumption) ?re1r1
    case hi1r1 => simp only [List.getElem?_toArray, List.getElem?_cons_succ, List.getElem?_cons_zero]; rfl
    case hq1r1 => exact fun _ _ _ h => h
    case hy1r1 =>
      refine Or.inl ⟨by rfl, ?_⟩
      intro w hSw; (try dsimp only at hSw); go_simp; try with_reducible rfl
    try simp only [Act.put, List.setIfInBounds_toArray, List.set_cons_zero, List.set_cons_succ]
    refine' wpAnyH_take (i := 2) (oi := _) (v := _) ?hi2r1 (by kernel_rfl) (by kernel_rfl) (by kernel_rfl) ?hq2r1 ?hy2r1 (by assumption) ?re2r1
    case hi2r1 => simp only [List.getElem?_toArray, List.getElem?_cons_succ, List.getElem?_cons_zero]; rfl
    case hq2r1 => exact fun _ _ _ h => h
    case hy2r1 =>
      refine Or.inl ⟨by rfl, ?_⟩
      intro w hSw; (try dsimp only at hSw); go_simp; try with_reducible rfl
    try simp only [Act.put, List.setIfInBounds_toArray, List.set_cons_zero, List.set_cons_succ]
    refine' wpAnyH_take (i := 3) (oi := _) (v := _) ?hi3r1 (by kernel_rfl) (by kernel_rfl) (by kernel_rfl) ?hq3r1 ?hy3r1 (by assumption) ?re3r1
    case hi3r1 => simp only [List.getElem?_toArray, List.getElem?_cons_succ, List.getElem?_cons_zero]; rfl
    case hq3r1 => exact fun _ _ _ h => h
    case hy3r1 =>
      refine Or.inl ⟨by rfl, ?_⟩
      intro w hSw; (try dsimp only at hSw); go_simp; try with_reducible rfl
    try simp only [Act.put, List.setIfInBounds_toArray, List.set_cons_zero, List.set_cons_succ]
    refine' wpAnyH_take (i := 4) (oi := _) (v := _) ?hi4r1 (by kernel_rfl) (by kernel_rfl) (by kernel_rfl) ?hq4r1 ?hy4r1 (by assumption) ?re4r1
    case hi4r1 => simp only [List.getElem?_toArray, List.getElem?_cons_succ, List.getElem?_cons_zero]; rfl
    case hq4r1 => exact fun _ _ _ h => h
    case hy4r1 =>
      refine Or.inl ⟨by rfl, ?_⟩
      intro w hSw; (try dsimp only at hSw); go_simp; try with_reducible rfl
    try simp only [Act.put, List.setIfInBounds_toArray, List.set_cons_zero, List.set_cons_succ]
    refine wpAnyH_ready (rs := [5]) (by kernel_rfl) (by simp) ?_
    refine' AllReadyH.cons (o := _) ?hi5r1 (fun K hK => ?st5r1) AllReadyH.nil
    case hi5r1 => simp only [List.getElem?_toArray, List.getElem?_cons_succ, List.getElem?_cons_zero]; rfl
    go_simp
    go_at_call 87; refine (H.out _).mono ?_; rintro e w8 ⟨rfl, c8⟩; have k8 := HSS.out _ (hHeld.1.trans (c8.mono hHeld.1.size)); clear c8
    try go_wp2_with fail
    refine hK.out _ _ ?_ (fun hHeld => ?_)
    · exact k8
    clear hK K
    try simp only [Act.put, List.setIfInBounds_toArray, List.set_cons_zero, List.set_cons_succ]
    refine' wpAnyH_take (i := 6) (oi := _) (v := _) ?hi6r1 (by kernel_rfl) (by kernel_rfl) (by kernel_rfl) ?hq6r1 ?hy6r1 (by assumption) ?re6r1
    case hi6r1 => simp only [List.getElem?_toArray, List.getElem?_cons_succ, List.getElem?_cons_zero]; rfl
    case hq6r1 => exact fun _ _ _ h => h
    case hy6r1 =>
      refine Or.inl ⟨by rfl, ?_⟩
      intro w hSw; (try dsimp only at hSw); go_simp; try with_reducible rfl
    try simp only [Act.put, List.setIfInBounds_toArray, List.set_cons_zero, List.set_cons_succ]
    refine' wpAnyH_take (i := 7) (oi := _) (v := _) ?hi7r1 (by kernel_rfl) (by kernel_rfl) (by kernel_rfl) ?hq7r1 ?hy7r1 (by assumption) ?re7r1
    case hi7r1 => simp only [List.getElem?_toArray, List.getElem?_cons_succ, List.getElem?_cons_zero]; rfl
    case hq7r1 => exact fun _ _ _ h => h
    case hy7r1 =>
      refine Or.inl ⟨by rfl, ?_⟩
      intro w hSw; (try dsimp only at hSw); go_simp; try with_reducible rfl
    try simp only [Act.put, List.setIfInBounds_toArray, List.set_cons_zero, List.set_cons_succ]
    refine wpAnyH_done (by kernel_rfl) ?_ _
    have G := B0.out.trans ((C1.out.trans (hHeld.1.mono C1.out.size)).mono B0.out.size)
    go_wp2_with fail
    go_ret
    exact ⟨by rw [HR.out]; rfl, G⟩
  · obtain hm | hm | hm : mis = 0 ∨ mis = 1 ∨ mis = 2 := by omega
    · subst hm
      obtain ⟨W0, hW0⟩ : ∃ W0, W0 = (w.alloc (.cells #[.int .i64 cap, .int .i64 pri, .int .i64 spl, .int .i64 dl, .int .i64 0, .int .i64 keep, .int .i64 lt, .int .i64 lu, .int .i64 bf, .int .i64 bo, .int .i64 bp, .int .i64 rm, .int .i64 rb, .int .i64 rc, .int .i64 rj] 29)) := ⟨_, rfl⟩
      have B0 := Lib.hid (show Below w.heap.size w W0 from by rw [hW0]; exact (Below.refl _ w).alloc (Nat.le_refl _) _)
      have HQ := Lib.hid (show ∀ wx, Below W0.heap.size W0 wx → wx.cell? ⟨w.heap.size, 0, none⟩ = some (.int .i64 cap) ∧ wx.cell? ⟨w.heap.size, 1, none⟩ = some (.int .i64 pri) ∧ wx.cell? ⟨w.heap.size, 2, none⟩ = some (.int .i64 spl) ∧ wx.cell? ⟨w.heap.size, 3, none⟩ = some (.int .i64 dl) ∧ wx.cell? ⟨w.heap.size, 4, none⟩ = some (.int .i64 0) ∧ wx.cell? ⟨w.heap.size, 5, none⟩ = some (.int .i64 keep) ∧ wx.cell? ⟨w.heap.size, 6, none⟩ = some (.int .i64 lt) ∧ wx.cell? ⟨w.heap.size, 7, none⟩ = some (.int .i64 lu) ∧ wx.cell? ⟨w.heap.size, 8, none⟩ = some (.int .i64 bf) ∧ wx.cell? ⟨w.heap.size, 9, none⟩ = some (.int .i64 bo) ∧ wx.cell? ⟨w.heap.size, 10, none⟩ = some (.int .i64 bp) ∧ wx.cell? ⟨w.heap.size, 11, none⟩ = some (.int .i64 rm) ∧ wx.cell? ⟨w.heap.size, 12, none⟩ = some (.int .i64 rb) ∧ wx.cell? ⟨w.heap.size, 13, none⟩ = some (.int .i64 rc) ∧ wx.cell? ⟨w.heap.size, 14, none⟩ = some (.int .i64 rj) from fun wx b => by
        have hlt : w.heap.size < W0.heap.size := by rw [hW0]; simp
        refine ⟨?_, ?_, ?_, ?_, ?_, ?_, ?_, ?_, ?_, ?_, ?_, ?_, ?_, ?_, ?_⟩
        all_goals (refine (b.cell (p := ⟨w.heap.size, _, none⟩) hlt).trans ?_; rw [hW0]; simp))
      have HR := Lib.hid (show (⟨(Lx.misS 0 keep).toArray⟩ : ByteArray) = ⟨#[100, 114, 111, 112]⟩ from rfl)
      clear c0 c1 c2 c3 c4 c5 c6 c7 hm0 hm1 hkp hbr hre
      go_enter Tryz.func56, Tryz.ntmps56
      go_upto_region 1 with (fail)
      rw [show (w.alloc (.cells #[.int .i64 cap, .int .i64 pri, .int .i64 spl, .int .i64 dl, .int .i64 0, .int .i64 keep, .int .i64 lt, .int .i64 lu, .int .i64 bf, .int .i64 bo, .int .i64 bp, .int .i64 rm, .int .i64 rb, .int .i64 rc, .int .i64 rj] 29)) = W0 from hW0.symm]
      clear hW0
      obtain ⟨q0, q1, q2, q3, q4, q5, q6, q7, q8, q9, q10, q11, q12, q13, q14⟩ := HQ.out W0 (Below.refl _ _)
      go_upto_region 12 with (fail)
      obtain ⟨W1, hW1⟩ : ∃ W1, W1 = W0.alloc (.cells #[.string ⟨#[100, 114, 111, 112]⟩, .string ⟨#[108, 97, 115, 116]⟩, .string ⟨#[97, 108, 108]⟩, .string ⟨#[115, 111, 109, 101, 58]⟩] 9) := ⟨_, rfl⟩
      rw [show W0.alloc (.cells #[.string ⟨#[100, 114, 111, 112]⟩, .string ⟨#[108, 97, 115, 116]⟩, .string ⟨#[97, 108, 108]⟩, .string ⟨#[115, 111, 109, 101, 58]⟩] 9) = W1 from hW1.symm]
      have C1 := Lib.hid (show Below W0.heap.size W0 W1 from by rw [hW1]; exact (Below.refl _ W0).alloc (Nat.le_refl _) _)
      have r0 : W1.cell? ⟨W0.heap.size, 0, none⟩ = some (.string ⟨#[100, 114, 111, 112]⟩) := by rw [hW1]; exact Lx.cellR _ _ _ _ _ rfl
      have r1 : W1.cell? ⟨W0.heap.size, 1, none⟩ = some (.string ⟨#[108, 97, 115, 116]⟩) := by rw [hW1]; exact Lx.cellR _ _ _ _ _ rfl
      have r2 : W1.cell? ⟨W0.heap.size, 2, none⟩ = some (.string ⟨#[97, 108, 108]⟩) := by rw [hW1]; exact Lx.cellR _ _ _ _ _ rfl
      have r3 : W1.cell? ⟨W0.heap.size, 3, none⟩ = some (.string ⟨#[115, 111, 109, 101, 58]⟩) := by rw [hW1]; exact Lx.cellR _ _ _ _ _ rfl
      clear hW1 q0 q1 q2 q3 q4 q5 q6 q7 q8 q9 q10 q11 q12 q13 q14
      obtain ⟨q0, q1, q2, q3, q4, q5, q6, q7, q8, q9, q10, q11, q12, q13, q14⟩ := HQ.out W1 C1.out
      have G := Lib.hid (B0.out.trans (C1.out.mono B0.out.size))
      go_wp2_with fail
      go_ret
      exact ⟨by rw [HR.out]; rfl, G.out⟩
    · subst hm
      obtain ⟨W0, hW0⟩ : ∃ W0, W0 = (w.alloc (.cells #[.int .i64 cap, .int .i64 pri, .int .i64 spl, .int .i64 dl, .int .i64 1, .int .i64 keep, .int .i64 lt, .int .i64 lu, .int .i64 bf, .int .i64 bo, .int .i64 bp, .int .i64 rm, .int .i64 rb, .int .i64 rc, .int .i64 rj] 29)) := ⟨_, rfl⟩
      have B0 := Lib.hid (show Below w.heap.size w W0 from by rw [hW0]; exact (Below.refl _ w).alloc (Nat.le_refl _) _)
      have HQ := Lib.hid (show ∀ wx, Below W0.heap.size W0 wx → wx.cell? ⟨w.heap.size, 0, none⟩ = some (.int .i64 cap) ∧ wx.cell? ⟨w.heap.size, 1, none⟩ = some (.int .i64 pri) ∧ wx.cell? ⟨w.heap.size, 2, none⟩ = some (.int .i64 spl) ∧ wx.cell? ⟨w.heap.size, 3, none⟩ = some (.int .i64 dl) ∧ wx.cell? ⟨w.heap.size, 4, none⟩ = some (.int .i64 1) ∧ wx.cell? ⟨w.heap.size, 5, none⟩ = some (.int .i64 keep) ∧ wx.cell? ⟨w.heap.size, 6, none⟩ = some (.int .i64 lt) ∧ wx.cell? ⟨w.heap.size, 7, none⟩ = some (.int .i64 lu) ∧ wx.cell? ⟨w.heap.size, 8, none⟩ = some (.int .i64 bf) ∧ wx.cell? ⟨w.heap.size, 9, none⟩ = some (.int .i64 bo) ∧ wx.cell? ⟨w.heap.size, 10, none⟩ = some (.int .i64 bp) ∧ wx.cell? ⟨w.heap.size, 11, none⟩ = some (.int .i64 rm) ∧ wx.cell? ⟨w.heap.size, 12, none⟩ = some (.int .i64 rb) ∧ wx.cell? ⟨w.heap.size, 13, none⟩ = some (.int .i64 rc) ∧ wx.cell? ⟨w.heap.size, 14, none⟩ = some (.int .i64 rj) from fun wx b => by
        have hlt : w.heap.size < W0.heap.size := by rw [hW0]; simp
        refine ⟨?_, ?_, ?_, ?_, ?_, ?_, ?_, ?_, ?_, ?_, ?_, ?_, ?_, ?_, ?_⟩
        all_goals (refine (b.cell (p := ⟨w.heap.size, _, none⟩) hlt).trans ?_; rw [hW0]; simp))
      have HR := Lib.hid (show (⟨(Lx.misS 1 keep).toArray⟩ : ByteArray) = ⟨#[108, 97, 115, 116]⟩ from rfl)
      clear c0 c1 c2 c3 c4 c5 c6 c7 hm0 hm1 hkp hbr hre
      go_enter Tryz.func56, Tryz.ntmps56
      go_upto_region 1 with (fail)
      rw [show (w.alloc (.cells #[.int .i64 cap, .int .i64 pri, .int .i64 spl, .int .i64 dl, .int .i64 1, .int .i64 keep, .int .i64 lt, .int .i64 lu, .int .i64 bf, .int .i64 bo, .int .i64 bp, .int .i64 rm, .int .i64 rb, .int .i64 rc, .int .i64 rj] 29)) = W0 from hW0.symm]
      clear hW0
      obtain ⟨q0, q1, q2, q3, q4, q5, q6, q7, q8, q9, q10, q11, q12, q13, q14⟩ := HQ.out W0 (Below.refl _ _)
      go_upto_region 12 with (fail)
      obtain ⟨W1, hW1⟩ : ∃ W1, W1 = W0.alloc (.cells #[.string ⟨#[100, 114, 111, 112]⟩, .string ⟨#[108, 97, 115, 116]⟩, .string ⟨#[97, 108, 108]⟩, .string ⟨#[115, 111, 109, 101, 58]⟩] 9) := ⟨_, rfl⟩
      rw [show W0.alloc (.cells #[.string ⟨#[100, 114, 111, 112]⟩, .string ⟨#[108, 97, 115, 116]⟩, .string ⟨#[97, 108, 108]⟩, .string ⟨#[115, 111, 109, 101, 58]⟩] 9) = W1 from hW1.symm]
      have C1 := Lib.hid (show Below W0.heap.size W0 W1 from by rw [hW1]; exact (Below.refl _ W0).alloc (Nat.le_refl _) _)
      have r0 : W1.cell? ⟨W0.heap.size, 0, none⟩ = some (.string ⟨#[100, 114, 111, 112]⟩) := by rw [hW1]; exact Lx.cellR _ _ _ _ _ rfl
      have r1 : W1.cell? ⟨W0.heap.size, 1, none⟩ = some (.string ⟨#[108, 97, 115, 116]⟩) := by rw [hW1]; exact Lx.cellR _ _ _ _ _ rfl
      have r2 : W1.cell? ⟨W0.heap.size, 2, none⟩ = some (.string ⟨#[97, 108, 108]⟩) := by rw [hW1]; exact Lx.cellR _ _ _ _ _ rfl
      have r3 : W1.cell? ⟨W0.heap.size, 3, none⟩ = some (.string ⟨#[115, 111, 109, 101, 58]⟩) := by rw [hW1]; exact Lx.cellR _ _ _ _ _ rfl
      clear hW1 q0 q1 q2 q3 q4 q5 q6 q7 q8 q9 q10 q11 q12 q13 q14
      obtain ⟨q0, q1, q2, q3, q4, q5, q6, q7, q8, q9, q10, q11, q12, q13, q14⟩ := HQ.out W1 C1.out
      have G := Lib.hid (B0.out.trans (C1.out.mono B0.out.size))
      go_wp2_with fail
      go_ret
      exact ⟨by rw [HR.out]; rfl, G.out⟩
    · subst hm
      obtain ⟨W0, hW0⟩ : ∃ W0, W0 = (w.alloc (.cells #[.int .i64 cap, .int .i64 pri, .int .i64 spl, .int .i64 dl, .int .i64 2, .int .i64 keep, .int .i64 lt, .int .i64 lu, .int .i64 bf, .int .i64 bo, .int .i64 bp, .int .i64 rm, .int .i64 rb, .int .i64 rc, .int .i64 rj] 29)) := ⟨_, rfl⟩
      have B0 := Lib.hid (show Below w.heap.size w W0 from by rw [hW0]; exact (Below.refl _ w).alloc (Nat.le_refl _) _)
      have HQ := Lib.hid (show ∀ wx, Below W0.heap.size W0 wx → wx.cell? ⟨w.heap.size, 0, none⟩ = some (.int .i64 cap) ∧ wx.cell? ⟨w.heap.size, 1, none⟩ = some (.int .i64 pri) ∧ wx.cell? ⟨w.heap.size, 2, none⟩ = some (.int .i64 spl) ∧ wx.cell? ⟨w.heap.size, 3, none⟩ = some (.int .i64 dl) ∧ wx.cell? ⟨w.heap.size, 4, none⟩ = some (.int .i64 2) ∧ wx.cell? ⟨w.heap.size, 5, none⟩ = some (.int .i64 keep) ∧ wx.cell? ⟨w.heap.size, 6, none⟩ = some (.int .i64 lt) ∧ wx.cell? ⟨w.heap.size, 7, none⟩ = some (.int .i64 lu) ∧ wx.cell? ⟨w.heap.size, 8, none⟩ = some (.int .i64 bf) ∧ wx.cell? ⟨w.heap.size, 9, none⟩ = some (.int .i64 bo) ∧ wx.cell? ⟨w.heap.size, 10, none⟩ = some (.int .i64 bp) ∧ wx.cell? ⟨w.heap.size, 11, none⟩ = some (.int .i64 rm) ∧ wx.cell? ⟨w.heap.size, 12, none⟩ = some (.int .i64 rb) ∧ wx.cell? ⟨w.heap.size, 13, none⟩ = some (.int .i64 rc) ∧ wx.cell? ⟨w.heap.size, 14, none⟩ = some (.int .i64 rj) from fun wx b => by
        have hlt : w.heap.size < W0.heap.size := by rw [hW0]; simp
        refine ⟨?_, ?_, ?_, ?_, ?_, ?_, ?_, ?_, ?_, ?_, ?_, ?_, ?_, ?_, ?_⟩
        all_goals (refine (b.cell (p := ⟨w.heap.size, _, none⟩) hlt).trans ?_; rw [hW0]; simp))
      have HR := Lib.hid (show (⟨(Lx.misS 2 keep).toArray⟩ : ByteArray) = ⟨#[97, 108, 108]⟩ from rfl)
      clear c0 c1 c2 c3 c4 c5 c6 c7 hm0 hm1 hkp hbr hre
      go_enter Tryz.func56, Tryz.ntmps56
      go_upto_region 1 with (fail)
      rw [show (w.alloc (.cells #[.int .i64 cap, .int .i64 pri, .int .i64 spl, .int .i64 dl, .int .i64 2, .int .i64 keep, .int .i64 lt, .int .i64 lu, .int .i64 bf, .int .i64 bo, .int .i64 bp, .int .i64 rm, .int .i64 rb, .int .i64 rc, .int .i64 rj] 29)) = W0 from hW0.symm]
      clear hW0
      obtain ⟨q0, q1, q2, q3, q4, q5, q6, q7, q8, q9, q10, q11, q12, q13, q14⟩ := HQ.out W0 (Below.refl _ _)
      go_upto_region 12 with (fail)
      obtain ⟨W1, hW1⟩ : ∃ W1, W1 = W0.alloc (.cells #[.string ⟨#[100, 114, 111, 112]⟩, .string ⟨#[108, 97, 115, 116]⟩, .string ⟨#[97, 108, 108]⟩, .string ⟨#[115, 111, 109, 101, 58]⟩] 9) := ⟨_, rfl⟩
      rw [show W0.alloc (.cells #[.string ⟨#[100, 114, 111, 112]⟩, .string ⟨#[108, 97, 115, 116]⟩, .string ⟨#[97, 108, 108]⟩, .string ⟨#[115, 111, 109, 101, 58]⟩] 9) = W1 from hW1.symm]
      have C1 := Lib.hid (show Below W0.heap.size W0 W1 from by rw [hW1]; exact (Below.refl _ W0).alloc (Nat.le_refl _) _)
      have r0 : W1.cell? ⟨W0.heap.size, 0, none⟩ = some (.string ⟨#[100, 114, 111, 112]⟩) := by rw [hW1]; exact Lx.cellR _ _ _ _ _ rfl
      have r1 : W1.cell? ⟨W0.heap.size, 1, none⟩ = some (.string ⟨#[108, 97, 115, 116]⟩) := by rw [hW1]; exact Lx.cellR _ _ _ _ _ rfl
      have r2 : W1.cell? ⟨W0.heap.size, 2, none⟩ = some (.string ⟨#[97, 108, 108]⟩) := by rw [hW1]; exact Lx.cellR _ _ _ _ _ rfl
      have r3 : W1.cell? ⟨W0.heap.size, 3, none⟩ = some (.string ⟨#[115, 111, 109, 101, 58]⟩) := by rw [hW1]; exact Lx.cellR _ _ _ _ _ rfl
      clear hW1 q0 q1 q2 q3 q4 q5 q6 q7 q8 q9 q10 q11 q12 q13 q14
      obtain ⟨q0, q1, q2, q3, q4, q5, q6, q7, q8, q9, q10, q11, q12, q13, q14⟩ := HQ.out W1 C1.out
      have G := Lib.hid (B0.out.trans (C1.out.mono B0.out.size))
      go_wp2_with fail
      go_ret
      exact ⟨by rw [HR.out]; rfl, G.out⟩
set_option maxRecDepth 100000 in
set_option maxHeartbeats 1600000 in
theorem q14val5_any (p : Lx.PolV) (h : Lx.polOk p = true) (s : ByteArray) (hs : s.data.toList = Lx.keyW 5) (w : World) :
    Calls Tryz.prog 56 #[p.val, .string s] w fun e w' => e = .returned (.string ⟨(Lx.valS 5 p).toArray⟩) ∧ Below w.heap.size w w' := by
  obtain ⟨⟨c0, c1⟩, ⟨c2, c3⟩, ⟨c4, c5⟩, ⟨c6, c7⟩, hmis, _, _, _⟩ := Lx.pol_parts h
  obtain ⟨hbr, hre⟩ := Lx.ok_parts h
  have e0 : (s.toList == [99, 97, 112]) = false := by rw [beq_eq_false_iff_ne, Lib.toList_data, hs]; decide
  have e1 : (s.toList == [112, 114, 105, 111, 114, 105, 116, 121]) = false := by rw [beq_eq_false_iff_ne, Lib.toList_data, hs]; decide
  have e2 : (s.toList == [115, 112, 108, 97, 121]) = false := by rw [beq_eq_false_iff_ne, Lib.toList_data, hs]; decide
  have e3 : (s.toList == [100, 101, 97, 100, 108, 105, 110, 101]) = false := by rw [beq_eq_false_iff_ne, Lib.toList_data, hs]; decide
  have e4 : (s.toList == [109, 105, 115, 102, 105, 114, 101]) = false := by rw [beq_eq_false_iff_ne, Lib.toList_data, hs]; decide
  have e5 : (s.toList == [108, 105, 109, 105, 116]) = true := by rw [beq_iff_eq, Lib.toList_data, hs]; rfl
  clear hs
  obtain ⟨cap, pri, spl, dl, mis, keep, lt, lu, bf, bo, bp, rm, rb, rc, rj⟩ := p
  unfold Lx.PolV.val Lx.valS
  dsimp only at c0 c1 c2 c3 c4 c5 c6 c7 hmis hbr hre ⊢
  clear h
  obtain ⟨W0, hW0⟩ : ∃ W0, W0 = (w.alloc (.cells #[.int .i64 cap, .int .i64 pri, .int .i64 spl, .int .i64 dl, .int .i64 mis, .int .i64 keep, .int .i64 lt, .int .i64 lu, .int .i64 bf, .int .i64 bo, .int .i64 bp, .int .i64 rm, .int .i64 rb, .int .i64 rc, .int .i64 rj] 29)) := ⟨_, rfl⟩
  have B0 := Lib.hid (show Below w.heap.size w W0 from by rw [hW0]; exact (Below.refl _ w).alloc (Nat.le_refl _) _)
  have HQ := Lib.hid (show ∀ wx, Below W0.heap.size W0 wx → wx.cell? ⟨w.heap.size, 0, none⟩ = some (.int .i64 cap) ∧ wx.cell? ⟨w.heap.size, 1, none⟩ = some (.int .i64 pri) ∧ wx.cell? ⟨w.heap.size, 2, none⟩ = some (.int .i64 spl) ∧ wx.cell? ⟨w.heap.size, 3, none⟩ = some (.int .i64 dl) ∧ wx.cell? ⟨w.heap.size, 4, none⟩ = some (.int .i64 mis) ∧ wx.cell? ⟨w.heap.size, 5, none⟩ = some (.int .i64 keep) ∧ wx.cell? ⟨w.heap.size, 6, none⟩ = some (.int .i64 lt) ∧ wx.cell? ⟨w.heap.size, 7, none⟩ = some (.int .i64 lu) ∧ wx.cell? ⟨w.heap.size, 8, none⟩ = some (.int .i64 bf) ∧ wx.cell? ⟨w.heap.size, 9, none⟩ = some (.int .i64 bo) ∧ wx.cell? ⟨w.heap.size, 10, none⟩ = some (.int .i64 bp) ∧ wx.cell? ⟨w.heap.size, 11, none⟩ = some (.int .i64 rm) ∧ wx.cell? ⟨w.heap.size, 12, none⟩ = some (.int .i64 rb) ∧ wx.cell? ⟨w.heap.size, 13, none⟩ = some (.int .i64 rc) ∧ wx.cell? ⟨w.heap.size, 14, none⟩ = some (.int .i64 rj) from fun wx b => by
    have hlt : w.heap.size < W0.heap.size := by rw [hW0]; simp
    refine ⟨?_, ?_, ?_, ?_, ?_, ?_, ?_, ?_, ?_, ?_, ?_, ?_, ?_, ?_, ?_⟩
    all_goals (refine (b.cell (p := ⟨w.heap.size, _, none⟩) hlt).trans ?_; rw [hW0]; simp))
  have H := Lib.hid (fun W => ref_plimit_any lt lu W)
  generalize (⟨(Lx.plimS lt lu).toArray⟩ : ByteArray) = V at *
  generalize Lx.plimE lt lu = x at *
  clear c0 c1 c2 c3 c4 c5 c6 c7 hmis hbr hre
  go_enter Tryz.func56, Tryz.ntmps56
  go_upto_region 1 with (fail)
  rw [show (w.alloc (.cells #[.int .i64 cap, .int .i64 pri, .int .i64 spl, .int .i64 dl, .int .i64 mis, .int .i64 keep, .int .i64 lt, .int .i64 lu, .int .i64 bf, .int .i64 bo, .int .i64 bp, .int .i64 rm, .int .i64 rb, .int .i64 rc, .int .i64 rj] 29)) = W0 from hW0.symm]
  clear hW0
  obtain ⟨q0, q1, q2, q3, q4, q5, q6, q7, q8, q9, q10, q11, q12, q13, q14⟩ := HQ.out W0 (Below.refl _ _)
  go_wp2_with fail
  refine (H.out _).mono ?_
  rintro e w1 ⟨rfl, c1⟩
  go_wp2_with fail
  go_ret
  exact ⟨rfl, B0.out.trans (c1.mono B0.out.size)⟩
set_option maxRecDepth 100000 in
set_option maxHeartbeats 1600000 in
theorem q14val6_any (p : Lx.PolV) (h : Lx.polOk p = true) (s : ByteArray) (hs : s.data.toList = Lx.keyW 6) (w : World) :
    Calls Tryz.prog 56 #[p.val, .string s] w fun e w' => e = .returned (.string ⟨(Lx.valS 6 p).toArray⟩) ∧ Below w.heap.size w w' := by
  obtain ⟨⟨c0, c1⟩, ⟨c2, c3⟩, ⟨c4, c5⟩, ⟨c6, c7⟩, hmis, _, _, _⟩ := Lx.pol_parts h
  obtain ⟨hbr, hre⟩ := Lx.ok_parts h
  have e0 : (s.toList == [99, 97, 112]) = false := by rw [beq_eq_false_iff_ne, Lib.toList_data, hs]; decide
  have e1 : (s.toList == [112, 114, 105, 111, 114, 105, 116, 121]) = false := by rw [beq_eq_false_iff_ne, Lib.toList_data, hs]; decide
  have e2 : (s.toList == [115, 112, 108, 97, 121]) = false := by rw [beq_eq_false_iff_ne, Lib.toList_data, hs]; decide
  have e3 : (s.toList == [100, 101, 97, 100, 108, 105, 110, 101]) = false := by rw [beq_eq_false_iff_ne, Lib.toList_data, hs]; decide
  have e4 : (s.toList == [109, 105, 115, 102, 105, 114, 101]) = false := by rw [beq_eq_false_iff_ne, Lib.toList_data, hs]; decide
  have e5 : (s.toList == [108, 105, 109, 105, 116]) = false := by rw [beq_eq_false_iff_ne, Lib.toList_data, hs]; decide
  have e6 : (s.toList == [98, 114, 101, 97, 107, 101, 114]) = true := by rw [beq_iff_eq, Lib.toList_data, hs]; rfl
  clear hs
  obtain ⟨cap, pri, spl, dl, mis, keep, lt, lu, bf, bo, bp, rm, rb, rc, rj⟩ := p
  unfold Lx.PolV.val Lx.valS
  dsimp only at c0 c1 c2 c3 c4 c5 c6 c7 hmis hbr hre ⊢
  clear h
  obtain ⟨W0, hW0⟩ : ∃ W0, W0 = (w.alloc (.cells #[.int .i64 cap, .int .i64 pri, .int .i64 spl, .int .i64 dl, .int .i64 mis, .int .i64 keep, .int .i64 lt, .int .i64 lu, .int .i64 bf, .int .i64 bo, .int .i64 bp, .int .i64 rm, .int .i64 rb, .int .i64 rc, .int .i64 rj] 29)) := ⟨_, rfl⟩
  have B0 := Lib.hid (show Below w.heap.size w W0 from by rw [hW0]; exact (Below.refl _ w).alloc (Nat.le_refl _) _)
  have HQ := Lib.hid (show ∀ wx, Below W0.heap.size W0 wx → wx.cell? ⟨w.heap.size, 0, none⟩ = some (.int .i64 cap) ∧ wx.cell? ⟨w.heap.size, 1, none⟩ = some (.int .i64 pri) ∧ wx.cell? ⟨w.heap.size, 2, none⟩ = some (.int .i64 spl) ∧ wx.cell? ⟨w.heap.size, 3, none⟩ = some (.int .i64 dl) ∧ wx.cell? ⟨w.heap.size, 4, none⟩ = some (.int .i64 mis) ∧ wx.cell? ⟨w.heap.size, 5, none⟩ = some (.int .i64 keep) ∧ wx.cell? ⟨w.heap.size, 6, none⟩ = some (.int .i64 lt) ∧ wx.cell? ⟨w.heap.size, 7, none⟩ = some (.int .i64 lu) ∧ wx.cell? ⟨w.heap.size, 8, none⟩ = some (.int .i64 bf) ∧ wx.cell? ⟨w.heap.size, 9, none⟩ = some (.int .i64 bo) ∧ wx.cell? ⟨w.heap.size, 10, none⟩ = some (.int .i64 bp) ∧ wx.cell? ⟨w.heap.size, 11, none⟩ = some (.int .i64 rm) ∧ wx.cell? ⟨w.heap.size, 12, none⟩ = some (.int .i64 rb) ∧ wx.cell? ⟨w.heap.size, 13, none⟩ = some (.int .i64 rc) ∧ wx.cell? ⟨w.heap.size, 14, none⟩ = some (.int .i64 rj) from fun wx b => by
    have hlt : w.heap.size < W0.heap.size := by rw [hW0]; simp
    refine ⟨?_, ?_, ?_, ?_, ?_, ?_, ?_, ?_, ?_, ?_, ?_, ?_, ?_, ?_, ?_⟩
    all_goals (refine (b.cell (p := ⟨w.heap.size, _, none⟩) hlt).trans ?_; rw [hW0]; simp))
  have heq := fun W => eqBr bf bo bp W
  cases hz : Lx.brZ bf bo bp
  · have hb : (1 ≤ bf ∧ bf ≤ 100) ∧ (1 ≤ bo ∧ bo ≤ 68719476736) ∧ (1 ≤ bp ∧ bp ≤ 100) := by
      unfold Lx.brOk Lx.inI at hbr
      rw [hz] at hbr
      simpa using hbr
    have hs : Lx.brS bf bo bp = Lib.itoa bf ++ [47] ++ Lx.prnV bo ++ [47] ++ Lib.itoa bp := by unfold Lx.brS; rw [if_neg (by rw [hz]; simp)]
    rw [hz] at heq
    have H0 := Lib.hid (fun W => q14decI_any bf (by omega) (by omega) W)
    have H1 := Lib.hid (fun W => q14span_any bo W)
    have H2 := Lib.hid (fun W => q14decI_any bp (by omega) (by omega) W)
    obtain ⟨V0, hV0⟩ : ∃ V : ByteArray, V = ⟨(Lib.itoa bf).toArray⟩ := ⟨_, rfl⟩
    obtain ⟨V1, hV1⟩ : ∃ V : ByteArray, V = ⟨(Lx.prnV bo).toArray⟩ := ⟨_, rfl⟩
    obtain ⟨V2, hV2⟩ : ∃ V : ByteArray, V = ⟨(Lib.itoa bp).toArray⟩ := ⟨_, rfl⟩
    have m0 : V0.size ≤ 100 := by rw [Lib.size_eq, hV0]; exact Nat.le_trans (Lx.it_len (by omega) (by omega)) (by omega)
    have m1 : V1.size ≤ 100 := by rw [Lib.size_eq, hV1]; exact Lx.prn_len (by omega)
    have m2 : V2.size ≤ 100 := by rw [Lib.size_eq, hV2]; exact Nat.le_trans (Lx.it_len (by omega) (by omega)) (by omega)
    rw [← hV0] at H0
    rw [← hV1] at H1
    rw [← hV2] at H2
    have HR := Lib.hid (show (⟨(Lx.brS bf bo bp).toArray⟩ : ByteArray) = V0 ++ (⟨#[47]⟩ : ByteArray) ++ V1 ++ (⟨#[47]⟩ : ByteArray) ++ V2 from by
      apply ByteArray.ext; apply Array.toList_inj.1
      rw [hs, hV0, hV1, hV2]; simp [ByteArray.data_append])
    have k1 : (⟨#[47]⟩ : ByteArray).size = 1 := rfl
    have n0 : ¬ (9223372036854775807 < V0.size + 1) := by omega
    have n1 : ¬ (9223372036854775807 < V0.size + 1 + V1.size) := by omega
    have n2 : ¬ (9223372036854775807 < V0.size + 1 + V1.size + 1) := by omega
    have n3 : ¬ (9223372036854775807 < V0.size + 1 + V1.size + 1 + V2.size) := by omega
    clear hs hb hz hV0 hV1 hV2
    clear c0 c1 c2 c3 c4 c5 c6 c7 hmis hbr hre
    go_enter Tryz.func56, Tryz.ntmps56
    go_upto_region 1 with (fail)
    rw [show (w.alloc (.cells #[.int .i64 cap, .int .i64 pri, .int .i64 spl, .int .i64 dl, .int .i64 mis, .int .i64 keep, .int .i64 lt, .int .i64 lu, .int .i64 bf, .int .i64 bo, .int .i64 bp, .int .i64 rm, .int .i64 rb, .int .i64 rc, .int .i64 rj] 29)) = W0 from hW0.symm]
    clear hW0
    obtain ⟨q0, q1, q2, q3, q4, q5, q6, q7, q8, q9, q10, q11, q12, q13, q14⟩ := HQ.out W0 (Below.refl _ _)
    go_upto_region 21 with (fail)
    have HSS := Lib.hid (show ∀ wx, Below W0.heap.size W0 wx → Below W0.heap.size W0 wx ∧ wx.cell? ⟨w.heap.size, 8, none⟩ = some (.int .i64 bf) ∧ wx.cell? ⟨w.heap.size, 9, none⟩ = some (.int .i64 bo) ∧ wx.cell? ⟨w.heap.size, 10, none⟩ = some (.int .i64 bp) from fun wx b => by
      obtain ⟨q0, q1, q2, q3, q4, q5, q6, q7, q8, q9, q10, q11, q12, q13, q14⟩ := HQ.out wx b
      exact ⟨b, q8, q9, q10⟩)
    have hS0 := HSS.out W0.drew (Below.refl _ W0).drew
    clear q0 q1 q2 q3 q4 q5 q6 q7 q8 q9 q10 q11 q12 q13 q14 HQ
    refine wp_region_held_drew (S := (fun wx => Below W0.heap.size W0 wx ∧ wx.cell? ⟨w.heap.size, 8, none⟩ = some (.int .i64 bf) ∧ wx.cell? ⟨w.heap.size, 9, none⟩ = some (.int .i64 bo) ∧ wx.cell? ⟨w.heap.size, 10, none⟩ = some (.int .i64 bp))) (by kernel_rfl) ?_ (fun hHeld => ?_)
    · exact hS0
    refine' wpAnyH_take (i := 0) (oi := _) (v := _) ?hi0r2 (by kernel_rfl) (by kernel_rfl) (by kernel_rfl) ?hq0r2 ?hy0r2 (by assumption) ?re0r2
    case hi0r2 => simp only [List.getElem?_toArray, List.getElem?_cons_zero]; rfl
    case hq0r2 => exact fun _ _ _ h => h
    case hy0r2 =>
      refine Or.inl ⟨by rfl, ?_⟩
      intro w hSw; (try dsimp only at hSw); go_simp; try with_reducible rfl
    try simp only [Act.put, List.setIfInBounds_toArray, List.set_cons_zero, List.set_cons_succ]
    refine' wpAnyH_take (i := 1) (oi := _) (v := _) ?hi1r2 (by kernel_rfl) (by kernel_rfl) (by kernel_rfl) ?hq1r2 ?hy1r2 (by assumption) ?re1r2
    case hi1r2 => simp only [List.getElem?_toArray, List.getElem?_cons_succ, List.getElem?_cons_zero]; rfl
    case hq1r2 => exact fun _ _ _ h => h
    case hy1r2 =>
      refine Or.inl ⟨by rfl, ?_⟩
      intro w hSw; (try dsimp only at hSw); go_simp; try with_reducible rfl
    try simp only [Act.put, List.setIfInBounds_toArray, List.set_cons_zero, List.set_cons_succ]
    refine' wpAnyH_take (i := 2) (oi := _) (v := _) ?hi2r2 (by kernel_rfl) (by kernel_rfl) (by kernel_rfl) ?hq2r2 ?hy2r2 (by assumption) ?re2r2
    case hi2r2 => simp only [List.getElem?_toArray, List.getElem?_cons_succ, List.getElem?_cons_zero]; rfl
    case hq2r2 => exact fun _ _ _ h => h
    case hy2r2 =>
      refine Or.inl ⟨by rfl, ?_⟩
      intro w hSw; (try dsimp only at hSw); go_simp; try with_reducible rfl
    try simp only [Act.put, List.setIfInBounds_toArray, List.set_cons_zero, List.set_cons_succ]
    refine' wpAnyH_take (i := 5) (oi := _) (v := _) ?hi5r2 (by kernel_rfl) (by kernel_rfl) (by kernel_rfl) ?hq5r2 ?hy5r2 (by assumption) ?re5r2
    case hi5r2 => simp only [List.getElem?_toArray, List.getElem?_cons_succ, List.getElem?_cons_zero]; rfl
    case hq5r2 => exact fun _ _ _ h => h
    case hy5r2 =>
      refine Or.inl ⟨by rfl, ?_⟩
      intro w hSw; (try dsimp only at hSw); go_simp; try with_reducible rfl
    try simp only [Act.put, List.setIfInBounds_toArray, List.set_cons_zero, List.set_cons_succ]
    refine' wpAnyH_take (i := 6) (oi := _) (v := _) ?hi6r2 (by kernel_rfl) (by kernel_rfl) (by kernel_rfl) ?hq6r2 ?hy6r2 (by assumption) ?re6r2
    case hi6r2 => simp only [List.getElem?_toArray, List.getElem?_cons_succ, List.getElem?_cons_zero]; rfl
    case hq6r2 => exact fun _ _ _ h => h
    case hy6r2 =>
      refine Or.inl ⟨by rfl, ?_⟩
      intro w hSw; (try dsimp only at hSw); go_simp; try with_reducible rfl
    try simp only [Act.put, List.setIfInBounds_toArray, List.set_cons_zero, List.set_cons_succ]
    refine' wpAnyH_take (i := 7) (oi := _) (v := _) ?hi7r2 (by kernel_rfl) (by kernel_rfl) (by kernel_rfl) ?hq7r2 ?hy7r2 (by assumption) ?re7r2
    case hi7r2 => simp only [List.getElem?_toArray, List.getElem?_cons_succ, List.getElem?_cons_zero]; rfl
    case hq7r2 => exact fun _ _ _ h => h
    case hy7r2 =>
      refine Or.inl ⟨by rfl, ?_⟩
      intro w hSw; (try dsimp only at hSw); go_simp; try with_reducible rfl
    try simp only [Act.put, List.setIfInBounds_toArray, List.set_cons_zero, List.set_cons_succ]
    refine' wpAnyH_take (i := 11) (oi := _) (v := _) ?hi11r2 (by kernel_rfl) (by kernel_rfl) (by kernel_rfl) ?hq11r2 ?hy11r2 (by assumption) ?re11r2
    case hi11r2 => simp only [List.getElem?_toArray, List.getElem?_cons_succ, List.getElem?_cons_zero]; rfl
    case hq11r2 => exact fun _ _ _ h => h
    case hy11r2 =>
      refine Or.inl ⟨by rfl, ?_⟩
      intro w hSw; (try dsimp only at hSw); go_simp; try with_reducible rfl
    try simp only [Act.put, List.setIfInBounds_toArray, List.set_cons_zero, List.set_cons_succ]
    refine' wpAnyH_take (i := 12) (oi := _) (v := _) ?hi12r2 (by kernel_rfl) (by kernel_rfl) (by kernel_rfl) ?hq12r2 ?hy12r2 (by assumption) ?re12r2
    case hi12r2 => simp only [List.getElem?_toArray, List.getElem?_cons_succ, List.getElem?_cons_zero]; rfl
    case hq12r2 => exact fun _ _ _ h => h
    case hy12r2 =>
      refine Or.inl ⟨by rfl, ?_⟩
      intro w hSw; (try dsimp only at hSw); go_simp; try with_reducible rfl
    try simp only [Act.put, List.setIfInBounds_toArray, List.set_cons_zero, List.set_cons_succ]
    refine' wpAnyH_take (i := 13) (oi := _) (v := _) ?hi13r2 (by kernel_rfl) (by kernel_rfl) (by kernel_rfl) ?hq13r2 ?hy13r2 (by assumption) ?re13r2
    case hi13r2 => simp only [List.getElem?_toArray, List.getElem?_cons_succ, List.getElem?_cons_zero]; rfl
    case hq13r2 => exact fun _ _ _ h => h
    case hy13r2 =>
      refine Or.inl ⟨by rfl, ?_⟩
      intro w hSw; (try dsimp only at hSw); go_simp; try with_reducible rfl
    try simp only [Act.put, List.setIfInBounds_toArray, List.set_cons_zero, List.set_cons_succ]
    refine wpAnyH_ready (rs := [3]) (by kernel_rfl) (by simp) ?_
    refine' AllReadyH.cons (o := _) ?hi3r2 (fun K hK => ?st3r2) AllReadyH.nil
    case hi3r2 => simp only [List.getElem?_toArray, List.getElem?_cons_succ, List.getElem?_cons_zero]; rfl
    go_simp
    go_at_call 87; refine (H0.out _).mono ?_; rintro e w8 ⟨rfl, c8⟩; have k8 := HSS.out _ (hHeld.1.trans (c8.mono hHeld.1.size)); clear c8
    try go_wp2_with fail
    refine hK.out _ _ ?_ (fun hHeld => ?_)
    · exact k8
    clear hK K
    try simp only [Act.put, List.setIfInBounds_toArray, List.set_cons_zero, List.set_cons_succ]
    refine' wpAnyH_take (i := 4) (oi := _) (v := _) ?hi4r2 (by kernel_rfl) (by kernel_rfl) (by kernel_rfl) ?hq4r2 ?hy4r2 (by assumption) ?re4r2
    case hi4r2 => simp only [List.getElem?_toArray, List.getElem?_cons_succ, List.getElem?_cons_zero]; rfl
    case hq4r2 => exact fun _ _ _ h => h
    case hy4r2 =>
      refine Or.inl ⟨by rfl, ?_⟩
      intro w hSw; (try dsimp only at hSw); go_simp; try with_reducible rfl
    try simp only [Act.put, List.setIfInBounds_toArray, List.set_cons_zero, List.set_cons_succ]
    refine wpAnyH_ready (rs := [8]) (by kernel_rfl) (by simp) ?_
    refine' AllReadyH.cons (o := _) ?hi8r2 (fun K hK => ?st8r2) AllReadyH.nil
    case hi8r2 => simp only [List.getElem?_toArray, List.getElem?_cons_succ, List.getElem?_cons_zero]; rfl
    go_simp
    go_at_call 88; refine (H1.out _).mono ?_; rintro e w8 ⟨rfl, c8⟩; have k8 := HSS.out _ (hHeld.1.trans (c8.mono hHeld.1.size)); clear c8
    try go_wp2_with fail
    refine hK.out _ _ ?_ (fun hHeld => ?_)
    · exact k8
    clear hK K
    try simp only [Act.put, List.setIfInBounds_toArray, List.set_cons_zero, List.set_cons_succ]
    refine' wpAnyH_take (i := 9) (oi := _) (v := _) ?hi9r2 (by kernel_rfl) (by kernel_rfl) (by kernel_rfl) ?hq9r2 ?hy9r2 (by assumption) ?re9r2
    case hi9r2 => simp only [List.getElem?_toArray, List.getElem?_cons_succ, List.getElem?_cons_zero]; rfl
    case hq9r2 => exact fun _ _ _ h => h
    case hy9r2 =>
      refine Or.inl ⟨by rfl, ?_⟩
      intro w hSw; (try dsimp only at hSw); go_simp; try with_reducible rfl
    try simp only [Act.put, List.setIfInBounds_toArray, List.set_cons_zero, List.set_cons_succ]
    refine' wpAnyH_take (i := 10) (oi := _) (v := _) ?hi10r2 (by kernel_rfl) (by kernel_rfl) (by kernel_rfl) ?hq10r2 ?hy10r2 (by assumption) ?re10r2
    case hi10r2 => simp only [List.getElem?_toArray, List.getElem?_cons_succ, List.getElem?_cons_zero]; rfl
    case hq10r2 => exact fun _ _ _ h => h
    case hy10r2 =>
      refine Or.inl ⟨by rfl, ?_⟩
      intro w hSw; (try dsimp only at hSw); go_simp; try with_reducible rfl
    try simp only [Act.put, List.setIfInBounds_toArray, List.set_cons_zero, List.set_cons_succ]
    refine wpAnyH_ready (rs := [14]) (by kernel_rfl) (by simp) ?_
    refine' AllReadyH.cons (o := _) ?hi14r2 (fun K hK => ?st14r2) AllReadyH.nil
    case hi14r2 => simp only [List.getElem?_toArray, List.getElem?_cons_succ, List.getElem?_cons_zero]; rfl
    go_simp
    go_at_call 87; refine (H2.out _).mono ?_; rintro e w8 ⟨rfl, c8⟩; have k8 := HSS.out _ (hHeld.1.trans (c8.mono hHeld.1.size)); clear c8
    try go_wp2_with fail
    refine hK.out _ _ ?_ (fun hHeld => ?_)
    · exact k8
    clear hK K
    try simp only [Act.put, List.setIfInBounds_toArray, List.set_cons_zero, List.set_cons_succ]
    refine' wpAnyH_take (i := 15) (oi := _) (v := _) ?hi15r2 (by kernel_rfl) (by kernel_rfl) (by kernel_rfl) ?hq15r2 ?hy15r2 (by assumption) ?re15r2
    case hi15r2 => simp only [List.getElem?_toArray, List.getElem?_cons_succ, List.getElem?_cons_zero]; rfl
    case hq15r2 => exact fun _ _ _ h => h
    case hy15r2 =>
      refine Or.inl ⟨by rfl, ?_⟩
      intro w hSw; (try dsimp only at hSw); go_simp; try with_reducible rfl
    try simp only [Act.put, List.setIfInBounds_toArray, List.set_cons_zero, List.set_cons_succ]
    refine' wpAnyH_take (i := 16) (oi := _) (v := _) ?hi16r2 (by kernel_rfl) (by kernel_rfl) (by kernel_rfl) ?hq16r2 ?hy16r2 (by assumption) ?re16r2
    case hi16r2 => simp only [List.getElem?_toArray, List.getElem?_cons_succ, List.getElem?_cons_zero]; rfl
    case hq16r2 => exact fun _ _ _ h => h
    case hy16r2 =>
      refine Or.inl ⟨by rfl, ?_⟩
      intro w hSw; (try dsimp only at hSw); go_simp; try with_reducible rfl
    try simp only [Act.put, List.setIfInBounds_toArray, List.set_cons_zero, List.set_cons_succ]
    refine wpAnyH_done (by kernel_rfl) ?_ _
    have G := Lib.hid (B0.out.trans (hHeld.1.mono B0.out.size))
    clear hHeld
    go_wp2_with fail
    go_ret
    exact ⟨by rw [HR.out]; rfl, G.out⟩
  · have HR := Lib.hid (show (⟨(Lx.brS bf bo bp).toArray⟩ : ByteArray) = ⟨#[110, 111, 110, 101]⟩ from by unfold Lx.brS; rw [if_pos hz]; rfl)
    rw [hz] at heq
    clear c0 c1 c2 c3 c4 c5 c6 c7 hmis hbr hre
    clear hz
    go_enter Tryz.func56, Tryz.ntmps56
    go_upto_region 1 with (fail)
    rw [show (w.alloc (.cells #[.int .i64 cap, .int .i64 pri, .int .i64 spl, .int .i64 dl, .int .i64 mis, .int .i64 keep, .int .i64 lt, .int .i64 lu, .int .i64 bf, .int .i64 bo, .int .i64 bp, .int .i64 rm, .int .i64 rb, .int .i64 rc, .int .i64 rj] 29)) = W0 from hW0.symm]
    clear hW0
    obtain ⟨q0, q1, q2, q3, q4, q5, q6, q7, q8, q9, q10, q11, q12, q13, q14⟩ := HQ.out W0 (Below.refl _ _)
    go_wp2_with fail
    go_ret
    exact ⟨by rw [HR.out]; rfl, B0.out⟩
set_option maxRecDepth 100000 in
set_option maxHeartbeats 1600000 in
theorem q14val7_any (p : Lx.PolV) (h : Lx.polOk p = true) (s : ByteArray) (hs : s.data.toList = Lx.keyW 7) (w : World) :
    Calls Tryz.prog 56 #[p.val, .string s] w fun e w' => e = .returned (.string ⟨(Lx.valS 7 p).toArray⟩) ∧ Below w.heap.size w w' := by
  obtain ⟨⟨c0, c1⟩, ⟨c2, c3⟩, ⟨c4, c5⟩, ⟨c6, c7⟩, hmis, _, _, _⟩ := Lx.pol_parts h
  obtain ⟨hbr, hre⟩ := Lx.ok_parts h
  have e0 : (s.toList == [99, 97, 112]) = false := by rw [beq_eq_false_iff_ne, Lib.toList_data, hs]; decide
  have e1 : (s.toList == [112, 114, 105, 111, 114, 105, 116, 121]) = false := by rw [beq_eq_false_iff_ne, Lib.toList_data, hs]; decide
  have e2 : (s.toList == [115, 112, 108, 97, 121]) = false := by rw [beq_eq_false_iff_ne, Lib.toList_data, hs]; decide
  have e3 : (s.toList == [100, 101, 97, 100, 108, 105, 110, 101]) = false := by rw [beq_eq_false_iff_ne, Lib.toList_data, hs]; decide
  have e4 : (s.toList == [109, 105, 115, 102, 105, 114, 101]) = false := by rw [beq_eq_false_iff_ne, Lib.toList_data, hs]; decide
  have e5 : (s.toList == [108, 105, 109, 105, 116]) = false := by rw [beq_eq_false_iff_ne, Lib.toList_data, hs]; decide
  have e6 : (s.toList == [98, 114, 101, 97, 107, 101, 114]) = false := by rw [beq_eq_false_iff_ne, Lib.toList_data, hs]; decide
  clear hs
  obtain ⟨cap, pri, spl, dl, mis, keep, lt, lu, bf, bo, bp, rm, rb, rc, rj⟩ := p
  unfold Lx.PolV.val Lx.valS
  dsimp only at c0 c1 c2 c3 c4 c5 c6 c7 hmis hbr hre ⊢
  clear h
  obtain ⟨W0, hW0⟩ : ∃ W0, W0 = (w.alloc (.cells #[.int .i64 cap, .int .i64 pri, .int .i64 spl, .int .i64 dl, .int .i64 mis, .int .i64 keep, .int .i64 lt, .int .i64 lu, .int .i64 bf, .int .i64 bo, .int .i64 bp, .int .i64 rm, .int .i64 rb, .int .i64 rc, .int .i64 rj] 29)) := ⟨_, rfl⟩
  have B0 := Lib.hid (show Below w.heap.size w W0 from by rw [hW0]; exact (Below.refl _ w).alloc (Nat.le_refl _) _)
  have HQ := Lib.hid (show ∀ wx, Below W0.heap.size W0 wx → wx.cell? ⟨w.heap.size, 0, none⟩ = some (.int .i64 cap) ∧ wx.cell? ⟨w.heap.size, 1, none⟩ = some (.int .i64 pri) ∧ wx.cell? ⟨w.heap.size, 2, none⟩ = some (.int .i64 spl) ∧ wx.cell? ⟨w.heap.size, 3, none⟩ = some (.int .i64 dl) ∧ wx.cell? ⟨w.heap.size, 4, none⟩ = some (.int .i64 mis) ∧ wx.cell? ⟨w.heap.size, 5, none⟩ = some (.int .i64 keep) ∧ wx.cell? ⟨w.heap.size, 6, none⟩ = some (.int .i64 lt) ∧ wx.cell? ⟨w.heap.size, 7, none⟩ = some (.int .i64 lu) ∧ wx.cell? ⟨w.heap.size, 8, none⟩ = some (.int .i64 bf) ∧ wx.cell? ⟨w.heap.size, 9, none⟩ = some (.int .i64 bo) ∧ wx.cell? ⟨w.heap.size, 10, none⟩ = some (.int .i64 bp) ∧ wx.cell? ⟨w.heap.size, 11, none⟩ = some (.int .i64 rm) ∧ wx.cell? ⟨w.heap.size, 12, none⟩ = some (.int .i64 rb) ∧ wx.cell? ⟨w.heap.size, 13, none⟩ = some (.int .i64 rc) ∧ wx.cell? ⟨w.heap.size, 14, none⟩ = some (.int .i64 rj) from fun wx b => by
    have hlt : w.heap.size < W0.heap.size := by rw [hW0]; simp
    refine ⟨?_, ?_, ?_, ?_, ?_, ?_, ?_, ?_, ?_, ?_, ?_, ?_, ?_, ?_, ?_⟩
    all_goals (refine (b.cell (p := ⟨w.heap.size, _, none⟩) hlt).trans ?_; rw [hW0]; simp))
  have heq := fun W => eqRe rm rb rc rj W
  cases hz : Lx.reZ rm rb rc rj
  · have hb : (1 ≤ rm ∧ rm ≤ 20) ∧ (1 ≤ rb ∧ rb ≤ 68719476736) ∧ (rb ≤ rc ∧ rc ≤ 68719476736) ∧ (0 ≤ rj ∧ rj ≤ 68719476736) := by
      unfold Lx.reOk Lx.inI at hre
      rw [hz] at hre
      simpa using hre
    have hs : Lx.reS rm rb rc rj = Lib.itoa rm ++ [47] ++ Lx.prnV rb ++ [47] ++ Lx.prnV rc ++ [47] ++ Lx.prnV rj := by unfold Lx.reS; rw [if_neg (by rw [hz]; simp)]
    rw [hz] at heq
    have H0 := Lib.hid (fun W => q14decI_any rm (by omega) (by omega) W)
    have H1 := Lib.hid (fun W => q14span_any rb W)
    have H2 := Lib.hid (fun W => q14span_any rc W)
    have H3 := Lib.hid (fun W => q14span_any rj W)
    obtain ⟨V0, hV0⟩ : ∃ V : ByteArray, V = ⟨(Lib.itoa rm).toArray⟩ := ⟨_, rfl⟩
    obtain ⟨V1, hV1⟩ : ∃ V : ByteArray, V = ⟨(Lx.prnV rb).toArray⟩ := ⟨_, rfl⟩
    obtain ⟨V2, hV2⟩ : ∃ V : ByteArray, V = ⟨(Lx.prnV rc).toArray⟩ := ⟨_, rfl⟩
    obtain ⟨V3, hV3⟩ : ∃ V : ByteArray, V = ⟨(Lx.prnV rj).toArray⟩ := ⟨_, rfl⟩
    have m0 : V0.size ≤ 100 := by rw [Lib.size_eq, hV0]; exact Nat.le_trans (Lx.it_len (by omega) (by omega)) (by omega)
    have m1 : V1.size ≤ 100 := by rw [Lib.size_eq, hV1]; exact Lx.prn_len (by omega)
    have m2 : V2.size ≤ 100 := by rw [Lib.size_eq, hV2]; exact Lx.prn_len (by omega)
    have m3 : V3.size ≤ 100 := by rw [Lib.size_eq, hV3]; exact Lx.prn_len (by omega)
    rw [← hV0] at H0
    rw [← hV1] at H1
    rw [← hV2] at H2
    rw [← hV3] at H3
    have HR := Lib.hid (show (⟨(Lx.reS rm rb rc rj).toArray⟩ : ByteArray) = V0 ++ (⟨#[47]⟩ : ByteArray) ++ V1 ++ (⟨#[47]⟩ : ByteArray) ++ V2 ++ (⟨#[47]⟩ : ByteArray) ++ V3 from by
      apply ByteArray.ext; apply Array.toList_inj.1
      rw [hs, hV0, hV1, hV2, hV3]; simp [ByteArray.data_append])
    have k1 : (⟨#[47]⟩ : ByteArray).size = 1 := rfl
    have n0 : ¬ (9223372036854775807 < V0.size + 1) := by omega
    have n1 : ¬ (9223372036854775807 < V0.size + 1 + V1.size) := by omega
    have n2 : ¬ (9223372036854775807 < V0.size + 1 + V1.size + 1) := by omega
    have n3 : ¬ (9223372036854775807 < V0.size + 1 + V1.size + 1 + V2.size) := by omega
    have n4 : ¬ (9223372036854775807 < V0.size + 1 + V1.size + 1 + V2.size + 1) := by omega
    have n5 : ¬ (9223372036854775807 < V0.size + 1 + V1.size + 1 + V2.size + 1 + V3.size) := by omega
    clear hs hb hz hV0 hV1 hV2 hV3
    clear c0 c1 c2 c3 c4 c5 c6 c7 hmis hbr hre
    go_enter Tryz.func56, Tryz.ntmps56
    go_upto_region 1 with (fail)
    rw [show (w.alloc (.cells #[.int .i64 cap, .int .i64 pri, .int .i64 spl, .int .i64 dl, .int .i64 mis, .int .i64 keep, .int .i64 lt, .int .i64 lu, .int .i64 bf, .int .i64 bo, .int .i64 bp, .int .i64 rm, .int .i64 rb, .int .i64 rc, .int .i64 rj] 29)) = W0 from hW0.symm]
    clear hW0
    obtain ⟨q0, q1, q2, q3, q4, q5, q6, q7, q8, q9, q10, q11, q12, q13, q14⟩ := HQ.out W0 (Below.refl _ _)
    go_upto_region 24 with (fail)
    have HSS := Lib.hid (show ∀ wx, Below W0.heap.size W0 wx → Below W0.heap.size W0 wx ∧ wx.cell? ⟨w.heap.size, 11, none⟩ = some (.int .i64 rm) ∧ wx.cell? ⟨w.heap.size, 12, none⟩ = some (.int .i64 rb) ∧ wx.cell? ⟨w.heap.size, 13, none⟩ = some (.int .i64 rc) ∧ wx.cell? ⟨w.heap.size, 14, none⟩ = some (.int .i64 rj) from fun wx b => by
      obtain ⟨q0, q1, q2, q3, q4, q5, q6, q7, q8, q9, q10, q11, q12, q13, q14⟩ := HQ.out wx b
      exact ⟨b, q11, q12, q13, q14⟩)
    have hS0 := HSS.out W0.drew (Below.refl _ W0).drew
    clear q0 q1 q2 q3 q4 q5 q6 q7 q8 q9 q10 q11 q12 q13 q14 HQ
    refine wp_region_held_drew (S := (fun wx => Below W0.heap.size W0 wx ∧ wx.cell? ⟨w.heap.size, 11, none⟩ = some (.int .i64 rm) ∧ wx.cell? ⟨w.heap.size, 12, none⟩ = some (.int .i64 rb) ∧ wx.cell? ⟨w.heap.size, 13, none⟩ = some (.int .i64 rc) ∧ wx.cell? ⟨w.heap.size, 14, none⟩ = some (.int .i64 rj))) (by kernel_rfl) ?_ (fun hHeld => ?_)
    · exact hS0
    refine' wpAnyH_take (i := 0) (oi := _) (v := _) ?hi0r3 (by kernel_rfl) (by kernel_rfl) (by kernel_rfl) ?hq0r3 ?hy0r3 (by assumption) ?re0r3
    case hi0r3 => simp only [List.getElem?_toArray, List.getElem?_cons_zero]; rfl
    case hq0r3 => exact fun _ _ _ h => h
    case hy0r3 =>
      refine Or.inl ⟨by rfl, ?_⟩
      intro w hSw; (try dsimp only at hSw); go_simp; try with_reducible rfl
    try simp only [Act.put, List.setIfInBounds_toArray, List.set_cons_zero, List.set_cons_succ]
    refine' wpAnyH_take (i := 1) (oi := _) (v := _) ?hi1r3 (by kernel_rfl) (by kernel_rfl) (by kernel_rfl) ?hq1r3 ?hy1r3 (by assumption) ?re1r3
    case hi1r3 => simp only [List.getElem?_toArray, List.getElem?_cons_succ, List.getElem?_cons_zero]; rfl
    case hq1r3 => exact fun _ _ _ h => h
    case hy1r3 =>
      refine Or.inl ⟨by rfl, ?_⟩
      intro w hSw; (try dsimp only at hSw); go_simp; try with_reducible rfl
    try simp only [Act.put, List.setIfInBounds_toArray, List.set_cons_zero, List.set_cons_succ]
    refine' wpAnyH_take (i := 2) (oi := _) (v := _) ?hi2r3 (by kernel_rfl) (by kernel_rfl) (by kernel_rfl) ?hq2r3 ?hy2r3 (by assumption) ?re2r3
    case hi2r3 => simp only [List.getElem?_toArray, List.getElem?_cons_succ, List.getElem?_cons_zero]; rfl
    case hq2r3 => exact fun _ _ _ h => h
    case hy2r3 =>
      refine Or.inl ⟨by rfl, ?_⟩
      intro w hSw; (try dsimp only at hSw); go_simp; try with_reducible rfl
    try simp only [Act.put, List.setIfInBounds_toArray, List.set_cons_zero, List.set_cons_succ]
    refine' wpAnyH_take (i := 5) (oi := _) (v := _) ?hi5r3 (by kernel_rfl) (by kernel_rfl) (by kernel_rfl) ?hq5r3 ?hy5r3 (by assumption) ?re5r3
    case hi5r3 => simp only [List.getElem?_toArray, List.getElem?_cons_succ, List.getElem?_cons_zero]; rfl
    case hq5r3 => exact fun _ _ _ h => h
    case hy5r3 =>
      refine Or.inl ⟨by rfl, ?_⟩
      intro w hSw; (try dsimp only at hSw); go_simp; try with_reducible rfl
    try simp only [Act.put, List.setIfInBounds_toArray, List.set_cons_zero, List.set_cons_succ]
    refine' wpAnyH_take (i := 6) (oi := _) (v := _) ?hi6r3 (by kernel_rfl) (by kernel_rfl) (by kernel_rfl) ?hq6r3 ?hy6r3 (by assumption) ?re6r3
    case hi6r3 => simp only [List.getElem?_toArray, List.getElem?_cons_succ, List.getElem?_cons_zero]; rfl
    case hq6r3 => exact fun _ _ _ h => h
    case hy6r3 =>
      refine Or.inl ⟨by rfl, ?_⟩
      intro w hSw; (try dsimp only at hSw); go_simp; try with_reducible rfl
    try simp only [Act.put, List.setIfInBounds_toArray, List.set_cons_zero, List.set_cons_succ]
    refine' wpAnyH_take (i := 7) (oi := _) (v := _) ?hi7r3 (by kernel_rfl) (by kernel_rfl) (by kernel_rfl) ?hq7r3 ?hy7r3 (by assumption) ?re7r3
    case hi7r3 => simp only [List.getElem?_toArray, List.getElem?_cons_succ, List.getElem?_cons_zero]; rfl
    case hq7r3 => exact fun _ _ _ h => h
    case hy7r3 =>
      refine Or.inl ⟨by rfl, ?_⟩
      intro w hSw; (try dsimp only at hSw); go_simp; try with_reducible rfl
    try simp only [Act.put, List.setIfInBounds_toArray, List.set_cons_zero, List.set_cons_succ]
    refine' wpAnyH_take (i := 11) (oi := _) (v := _) ?hi11r3 (by kernel_rfl) (by kernel_rfl) (by kernel_rfl) ?hq11r3 ?hy11r3 (by assumption) ?re11r3
    case hi11r3 => simp only [List.getElem?_toArray, List.getElem?_cons_succ, List.getElem?_cons_zero]; rfl
    case hq11r3 => exact fun _ _ _ h => h
    case hy11r3 =>
      refine Or.inl ⟨by rfl, ?_⟩
      intro w hSw; (try dsimp only at hSw); go_simp; try with_reducible rfl
    try simp only [Act.put, List.setIfInBounds_toArray, List.set_cons_zero, List.set_cons_succ]
    refine' wpAnyH_take (i := 12) (oi := _) (v := _) ?hi12r3 (by kernel_rfl) (by kernel_rfl) (by kernel_rfl) ?hq12r3 ?hy12r3 (by assumption) ?re12r3
    case hi12r3 => simp only [List.getElem?_toArray, List.getElem?_cons_succ, List.getElem?_cons_zero]; rfl
    case hq12r3 => exact fun _ _ _ h => h
    case hy12r3 =>
      refine Or.inl ⟨by rfl, ?_⟩
      intro w hSw; (try dsimp only at hSw); go_simp; try with_reducible rfl
    try simp only [Act.put, List.setIfInBounds_toArray, List.set_cons_zero, List.set_cons_succ]
    refine' wpAnyH_take (i := 13) (oi := _) (v := _) ?hi13r3 (by kernel_rfl) (by kernel_rfl) (by kernel_rfl) ?hq13r3 ?hy13r3 (by assumption) ?re13r3
    case hi13r3 => simp only [List.getElem?_toArray, List.getElem?_cons_succ, List.getElem?_cons_zero]; rfl
    case hq13r3 => exact fun _ _ _ h => h
    case hy13r3 =>
      refine Or.inl ⟨by rfl, ?_⟩
      intro w hSw; (try dsimp only at hSw); go_simp; try with_reducible rfl
    try simp only [Act.put, List.setIfInBounds_toArray, List.set_cons_zero, List.set_cons_succ]
    refine' wpAnyH_take (i := 17) (oi := _) (v := _) ?hi17r3 (by kernel_rfl) (by kernel_rfl) (by kernel_rfl) ?hq17r3 ?hy17r3 (by assumption) ?re17r3
    case hi17r3 => simp only [List.getElem?_toArray, List.getElem?_cons_succ, List.getElem?_cons_zero]; rfl
    case hq17r3 => exact fun _ _ _ h => h
    case hy17r3 =>
      refine Or.inl ⟨by rfl, ?_⟩
      intro w hSw; (try dsimp only at hSw); go_simp; try with_reducible rfl
    try simp only [Act.put, List.setIfInBounds_toArray, List.set_cons_zero, List.set_cons_succ]
    refine' wpAnyH_take (i := 18) (oi := _) (v := _) ?hi18r3 (by kernel_rfl) (by kernel_rfl) (by kernel_rfl) ?hq18r3 ?hy18r3 (by assumption) ?re18r3
    case hi18r3 => simp only [List.getElem?_toArray, List.getElem?_cons_succ, List.getElem?_cons_zero]; rfl
    case hq18r3 => exact fun _ _ _ h => h
    case hy18r3 =>
      refine Or.inl ⟨by rfl, ?_⟩
      intro w hSw; (try dsimp only at hSw); go_simp; try with_reducible rfl
    try simp only [Act.put, List.setIfInBounds_toArray, List.set_cons_zero, List.set_cons_succ]
    refine' wpAnyH_take (i := 19) (oi := _) (v := _) ?hi19r3 (by kernel_rfl) (by kernel_rfl) (by kernel_rfl) ?hq19r3 ?hy19r3 (by assumption) ?re19r3
    case hi19r3 => simp only [List.getElem?_toArray, List.getElem?_cons_succ, List.getElem?_cons_zero]; rfl
    case hq19r3 => exact fun _ _ _ h => h
    case hy19r3 =>
      refine Or.inl ⟨by rfl, ?_⟩
      intro w hSw; (try dsimp only at hSw); go_simp; try with_reducible rfl
    try simp only [Act.put, List.setIfInBounds_toArray, List.set_cons_zero, List.set_cons_succ]
    refine wpAnyH_ready (rs := [3]) (by kernel_rfl) (by simp) ?_
    refine' AllReadyH.cons (o := _) ?hi3r3 (fun K hK => ?st3r3) AllReadyH.nil
    case hi3r3 => simp only [List.getElem?_toArray, List.getElem?_cons_succ, List.getElem?_cons_zero]; rfl
    go_simp
    go_at_call 87; refine (H0.out _).mono ?_; rintro e w8 ⟨rfl, c8⟩; have k8 := HSS.out _ (hHeld.1.trans (c8.mono hHeld.1.size)); clear c8
    try go_wp2_with fail
    refine hK.out _ _ ?_ (fun hHeld => ?_)
    · exact k8
    clear hK K
    try simp only [Act.put, List.setIfInBounds_toArray, List.set_cons_zero, List.set_cons_succ]
    refine' wpAnyH_take (i := 4) (oi := _) (v := _) ?hi4r3 (by kernel_rfl) (by kernel_rfl) (by kernel_rfl) ?hq4r3 ?hy4r3 (by assumption) ?re4r3
    case hi4r3 => simp only [List.getElem?_toArray, List.getElem?_cons_succ, List.getElem?_cons_zero]; rfl
    case hq4r3 => exact fun _ _ _ h => h
    case hy4r3 =>
      refine Or.inl ⟨by rfl, ?_⟩
      intro w hSw; (try dsimp only at hSw); go_simp; try with_reducible rfl
    try simp only [Act.put, List.setIfInBounds_toArray, List.set_cons_zero, List.set_cons_succ]
    refine wpAnyH_ready (rs := [8]) (by kernel_rfl) (by simp) ?_
    refine' AllReadyH.cons (o := _) ?hi8r3 (fun K hK => ?st8r3) AllReadyH.nil
    case hi8r3 => simp only [List.getElem?_toArray, List.getElem?_cons_succ, List.getElem?_cons_zero]; rfl
    go_simp
    go_at_call 88; refine (H1.out _).mono ?_; rintro e w8 ⟨rfl, c8⟩; have k8 := HSS.out _ (hHeld.1.trans (c8.mono hHeld.1.size)); clear c8
    try go_wp2_with fail
    refine hK.out _ _ ?_ (fun hHeld => ?_)
    · exact k8
    clear hK K
    try simp only [Act.put, List.setIfInBounds_toArray, List.set_cons_zero, List.set_cons_succ]
    refine' wpAnyH_take (i := 9) (oi := _) (v := _) ?hi9r3 (by kernel_rfl) (by kernel_rfl) (by kernel_rfl) ?hq9r3 ?hy9r3 (by assumption) ?re9r3
    case hi9r3 => simp only [List.getElem?_toArray, List.getElem?_cons_succ, List.getElem?_cons_zero]; rfl
    case hq9r3 => exact fun _ _ _ h => h
    case hy9r3 =>
      refine Or.inl ⟨by rfl, ?_⟩
      intro w hSw; (try dsimp only at hSw); go_simp; try with_reducible rfl
    try simp only [Act.put, List.setIfInBounds_toArray, List.set_cons_zero, List.set_cons_succ]
    refine' wpAnyH_take (i := 10) (oi := _) (v := _) ?hi10r3 (by kernel_rfl) (by kernel_rfl) (by kernel_rfl) ?hq10r3 ?hy10r3 (by assumption) ?re10r3
    case hi10r3 => simp only [List.getElem?_toArray, List.getElem?_cons_succ, List.getElem?_cons_zero]; rfl
    case hq10r3 => exact fun _ _ _ h => h
    case hy10r3 =>
      refine Or.inl ⟨by rfl, ?_⟩
      intro w hSw; (try dsimp only at hSw); go_simp; try with_reducible rfl
    try simp only [Act.put, List.setIfInBounds_toArray, List.set_cons_zero, List.set_cons_succ]
    refine wpAnyH_ready (rs := [14]) (by kernel_rfl) (by simp) ?_
    refine' AllReadyH.cons (o := _) ?hi14r3 (fun K hK => ?st14r3) AllReadyH.nil
    case hi14r3 => simp only [List.getElem?_toArray, List.getElem?_cons_succ, List.getElem?_cons_zero]; rfl
    go_simp
    go_at_call 88; refine (H2.out _).mono ?_; rintro e w8 ⟨rfl, c8⟩; have k8 := HSS.out _ (hHeld.1.trans (c8.mono hHeld.1.size)); clear c8
    try go_wp2_with fail
    refine hK.out _ _ ?_ (fun hHeld => ?_)
    · exact k8
    clear hK K
    try simp only [Act.put, List.setIfInBounds_toArray, List.set_cons_zero, List.set_cons_succ]
    refine' wpAnyH_take (i := 15) (oi := _) (v := _) ?hi15r3 (by kernel_rfl) (by kernel_rfl) (by kernel_rfl) ?hq15r3 ?hy15r3 (by assumption) ?re15r3
    case hi15r3 => simp only [List.getElem?_toArray, List.getElem?_cons_succ, List.getElem?_cons_zero]; rfl
    case hq15r3 => exact fun _ _ _ h => h
    case hy15r3 =>
      refine Or.inl ⟨by rfl, ?_⟩
      intro w hSw; (try dsimp only at hSw); go_simp; try with_reducible rfl
    try simp only [Act.put, List.setIfInBounds_toArray, List.set_cons_zero, List.set_cons_succ]
    refine' wpAnyH_take (i := 16) (oi := _) (v := _) ?hi16r3 (by kernel_rfl) (by kernel_rfl) (by kernel_rfl) ?hq16r3 ?hy16r3 (by assumption) ?re16r3
    case hi16r3 => simp only [List.getElem?_toArray, List.getElem?_cons_succ, List.getElem?_cons_zero]; rfl
    case hq16r3 => exact fun _ _ _ h => h
    case hy16r3 =>
      refine Or.inl ⟨by rfl, ?_⟩
      intro w hSw; (try dsimp only at hSw); go_simp; try with_reducible rfl
    try simp only [Act.put, List.setIfInBounds_toArray, List.set_cons_zero, List.set_cons_succ]
    refine wpAnyH_ready (rs := [20]) (by kernel_rfl) (by simp) ?_
    refine' AllReadyH.cons (o := _) ?hi20r3 (fun K hK => ?st20r3) AllReadyH.nil
    case hi20r3 => simp only [List.getElem?_toArray, List.getElem?_cons_succ, List.getElem?_cons_zero]; rfl
    go_simp
    go_at_call 88; refine (H3.out _).mono ?_; rintro e w8 ⟨rfl, c8⟩; have k8 := HSS.out _ (hHeld.1.trans (c8.mono hHeld.1.size)); clear c8
    try go_wp2_with fail
    refine hK.out _ _ ?_ (fun hHeld => ?_)
    · exact k8
    clear hK K
    try simp only [Act.put, List.setIfInBounds_toArray, List.set_cons_zero, List.set_cons_succ]
    refine' wpAnyH_take (i := 21) (oi := _) (v := _) ?hi21r3 (by kernel_rfl) (by kernel_rfl) (by kernel_rfl) ?hq21r3 ?hy21r3 (by assumption) ?re21r3
    case hi21r3 => simp only [List.getElem?_toArray, List.getElem?_cons_succ, List.getElem?_cons_zero]; rfl
    case hq21r3 => exact fun _ _ _ h => h
    case hy21r3 =>
      refine Or.inl ⟨by rfl, ?_⟩
      intro w hSw; (try dsimp only at hSw); go_simp; try with_reducible rfl
    try simp only [Act.put, List.setIfInBounds_toArray, List.set_cons_zero, List.set_cons_succ]
    refine' wpAnyH_take (i := 22) (oi := _) (v := _) ?hi22r3 (by kernel_rfl) (by kernel_rfl) (by kernel_rfl) ?hq22r3 ?hy22r3 (by assumption) ?re22r3
    case hi22r3 => simp only [List.getElem?_toArray, List.getElem?_cons_succ, List.getElem?_cons_zero]; rfl
    case hq22r3 => exact fun _ _ _ h => h
    case hy22r3 =>
      refine Or.inl ⟨by rfl, ?_⟩
      intro w hSw; (try dsimp only at hSw); go_simp; try with_reducible rfl
    try simp only [Act.put, List.setIfInBounds_toArray, List.set_cons_zero, List.set_cons_succ]
    refine wpAnyH_done (by kernel_rfl) ?_ _
    have G := Lib.hid (B0.out.trans (hHeld.1.mono B0.out.size))
    clear hHeld
    go_wp2_with fail
    go_ret
    exact ⟨by rw [HR.out]; rfl, G.out⟩
  · have HR := Lib.hid (show (⟨(Lx.reS rm rb rc rj).toArray⟩ : ByteArray) = ⟨#[110, 111, 110, 101]⟩ from by unfold Lx.reS; rw [if_pos hz]; rfl)
    rw [hz] at heq
    clear c0 c1 c2 c3 c4 c5 c6 c7 hmis hbr hre
    clear hz
    go_enter Tryz.func56, Tryz.ntmps56
    go_upto_region 1 with (fail)
    rw [show (w.alloc (.cells #[.int .i64 cap, .int .i64 pri, .int .i64 spl, .int .i64 dl, .int .i64 mis, .int .i64 keep, .int .i64 lt, .int .i64 lu, .int .i64 bf, .int .i64 bo, .int .i64 bp, .int .i64 rm, .int .i64 rb, .int .i64 rc, .int .i64 rj] 29)) = W0 from hW0.symm]
    clear hW0
    obtain ⟨q0, q1, q2, q3, q4, q5, q6, q7, q8, q9, q10, q11, q12, q13, q14⟩ := HQ.out W0 (Below.refl _ _)
    go_wp2_with fail
    go_ret
    exact ⟨by rw [HR.out]; rfl, B0.out⟩
theorem q14value_any {k : Nat} (hk : k < 8) (p : Lx.PolV) (h : Lx.polOk p = true) (s : ByteArray) (hs : s.data.toList = Lx.keyW k) (w : World) :
    Calls Tryz.prog 56 #[p.val, .string s] w fun e w' => e = .returned (.string ⟨(Lx.valS k p).toArray⟩) ∧ Below w.heap.size w w' := by
  obtain rfl | rfl | rfl | rfl | rfl | rfl | rfl | rfl := Lx.cases8 hk
  · exact q14val0_any p h s hs w
  · exact q14val1_any p h s hs w
  · exact q14val2_any p h s hs w
  · exact q14val3_any p h s hs w
  · exact q14val4_any p h s hs w
  · exact q14val5_any p h s hs w
  · exact q14val6_any p h s hs w
  · exact q14val7_any p h s hs w
set_option maxRecDepth 100000 in
set_option maxHeartbeats 1600000 in
theorem q14get_any (p : Lx.PolV) (s : ByteArray) (w : World) :
    Calls Tryz.prog 32 #[p.val, .string s] w fun e w' => e = .returned (.tuple #[.string ⟨(Lx.getS p s).toArray⟩, .int .i64 (Lx.getE p s)]) ∧ Below w.heap.size w w' := by
  have HC := Lib.hid (fun W => q14check_any p W)
  have HK := Lib.hid (fun W => q14key_any s W)
  obtain ⟨W0, hW0⟩ : ∃ W0, W0 = w.alloc (.cells p.cells.toArray 29) := ⟨_, rfl⟩
  have B0 := Lib.hid (show Below w.heap.size w W0 from by rw [hW0]; exact (Below.refl _ w).alloc (Nat.le_refl _) _)
  have HQ := Lib.hid (show ∀ (wx : World), Below W0.heap.size W0 wx → ∀ (j : Nat) (v : Value), p.cells[j]? = some v → wx.cell? ⟨w.heap.size, j, none⟩ = some v from fun wx b j v hj => (b.cell (p := ⟨w.heap.size, j, none⟩) (by rw [hW0]; simp)).trans (by rw [hW0]; exact Lx.cellR _ _ _ _ _ (by rw [List.getElem?_toArray]; exact hj)))
  by_cases h : Lx.polOk p = true
  · have hE : Lx.polE p = 0 := by unfold Lx.polE; rw [if_pos h]
    rw [hE] at HC
    clear hE
    by_cases hk : Lx.keyIx s.data.toList < 8
    · have HV := Lib.hid (fun W => q14value_any hk p h s (Lx.keyIx_back hk) W)
      have h1 : Lx.getS p s = Lx.valS (Lx.keyIx s.data.toList) p := by unfold Lx.getS; rw [if_pos ⟨h, hk⟩]
      have h2 : Lx.getE p s = 0 := by unfold Lx.getE; rw [if_pos h, if_pos hk]
      rw [decide_eq_true hk] at HK
      rw [h1, h2]
      clear h1 h2 h hk
      generalize (⟨(Lx.valS (Lx.keyIx s.data.toList) p).toArray⟩ : ByteArray) = V at *
      obtain ⟨cap, pri, spl, dl, mis, keep, lt, lu, bf, bo, bp, rm, rb, rc, rj⟩ := p
      unfold Lx.PolV.cells at hW0 HQ
      unfold Lx.PolV.val at *
      dsimp only at hW0 HQ HC
      have HQ15 := Lib.hid (show ∀ wx, Below W0.heap.size W0 wx → wx.cell? ⟨w.heap.size, 0, none⟩ = some (.int .i64 cap) ∧ wx.cell? ⟨w.heap.size, 1, none⟩ = some (.int .i64 pri) ∧ wx.cell? ⟨w.heap.size, 2, none⟩ = some (.int .i64 spl) ∧ wx.cell? ⟨w.heap.size, 3, none⟩ = some (.int .i64 dl) ∧ wx.cell? ⟨w.heap.size, 4, none⟩ = some (.int .i64 mis) ∧ wx.cell? ⟨w.heap.size, 5, none⟩ = some (.int .i64 keep) ∧ wx.cell? ⟨w.heap.size, 6, none⟩ = some (.int .i64 lt) ∧ wx.cell? ⟨w.heap.size, 7, none⟩ = some (.int .i64 lu) ∧ wx.cell? ⟨w.heap.size, 8, none⟩ = some (.int .i64 bf) ∧ wx.cell? ⟨w.heap.size, 9, none⟩ = some (.int .i64 bo) ∧ wx.cell? ⟨w.heap.size, 10, none⟩ = some (.int .i64 bp) ∧ wx.cell? ⟨w.heap.size, 11, none⟩ = some (.int .i64 rm) ∧ wx.cell? ⟨w.heap.size, 12, none⟩ = some (.int .i64 rb) ∧ wx.cell? ⟨w.heap.size, 13, none⟩ = some (.int .i64 rc) ∧ wx.cell? ⟨w.heap.size, 14, none⟩ = some (.int .i64 rj) from fun wx b => ⟨HQ.out wx b 0 _ rfl, HQ.out wx b 1 _ rfl, HQ.out wx b 2 _ rfl, HQ.out wx b 3 _ rfl, HQ.out wx b 4 _ rfl, HQ.out wx b 5 _ rfl, HQ.out wx b 6 _ rfl, HQ.out wx b 7 _ rfl, HQ.out wx b 8 _ rfl, HQ.out wx b 9 _ rfl, HQ.out wx b 10 _ rfl, HQ.out wx b 11 _ rfl, HQ.out wx b 12 _ rfl, HQ.out wx b 13 _ rfl, HQ.out wx b 14 _ rfl⟩)
      clear HQ
      go_enter Tryz.func32, Tryz.ntmps32
      go_upto_region 1 with (fail)
      rw [show (w.alloc (.cells #[.int .i64 cap, .int .i64 pri, .int .i64 spl, .int .i64 dl, .int .i64 mis, .int .i64 keep, .int .i64 lt, .int .i64 lu, .int .i64 bf, .int .i64 bo, .int .i64 bp, .int .i64 rm, .int .i64 rb, .int .i64 rc, .int .i64 rj] 29)) = W0 from hW0.symm]
      clear hW0
      obtain ⟨q0, q1, q2, q3, q4, q5, q6, q7, q8, q9, q10, q11, q12, q13, q14⟩ := HQ15.out W0 (Below.refl _ _)
      go_wp2_with fail
      refine (HC.out _).mono ?_
      rintro e w1 ⟨rfl, c1⟩
      have C1 := Lib.hid c1
      clear c1 q0 q1 q2 q3 q4 q5 q6 q7 q8 q9 q10 q11 q12 q13 q14
      go_wp2_with fail
      refine (HK.out _).mono ?_
      rintro e w2 ⟨rfl, c2⟩
      have C2 := Lib.hid (C1.out.trans (c2.mono C1.out.size))
      clear c2
      obtain ⟨q0, q1, q2, q3, q4, q5, q6, q7, q8, q9, q10, q11, q12, q13, q14⟩ := HQ15.out w2 C2.out
      go_wp2_with fail
      refine (HV.out _).mono ?_
      rintro e w3 ⟨rfl, c3⟩
      have C3 := Lib.hid (B0.out.trans ((C2.out.trans (c3.mono C2.out.size)).mono B0.out.size))
      clear c3
      go_wp2_with fail
      go_ret2
      exact ⟨rfl, C3.out⟩
    have h1 : Lx.getS p s = [] := by unfold Lx.getS; rw [if_neg (fun c => hk c.2)]
    have h2 : Lx.getE p s = 15 := by unfold Lx.getE; rw [if_pos h, if_neg hk]
    rw [decide_eq_false hk] at HK
    rw [h1, h2]
    clear h1 h2 h hk
    obtain ⟨cap, pri, spl, dl, mis, keep, lt, lu, bf, bo, bp, rm, rb, rc, rj⟩ := p
    unfold Lx.PolV.cells at hW0 HQ
    unfold Lx.PolV.val at *
    dsimp only at hW0 HQ HC
    have HQ15 := Lib.hid (show ∀ wx, Below W0.heap.size W0 wx → wx.cell? ⟨w.heap.size, 0, none⟩ = some (.int .i64 cap) ∧ wx.cell? ⟨w.heap.size, 1, none⟩ = some (.int .i64 pri) ∧ wx.cell? ⟨w.heap.size, 2, none⟩ = some (.int .i64 spl) ∧ wx.cell? ⟨w.heap.size, 3, none⟩ = some (.int .i64 dl) ∧ wx.cell? ⟨w.heap.size, 4, none⟩ = some (.int .i64 mis) ∧ wx.cell? ⟨w.heap.size, 5, none⟩ = some (.int .i64 keep) ∧ wx.cell? ⟨w.heap.size, 6, none⟩ = some (.int .i64 lt) ∧ wx.cell? ⟨w.heap.size, 7, none⟩ = some (.int .i64 lu) ∧ wx.cell? ⟨w.heap.size, 8, none⟩ = some (.int .i64 bf) ∧ wx.cell? ⟨w.heap.size, 9, none⟩ = some (.int .i64 bo) ∧ wx.cell? ⟨w.heap.size, 10, none⟩ = some (.int .i64 bp) ∧ wx.cell? ⟨w.heap.size, 11, none⟩ = some (.int .i64 rm) ∧ wx.cell? ⟨w.heap.size, 12, none⟩ = some (.int .i64 rb) ∧ wx.cell? ⟨w.heap.size, 13, none⟩ = some (.int .i64 rc) ∧ wx.cell? ⟨w.heap.size, 14, none⟩ = some (.int .i64 rj) from fun wx b => ⟨HQ.out wx b 0 _ rfl, HQ.out wx b 1 _ rfl, HQ.out wx b 2 _ rfl, HQ.out wx b 3 _ rfl, HQ.out wx b 4 _ rfl, HQ.out wx b 5 _ rfl, HQ.out wx b 6 _ rfl, HQ.out wx b 7 _ rfl, HQ.out wx b 8 _ rfl, HQ.out wx b 9 _ rfl, HQ.out wx b 10 _ rfl, HQ.out wx b 11 _ rfl, HQ.out wx b 12 _ rfl, HQ.out wx b 13 _ rfl, HQ.out wx b 14 _ rfl⟩)
    clear HQ
    go_enter Tryz.func32, Tryz.ntmps32
    go_upto_region 1 with (fail)
    rw [show (w.alloc (.cells #[.int .i64 cap, .int .i64 pri, .int .i64 spl, .int .i64 dl, .int .i64 mis, .int .i64 keep, .int .i64 lt, .int .i64 lu, .int .i64 bf, .int .i64 bo, .int .i64 bp, .int .i64 rm, .int .i64 rb, .int .i64 rc, .int .i64 rj] 29)) = W0 from hW0.symm]
    clear hW0
    obtain ⟨q0, q1, q2, q3, q4, q5, q6, q7, q8, q9, q10, q11, q12, q13, q14⟩ := HQ15.out W0 (Below.refl _ _)
    go_wp2_with fail
    refine (HC.out _).mono ?_
    rintro e w1 ⟨rfl, c1⟩
    have C1 := Lib.hid c1
    clear c1 q0 q1 q2 q3 q4 q5 q6 q7 q8 q9 q10 q11 q12 q13 q14
    go_wp2_with fail
    refine (HK.out _).mono ?_
    rintro e w2 ⟨rfl, c2⟩
    have C2 := Lib.hid (B0.out.trans ((C1.out.trans (c2.mono C1.out.size)).mono B0.out.size))
    clear c2
    go_wp2_with fail
    go_ret2
    exact ⟨rfl, C2.out⟩
  have hE : Lx.polE p = 16 := by unfold Lx.polE; rw [if_neg h]
  rw [hE] at HC
  have h1 : Lx.getS p s = [] := by unfold Lx.getS; rw [if_neg (fun c => h c.1)]
  have h2 : Lx.getE p s = 16 := by unfold Lx.getE; rw [if_neg h]
  rw [h1, h2]
  clear h1 h2 h hE
  obtain ⟨cap, pri, spl, dl, mis, keep, lt, lu, bf, bo, bp, rm, rb, rc, rj⟩ := p
  unfold Lx.PolV.cells at hW0 HQ
  unfold Lx.PolV.val at *
  dsimp only at hW0 HQ HC
  have HQ15 := Lib.hid (show ∀ wx, Below W0.heap.size W0 wx → wx.cell? ⟨w.heap.size, 0, none⟩ = some (.int .i64 cap) ∧ wx.cell? ⟨w.heap.size, 1, none⟩ = some (.int .i64 pri) ∧ wx.cell? ⟨w.heap.size, 2, none⟩ = some (.int .i64 spl) ∧ wx.cell? ⟨w.heap.size, 3, none⟩ = some (.int .i64 dl) ∧ wx.cell? ⟨w.heap.size, 4, none⟩ = some (.int .i64 mis) ∧ wx.cell? ⟨w.heap.size, 5, none⟩ = some (.int .i64 keep) ∧ wx.cell? ⟨w.heap.size, 6, none⟩ = some (.int .i64 lt) ∧ wx.cell? ⟨w.heap.size, 7, none⟩ = some (.int .i64 lu) ∧ wx.cell? ⟨w.heap.size, 8, none⟩ = some (.int .i64 bf) ∧ wx.cell? ⟨w.heap.size, 9, none⟩ = some (.int .i64 bo) ∧ wx.cell? ⟨w.heap.size, 10, none⟩ = some (.int .i64 bp) ∧ wx.cell? ⟨w.heap.size, 11, none⟩ = some (.int .i64 rm) ∧ wx.cell? ⟨w.heap.size, 12, none⟩ = some (.int .i64 rb) ∧ wx.cell? ⟨w.heap.size, 13, none⟩ = some (.int .i64 rc) ∧ wx.cell? ⟨w.heap.size, 14, none⟩ = some (.int .i64 rj) from fun wx b => ⟨HQ.out wx b 0 _ rfl, HQ.out wx b 1 _ rfl, HQ.out wx b 2 _ rfl, HQ.out wx b 3 _ rfl, HQ.out wx b 4 _ rfl, HQ.out wx b 5 _ rfl, HQ.out wx b 6 _ rfl, HQ.out wx b 7 _ rfl, HQ.out wx b 8 _ rfl, HQ.out wx b 9 _ rfl, HQ.out wx b 10 _ rfl, HQ.out wx b 11 _ rfl, HQ.out wx b 12 _ rfl, HQ.out wx b 13 _ rfl, HQ.out wx b 14 _ rfl⟩)
  clear HQ
  go_enter Tryz.func32, Tryz.ntmps32
  go_upto_region 1 with (fail)
  rw [show (w.alloc (.cells #[.int .i64 cap, .int .i64 pri, .int .i64 spl, .int .i64 dl, .int .i64 mis, .int .i64 keep, .int .i64 lt, .int .i64 lu, .int .i64 bf, .int .i64 bo, .int .i64 bp, .int .i64 rm, .int .i64 rb, .int .i64 rc, .int .i64 rj] 29)) = W0 from hW0.symm]
  clear hW0
  obtain ⟨q0, q1, q2, q3, q4, q5, q6, q7, q8, q9, q10, q11, q12, q13, q14⟩ := HQ15.out W0 (Below.refl _ _)
  go_wp2_with fail
  refine (HC.out _).mono ?_
  rintro e w1 ⟨rfl, c1⟩
  have C1 := Lib.hid c1
  clear c1 q0 q1 q2 q3 q4 q5 q6 q7 q8 q9 q10 q11 q12 q13 q14
  have C2 := Lib.hid (B0.out.trans (C1.out.mono B0.out.size))
  go_wp2_with fail
  go_ret2
  exact ⟨rfl, C2.out⟩
end Go.Proofs.YtdpjcbijddgpgaaGreatDoor
namespace Go.Proofs.YtdpjcbijddgpgaaGreatDoor
open Go.RowKit

/-- What the reference has added up before round k. -/
def Lx.rO (m c j d b : Int) (k : Nat) : Int := (m + 1) * (d + 1) + Lx.waits c j d k b - (k : Int) * (d + 1)
theorem Lx.rO_zero (m c j d b : Int) : Lx.rO m c j d b 0 = (m + 1) * (d + 1) := by unfold Lx.rO; simp [Lx.waits]
theorem Lx.rO_succ (m c j d b : Int) (k : Nat) : Lx.rO m c j d b (k + 1) = Lx.rO m c j d b k + (Lx.waitAt c k b + max (j - 1) 0) := by
  unfold Lx.rO
  rw [Lx.waits_snoc]
  have : ((k + 1 : Nat) : Int) * (d + 1) = (k : Int) * (d + 1) + (d + 1) := by rw [Int.natCast_add, Int.add_mul]; simp
  rw [this]; omega
theorem Lx.rO_all (c j d b : Int) (n : Nat) : Lx.rO n c j d b n = d + 1 + Lx.waits c j d n b := by
  unfold Lx.rO
  have : ((n : Int) + 1) * (d + 1) = (n : Int) * (d + 1) + (d + 1) := by rw [Int.add_mul]; simp
  rw [this]; omega
theorem Lx.rO_bd {c j d b : Int} {n : Nat} (hn : n ≤ 20) (hd : 0 ≤ d ∧ d ≤ 68719476736) (hj : 0 ≤ j ∧ j ≤ 68719476736) (hb : 0 ≤ b ∧ b ≤ c) (hc : 0 ≤ c ∧ c ≤ 68719476736) : ∀ k, k ≤ n → 0 ≤ Lx.rO n c j d b k ∧ Lx.rO n c j d b k ≤ 1500000000000 + 137438953472 * (k : Int)
  | 0, _ => by
    rw [Lx.rO_zero]
    have h1 : ((n : Int) + 1) * (d + 1) ≤ 21 * 68719476737 := Int.mul_le_mul (by omega) (by omega) (by omega) (by omega)
    have h0 : 0 ≤ ((n : Int) + 1) * (d + 1) := Int.mul_nonneg (by omega) (by omega)
    omega
  | k + 1, hk => by
    have ih := Lx.rO_bd hn hd hj hb hc k (by omega)
    have hw := Lx.waitAt_bd c k b hb.1 hb.2
    rw [Lx.rO_succ]
    omega
set_option maxRecDepth 100000 in
set_option maxHeartbeats 1600000 in
theorem q14spanp_any (p : Lx.PolV) (w : World) :
    Calls Tryz.prog 22 #[p.val] w fun e w' => e = .returned (.tuple #[.int .i64 (Lx.spanV p), .int .i64 (Lx.polE p)]) ∧ Below w.heap.size w w' := by
  have HC := Lib.hid (fun W => q14check_any p W)
  by_cases h : Lx.polOk p = true
  · have hE : Lx.polE p = 0 := by unfold Lx.polE; rw [if_pos h]
    have hS : Lx.spanV p = p.dl + 1 + Lx.waits p.rc p.rj p.dl p.rm.toNat p.rb := by unfold Lx.spanV; rw [if_pos h]
    obtain ⟨_, _, _, a4, _, _, _, a8⟩ := Lx.pol_parts h
    obtain ⟨hb0, hb1, hc0, hc1, hj0, hj1, hm0, hm1⟩ : 0 ≤ p.rb ∧ p.rb ≤ p.rc ∧ 0 ≤ p.rc ∧ p.rc ≤ 68719476736 ∧ 0 ≤ p.rj ∧ p.rj ≤ 68719476736 ∧ 0 ≤ p.rm ∧ p.rm ≤ 20 := by omega
    rw [hE] at HC
    rw [hE, hS]
    clear hE hS h a8
    obtain ⟨cap, pri, spl, dl, mis, keep, lt, lu, bf, bo, bp, rm, rb, rc, rj⟩ := p
    unfold Lx.PolV.val at *
    dsimp only at *
    obtain ⟨n, rfl⟩ := Int.eq_ofNat_of_zero_le hm0
    rw [Int.toNat_natCast]
    have hm : n ≤ 20 := by omega
    obtain ⟨O, hO⟩ : ∃ O : Nat → Int, O = fun k => Lx.rO n rc rj dl rb k := ⟨_, rfl⟩
    obtain ⟨V, hV⟩ : ∃ V : Nat → Int, V = fun k => Lx.waitAt rc k rb := ⟨_, rfl⟩
    have HO := Lib.hid (show ∀ k, O (k + 1) = O k + (V k + max (rj - 1) 0) from by intro k; rw [hO, hV]; exact Lx.rO_succ _ _ _ _ _ _)
    have HV := Lib.hid (show ∀ k, min (2 * V k) rc = V (k + 1) from by intro k; rw [hV]; dsimp only; rw [Lx.waitAt_snoc rc k rb])
    have HVb := Lib.hid (show ∀ k, 0 ≤ V k ∧ V k ≤ 68719476736 ∧ V k ≤ rc from by intro k; have := Lx.waitAt_bd rc k rb hb0 hb1; rw [hV]; dsimp only; omega)
    have HOb := Lib.hid (show ∀ k, k ≤ n → 0 ≤ O k ∧ O k ≤ 6000000000000 from by
      intro k hk
      have := Lx.rO_bd hm a4 ⟨hj0, hj1⟩ ⟨hb0, hb1⟩ ⟨hc0, hc1⟩ k hk
      rw [hO]; dsimp only; omega)
    have HO0 := Lib.hid (show ((n : Int) + 1) * (dl + 1) = O 0 from by rw [hO]; exact (Lx.rO_zero _ _ _ _ _).symm)
    have HV0 := Lib.hid (show V 0 = rb from by rw [hV]; rfl)
    rw [show dl + 1 + Lx.waits rc rj dl n rb = O n by rw [hO]; exact (Lx.rO_all _ _ _ _ _).symm]
    clear hO hV
    clear hm0 hm1 hb0 hb1 hc0
    have hd0 := a4.1
    have hd1 := a4.2
    clear a4
    go_enter Tryz.func22, Tryz.ntmps22
    go_wp2_with fail
    refine (HC.out _).mono ?_
    rintro e w1 ⟨rfl, b1⟩
    have hlt : w.heap.size < (w.alloc (.cells #[.int .i64 cap, .int .i64 pri, .int .i64 spl, .int .i64 dl, .int .i64 mis, .int .i64 keep, .int .i64 lt, .int .i64 lu, .int .i64 bf, .int .i64 bo, .int .i64 bp, .int .i64 n, .int .i64 rb, .int .i64 rc, .int .i64 rj] 29)).heap.size := by simp
    have q3 := (b1.cell (p := ⟨w.heap.size, 3, none⟩) hlt).trans (show _ = some (.int .i64 dl) by simp)
    have q11 := (b1.cell (p := ⟨w.heap.size, 11, none⟩) hlt).trans (show _ = some (.int .i64 n) by simp)
    have q12 := (b1.cell (p := ⟨w.heap.size, 12, none⟩) hlt).trans (show _ = some (.int .i64 rb) by simp)
    have q13 := (b1.cell (p := ⟨w.heap.size, 13, none⟩) hlt).trans (show _ = some (.int .i64 rc) by simp)
    have q14 := (b1.cell (p := ⟨w.heap.size, 14, none⟩) hlt).trans (show _ = some (.int .i64 rj) by simp)
    have B1 := Lib.hid ((show Below w.heap.size w _ from (Below.refl _ w).alloc (Nat.le_refl _) _).trans (b1.mono (by simp)))
    clear b1 hlt HC
    have hM := HO0.out
    have hM2 : IntKind.i64.wrap (O 0) = O 0 := IntWalk.i64_in _ (by have := HOb.out 0 (Nat.zero_le _); omega)
    go_upto_region 4 with (fail)
    clear hM hM2
    go_wp2_with fail
    go_loop [4, 5, 6] (fun a b i => ∃ k : Nat, k ≤ n ∧ i = .int .i64 ((k : Int) + 1) ∧ a = .int .i64 (O k) ∧ b = .int .i64 (V k)) (fun _ _ i => n + 1 - (intOf i).toNat)
    case atStart => exact ⟨0, Nat.zero_le _, rfl, rfl, by rw [HV0.out]⟩
    case round =>
      obtain ⟨k, hk, rfl, rfl, rfl⟩ := hrel
      by_cases hlt : k < n
      · have hki : (k : Int) + 1 ≤ (n : Int) := by omega
        obtain ⟨v0, v1, v2⟩ := HVb.out k
        obtain ⟨o0, o1⟩ := HOb.out k (by omega)
        obtain ⟨o2, o3⟩ := HOb.out (k + 1) (by omega)
        have hm1 : ¬ (rc < V k) := by omega
        by_cases hj : 0 < rj
        · have HOn := Lib.hid (show O (k + 1) = O k + min (V k) rc + (rj - 1) from by rw [HO.out]; omega)
          go_wp2_with fail
          go_round
          case rel => exact ⟨k + 1, by omega, by go_num, by rw [HOn.out], by rw [← HV.out]⟩
          case measure => simp [intOf]; omega
        · have hjd : decide (0 < rj) = false := decide_eq_false hj
          have HOn := Lib.hid (show O (k + 1) = O k + min (V k) rc from by rw [HO.out]; omega)
          clear hj
          go_wp2_with fail
          go_round
          case rel => exact ⟨k + 1, by omega, by go_num, by rw [HOn.out], by rw [← HV.out]⟩
          case measure => simp [intOf]; omega
      · obtain rfl : k = n := by omega
        have hki : decide ((k : Int) + 1 ≤ (k : Int)) = false := decide_eq_false (by omega)
        have hki2 : decide (k + 1 ≤ k) = false := decide_eq_false (by omega)
        go_wp2_with fail
        go_ret2
        exact ⟨rfl, B1.out⟩
  · have hE : Lx.polE p = 16 := by unfold Lx.polE; rw [if_neg h]
    have hS : Lx.spanV p = 0 := by unfold Lx.spanV; rw [if_neg h]
    rw [hE] at HC
    rw [hE, hS]
    clear hE hS h
    obtain ⟨cap, pri, spl, dl, mis, keep, lt, lu, bf, bo, bp, rm, rb, rc, rj⟩ := p
    unfold Lx.PolV.val at *
    dsimp only at *
    go_enter Tryz.func22, Tryz.ntmps22
    go_wp2_with fail
    refine (HC.out _).mono ?_
    rintro e w1 ⟨rfl, b1⟩
    go_wp2_with fail
    go_ret2
    exact ⟨rfl, ((Below.refl _ w).alloc (Nat.le_refl _) _).trans (b1.mono (by simp))⟩
end Go.Proofs.YtdpjcbijddgpgaaGreatDoor
namespace Go.Proofs.YtdpjcbijddgpgaaGreatDoor
open Go.RowKit

namespace Lx
theorem join_snoc (P : List (List UInt8)) (x : List UInt8) : Lib.join (P ++ [x]) [32] = if P = [] then x else Lib.join P [32] ++ 32 :: x := by
  have h1 := spaced_join (P ++ [x])
  have h2 := spaced_join P
  rw [if_neg (by simp)] at h1
  have h3 : spaced (P ++ [x]) = spaced P ++ 32 :: x := by unfold spaced; rw [List.flatMap_append]; simp
  rw [h3] at h1
  split
  · rename_i h
    rw [if_pos h] at h2
    rw [h2, List.nil_append] at h1
    exact (List.cons.inj h1).2.symm
  · rename_i h
    rw [if_neg h] at h2
    rw [h2, List.cons_append] at h1
    exact (List.cons.inj h1).2.symm
theorem join_empty {P : List (List UInt8)} (hP : ∀ x ∈ P, x ≠ []) : Lib.join P [32] = [] ↔ P = [] := by
  refine ⟨fun h => ?_, fun h => by rw [h]; rfl⟩
  cases P with
  | nil => rfl
  | cons a r =>
    exfalso
    have := hP a List.mem_cons_self
    rw [Lib.join_cons] at h
    exact this (List.append_eq_nil_iff.1 h).1
theorem prTo_facts {p : PolV} (hp : polOk p = true) {k : Nat} (hk : k ≤ 8) : (∀ x ∈ prTo p k, x ≠ []) ∧ (Lib.join (prTo p k) [32]).length ≤ 3280 := by
  have e := prTo_map p k
  have h8 : ∀ j ∈ (List.range k).filter (fun j => !decide (valS j p = valS j polD)), j < 8 := fun j hj => by
    have := List.mem_range.1 (List.mem_filter.1 hj).1; omega
  have hl : ((List.range k).filter (fun j => !decide (valS j p = valS j polD))).length ≤ 8 := by
    have := List.length_filter_le (fun j => !decide (valS j p = valS j polD)) (List.range k)
    rw [List.length_range] at this; omega
  have h := pairs_len hp _ h8
  rw [← e] at h
  refine ⟨fun x hx => ?_, ?_⟩
  · rw [e] at hx
    obtain ⟨j, hj, rfl⟩ := List.mem_map.1 hx
    exact (pairW_bytes (h8 j hj) hp).1
  · rw [spaced_join] at h
    split at h
    · rename_i c; rw [c]; simp [Lib.join]
    · rw [List.length_cons] at h; omega
end Lx
set_option maxRecDepth 100000 in
set_option maxHeartbeats 3200000 in
theorem q14print_any (p : Lx.PolV) (w : World) :
    Calls Tryz.prog 21 #[p.val] w fun e w' => e = .returned (.tuple #[.string ⟨(Lx.prS p).toArray⟩, .int .i64 (Lx.polE p)]) ∧ Below w.heap.size w w' := by
  have HC := Lib.hid (fun W => q14check_any p W)
  obtain ⟨W0, hW0⟩ : ∃ W0, W0 = w.alloc (.cells p.cells.toArray 29) := ⟨_, rfl⟩
  have B0 := Lib.hid (show Below w.heap.size w W0 from by rw [hW0]; exact (Below.refl _ w).alloc (Nat.le_refl _) _)
  have HQ := Lib.hid (show ∀ (wx : World), Below W0.heap.size W0 wx → ∀ (j : Nat) (v : Value), p.cells[j]? = some v → wx.cell? ⟨w.heap.size, j, none⟩ = some v from fun wx b j v hj => (b.cell (p := ⟨w.heap.size, j, none⟩) (by rw [hW0]; simp)).trans (by rw [hW0]; exact Lx.cellR _ _ _ _ _ (by rw [List.getElem?_toArray]; exact hj)))
  have HK := Lib.hid (fun W => q14keys_any W)
  have HDf := Lib.hid (show ∀ W, Calls Tryz.prog 27 #[] W fun e w' => e = .returned (.agg #[.int .i64 1, .int .i64 50, .int .i64 0, .int .i64 3600, .int .i64 0, .int .i64 0, .int .i64 0, .int .i64 0, .int .i64 0, .int .i64 0, .int .i64 0, .int .i64 0, .int .i64 0, .int .i64 0, .int .i64 0]) ∧ Below W.heap.size W w' from fun W => q14default_any W)
  by_cases h : Lx.polOk p = true
  · have hE : Lx.polE p = 0 := by unfold Lx.polE; rw [if_pos h]
    rw [hE] at HC ⊢
    have HPS := Lib.hid (show Lx.prS p = Lib.join (Lx.prTo p 8) [32] from by unfold Lx.prS; rw [if_pos h]; rfl)
    have HF := Lib.hid (fun (k : Nat) (hk : k ≤ 8) => Lx.prTo_facts h hk)
    have HV0 := Lib.hid (fun (k : Nat) (hk : k < 8) (s : ByteArray) (hs : s.data.toList = Lx.keyW k) W => q14value_any hk p h s hs W)
    have HVl := Lib.hid (fun (k : Nat) (hk : k < 8) => (Lx.val_bytes hk h).2)
    obtain ⟨P, hP⟩ : ∃ P, P = p := ⟨_, rfl⟩
    rw [← hP] at HC HPS HF HVl ⊢
    clear hE h
    obtain ⟨cap, pri, spl, dl, mis, keep, lt, lu, bf, bo, bp, rm, rb, rc, rj⟩ := p
    unfold Lx.PolV.cells at hW0 HQ
    dsimp only at hW0 HQ
    have hPv : P.val = .agg #[.int .i64 cap, .int .i64 pri, .int .i64 spl, .int .i64 dl, .int .i64 mis, .int .i64 keep, .int .i64 lt, .int .i64 lu, .int .i64 bf, .int .i64 bo, .int .i64 bp, .int .i64 rm, .int .i64 rb, .int .i64 rc, .int .i64 rj] := by rw [hP]; rfl
    have HV1 := Lib.hid (show ∀ (k : Nat), k < 8 → ∀ s : ByteArray, s.data.toList = Lx.keyW k → ∀ W, Calls Tryz.prog 56 #[.agg #[.int .i64 cap, .int .i64 pri, .int .i64 spl, .int .i64 dl, .int .i64 mis, .int .i64 keep, .int .i64 lt, .int .i64 lu, .int .i64 bf, .int .i64 bo, .int .i64 bp, .int .i64 rm, .int .i64 rb, .int .i64 rc, .int .i64 rj], .string s] W fun e w' => e = .returned (.string ⟨(Lx.valS k P).toArray⟩) ∧ Below W.heap.size W w' from fun k hk s hs W => by rw [hP]; exact HV0.out k hk s hs W)
    have HVD1 := Lib.hid (show ∀ (k : Nat), k < 8 → ∀ s : ByteArray, s.data.toList = Lx.keyW k → ∀ W, Calls Tryz.prog 56 #[.agg #[.int .i64 1, .int .i64 50, .int .i64 0, .int .i64 3600, .int .i64 0, .int .i64 0, .int .i64 0, .int .i64 0, .int .i64 0, .int .i64 0, .int .i64 0, .int .i64 0, .int .i64 0, .int .i64 0, .int .i64 0], .string s] W fun e w' => e = .returned (.string ⟨(Lx.valS k Lx.polD).toArray⟩) ∧ Below W.heap.size W w' from fun k hk s hs W => q14value_any hk Lx.polD Lx.polD_ok s hs W)
    rw [hPv] at HC ⊢
    have HQ15 := Lib.hid (show ∀ wx, Below W0.heap.size W0 wx → wx.cell? ⟨w.heap.size, 0, none⟩ = some (.int .i64 cap) ∧ wx.cell? ⟨w.heap.size, 1, none⟩ = some (.int .i64 pri) ∧ wx.cell? ⟨w.heap.size, 2, none⟩ = some (.int .i64 spl) ∧ wx.cell? ⟨w.heap.size, 3, none⟩ = some (.int .i64 dl) ∧ wx.cell? ⟨w.heap.size, 4, none⟩ = some (.int .i64 mis) ∧ wx.cell? ⟨w.heap.size, 5, none⟩ = some (.int .i64 keep) ∧ wx.cell? ⟨w.heap.size, 6, none⟩ = some (.int .i64 lt) ∧ wx.cell? ⟨w.heap.size, 7, none⟩ = some (.int .i64 lu) ∧ wx.cell? ⟨w.heap.size, 8, none⟩ = some (.int .i64 bf) ∧ wx.cell? ⟨w.heap.size, 9, none⟩ = some (.int .i64 bo) ∧ wx.cell? ⟨w.heap.size, 10, none⟩ = some (.int .i64 bp) ∧ wx.cell? ⟨w.heap.size, 11, none⟩ = some (.int .i64 rm) ∧ wx.cell? ⟨w.heap.size, 12, none⟩ = some (.int .i64 rb) ∧ wx.cell? ⟨w.heap.size, 13, none⟩ = some (.int .i64 rc) ∧ wx.cell? ⟨w.heap.size, 14, none⟩ = some (.int .i64 rj) from fun wx b => ⟨HQ.out wx b 0 _ rfl, HQ.out wx b 1 _ rfl, HQ.out wx b 2 _ rfl, HQ.out wx b 3 _ rfl, HQ.out wx b 4 _ rfl, HQ.out wx b 5 _ rfl, HQ.out wx b 6 _ rfl, HQ.out wx b 7 _ rfl, HQ.out wx b 8 _ rfl, HQ.out wx b 9 _ rfl, HQ.out wx b 10 _ rfl, HQ.out wx b 11 _ rfl, HQ.out wx b 12 _ rfl, HQ.out wx b 13 _ rfl, HQ.out wx b 14 _ rfl⟩)
    clear hP HQ HV0 hPv
    go_enter Tryz.func21, Tryz.ntmps21
    go_upto_region 1 with (fail)
    rw [show (w.alloc (.cells #[.int .i64 cap, .int .i64 pri, .int .i64 spl, .int .i64 dl, .int .i64 mis, .int .i64 keep, .int .i64 lt, .int .i64 lu, .int .i64 bf, .int .i64 bo, .int .i64 bp, .int .i64 rm, .int .i64 rb, .int .i64 rc, .int .i64 rj] 29)) = W0 from hW0.symm]
    clear hW0
    obtain ⟨q0, q1, q2, q3, q4, q5, q6, q7, q8, q9, q10, q11, q12, q13, q14⟩ := HQ15.out W0 (Below.refl _ _)
    go_wp2_with fail
    refine (HC.out _).mono ?_
    rintro e w1 ⟨rfl, c1⟩
    have C1 := Lib.hid c1
    clear q0 q1 q2 q3 q4 q5 q6 q7 q8 q9 q10 q11 q12 q13 q14 c1
    go_wp2_with fail
    refine (HK.out _).mono ?_
    rintro e w2 ⟨A, rfl, hA, _, hR, c2⟩
    have C2 := Lib.hid (C1.out.trans (c2.mono C1.out.size))
    have HR := Lib.hid hR
    have HA := Lib.hid hA
    clear c2 hR hA
    go_wp2_with fail
    go_loopw [4, 6] (fun ov iv wr => ∃ (ob : ByteArray) (k : Nat), k ≤ 8 ∧ ov = .string ob ∧ iv = .int .i64 k ∧ ob.data.toList = Lib.join (Lx.prTo P k) [32] ∧ Below w2.heap.size w2 wr) (fun _ i _ => 8 - (intOf i).toNat)
    case atStart => exact ⟨⟨#[]⟩, 0, Nat.zero_le _, rfl, rfl, rfl, Below.refl _ _⟩
    case round =>
      obtain ⟨ob, k, hk, rfl, rfl, hob, hb⟩ := hrel
      have D := Lib.hid hb
      have Hob := Lib.hid hob
      obtain ⟨f1, f2⟩ := HF.out k hk
      have hobs : ob.size ≤ 3280 := by rw [Lib.size_eq, hob]; exact f2
      have hemp := Lx.join_empty f1
      rw [← hob] at hemp
      have He := Lib.hid hemp
      clear hb hob f1 f2 hemp
      by_cases hlt : k < 8
      · have hki : (k : Int) < 8 := by omega
        obtain ⟨T, hT⟩ : ∃ T : ByteArray, T = ⟨(Lx.keyW k).toArray⟩ := ⟨_, rfl⟩
        have HT := Lib.hid (show T.data.toList = Lx.keyW k from by rw [hT])
        have hTs : T.size ≤ 8 := by rw [Lib.size_eq, HT.out]; exact (Lx.keyW_low hlt).2.2.2
        obtain ⟨V, hV⟩ : ∃ V : ByteArray, V = ⟨(Lx.valS k P).toArray⟩ := ⟨_, rfl⟩
        obtain ⟨VD, hVD⟩ : ∃ V : ByteArray, V = ⟨(Lx.valS k Lx.polD).toArray⟩ := ⟨_, rfl⟩
        have hVs : V.size ≤ 400 := by rw [Lib.size_eq, hV]; exact HVl.out k hlt
        have HV := Lib.hid (show ∀ W, Calls Tryz.prog 56 #[.agg #[.int .i64 cap, .int .i64 pri, .int .i64 spl, .int .i64 dl, .int .i64 mis, .int .i64 keep, .int .i64 lt, .int .i64 lu, .int .i64 bf, .int .i64 bo, .int .i64 bp, .int .i64 rm, .int .i64 rb, .int .i64 rc, .int .i64 rj], .string T] W fun e w' => e = .returned (.string V) ∧ Below W.heap.size W w' from fun W => by rw [hV]; exact HV1.out k hlt T HT.out W)
        have HVD := Lib.hid (show ∀ W, Calls Tryz.prog 56 #[.agg #[.int .i64 1, .int .i64 50, .int .i64 0, .int .i64 3600, .int .i64 0, .int .i64 0, .int .i64 0, .int .i64 0, .int .i64 0, .int .i64 0, .int .i64 0, .int .i64 0, .int .i64 0, .int .i64 0, .int .i64 0], .string T] W fun e w' => e = .returned (.string VD) ∧ Below W.heap.size W w' from fun W => by rw [hVD]; exact HVD1.out k hlt T HT.out W)
        have HVt := Lib.hid (show V.data.toList = Lx.valS k P from by rw [hV])
        have HVDt := Lib.hid (show VD.data.toList = Lx.valS k Lx.polD from by rw [hVD])
        have HSS := Lib.hid (show ∀ wx, Below wr.heap.size wr wx → Below wr.heap.size wr wx ∧ wx.cell? ⟨w.heap.size, 0, none⟩ = some (.int .i64 cap) ∧ wx.cell? ⟨w.heap.size, 1, none⟩ = some (.int .i64 pri) ∧ wx.cell? ⟨w.heap.size, 2, none⟩ = some (.int .i64 spl) ∧ wx.cell? ⟨w.heap.size, 3, none⟩ = some (.int .i64 dl) ∧ wx.cell? ⟨w.heap.size, 4, none⟩ = some (.int .i64 mis) ∧ wx.cell? ⟨w.heap.size, 5, none⟩ = some (.int .i64 keep) ∧ wx.cell? ⟨w.heap.size, 6, none⟩ = some (.int .i64 lt) ∧ wx.cell? ⟨w.heap.size, 7, none⟩ = some (.int .i64 lu) ∧ wx.cell? ⟨w.heap.size, 8, none⟩ = some (.int .i64 bf) ∧ wx.cell? ⟨w.heap.size, 9, none⟩ = some (.int .i64 bo) ∧ wx.cell? ⟨w.heap.size, 10, none⟩ = some (.int .i64 bp) ∧ wx.cell? ⟨w.heap.size, 11, none⟩ = some (.int .i64 rm) ∧ wx.cell? ⟨w.heap.size, 12, none⟩ = some (.int .i64 rb) ∧ wx.cell? ⟨w.heap.size, 13, none⟩ = some (.int .i64 rc) ∧ wx.cell? ⟨w.heap.size, 14, none⟩ = some (.int .i64 rj) ∧ wx.cell? ⟨A, k, none⟩ = some (.string T) from fun wx b => by
          have d := D.out.trans (b.mono D.out.size)
          obtain ⟨q0, q1, q2, q3, q4, q5, q6, q7, q8, q9, q10, q11, q12, q13, q14⟩ := HQ15.out wx (C2.out.trans (d.mono C2.out.size))
          exact ⟨b, q0, q1, q2, q3, q4, q5, q6, q7, q8, q9, q10, q11, q12, q13, q14, (d.cell (p := ⟨A, k, none⟩) HA.out).trans (by rw [hT]; exact HR.out k hlt)⟩)
        have hS0 := HSS.out wr.drew (Below.refl _ wr).drew
        clear hV hVD hT
        go_upto_region 8 with (fail)
        refine wp_region_held_drew (S := (fun wx => Below wr.heap.size wr wx ∧ wx.cell? ⟨w.heap.size, 0, none⟩ = some (.int .i64 cap) ∧ wx.cell? ⟨w.heap.size, 1, none⟩ = some (.int .i64 pri) ∧ wx.cell? ⟨w.heap.size, 2, none⟩ = some (.int .i64 spl) ∧ wx.cell? ⟨w.heap.size, 3, none⟩ = some (.int .i64 dl) ∧ wx.cell? ⟨w.heap.size, 4, none⟩ = some (.int .i64 mis) ∧ wx.cell? ⟨w.heap.size, 5, none⟩ = some (.int .i64 keep) ∧ wx.cell? ⟨w.heap.size, 6, none⟩ = some (.int .i64 lt) ∧ wx.cell? ⟨w.heap.size, 7, none⟩ = some (.int .i64 lu) ∧ wx.cell? ⟨w.heap.size, 8, none⟩ = some (.int .i64 bf) ∧ wx.cell? ⟨w.heap.size, 9, none⟩ = some (.int .i64 bo) ∧ wx.cell? ⟨w.heap.size, 10, none⟩ = some (.int .i64 bp) ∧ wx.cell? ⟨w.heap.size, 11, none⟩ = some (.int .i64 rm) ∧ wx.cell? ⟨w.heap.size, 12, none⟩ = some (.int .i64 rb) ∧ wx.cell? ⟨w.heap.size, 13, none⟩ = some (.int .i64 rc) ∧ wx.cell? ⟨w.heap.size, 14, none⟩ = some (.int .i64 rj) ∧ wx.cell? ⟨A, k, none⟩ = some (.string T))) (by kernel_rfl) ?_ (fun hHeld => ?_)
        · exact hS0
        refine' wpAnyH_take (i := 0) (oi := _) (v := _) ?hi0r1 (by kernel_rfl) (by kernel_rfl) (by kernel_rfl) ?hq0r1 ?hy0r1 (by assumption) ?re0r1
        case hi0r1 => simp only [List.getElem?_toArray, List.getElem?_cons_zero]; rfl
        case hq0r1 => exact fun _ _ _ h => h
        case hy0r1 =>
          refine Or.inl ⟨by rfl, ?_⟩
          intro w hSw; (try dsimp only at hSw); go_simp; try with_reducible rfl
        try simp only [Act.put, List.setIfInBounds_toArray, List.set_cons_zero, List.set_cons_succ]
        refine' wpAnyH_take (i := 1) (oi := _) (v := _) ?hi1r1 (by kernel_rfl) (by kernel_rfl) (by kernel_rfl) ?hq1r1 ?hy1r1 (by assumption) ?re1r1
        case hi1r1 => simp only [List.getElem?_toArray, List.getElem?_cons_succ, List.getElem?_cons_zero]; rfl
        case hq1r1 => exact fun _ _ _ h => h
        case hy1r1 =>
          refine Or.inl ⟨by rfl, ?_⟩
          intro w hSw; (try dsimp only at hSw); go_simp; try with_reducible rfl
        try simp only [Act.put, List.setIfInBounds_toArray, List.set_cons_zero, List.set_cons_succ]
        refine' wpAnyH_take (i := 2) (oi := _) (v := _) ?hi2r1 (by kernel_rfl) (by kernel_rfl) (by kernel_rfl) ?hq2r1 ?hy2r1 (by assumption) ?re2r1
        case hi2r1 => simp only [List.getElem?_toArray, List.getElem?_cons_succ, List.getElem?_cons_zero]; rfl
        case hq2r1 => exact fun _ _ _ h => h
        case hy2r1 =>
          refine Or.inl ⟨by rfl, ?_⟩
          intro w hSw; (try dsimp only at hSw); go_simp; try with_reducible rfl
        try simp only [Act.put, List.setIfInBounds_toArray, List.set_cons_zero, List.set_cons_succ]
        refine' wpAnyH_take (i := 3) (oi := _) (v := _) ?hi3r1 (by kernel_rfl) (by kernel_rfl) (by kernel_rfl) ?hq3r1 ?hy3r1 (by assumption) ?re3r1
        case hi3r1 => simp only [List.getElem?_toArray, List.getElem?_cons_succ, List.getElem?_cons_zero]; rfl
        case hq3r1 => exact fun _ _ _ h => h
        case hy3r1 =>
          refine Or.inl ⟨by rfl, ?_⟩
          intro w hSw; (try dsimp only at hSw); go_simp; try with_reducible rfl
        try simp only [Act.put, List.setIfInBounds_toArray, List.set_cons_zero, List.set_cons_succ]
        refine' wpAnyH_take (i := 4) (oi := _) (v := _) ?hi4r1 (by kernel_rfl) (by kernel_rfl) (by kernel_rfl) ?hq4r1 ?hy4r1 (by assumption) ?re4r1
        case hi4r1 => simp only [List.getElem?_toArray, List.getElem?_cons_succ, List.getElem?_cons_zero]; rfl
        case hq4r1 => exact fun _ _ _ h => h
        case hy4r1 =>
          refine Or.inl ⟨by rfl, ?_⟩
          intro w hSw; (try dsimp only at hSw); go_simp; try with_reducible rfl
        try simp only [Act.put, List.setIfInBounds_toArray, List.set_cons_zero, List.set_cons_succ]
        refine wpAnyH_ready (rs := [5]) (by kernel_rfl) (by simp) ?_
        refine' AllReadyH.cons (o := _) ?hi5r1 (fun K hK => ?st5r1) AllReadyH.nil
        case hi5r1 => simp only [List.getElem?_toArray, List.getElem?_cons_succ, List.getElem?_cons_zero]; rfl
        go_simp
        go_at_call 56; refine (HV.out _).mono ?_; rintro e w5 ⟨rfl, c5⟩; have k8 := HSS.out _ (hHeld.1.trans (c5.mono hHeld.1.size)); clear c5
        try go_wp2_with fail
        refine hK.out _ _ ?_ (fun hHeld => ?_)
        · exact k8
        clear hK K
        try simp only [Act.put, List.setIfInBounds_toArray, List.set_cons_zero, List.set_cons_succ]
        refine' wpAnyH_take (i := 6) (oi := _) (v := _) ?hi6r1 (by kernel_rfl) (by kernel_rfl) (by kernel_rfl) ?hq6r1 ?hy6r1 (by assumption) ?re6r1
        case hi6r1 => simp only [List.getElem?_toArray, List.getElem?_cons_succ, List.getElem?_cons_zero]; rfl
        case hq6r1 => exact fun _ _ _ h => h
        case hy6r1 =>
          refine Or.inl ⟨by rfl, ?_⟩
          intro w hSw; (try dsimp only at hSw); go_simp; try with_reducible rfl
        try simp only [Act.put, List.setIfInBounds_toArray, List.set_cons_zero, List.set_cons_succ]
        refine wpAnyH_done (by kernel_rfl) ?_ _
        have c5 := hHeld.1
        have D5 := Lib.hid (D.out.trans (c5.mono D.out.size))
        have kc5 : w5.cell? ⟨A, k, none⟩ = some (.string T) := by obtain ⟨_, _, _, _, _, _, _, _, _, _, _, _, _, _, _, _, z⟩ := k8; exact z
        have hA5 := Nat.lt_of_lt_of_le HA.out D5.out.size
        have HSS2 := Lib.hid (show ∀ wx, Below w5.heap.size w5 wx → Below w5.heap.size w5 wx ∧ wx.cell? ⟨A, k, none⟩ = some (.string T) from fun wx b => ⟨b, (b.cell (p := ⟨A, k, none⟩) hA5).trans kc5⟩)
        have hS0 := HSS2.out w5.drew (Below.refl _ w5).drew
        clear hHeld k8 c5 kc5 hA5 HSS
        go_upto_region 9 with (fail)
        refine wp_region_held_drew (S := (fun wx => Below w5.heap.size w5 wx ∧ wx.cell? ⟨A, k, none⟩ = some (.string T))) (by kernel_rfl) ?_ (fun hHeld => ?_)
        · exact hS0
        refine' wpAnyH_take (i := 0) (oi := _) (v := _) ?hi0r2 (by kernel_rfl) (by kernel_rfl) (by kernel_rfl) ?hq0r2 ?hy0r2 (by assumption) ?re0r2
        case hi0r2 => simp only [List.getElem?_toArray, List.getElem?_cons_zero]; rfl
        case hq0r2 => exact fun _ _ _ h => h
        case hy0r2 =>
          refine Or.inl ⟨by rfl, ?_⟩
          intro w hSw; (try dsimp only at hSw); go_simp; try with_reducible rfl
        try simp only [Act.put, List.setIfInBounds_toArray, List.set_cons_zero, List.set_cons_succ]
        refine' wpAnyH_take (i := 2) (oi := _) (v := _) ?hi2r2 (by kernel_rfl) (by kernel_rfl) (by kernel_rfl) ?hq2r2 ?hy2r2 (by assumption) ?re2r2
        case hi2r2 => simp only [List.getElem?_toArray, List.getElem?_cons_succ, List.getElem?_cons_zero]; rfl
        case hq2r2 => exact fun _ _ _ h => h
        case hy2r2 =>
          refine Or.inl ⟨by rfl, ?_⟩
          intro w hSw; (try dsimp only at hSw); go_simp; try with_reducible rfl
        try simp only [Act.put, List.setIfInBounds_toArray, List.set_cons_zero, List.set_cons_succ]
        refine' wpAnyH_take (i := 3) (oi := _) (v := _) ?hi3r2 (by kernel_rfl) (by kernel_rfl) (by kernel_rfl) ?hq3r2 ?hy3r2 (by assumption) ?re3r2
        case hi3r2 => simp only [List.getElem?_toArray, List.getElem?_cons_succ, List.getElem?_cons_zero]; rfl
        case hq3r2 => exact fun _ _ _ h => h
        case hy3r2 =>
          refine Or.inl ⟨by rfl, ?_⟩
          intro w hSw; (try dsimp only at hSw); go_simp; try with_reducible rfl
        try simp only [Act.put, List.setIfInBounds_toArray, List.set_cons_zero, List.set_cons_succ]
        refine' wpAnyH_take (i := 4) (oi := _) (v := _) ?hi4r2 (by kernel_rfl) (by kernel_rfl) (by kernel_rfl) ?hq4r2 ?hy4r2 (by assumption) ?re4r2
        case hi4r2 => simp only [List.getElem?_toArray, List.getElem?_cons_succ, List.getElem?_cons_zero]; rfl
        case hq4r2 => exact fun _ _ _ h => h
        case hy4r2 =>
          refine Or.inl ⟨by rfl, ?_⟩
          intro w hSw; (try dsimp only at hSw); go_simp; try with_reducible rfl
        try simp only [Act.put, List.setIfInBounds_toArray, List.set_cons_zero, List.set_cons_succ]
        refine' wpAnyH_take (i := 5) (oi := _) (v := _) ?hi5r2 (by kernel_rfl) (by kernel_rfl) (by kernel_rfl) ?hq5r2 ?hy5r2 (by assumption) ?re5r2
        case hi5r2 => simp only [List.getElem?_toArray, List.getElem?_cons_succ, List.getElem?_cons_zero]; rfl
        case hq5r2 => exact fun _ _ _ h => h
        case hy5r2 =>
          refine Or.inl ⟨by rfl, ?_⟩
          intro w hSw; (try dsimp only at hSw); go_simp; try with_reducible rfl
        try simp only [Act.put, List.setIfInBounds_toArray, List.set_cons_zero, List.set_cons_succ]
        refine wpAnyH_ready (rs := [1]) (by kernel_rfl) (by simp) ?_
        refine' AllReadyH.cons (o := _) ?hi1r2 (fun K hK => ?st1r2) AllReadyH.nil
        case hi1r2 => simp only [List.getElem?_toArray, List.getElem?_cons_succ, List.getElem?_cons_zero]; rfl
        go_simp
        go_at_call 27; refine (HDf.out _).mono ?_; rintro e w6 ⟨rfl, c6⟩; have k8 := HSS2.out _ (hHeld.1.trans (c6.mono hHeld.1.size)); clear c6
        try go_wp2_with fail
        refine hK.out _ _ ?_ (fun hHeld => ?_)
        · exact k8
        clear hK K
        try simp only [Act.put, List.setIfInBounds_toArray, List.set_cons_zero, List.set_cons_succ]
        refine wpAnyH_ready (rs := [6]) (by kernel_rfl) (by simp) ?_
        refine' AllReadyH.cons (o := _) ?hi6r2 (fun K hK => ?st6r2) AllReadyH.nil
        case hi6r2 => simp only [List.getElem?_toArray, List.getElem?_cons_succ, List.getElem?_cons_zero]; rfl
        go_simp
        go_at_call 56; refine (HVD.out _).mono ?_; rintro e w7 ⟨rfl, c7⟩; have k8 := HSS2.out _ (hHeld.1.trans (c7.mono hHeld.1.size)); clear c7
        try go_wp2_with fail
        refine hK.out _ _ ?_ (fun hHeld => ?_)
        · exact k8
        clear hK K
        try simp only [Act.put, List.setIfInBounds_toArray, List.set_cons_zero, List.set_cons_succ]
        refine' wpAnyH_take (i := 7) (oi := _) (v := _) ?hi7r2 (by kernel_rfl) (by kernel_rfl) (by kernel_rfl) ?hq7r2 ?hy7r2 (by assumption) ?re7r2
        case hi7r2 => simp only [List.getElem?_toArray, List.getElem?_cons_succ, List.getElem?_cons_zero]; rfl
        case hq7r2 => exact fun _ _ _ h => h
        case hy7r2 =>
          refine Or.inl ⟨by rfl, ?_⟩
          intro w hSw; (try dsimp only at hSw); go_simp; try with_reducible rfl
        try simp only [Act.put, List.setIfInBounds_toArray, List.set_cons_zero, List.set_cons_succ]
        refine wpAnyH_done (by kernel_rfl) ?_ _
        have D7 := Lib.hid (D5.out.trans (hHeld.1.mono D5.out.size))
        have kc7 := hHeld.2
        clear hHeld k8 HSS2 D5
        by_cases hv : Lx.valS k P = Lx.valS k Lx.polD
        · have e1 : (V.toList == VD.toList) = true := by rw [beq_iff_eq, Lib.toList_data, Lib.toList_data, HVt.out, HVDt.out, hv]
          have HN := Lib.hid (show ob.data.toList = Lib.join (Lx.prTo P (k + 1)) [32] from by rw [Lx.prTo, if_pos hv]; exact Hob.out)
          rw [e1]
          clear hv kc7 e1
          go_wp2_with fail
          go_roundw
          case rel => exact ⟨ob, k + 1, by omega, rfl, by go_num, HN.out, D7.out⟩
          case measure => simp [intOf]; omega
        · have e1 : (V.toList == VD.toList) = false := by rw [beq_eq_false_iff_ne, Lib.toList_data, Lib.toList_data, HVt.out, HVDt.out]; exact hv
          rw [e1]
          clear e1
          have hN : Lib.join (Lx.prTo P (k + 1)) [32] = if Lx.prTo P k = [] then Lx.pairW k P else Lib.join (Lx.prTo P k) [32] ++ 32 :: Lx.pairW k P := by rw [Lx.prTo, if_neg hv]; exact Lx.join_snoc _ _
          have k1 : (⟨#[32]⟩ : ByteArray).size = 1 := rfl
          have k2 : (⟨#[61]⟩ : ByteArray).size = 1 := rfl
          by_cases he : ob.data.toList = []
          · have e2 : ob.toList = [] := by rw [Lib.toList_data]; exact he
            have e3 : ob.toList.isEmpty = true := by rw [e2]; rfl
            have e4 : (!ob.toList.isEmpty) = false := by rw [e3]; rfl
            have HN := Lib.hid (show (ob ++ T ++ (⟨#[61]⟩ : ByteArray) ++ V).data.toList = Lib.join (Lx.prTo P (k + 1)) [32] from by
              rw [hN, if_pos (He.out.1 he)]
              simp [ByteArray.data_append, he, HT.out, HVt.out, Lx.pairW])
            have n1 : ¬ (9223372036854775807 < ob.size + T.size) := by omega
            have n2 : ¬ (9223372036854775807 < ob.size + T.size + 1) := by omega
            have n3 : ¬ (9223372036854775807 < ob.size + T.size + 1 + V.size) := by omega
            clear hv hN he e2 e4
            go_wp2_with fail
            go_roundw
            case rel => exact ⟨_, k + 1, by omega, rfl, by go_num, HN.out, D7.out⟩
            case measure => simp [intOf]; omega
          · have e2 : ¬ ob.toList = [] := by rw [Lib.toList_data]; exact he
            have e3 : ob.toList.isEmpty = false := by rw [List.isEmpty_eq_false_iff]; exact e2
            have e4 : (!ob.toList.isEmpty) = true := by rw [e3]; rfl
            have HN := Lib.hid (show (ob ++ (⟨#[32]⟩ : ByteArray) ++ T ++ (⟨#[61]⟩ : ByteArray) ++ V).data.toList = Lib.join (Lx.prTo P (k + 1)) [32] from by
              rw [hN, if_neg (fun c => he (He.out.2 c)), ← Hob.out]
              simp [ByteArray.data_append, HT.out, HVt.out, Lx.pairW])
            have n0 : ¬ (9223372036854775807 < ob.size + 1) := by omega
            have n1 : ¬ (9223372036854775807 < ob.size + 1 + T.size) := by omega
            have n2 : ¬ (9223372036854775807 < ob.size + 1 + T.size + 1) := by omega
            have n3 : ¬ (9223372036854775807 < ob.size + 1 + T.size + 1 + V.size) := by omega
            clear hv hN he e2 e4
            go_wp2_with fail
            go_roundw
            case rel => exact ⟨_, k + 1, by omega, rfl, by go_num, HN.out, D7.out⟩
            case measure => simp [intOf]; omega
      · obtain rfl : k = 8 := by omega
        have HR2 := Lib.hid (show (⟨(Lx.prS P).toArray⟩ : ByteArray) = ob from by rw [HPS.out, ← Hob.out, Lib.mk_data])
        have G := Lib.hid (B0.out.trans ((C2.out.trans (D.out.mono C2.out.size)).mono B0.out.size))
        go_wp2_with fail
        go_ret2
        exact ⟨by rw [HR2.out]; rfl, G.out⟩
  · have hE : Lx.polE p = 16 := by unfold Lx.polE; rw [if_neg h]
    have hS : Lx.prS p = [] := by unfold Lx.prS; rw [if_neg h]
    rw [hE] at HC ⊢
    rw [hS]
    clear hE h hS
    obtain ⟨cap, pri, spl, dl, mis, keep, lt, lu, bf, bo, bp, rm, rb, rc, rj⟩ := p
    unfold Lx.PolV.cells at hW0 HQ
    unfold Lx.PolV.val at *
    dsimp only at hW0 HQ HC
    have HQ15 := Lib.hid (show ∀ wx, Below W0.heap.size W0 wx → wx.cell? ⟨w.heap.size, 0, none⟩ = some (.int .i64 cap) ∧ wx.cell? ⟨w.heap.size, 1, none⟩ = some (.int .i64 pri) ∧ wx.cell? ⟨w.heap.size, 2, none⟩ = some (.int .i64 spl) ∧ wx.cell? ⟨w.heap.size, 3, none⟩ = some (.int .i64 dl) ∧ wx.cell? ⟨w.heap.size, 4, none⟩ = some (.int .i64 mis) ∧ wx.cell? ⟨w.heap.size, 5, none⟩ = some (.int .i64 keep) ∧ wx.cell? ⟨w.heap.size, 6, none⟩ = some (.int .i64 lt) ∧ wx.cell? ⟨w.heap.size, 7, none⟩ = some (.int .i64 lu) ∧ wx.cell? ⟨w.heap.size, 8, none⟩ = some (.int .i64 bf) ∧ wx.cell? ⟨w.heap.size, 9, none⟩ = some (.int .i64 bo) ∧ wx.cell? ⟨w.heap.size, 10, none⟩ = some (.int .i64 bp) ∧ wx.cell? ⟨w.heap.size, 11, none⟩ = some (.int .i64 rm) ∧ wx.cell? ⟨w.heap.size, 12, none⟩ = some (.int .i64 rb) ∧ wx.cell? ⟨w.heap.size, 13, none⟩ = some (.int .i64 rc) ∧ wx.cell? ⟨w.heap.size, 14, none⟩ = some (.int .i64 rj) from fun wx b => ⟨HQ.out wx b 0 _ rfl, HQ.out wx b 1 _ rfl, HQ.out wx b 2 _ rfl, HQ.out wx b 3 _ rfl, HQ.out wx b 4 _ rfl, HQ.out wx b 5 _ rfl, HQ.out wx b 6 _ rfl, HQ.out wx b 7 _ rfl, HQ.out wx b 8 _ rfl, HQ.out wx b 9 _ rfl, HQ.out wx b 10 _ rfl, HQ.out wx b 11 _ rfl, HQ.out wx b 12 _ rfl, HQ.out wx b 13 _ rfl, HQ.out wx b 14 _ rfl⟩)
    clear HQ
    go_enter Tryz.func21, Tryz.ntmps21
    go_upto_region 1 with (fail)
    rw [show (w.alloc (.cells #[.int .i64 cap, .int .i64 pri, .int .i64 spl, .int .i64 dl, .int .i64 mis, .int .i64 keep, .int .i64 lt, .int .i64 lu, .int .i64 bf, .int .i64 bo, .int .i64 bp, .int .i64 rm, .int .i64 rb, .int .i64 rc, .int .i64 rj] 29)) = W0 from hW0.symm]
    clear hW0
    obtain ⟨q0, q1, q2, q3, q4, q5, q6, q7, q8, q9, q10, q11, q12, q13, q14⟩ := HQ15.out W0 (Below.refl _ _)
    go_wp2_with fail
    refine (HC.out _).mono ?_
    rintro e w1 ⟨rfl, c1⟩
    have G := Lib.hid (B0.out.trans (c1.mono B0.out.size))
    clear q0 q1 q2 q3 q4 q5 q6 q7 q8 q9 q10 q11 q12 q13 q14 c1
    go_wp2_with fail
    go_ret2
    exact ⟨rfl, G.out⟩
end Go.Proofs.YtdpjcbijddgpgaaGreatDoor
