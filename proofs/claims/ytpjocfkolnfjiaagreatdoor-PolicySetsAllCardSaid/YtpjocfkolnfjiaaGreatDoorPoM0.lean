/- Policies: how long an occurrence may take with all its attempts. -/
import Derived.Test.YtpjocfkolnfjiaaGreatDoorPoM2
import Derived.Test.YtpjocfkolnfjiaaGreatDoorPoM1
namespace Go.Proofs.YtpjocfkolnfjiaaGreatDoor
open Go.RowKit

namespace Lx
theorem waitAt_snoc (c : Int) : ∀ (k : Nat) (w : Int), Lx.waitAt c (k + 1) w = min (2 * Lx.waitAt c k w) c
  | 0, _ => rfl
  | k + 1, w => by
    show Lx.waitAt c (k + 1) (min (2 * w) c) = min (2 * Lx.waitAt c k (min (2 * w) c)) c
    exact waitAt_snoc c k (min (2 * w) c)
end Lx
set_option maxRecDepth 100000 in
set_option maxHeartbeats 1600000 in
theorem span_any (p : Lx.PolV) (w : World) :
    Calls Tryz.prog 20 #[p.val] w fun e w' => e = .returned (.tuple #[.int .i64 (Lx.spanV p), .int .i64 (Lx.polE p)]) ∧ Below w.heap.size w w' := by
  have HC := Lib.hid (fun W => polCheck_any p W)
  by_cases h : Lx.polOk p = true
  · have hE : Lx.polE p = 0 := by unfold Lx.polE; rw [if_pos h]
    have hS : Lx.spanV p = p.dl + 1 + Lx.waits p.rc p.rj p.dl p.rm.toNat p.rb := by unfold Lx.spanV; rw [if_pos h]
    obtain ⟨_, _, _, a4, _, _, _, a8⟩ := Lx.pol_parts h
    obtain ⟨hb0, hb1, hc0, hc1, hj0, hj1, hm0, hm1⟩ : 0 ≤ p.rb ∧ p.rb ≤ p.rc ∧ 0 ≤ p.rc ∧ p.rc ≤ 68719476736 ∧ 0 ≤ p.rj ∧ p.rj ≤ 68719476736 ∧ 0 ≤ p.rm ∧ p.rm ≤ 20 := by omega
    rw [hE] at HC
    rw [hE, hS]
    clear hE hS h a8
    obtain ⟨cap, pri, spl, dl, mis, keep, lt, lu, bf, bo, bp, rm, rb, rc, rj⟩ := p
    unfold Lx.PolV.val at *
    dsimp only at *
    obtain ⟨n, rfl⟩ := Int.eq_ofNat_of_zero_le hm0
    rw [Int.toNat_natCast]
    obtain ⟨O, hO⟩ : ∃ O : Nat → Int, O = fun k => dl + 1 + Lx.waits rc rj dl k rb := ⟨_, rfl⟩
    obtain ⟨V, hV⟩ : ∃ V : Nat → Int, V = fun k => Lx.waitAt rc k rb := ⟨_, rfl⟩
    have HO := Lib.hid (show ∀ k, O k + ((V k + if rj - 1 < 0 then 0 else rj - 1) + dl + 1) = O (k + 1) from by intro k; rw [hO, hV]; dsimp only; rw [Lx.waits_snoc]; split <;> omega)
    have HV := Lib.hid (show ∀ k, (if rc < 2 * V k then rc else 2 * V k) = V (k + 1) from by intro k; rw [hV]; dsimp only; rw [Lx.waitAt_snoc rc k rb]; split <;> omega)
    have HVb := Lib.hid (show ∀ k, 0 ≤ V k ∧ V k ≤ 68719476736 from by intro k; have := Lx.waitAt_bd rc k rb hb0 hb1; rw [hV]; dsimp only; omega)
    have HOb := Lib.hid (show ∀ k, k ≤ 20 → 0 ≤ O k ∧ O k ≤ 6000000000000 from by
      intro k hk
      have := Lx.waits_bd rc rj dl a4 ⟨hj0, hj1⟩ k rb hb0 (by omega) hc1 hc0
      have := Lx.waits_pos rc rj dl a4.1 k rb hb0 hc0
      rw [hO]; dsimp only; omega)
    have hO0 : O 0 = dl + 1 := by rw [hO]; simp [Lx.waits]
    have hV0 : V 0 = rb := by rw [hV]; rfl
    rw [show dl + 1 + Lx.waits rc rj dl n rb = O n by rw [hO]]
    have HO0 := Lib.hid hO0
    have HV0 := Lib.hid hV0
    clear hO hV hO0 hV0
    have hm : n ≤ 20 := by omega
    clear hm0 hm1 hb0 hb1 hc0
    have hd0 := a4.1
    have hd1 := a4.2
    clear a4
    go_enter Tryz.func20, Tryz.ntmps20
    go_wp2_with fail
    refine (HC.out _).mono ?_
    rintro e w1 ⟨rfl, b1⟩
    have hlt : w.heap.size < (w.alloc (.cells #[.int .i64 cap, .int .i64 pri, .int .i64 spl, .int .i64 dl, .int .i64 mis, .int .i64 keep, .int .i64 lt, .int .i64 lu, .int .i64 bf, .int .i64 bo, .int .i64 bp, .int .i64 n, .int .i64 rb, .int .i64 rc, .int .i64 rj] 29)).heap.size := by simp
    have q3 := (b1.cell (p := ⟨w.heap.size, 3, none⟩) hlt).trans (show _ = some (.int .i64 dl) by simp)
    have q11 := (b1.cell (p := ⟨w.heap.size, 11, none⟩) hlt).trans (show _ = some (.int .i64 n) by simp)
    have q12 := (b1.cell (p := ⟨w.heap.size, 12, none⟩) hlt).trans (show _ = some (.int .i64 rb) by simp)
    have q13 := (b1.cell (p := ⟨w.heap.size, 13, none⟩) hlt).trans (show _ = some (.int .i64 rc) by simp)
    have q14 := (b1.cell (p := ⟨w.heap.size, 14, none⟩) hlt).trans (show _ = some (.int .i64 rj) by simp)
    have B1 := Lib.hid ((show Below w.heap.size w _ from (Below.refl _ w).alloc (Nat.le_refl _) _).trans (b1.mono (by simp)))
    have hl1 := B1.out.size
    have hl2 := Nat.lt_of_lt_of_le hlt b1.size
    clear b1 hlt HC
    go_upto_region 5 with (fail)
    obtain ⟨W2, hW2⟩ : ∃ W2, W2 = w1.alloc (.cells #[.int .i64 n, .int .i64 rb, .int .i64 rc, .int .i64 rj] 27) := ⟨_, rfl⟩
    rw [← hW2]
    have B2 := Lib.hid (show Below w.heap.size w W2 from by rw [hW2]; exact B1.out.alloc hl1 _)
    have p0 : W2.cell? ⟨w1.heap.size, 0, none⟩ = some (.int .i64 n) := by rw [hW2]; simp
    have p1 : W2.cell? ⟨w1.heap.size, 1, none⟩ = some (.int .i64 rb) := by rw [hW2]; simp
    have p2 : W2.cell? ⟨w1.heap.size, 2, none⟩ = some (.int .i64 rc) := by rw [hW2]; simp
    have p3 : W2.cell? ⟨w1.heap.size, 3, none⟩ = some (.int .i64 rj) := by rw [hW2]; simp
    have p4 : W2.cell? ⟨w.heap.size, 3, none⟩ = some (.int .i64 dl) := by rw [hW2, World.cell?_alloc_past _ _ _ hl2]; exact q3
    clear hW2 q3 q11 q12 q13 q14 hl1 hl2 B1
    go_wp2_with fail
    go_loop [6, 7, 22] (fun a b i => ∃ k : Nat, k ≤ n ∧ i = .int .i64 k ∧ a = .int .i64 (O k) ∧ b = .int .i64 (V k)) (fun _ _ i => n - (intOf i).toNat)
    case atStart => exact ⟨0, Nat.zero_le _, rfl, by rw [HO0.out], by rw [HV0.out]⟩
    case round =>
      obtain ⟨k, hk, rfl, rfl, rfl⟩ := hrel
      by_cases hlt : k < n
      · have hki : (k : Int) < (n : Int) := by omega
        obtain ⟨v0, v1⟩ := HVb.out k
        obtain ⟨o0, o1⟩ := HOb.out k (by omega)
        go_wp2_with fail
        go_round
        case rel => exact ⟨k + 1, by omega, by go_num, by rw [← HO.out], by rw [← HV.out]⟩
        case measure => simp [intOf]; omega
      · obtain rfl : k = n := by omega
        have hki : decide ((k : Int) < (k : Int)) = false := decide_eq_false (by omega)
        go_wp2_with fail
        go_ret2
        exact ⟨rfl, B2.out⟩
  · have hE : Lx.polE p = 16 := by unfold Lx.polE; rw [if_neg h]
    have hS : Lx.spanV p = 0 := by unfold Lx.spanV; rw [if_neg h]
    rw [hE] at HC
    rw [hE, hS]
    clear hE hS h
    obtain ⟨cap, pri, spl, dl, mis, keep, lt, lu, bf, bo, bp, rm, rb, rc, rj⟩ := p
    unfold Lx.PolV.val at *
    dsimp only at *
    go_enter Tryz.func20, Tryz.ntmps20
    go_wp2_with fail
    refine (HC.out _).mono ?_
    rintro e w1 ⟨rfl, b1⟩
    go_wp2_with fail
    go_ret2
    exact ⟨rfl, ((Below.refl _ w).alloc (Nat.le_refl _) _).trans (b1.mono (by simp))⟩
end Go.Proofs.YtpjocfkolnfjiaaGreatDoor
