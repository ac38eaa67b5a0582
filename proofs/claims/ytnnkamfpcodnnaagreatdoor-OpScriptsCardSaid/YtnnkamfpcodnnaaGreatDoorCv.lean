/- The walks of civil's days, dates and times of day: they reckon as Cv says. -/
import Derived.Test.YtnnkamfpcodnnaaGreatDoorProg
import Derived.Test.YtnnkamfpcodnnaaGreatDoorOpTm
import Derived.Test.YtnnkamfpcodnnaaGreatDoorEnv
import Derived.WalkKit
import Derived.WalkSpells
import Derived.WalkLawsBesides
import Derived.BigQuiet
import Derived.BigGuardPart
import Derived.Lib.Hide
namespace Go.Proofs.YtnnkamfpcodnnaaGreatDoor
open Go.RowKit

theorem cv_valid (t : Int) (w : World) : Calls Tryz.prog 83 #[.int .i64 t] w fun e w' => e = .returned (.bool (decide (0 ≤ t ∧ t ≤ 253402300799))) ∧ w = w' := by
  by_cases h0 : 0 ≤ t
  · by_cases h1 : t ≤ 253402300799
    all_goals
      go_enter Tryz.func83, Tryz.ntmps83
      go_wp2
      go_ret
      exact ⟨Lx.ret_bool (by simp [h0, h1]), rfl⟩
  · go_enter Tryz.func83, Tryz.ntmps83
    go_wp2
    go_ret
    exact ⟨Lx.ret_bool (by simp; omega), rfl⟩
theorem Lx.ret_t4 {a b c d a' b' c' d' : Value} (h : a = a') (h2 : b = b') (h3 : c = c') (h4 : d = d') : Ending.returned (.tuple #[a, b, c, d]) = .returned (.tuple #[a', b', c', d']) := by rw [h, h2, h3, h4]
theorem cv_date_no (n : Int) (w : World) (h : ¬ (0 ≤ n ∧ n ≤ 2932896)) : Calls Tryz.prog 84 #[.int .i64 n] w fun e w' => e = .returned (.tuple #[.int .i64 0, .int .i64 0, .int .i64 0, .int .i64 14]) ∧ w = w' := by
  by_cases h0 : 0 ≤ n
  · have h1 : 2932896 < n := by omega
    go_enter Tryz.func84, Tryz.ntmps84
    go_wp2
    exact bodyPost_ret (v := .tuple #[.int .i64 0, .int .i64 0, .int .i64 0, .int .i64 14]) (by simp [results, Tryz.results84, go_sem]) rfl ⟨rfl, rfl⟩
  · have h1 : n < 0 := by omega
    go_enter Tryz.func84, Tryz.ntmps84
    go_wp2
    exact bodyPost_ret (v := .tuple #[.int .i64 0, .int .i64 0, .int .i64 0, .int .i64 14]) (by simp [results, Tryz.results84, go_sem]) rfl ⟨rfl, rfl⟩
theorem cv_date (n : Int) (w : World) (h0 : 0 ≤ n) (h1 : n ≤ 2932896) : Calls Tryz.prog 84 #[.int .i64 n] w fun e w' => e = .returned (.tuple #[.int .i64 (Cv.dY n), .int .i64 (Cv.dM n), .int .i64 (Cv.dD n), .int .i64 0]) ∧ w = w' := by
  obtain ⟨a1, a2, a3, a4, a5, a6, -⟩ := Cv.doy_is n
  have l := Cv.lp_01 (400 * Cv.cyc n + Cv.yoe (Cv.doe n) + 1)
  have a7 : Cv.doy n ≤ 365 := by omega
  have hY : Cv.dY n = if 12 < Cv.mp n + 3 then 400 * Cv.cyc n + Cv.yoe (Cv.doe n) + 1 else 400 * Cv.cyc n + Cv.yoe (Cv.doe n) := rfl
  have hM : Cv.dM n = if 12 < Cv.mp n + 3 then Cv.mp n + 3 - 12 else Cv.mp n + 3 := rfl
  have hD : Cv.dD n = Cv.doy n - (153 * Cv.mp n + 2) / 5 + 1 := rfl
  have a8 : 0 ≤ Cv.cyc n ∧ Cv.cyc n ≤ 30 := by unfold Cv.cyc; omega
  have a9 : 0 ≤ Cv.mp n ∧ Cv.mp n ≤ 11 := by unfold Cv.mp; omega
  have e1 : Value.int .i64 ((n + 719468) / 146097) = Value.int .i64 (Cv.cyc n) := rfl
  have e2 : Value.int .i64 ((n + 719468) % 146097) = Value.int .i64 (Cv.doe n) := rfl
  have e3 : Value.int .i64 ((Cv.doe n - Cv.doe n / 1460 + Cv.doe n / 36524 - Cv.doe n / 146096) / 365) = Value.int .i64 (Cv.yoe (Cv.doe n)) := rfl
  have e4 : Value.int .i64 (Cv.doe n - (365 * Cv.yoe (Cv.doe n) + Cv.yoe (Cv.doe n) / 4 - Cv.yoe (Cv.doe n) / 100)) = Value.int .i64 (Cv.doy n) := rfl
  have e5 : Value.int .i64 ((5 * Cv.doy n + 2) / 153) = Value.int .i64 (Cv.mp n) := rfl
  have HY := Lib.hid hY
  have HM := Lib.hid hM
  have HD := Lib.hid hD
  clear hY hM hD a6 l
  generalize Cv.mp n = m at *
  generalize Cv.doy n = o at *
  generalize Cv.yoe (Cv.doe n) = y at *
  generalize Cv.doe n = d at *
  generalize Cv.cyc n = c at *
  obtain ⟨b1, b2⟩ := a8
  obtain ⟨b3, b4⟩ := a9
  by_cases hm : 12 < m + 3
  · have hY := HY.out
    have hM := HM.out
    rw [if_pos hm] at hY hM
    have hm2 : 10 ≤ m := by omega
    clear HY HM hm
    have HY := Lib.hid hY
    have HM := Lib.hid hM
    clear hY hM
    go_enter Tryz.func84, Tryz.ntmps84
    go_wp2
    exact bodyPost_ret (v := .tuple #[.int .i64 (Cv.dY n), .int .i64 (Cv.dM n), .int .i64 (Cv.dD n), .int .i64 0]) (by simp [results, Tryz.results84, go_sem]; exact ⟨HY.out.symm, HM.out.symm, HD.out.symm⟩) rfl ⟨rfl, rfl⟩
  · have hY := HY.out
    have hM := HM.out
    rw [if_neg hm] at hY hM
    have hm2 : m ≤ 9 := by omega
    clear HY HM hm
    have HY := Lib.hid hY
    have HM := Lib.hid hM
    clear hY hM
    go_enter Tryz.func84, Tryz.ntmps84
    go_wp2
    all_goals first | exact bodyPost_ret (v := .tuple #[.int .i64 (Cv.dY n), .int .i64 (Cv.dM n), .int .i64 (Cv.dD n), .int .i64 0]) (by simp [results, Tryz.results84, go_sem]; exact ⟨HY.out.symm, HM.out.symm, HD.out.symm⟩) rfl ⟨rfl, rfl⟩ | (exfalso; omega)
theorem cv_count (y m d : Int) (w : World) (hy : 1970 ≤ y ∧ y ≤ 9999) (hm : 1 ≤ m ∧ m ≤ 12) (hd : 1 ≤ d ∧ d ≤ 31) :
    Calls Tryz.prog 98 #[.int .i64 y, .int .i64 m, .int .i64 d] w fun e w' => e = .returned (.int .i64 (Cv.num y m d)) ∧ w = w' := by
  have hc := Cv.count_is y m d hm.1 hm.2
  obtain ⟨y0, y1⟩ := hy
  obtain ⟨m0, m1⟩ := hm
  obtain ⟨d0, d1⟩ := hd
  by_cases h : m ≤ 2
  · simp only [Cv.cntY, Cv.cntM, if_pos h] at hc
    have Hc := Lib.hid hc
    clear hc
    go_enter Tryz.func98, Tryz.ntmps98
    go_wp2
    go_ret
    exact ⟨Lx.ret_int (by rw [← Hc.out]), rfl⟩
  · have h2 : 3 ≤ m := by omega
    simp only [Cv.cntY, Cv.cntM, if_neg h] at hc
    have Hc := Lib.hid hc
    clear hc h
    go_enter Tryz.func98, Tryz.ntmps98
    go_wp2
    go_ret
    exact ⟨Lx.ret_int (by rw [← Hc.out]), rfl⟩
end Go.Proofs.YtnnkamfpcodnnaaGreatDoor
