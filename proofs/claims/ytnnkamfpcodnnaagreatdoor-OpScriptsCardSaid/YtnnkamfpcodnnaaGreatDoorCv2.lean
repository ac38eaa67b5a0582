/- The walks of civil's Days, Of, Time. -/
import Derived.Test.YtnnkamfpcodnnaaGreatDoorCv
import Derived.Test.YtnnkamfpcodnnaaGreatDoorEq
import Derived.Test.YtnnkamfpcodnnaaGreatDoorBox
import Derived.Deep.DeepCutAuto
namespace Go.Proofs.YtnnkamfpcodnnaaGreatDoor
open Go.RowKit

theorem cv_days_out (y m d : Int) (w : World) (h : y < 1970 ∨ (1970 ≤ y ∧ 9999 < y) ∨ (1970 ≤ y ∧ y ≤ 9999 ∧ m < 1) ∨ (1970 ≤ y ∧ y ≤ 9999 ∧ 1 ≤ m ∧ 12 < m) ∨ (1970 ≤ y ∧ y ≤ 9999 ∧ 1 ≤ m ∧ m ≤ 12 ∧ d < 1) ∨ (1970 ≤ y ∧ y ≤ 9999 ∧ 1 ≤ m ∧ m ≤ 12 ∧ 1 ≤ d ∧ 31 < d)) :
    Calls Tryz.prog 86 #[.int .i64 y, .int .i64 m, .int .i64 d] w fun e w' => e = .returned (.tuple #[.int .i64 0, .int .i64 2]) ∧ w = w' := by
  rcases h with h | ⟨h1, h2⟩ | ⟨h1, h2, h3⟩ | ⟨h1, h2, h3, h4⟩ | ⟨h1, h2, h3, h4, h5⟩ | ⟨h1, h2, h3, h4, h5, h6⟩
  · have gg : decide (y < 1970) = true := decide_eq_true (by omega)
    go_enter Tryz.func86, Tryz.ntmps86
    go_wp2_with fail
    go_ret2
    exact ⟨rfl, rfl⟩
  · have g1 : decide (y < 1970) = false := decide_eq_false (by omega); have gg : decide (9999 < y) = true := decide_eq_true (by omega)
    go_enter Tryz.func86, Tryz.ntmps86
    go_wp2_with fail
    go_ret2
    exact ⟨rfl, rfl⟩
  · have g1 : decide (y < 1970) = false := decide_eq_false (by omega); have g2 : decide (9999 < y) = false := decide_eq_false (by omega); have gg : decide (m < 1) = true := decide_eq_true (by omega)
    go_enter Tryz.func86, Tryz.ntmps86
    go_wp2_with fail
    go_ret2
    exact ⟨rfl, rfl⟩
  · have g1 : decide (y < 1970) = false := decide_eq_false (by omega); have g2 : decide (9999 < y) = false := decide_eq_false (by omega); have g3 : decide (m < 1) = false := decide_eq_false (by omega); have gg : decide (12 < m) = true := decide_eq_true (by omega)
    go_enter Tryz.func86, Tryz.ntmps86
    go_wp2_with fail
    go_ret2
    exact ⟨rfl, rfl⟩
  · have g1 : decide (y < 1970) = false := decide_eq_false (by omega); have g2 : decide (9999 < y) = false := decide_eq_false (by omega); have g3 : decide (m < 1) = false := decide_eq_false (by omega); have g4 : decide (12 < m) = false := decide_eq_false (by omega); have gg : decide (d < 1) = true := decide_eq_true (by omega)
    go_enter Tryz.func86, Tryz.ntmps86
    go_wp2_with fail
    go_ret2
    exact ⟨rfl, rfl⟩
  · have g1 : decide (y < 1970) = false := decide_eq_false (by omega); have g2 : decide (9999 < y) = false := decide_eq_false (by omega); have g3 : decide (m < 1) = false := decide_eq_false (by omega); have g4 : decide (12 < m) = false := decide_eq_false (by omega); have g5 : decide (d < 1) = false := decide_eq_false (by omega); have gg : decide (31 < d) = true := decide_eq_true (by omega)
    go_enter Tryz.func86, Tryz.ntmps86
    go_wp2_with fail
    go_ret2
    exact ⟨rfl, rfl⟩
set_option maxRecDepth 100000 in
theorem cv_days_ok (y m d : Int) (w : World) (h : Cv.Valid y m d) :
    Calls Tryz.prog 86 #[.int .i64 y, .int .i64 m, .int .i64 d] w fun e w' => e = .returned (.tuple #[.int .i64 (Cv.num y m d), .int .i64 0]) ∧ w = w' := by
  have hr := Cv.num_range h
  obtain ⟨f1, f2, f3⟩ := Cv.date_num h
  have hml := Cv.mlen_bd y m
  obtain ⟨h1, h2, h3, h4, h5, h6⟩ := h
  have h7 : d ≤ 31 := by omega
  have HC := Lib.hid (cv_count y m d w ⟨h1, h2⟩ ⟨h3, h4⟩ ⟨h5, h7⟩)
  have HD := Lib.hid (cv_date (Cv.num y m d) w hr.1 hr.2)
  rw [f1, f2, f3] at HD
  clear f1 f2 f3 hml h6
  generalize Cv.num y m d = n at *
  have g1 : decide (y < 1970) = false := decide_eq_false (by omega)
  have g2 : decide (9999 < y) = false := decide_eq_false (by omega)
  have g3 : decide (m < 1) = false := decide_eq_false (by omega)
  have g4 : decide (12 < m) = false := decide_eq_false (by omega)
  have g5 : decide (d < 1) = false := decide_eq_false (by omega)
  have g6 : decide (31 < d) = false := decide_eq_false (by omega)
  go_enter Tryz.func86, Tryz.ntmps86
  go_wp2_with fail
  refine HC.out.mono ?_
  rintro e w' ⟨rfl, rfl⟩
  go_wp2_with fail
  refine HD.out.mono ?_
  rintro e w' ⟨rfl, rfl⟩
  go_wp2_with fail
  go_ret2
  exact ⟨rfl, rfl⟩
set_option maxRecDepth 100000 in
theorem cv_days_bad (y m d : Int) (w : World) (h1 : 1970 ≤ y) (h2 : y ≤ 9999) (h3 : 1 ≤ m) (h4 : m ≤ 12) (h5 : 1 ≤ d) (h7 : d ≤ 31) (hb : ¬ d ≤ Cv.mlen y m) :
    Calls Tryz.prog 86 #[.int .i64 y, .int .i64 m, .int .i64 d] w fun e w' => e = .returned (.tuple #[.int .i64 0, .int .i64 2]) ∧ w = w' := by
  have hr := Cv.num_all ⟨h1, h2⟩ ⟨h3, h4⟩ ⟨h5, h7⟩
  have HC := Lib.hid (cv_count y m d w ⟨h1, h2⟩ ⟨h3, h4⟩ ⟨h5, h7⟩)
  have HD := Lib.hid (cv_date (Cv.num y m d) w hr.1 hr.2)
  have hv := (Cv.date_ok (Cv.num y m d) hr.1 hr.2).1
  have hne : ¬ (Cv.dY (Cv.num y m d) = y ∧ Cv.dM (Cv.num y m d) = m ∧ Cv.dD (Cv.num y m d) = d) := by
    rintro ⟨e1, e2, e3⟩
    rw [e1, e2, e3] at hv
    exact hb hv.2.2.2.2.2
  generalize Cv.dY (Cv.num y m d) = y' at *
  generalize Cv.dM (Cv.num y m d) = m' at *
  generalize Cv.dD (Cv.num y m d) = d' at *
  clear hb hv
  generalize Cv.num y m d = n at *
  have hb3 : (y' == y && (m' == m && d' == d)) = false := by
    rw [Bool.eq_false_iff]; intro hh
    rw [Bool.and_eq_true, Bool.and_eq_true, beq_iff_eq, beq_iff_eq, beq_iff_eq] at hh
    exact hne hh
  clear hne
  have g1 : decide (y < 1970) = false := decide_eq_false (by omega)
  have g2 : decide (9999 < y) = false := decide_eq_false (by omega)
  have g3 : decide (m < 1) = false := decide_eq_false (by omega)
  have g4 : decide (12 < m) = false := decide_eq_false (by omega)
  have g5 : decide (d < 1) = false := decide_eq_false (by omega)
  have g6 : decide (31 < d) = false := decide_eq_false (by omega)
  go_enter Tryz.func86, Tryz.ntmps86
  go_wp2_with fail
  refine HC.out.mono ?_
  rintro e w' ⟨rfl, rfl⟩
  go_wp2_with fail
  refine HD.out.mono ?_
  rintro e w' ⟨rfl, rfl⟩
  go_wp2_with fail
  all_goals (go_ret2; exact ⟨rfl, rfl⟩)
theorem cv_days_no (y m d : Int) (w : World) (h : ¬ Cv.Valid y m d) :
    Calls Tryz.prog 86 #[.int .i64 y, .int .i64 m, .int .i64 d] w fun e w' => e = .returned (.tuple #[.int .i64 0, .int .i64 2]) ∧ w = w' := by
  by_cases hin : 1970 ≤ y ∧ y ≤ 9999 ∧ 1 ≤ m ∧ m ≤ 12 ∧ 1 ≤ d ∧ d ≤ 31
  · obtain ⟨h1, h2, h3, h4, h5, h6⟩ := hin
    exact cv_days_bad y m d w h1 h2 h3 h4 h5 h6 (fun hh => h ⟨h1, h2, h3, h4, h5, hh⟩)
  · exact cv_days_out y m d w (by omega)
def civV (y m d h i s : Int) : Value := .agg #[.int .i64 y, .int .i64 m, .int .i64 d, .int .i64 h, .int .i64 i, .int .i64 s]
def tmV (t : Int) : Value := .agg #[.int .i64 (Cv.dY (t / 86400)), .int .i64 (Cv.dM (t / 86400)), .int .i64 (Cv.dD (t / 86400)), .int .i64 (t % 86400 / 3600), .int .i64 (t % 86400 % 3600 / 60), .int .i64 (t % 86400 % 60)]
theorem cv_of_no (t : Int) (w : World) (h : ¬ (0 ≤ t ∧ t ≤ 253402300799)) :
    Calls Tryz.prog 69 #[.int .i64 t] w fun e w' => e = .returned (.tuple #[.agg #[.int .i64 0, .int .i64 0, .int .i64 0, .int .i64 0, .int .i64 0, .int .i64 0], .int .i64 14]) ∧ Below w.heap.size w w' := by
  have HV := Lib.hid (fun W => cv_valid t W)
  rw [decide_eq_false h] at HV
  clear h
  go_enter Tryz.func69, Tryz.ntmps69
  go_wp2_with fail
  refine (HV.out _).mono ?_
  rintro e w' ⟨rfl, rfl⟩
  go_wp2_with fail
  exact bodyPost_ret (v := .tuple #[.agg #[.int .i64 0, .int .i64 0, .int .i64 0, .int .i64 0, .int .i64 0, .int .i64 0], .int .i64 14]) (by simp [results, Tryz.results69, go_sem]) rfl ⟨rfl, (Below.refl _ _).alloc (Nat.le_refl _) _⟩
theorem cv_of_ok (t : Int) (w : World) (h0 : 0 ≤ t) (h1 : t ≤ 253402300799) :
    Calls Tryz.prog 69 #[.int .i64 t] w fun e w' => e = .returned (.tuple #[tmV t, .int .i64 0]) ∧ Below w.heap.size w w' := by
  have HV := Lib.hid (fun W => cv_valid t W)
  rw [decide_eq_true ⟨h0, h1⟩] at HV
  have HD := Lib.hid (fun W => cv_date (t / 86400) W (by omega) (by omega))
  unfold tmV
  generalize Cv.dY (t / 86400) = y at *
  generalize Cv.dM (t / 86400) = m at *
  generalize Cv.dD (t / 86400) = d at *
  go_enter Tryz.func69, Tryz.ntmps69
  go_wp2_with fail
  refine (HV.out _).mono ?_
  rintro e w' ⟨rfl, rfl⟩
  go_wp2_with fail
  refine (HD.out _).mono ?_
  rintro e w' ⟨rfl, rfl⟩
  go_wp2_with fail
  exact bodyPost_ret (v := .tuple #[.agg #[.int .i64 y, .int .i64 m, .int .i64 d, .int .i64 (t % 86400 / 3600), .int .i64 (t % 86400 % 3600 / 60), .int .i64 (t % 86400 % 60)], .int .i64 0]) (by simp [results, Tryz.results69, go_sem]) rfl ⟨rfl, (Below.refl _ _).alloc (Nat.le_refl _) _⟩
/-- A number of seconds over a time's fields that are no time of day. -/
theorem cv_time_ok (y m d h i s : Int) (w : World) (H : Lx.TmOk y m d h i s) :
    Calls Tryz.prog 72 #[civV y m d h i s] w fun e w' => e = .returned (.tuple #[.int .i64 (Lx.tmOf y m d h i s), .int .i64 0]) ∧ Below w.heap.size w w' := by
  have hb := Lx.tm_bd H
  obtain ⟨f1, f2, f3, f4⟩ := Lx.tm_fields H
  obtain ⟨g1, g2, g3⟩ := Cv.date_num H.1
  have hr := Cv.num_range H.1
  have HD := Lib.hid (fun W => cv_days_ok y m d W H.1)
  have HO := Lib.hid (fun W => cv_of_ok (Lx.tmOf y m d h i s) W hb.1 hb.2)
  unfold tmV at HO
  rw [f1, f2, f3, f4, g1, g2, g3] at HO
  obtain ⟨_, h0, h1, i0, i1, s0, s1⟩ := H
  unfold Lx.tmOf at HO ⊢
  clear f1 f2 f3 f4 g1 g2 g3
  rw [show 86400 * Cv.num y m d + (3600 * h + 60 * i + s) = Cv.num y m d * 86400 + (h * 3600 + i * 60 + s) by omega] at HO ⊢
  clear hb
  generalize Cv.num y m d = n at *
  unfold civV
  go_enter Tryz.func72, Tryz.ntmps72
  go_wp2_with fail
  refine (HD.out _).mono ?_
  rintro e w' ⟨rfl, rfl⟩
  obtain ⟨W, hW⟩ : ∃ W, W = w.alloc (.cells #[.int .i64 y, .int .i64 m, .int .i64 d, .int .i64 h, .int .i64 i, .int .i64 s] 88) := ⟨_, rfl⟩
  go_upto_region 2 with (fail)
  go_cut [40] (fun sx wx => sx = .bool false ∧ wx = W)
  case first =>
    go_wp2_with fail
    all_goals
      go_meet
      exact ⟨by first | rfl | exact Lx.v_bool (decide_eq_false (by omega)), hW.symm⟩
  obtain ⟨rfl, rfl⟩ := hcut
  subst hW
  go_wp2_with fail
  refine (HO.out _).mono ?_
  rintro e w' ⟨rfl, hb1⟩
  have hlt := Lx.boxLt hb1
  have c0 := Lx.boxCell hb1 0 _ rfl
  have c1 := Lx.boxCell hb1 1 _ rfl
  have c2 := Lx.boxCell hb1 2 _ rfl
  have c3 := Lx.boxCell hb1 3 _ rfl
  have c4 := Lx.boxCell hb1 4 _ rfl
  have c5 := Lx.boxCell hb1 5 _ rfl
  have hb2 := Lx.boxBelow hb1
  clear hb1
  go_wp2_with fail
  go_ret2
  exact ⟨rfl, hb2.alloc hb2.size _⟩
theorem cv_time_nodate (y m d h i s : Int) (w : World) (H : ¬ Cv.Valid y m d) :
    Calls Tryz.prog 72 #[civV y m d h i s] w fun e w' => e = .returned (.tuple #[.int .i64 0, .int .i64 2]) ∧ Below w.heap.size w w' := by
  have HD := Lib.hid (fun W => cv_days_no y m d W H)
  clear H
  unfold civV
  go_enter Tryz.func72, Tryz.ntmps72
  go_wp2_with fail
  refine (HD.out _).mono ?_
  rintro e w' ⟨rfl, rfl⟩
  go_wp2_with fail
  go_ret2
  exact ⟨rfl, (Below.refl _ w).alloc (Nat.le_refl _) _⟩
theorem cv_time_much (y m d h i s : Int) (w : World) (H : Cv.Valid y m d) (h0 : 0 ≤ h) (i0 : 0 ≤ i) (s0 : 0 ≤ s) (hm : 59 < h ∨ 59 < i ∨ 59 < s) :
    Calls Tryz.prog 72 #[civV y m d h i s] w fun e w' => e = .returned (.tuple #[.int .i64 0, .int .i64 2]) ∧ Below w.heap.size w w' := by
  have HD := Lib.hid (fun W => cv_days_ok y m d W H)
  clear H
  generalize Cv.num y m d = n at *
  unfold civV
  have Hm := Lib.hid hm
  clear hm
  go_enter Tryz.func72, Tryz.ntmps72
  go_wp2_with fail
  refine (HD.out _).mono ?_
  rintro e w' ⟨rfl, rfl⟩
  obtain ⟨W, hW⟩ : ∃ W, W = w.alloc (.cells #[.int .i64 y, .int .i64 m, .int .i64 d, .int .i64 h, .int .i64 i, .int .i64 s] 88) := ⟨_, rfl⟩
  go_upto_region 2 with (fail)
  go_cut [40] (fun sx wx => sx = .bool true ∧ wx = W)
  case first =>
    go_wp2_with fail
    all_goals
      have hm := Hm.out
      first
        | (exfalso; omega)
        | (go_meet
           exact ⟨by first | rfl | exact Lx.v_bool (decide_eq_true (by omega)), hW.symm⟩)
  obtain ⟨rfl, rfl⟩ := hcut
  subst hW
  go_wp2_with fail
  go_ret2
  exact ⟨rfl, (Below.refl _ w).alloc (Nat.le_refl _) _⟩
theorem cv_time_late (y m d h i s : Int) (w : World) (H : Cv.Valid y m d) (h0 : 24 ≤ h) (h1 : h ≤ 59) (i0 : 0 ≤ i) (i1 : i ≤ 59) (s0 : 0 ≤ s) (s1 : s ≤ 59) :
    Calls Tryz.prog 72 #[civV y m d h i s] w fun e w' => e = .returned (.tuple #[.int .i64 0, .int .i64 2]) ∧ Below w.heap.size w w' := by
  have hr := Cv.num_range H
  have HD := Lib.hid (fun W => cv_days_ok y m d W H)
  clear H
  generalize Cv.num y m d = n at *
  have HO : Hid (∀ W, ∃ (a b c e f g x : Int), Calls Tryz.prog 69 #[.int .i64 (n * 86400 + (h * 3600 + i * 60 + s))] W (fun e' w' => e' = .returned (.tuple #[.agg #[.int .i64 a, .int .i64 b, .int .i64 c, .int .i64 e, .int .i64 f, .int .i64 g], .int .i64 x]) ∧ Below W.heap.size W w') ∧ ((x != 0) = true ∨ (x = 0 ∧ e ≤ 23))) := Lib.hid (by
    intro W
    by_cases hb : n * 86400 + (h * 3600 + i * 60 + s) ≤ 253402300799
    · refine ⟨_, _, _, _, _, _, _, cv_of_ok _ W (by omega) hb, .inr ⟨rfl, by omega⟩⟩
    · refine ⟨_, _, _, _, _, _, _, cv_of_no _ W (by omega), .inl rfl⟩)
  unfold civV
  go_enter Tryz.func72, Tryz.ntmps72
  go_wp2_with fail
  refine (HD.out _).mono ?_
  rintro e w' ⟨rfl, rfl⟩
  obtain ⟨W, hW⟩ : ∃ W, W = w.alloc (.cells #[.int .i64 y, .int .i64 m, .int .i64 d, .int .i64 h, .int .i64 i, .int .i64 s] 88) := ⟨_, rfl⟩
  go_upto_region 2 with (fail)
  go_cut [40] (fun sx wx => sx = .bool false ∧ wx = W)
  case first =>
    go_wp2_with fail
    all_goals
      first
        | (exfalso; omega)
        | (go_meet
           exact ⟨by first | rfl | exact Lx.v_bool (decide_eq_false (by omega)), hW.symm⟩)
  obtain ⟨rfl, rfl⟩ := hcut
  subst hW
  go_wp2_with fail
  obtain ⟨a, b, c, e1, f, g, x, hcall, hx⟩ := HO.out (w.alloc (.cells #[.int .i64 y, .int .i64 m, .int .i64 d, .int .i64 h, .int .i64 i, .int .i64 s] 88))
  refine hcall.mono ?_
  rintro e w' ⟨rfl, hb1⟩
  have hlt := Lx.boxLt hb1
  have c0 := Lx.boxCell hb1 0 _ rfl
  have c1 := Lx.boxCell hb1 1 _ rfl
  have c2 := Lx.boxCell hb1 2 _ rfl
  have c3 := Lx.boxCell hb1 3 _ rfl
  have c4 := Lx.boxCell hb1 4 _ rfl
  have c5 := Lx.boxCell hb1 5 _ rfl
  have hb2 := Lx.boxBelow hb1
  clear hb1 hcall
  rcases hx with hx | ⟨rfl, hx⟩
  · go_wp2_with fail
    go_ret2
    exact ⟨rfl, hb2.alloc hb2.size _⟩
  · have hne : (a == y && (b == m && (c == d && (e1 == h && (f == i && g == s))))) = false := by
      have : (e1 == h) = false := by rw [beq_eq_false_iff_ne]; omega
      rw [this]; simp
    go_wp2_with fail
    go_ret2
    exact ⟨rfl, hb2.alloc hb2.size _⟩
theorem cv_time_no (y m d h i s : Int) (w : World) (H : ¬ Lx.TmOk y m d h i s) (h0 : 0 ≤ h) (i0 : 0 ≤ i) (s0 : 0 ≤ s) :
    Calls Tryz.prog 72 #[civV y m d h i s] w fun e w' => e = .returned (.tuple #[.int .i64 0, .int .i64 2]) ∧ Below w.heap.size w w' := by
  by_cases hv : Cv.Valid y m d
  · by_cases hm : 59 < h ∨ 59 < i ∨ 59 < s
    · exact cv_time_much y m d h i s w hv h0 i0 s0 hm
    · have : 24 ≤ h := by
        rcases Int.lt_or_le h 24 with l | l
        · exact absurd ⟨hv, by omega, by omega, by omega, by omega, by omega, by omega⟩ H
        · exact l
      exact cv_time_late y m d h i s w hv this (by omega) i0 (by omega) s0 (by omega)
  · exact cv_time_nodate y m d h i s w hv
end Go.Proofs.YtnnkamfpcodnnaaGreatDoor
