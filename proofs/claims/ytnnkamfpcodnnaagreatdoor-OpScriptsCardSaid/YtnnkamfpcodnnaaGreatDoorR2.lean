/- The walks of the calendar's reference: it reckons as Cv says. The walks of the calendar's reference, days and dates: it reckons as Cv says. The walks of the calendar's reference, times and texts: it reckons as Cv and writes as tmText say. The walks of the calendar's reference, texts: it writes as tmText says and reads as TimeIs says. The walks of the calendar's reference, texts read. -/
import Derived.Test.YtnnkamfpcodnnaaGreatDoorCv2
import Derived.Test.YtnnkamfpcodnnaaGreatDoorCv3
import Derived.Test.YtnnkamfpcodnnaaGreatDoorCv4
namespace Go.Proofs.YtnnkamfpcodnnaaGreatDoor
open Go.RowKit

set_option maxRecDepth 100000 in
theorem r2_leap (y : Int) (w : World) (h0 : 0 ≤ y) :
    Calls Tryz.prog 90 #[.int .i64 y] w fun e w' => e = .returned (.bool (decide (Cv.lp y = 1))) ∧ w = w' := by
  have key : decide (Cv.lp y = 1) = ((y % 4 == 0 && !(y % 100 == 0)) || (y % 400 == 0)) := by
    rw [Bool.eq_iff_iff]
    unfold Cv.lp
    by_cases hh : (y % 4 = 0 ∧ y % 100 ≠ 0) ∨ y % 400 = 0
    · rw [if_pos hh]; simp; omega
    · rw [if_neg hh]; simp; omega
  by_cases a : y % 4 = 0
  · have a1 : (y % 4 == 0) = true := by rw [beq_iff_eq]; exact a
    by_cases b : y % 100 = 0
    · have b1 : (y % 100 == 0) = true := by rw [beq_iff_eq]; exact b
      have b2 : (y % 100 != 0) = false := by rw [bne_eq_false_iff_eq]; exact b
      by_cases c : y % 400 = 0
      · have c1 : (y % 400 == 0) = true := by rw [beq_iff_eq]; exact c
        rw [a1, b1, c1] at key
        have K := Lib.hid key
        clear key a b c
        go_enter Tryz.func90, Tryz.ntmps90
        go_wp2
        go_ret
        exact ⟨Lx.ret_bool (by rw [K.out]; rfl), rfl⟩
      · have c1 : (y % 400 == 0) = false := by rw [beq_eq_false_iff_ne]; exact c
        rw [a1, b1, c1] at key
        have K := Lib.hid key
        clear key a b c
        go_enter Tryz.func90, Tryz.ntmps90
        go_wp2
        go_ret
        exact ⟨Lx.ret_bool (by rw [K.out]; rfl), rfl⟩
    · have b1 : (y % 100 == 0) = false := by rw [beq_eq_false_iff_ne]; exact b
      have b2 : (y % 100 != 0) = true := by rw [bne_iff_ne]; exact b
      rw [a1, b1] at key
      have K := Lib.hid key
      clear key a b
      go_enter Tryz.func90, Tryz.ntmps90
      go_wp2
      go_ret
      exact ⟨Lx.ret_bool (by rw [K.out]; rfl), rfl⟩
  · have a1 : (y % 4 == 0) = false := by rw [beq_eq_false_iff_ne]; exact a
    have c1 : (y % 400 == 0) = false := by rw [beq_eq_false_iff_ne]; omega
    rw [a1, c1] at key
    have K := Lib.hid key
    clear key a
    go_enter Tryz.func90, Tryz.ntmps90
    go_wp2
    go_ret
    exact ⟨Lx.ret_bool (by rw [K.out]; rfl), rfl⟩
set_option maxRecDepth 100000 in
theorem r2_length_no (y m : Int) (w : World) (h : y < 1970 ∨ (1970 ≤ y ∧ 9999 < y) ∨ (1970 ≤ y ∧ y ≤ 9999 ∧ m < 1) ∨ (1970 ≤ y ∧ y ≤ 9999 ∧ 1 ≤ m ∧ 12 < m)) :
    Calls Tryz.prog 79 #[.int .i64 y, .int .i64 m] w fun e w' => e = .returned (.tuple #[.int .i64 0, .int .i64 2]) ∧ Below w.heap.size w w' := by
  rcases h with h | ⟨h1, h⟩ | ⟨h1, h2, h⟩ | ⟨h1, h2, h3, h⟩
  · have g0 : decide (y < 1970) = true := decide_eq_true (by omega)
    go_enter Tryz.func79, Tryz.ntmps79
    go_wp2_with fail
    go_ret2
    exact ⟨rfl, Below.refl _ _⟩
  · have g0 : decide (y < 1970) = false := decide_eq_false (by omega); have g1 : decide (9999 < y) = true := decide_eq_true (by omega)
    go_enter Tryz.func79, Tryz.ntmps79
    go_wp2_with fail
    go_ret2
    exact ⟨rfl, Below.refl _ _⟩
  · have g0 : decide (y < 1970) = false := decide_eq_false (by omega); have g1 : decide (9999 < y) = false := decide_eq_false (by omega); have g2 : decide (m < 1) = true := decide_eq_true (by omega)
    go_enter Tryz.func79, Tryz.ntmps79
    go_wp2_with fail
    go_ret2
    exact ⟨rfl, Below.refl _ _⟩
  · have g0 : decide (y < 1970) = false := decide_eq_false (by omega); have g1 : decide (9999 < y) = false := decide_eq_false (by omega); have g2 : decide (m < 1) = false := decide_eq_false (by omega); have g3 : decide (12 < m) = true := decide_eq_true (by omega)
    go_enter Tryz.func79, Tryz.ntmps79
    go_wp2_with fail
    go_ret2
    exact ⟨rfl, Below.refl _ _⟩
set_option maxRecDepth 100000 in
theorem r2_length_feb (y : Int) (w : World) (hy : 1970 ≤ y ∧ y ≤ 9999) :
    Calls Tryz.prog 79 #[.int .i64 y, .int .i64 2] w fun e w' => e = .returned (.tuple #[.int .i64 (Cv.mlen y 2), .int .i64 0]) ∧ Below w.heap.size w w' := by
  obtain ⟨y0, y1⟩ := hy
  have HL := Lib.hid (fun W => r2_leap y W (by omega))
  have hm : Cv.mlen y 2 = 28 + Cv.lp y := rfl
  have h01 := Cv.lp_01 y
  have g0 : decide (y < 1970) = false := decide_eq_false (by omega)
  have g1 : decide (9999 < y) = false := decide_eq_false (by omega)
  by_cases hl : Cv.lp y = 1
  · rw [decide_eq_true hl] at HL
    rw [hm, hl]
    clear hm h01 hl
    go_enter Tryz.func79, Tryz.ntmps79
    go_wp2_with fail
    refine (HL.out _).mono ?_
    rintro e w' ⟨rfl, rfl⟩
    go_wp2_with fail
    go_ret2
    exact ⟨rfl, Below.refl _ _⟩
  · rw [decide_eq_false hl] at HL
    rw [hm, show Cv.lp y = 0 by omega]
    clear hm h01 hl
    go_enter Tryz.func79, Tryz.ntmps79
    go_wp2_with fail
    refine (HL.out _).mono ?_
    rintro e w' ⟨rfl, rfl⟩
    go_wp2_with fail
    go_ret2
    exact ⟨rfl, (Below.refl _ _).alloc (Nat.le_refl _) _⟩
set_option maxRecDepth 100000 in
set_option maxHeartbeats 3200000 in
theorem r2_length (y m : Int) (w : World) (hy : 1970 ≤ y ∧ y ≤ 9999) (hm : 1 ≤ m ∧ m ≤ 12) :
    Calls Tryz.prog 79 #[.int .i64 y, .int .i64 m] w fun e w' => e = .returned (.tuple #[.int .i64 (Cv.mlen y m), .int .i64 0]) ∧ Below w.heap.size w w' := by
  by_cases h2 : m = 2
  · subst h2; exact r2_length_feb y w hy
  · have ne : (m == 2) = false := by rw [beq_eq_false_iff_ne]; exact h2
    obtain ⟨y0, y1⟩ := hy
    have g0 : decide (y < 1970) = false := decide_eq_false (by omega)
    have g1 : decide (9999 < y) = false := decide_eq_false (by omega)
    rcases Cv.m12 hm.1 hm.2 with rfl | rfl | rfl | rfl | rfl | rfl | rfl | rfl | rfl | rfl | rfl | rfl
    rotate_left
    · exact absurd rfl h2
    all_goals
      clear h2 ne hm
      go_enter Tryz.func79, Tryz.ntmps79
      go_wp2_with fail
      go_ret2
      exact ⟨rfl, (Below.refl _ _).alloc (Nat.le_refl _) _⟩
theorem r2_leaps (y : Int) (w : World) (h0 : 0 ≤ y) (h1 : y ≤ 10000) :
    Calls Tryz.prog 89 #[.int .i64 y] w fun e w' => e = .returned (.int .i64 (y / 4 - y / 100 + y / 400)) ∧ w = w' := by
  go_enter Tryz.func89, Tryz.ntmps89
  go_wp2_with fail
  go_ret
  exact ⟨rfl, rfl⟩
set_option maxRecDepth 100000 in
theorem r2_before (y : Int) (w : World) (h0 : 1970 ≤ y) (h1 : y ≤ 10000) :
    Calls Tryz.prog 78 #[.int .i64 y] w fun e w' => e = .returned (.int .i64 (Cv.before y)) ∧ w = w' := by
  have H1 := Lib.hid (r2_leaps (y - 1) w (by omega) (by omega))
  have H2 := Lib.hid (r2_leaps 1969 w (by omega) (by omega))
  go_enter Tryz.func78, Tryz.ntmps78
  go_wp2_with fail
  refine H1.out.mono ?_
  rintro e w' ⟨rfl, rfl⟩
  go_wp2_with fail
  refine H2.out.mono ?_
  rintro e w' ⟨rfl, rfl⟩
  go_wp2_with fail
  go_ret
  exact ⟨rfl, rfl⟩
end Go.Proofs.YtnnkamfpcodnnaaGreatDoor
namespace Go.Proofs.YtnnkamfpcodnnaaGreatDoor
open Go.RowKit

namespace Cv
theorem before_guess (n : Int) (h0 : 0 ≤ n) (h1 : n ≤ 2932896) : before (1970 + n / 366) ≤ n := by unfold before; omega
theorem before_top (y n : Int) (h : before (y + 1) ≤ n) (h1 : n ≤ 2932896) : y + 1 ≤ 9999 := by
  by_cases e : y + 1 ≤ 9999
  · exact e
  · have := before_mono 10000 (y + 1) (by omega)
    have := before_ends.2
    omega
theorem before_low (y : Int) (h0 : 1970 ≤ y) (h1 : y ≤ 10000) : 0 ≤ before y ∧ before y ≤ 2932897 := by
  have a := before_mono 1970 y h0
  have b := before_mono y 10000 h1
  have := before_ends
  omega
end Cv
set_option maxRecDepth 100000 in
theorem r2_days_ok (y m d : Int) (w : World) (h : Cv.Valid y m d) :
    Calls Tryz.prog 77 #[.int .i64 y, .int .i64 m, .int .i64 d] w fun e w' => e = .returned (.tuple #[.int .i64 (Cv.num y m d), .int .i64 0]) ∧ Below w.heap.size w w' := by
  have hml := Cv.mlen_bd y m
  obtain ⟨h1, h2, h3, h4, h5, h6⟩ := h
  have HL := Lib.hid (fun M W (a : 1 ≤ M) (b : M ≤ 12) => r2_length y M W ⟨h1, h2⟩ ⟨a, b⟩)
  have HB := Lib.hid (fun W => r2_before y W h1 (by omega))
  have hbl := Cv.before_low y h1 (by omega)
  go_enter Tryz.func77, Tryz.ntmps77
  go_wp2_with fail
  refine (HL.out m _ h3 h4).mono ?_
  rintro e w1 ⟨rfl, b1⟩
  have g2 : decide (d < 1) = false := decide_eq_false (by omega)
  have g3 : decide (Cv.mlen y m < d) = false := decide_eq_false (by omega)
  go_wp2_with fail
  refine (HB.out _).mono ?_
  rintro e w2 ⟨rfl, rfl⟩
  go_wp2_with fail
  go_loopw [10, 11] (fun o i wr => ∃ M : Int, 1 ≤ M ∧ M ≤ m ∧ i = .int .i64 M ∧ o = .int .i64 (Cv.before y + Cv.cum y M) ∧ Below w.heap.size w wr) (fun _ i _ => (m - intOf i).toNat)
  case atStart => exact ⟨1, by omega, h3, rfl, by rw [show Cv.cum y 1 = 0 from rfl, Int.add_zero], b1⟩
  case round =>
    obtain ⟨M, hM1, hM2, rfl, rfl, hb⟩ := hrel
    have hcb := Cv.cum_bd y M hM1 (by omega)
    by_cases hlt : M < m
    · have hcs := Cv.cum_succ y M hM1 (by omega)
      have hmb := Cv.mlen_bd y M
      have HCS := Lib.hid hcs
      clear hcs g2 g3
      go_wp2_with fail
      refine (HL.out M _ hM1 (by omega)).mono ?_
      rintro e w2 ⟨rfl, b2⟩
      go_wp2_with fail
      go_roundw
      case rel => exact ⟨M + 1, by omega, by omega, rfl, by rw [HCS.out, Int.add_assoc], hb.trans (b2.mono hb.size)⟩
      case measure => simp [intOf]; omega
    · obtain rfl : M = m := by omega
      clear g2 g3
      go_wp2_with fail
      go_ret2
      exact ⟨rfl, hb⟩
set_option maxRecDepth 100000 in
theorem r2_days_no (y m d : Int) (w : World) (h : ¬ Cv.Valid y m d) :
    Calls Tryz.prog 77 #[.int .i64 y, .int .i64 m, .int .i64 d] w fun e w' => e = .returned (.tuple #[.int .i64 0, .int .i64 2]) ∧ Below w.heap.size w w' := by
  by_cases hin : 1970 ≤ y ∧ y ≤ 9999 ∧ 1 ≤ m ∧ m ≤ 12
  · obtain ⟨h1, h2, h3, h4⟩ := hin
    have hml := Cv.mlen_bd y m
    have HL := Lib.hid (fun M W (a : 1 ≤ M) (b : M ≤ 12) => r2_length y M W ⟨h1, h2⟩ ⟨a, b⟩)
    have hd : d < 1 ∨ Cv.mlen y m < d := by
      by_cases a : d < 1
      · exact .inl a
      · by_cases b : Cv.mlen y m < d
        · exact .inr b
        · exact absurd ⟨h1, h2, h3, h4, by omega, by omega⟩ h
    clear h
    rcases hd with hd | hd
    · have g2 : decide (d < 1) = true := decide_eq_true (by omega)
      go_enter Tryz.func77, Tryz.ntmps77
      go_wp2_with fail
      refine (HL.out m _ h3 h4).mono ?_
      rintro e w1 ⟨rfl, b1⟩
      go_wp2_with fail
      go_ret2
      exact ⟨rfl, b1⟩
    · have g2 : decide (d < 1) = false := decide_eq_false (by omega)
      have g3 : decide (Cv.mlen y m < d) = true := decide_eq_true (by omega)
      go_enter Tryz.func77, Tryz.ntmps77
      go_wp2_with fail
      refine (HL.out m _ h3 h4).mono ?_
      rintro e w1 ⟨rfl, b1⟩
      go_wp2_with fail
      go_ret2
      exact ⟨rfl, b1⟩
  · have HL := Lib.hid (r2_length_no y m w (by omega))
    clear h hin
    go_enter Tryz.func77, Tryz.ntmps77
    go_wp2_with fail
    refine HL.out.mono ?_
    rintro e w1 ⟨rfl, b1⟩
    go_wp2_with fail
    go_ret2
    exact ⟨rfl, b1⟩
set_option maxRecDepth 100000 in
theorem r2_date (n : Int) (w : World) (h0 : 0 ≤ n) (h1 : n ≤ 2932896) :
    Calls Tryz.prog 66 #[.int .i64 n] w fun e w' => e = .returned (.tuple #[.int .i64 (Cv.dY n), .int .i64 (Cv.dM n), .int .i64 (Cv.dD n), .int .i64 0]) ∧ Below w.heap.size w w' := by
  have g1 : decide (n < 0) = false := decide_eq_false (by omega)
  have g2 : decide (2932896 < n) = false := decide_eq_false (by omega)
  have hg := Lib.hid (Cv.before_guess n h0 h1)
  go_enter Tryz.func66, Tryz.ntmps66
  go_wp2_with fail
  clear g1 g2
  go_loopw [6] (fun i wr => ∃ y : Int, 1970 ≤ y ∧ y ≤ 9999 ∧ Cv.before y ≤ n ∧ i = .int .i64 y ∧ wr = w) (fun i _ => (10000 - intOf i).toNat)
  case atStart => exact ⟨_, by omega, by omega, hg.out, rfl, rfl⟩
  case round =>
    obtain ⟨y, hy1, hy2, hyb, rfl, rfl⟩ := hrel
    have HB := Lib.hid (fun W => r2_before (y + 1) W (by omega) (by omega))
    have HB0 := Lib.hid (fun W => r2_before y W (by omega) (by omega))
    have hbl := Cv.before_low y hy1 (by omega)
    by_cases hle : Cv.before (y + 1) ≤ n
    · have htop := Cv.before_top y n hle h1
      go_wp2_with fail
      refine (HB.out _).mono ?_
      rintro e w2 ⟨rfl, rfl⟩
      go_wp2_with fail
      go_roundw
      case rel => exact ⟨y + 1, by omega, by omega, hle, by simp⟩
      case measure => simp [intOf]; omega
    · have hlt : n < Cv.before (y + 1) := by omega
      have hsuc := Cv.before_succ y
      have hlp := Cv.lp_01 y
      have hc13 := Cv.cum13 y
      have HS := Lib.hid hsuc
      have HC := Lib.hid hc13
      have HL := Lib.hid (fun M W (a : 1 ≤ M) (b : M ≤ 12) => r2_length y M W ⟨hy1, hy2⟩ ⟨a, b⟩)
      clear hle hsuc hc13
      go_wp2_with fail
      refine (HB.out _).mono ?_
      rintro e w2 ⟨rfl, rfl⟩
      go_wp2_with fail
      refine (HB0.out _).mono ?_
      rintro e w3 ⟨rfl, rfl⟩
      go_wp2_with fail
      obtain ⟨W0, rfl⟩ : ∃ W : World, W = wr := ⟨_, rfl⟩
      go_loopw [7, 8] (fun l i wr => ∃ M : Int, 1 ≤ M ∧ M ≤ 12 ∧ i = .int .i64 M ∧ 0 ≤ n - Cv.before y - Cv.cum y M ∧ l = .int .i64 (n - Cv.before y - Cv.cum y M) ∧ Below W0.heap.size W0 wr) (fun _ i _ => (13 - intOf i).toNat)
      case atStart => exact ⟨1, by omega, by omega, rfl, by rw [show Cv.cum y 1 = 0 from rfl]; omega, by rw [show Cv.cum y 1 = 0 from rfl, Int.sub_zero], Below.refl _ _⟩
      case round =>
        obtain ⟨M, hM1, hM2, rfl, hl0, rfl, hb⟩ := hrel
        have hcs := Cv.cum_succ y M hM1 (by omega)
        have hcb := Cv.cum_bd y M hM1 (by omega)
        have hmb := Cv.mlen_bd y M
        have HCS := Lib.hid hcs
        clear hcs
        by_cases hin : n - Cv.before y - Cv.cum y M < Cv.mlen y M
        · have hv : Cv.Valid y M (n - Cv.before y - Cv.cum y M + 1) := ⟨hy1, hy2, hM1, hM2, by omega, by omega⟩
          have hn : Cv.num y M (n - Cv.before y - Cv.cum y M + 1) = n := by unfold Cv.num; omega
          obtain ⟨e1, e2, e3⟩ := Cv.date_num hv
          rw [hn] at e1 e2 e3
          have E1 := Lib.hid e1
          have E2 := Lib.hid e2
          have E3 := Lib.hid e3
          clear e1 e2 e3 hn hv
          go_wp2_with fail
          refine (HL.out M _ hM1 hM2).mono ?_
          rintro e w4 ⟨rfl, b4⟩
          go_wp2_with fail
          exact bodyPost_ret (v := .tuple #[.int .i64 (Cv.dY n), .int .i64 (Cv.dM n), .int .i64 (Cv.dD n), .int .i64 0]) (by simp [results, Tryz.results66, go_sem]; exact ⟨E1.out.symm, E2.out.symm, E3.out.symm⟩) rfl ⟨rfl, hb.trans (b4.mono hb.size)⟩
        · have h12 : M < 12 := by
            by_cases e : M = 12
            · subst e
              have q1 := HCS.out
              have q2 : Cv.cum y (12 + 1) = Cv.cum y 13 := rfl
              have q3 := HC.out
              have q4 := HS.out
              omega
            · omega
          go_wp2_with fail
          refine (HL.out M _ hM1 hM2).mono ?_
          rintro e w4 ⟨rfl, b4⟩
          go_wp2_with fail
          go_roundw
          case rel => exact ⟨M + 1, by omega, by omega, rfl, by rw [HCS.out]; omega, by rw [HCS.out]; exact Lx.v_int (by omega), hb.trans (b4.mono hb.size)⟩
          case measure => simp [intOf]; omega
end Go.Proofs.YtnnkamfpcodnnaaGreatDoor
namespace Go.Proofs.YtnnkamfpcodnnaaGreatDoor
open Go.RowKit

set_option maxRecDepth 100000 in
theorem r2_time_ok (y m d h i s : Int) (w : World) (H : Lx.TmOk y m d h i s) :
    Calls Tryz.prog 64 #[civV y m d h i s] w fun e w' => e = .returned (.tuple #[.int .i64 (Lx.tmOf y m d h i s), .int .i64 0]) ∧ Below w.heap.size w w' := by
  have hr := Cv.num_range H.1
  have HD := Lib.hid (fun W => r2_days_ok y m d W H.1)
  obtain ⟨_, h0, h1, i0, i1, s0, s1⟩ := H
  unfold Lx.tmOf civV
  generalize Cv.num y m d = n at *
  have g1 : decide (h < 0) = false := decide_eq_false (by omega)
  have g2 : decide (23 < h) = false := decide_eq_false (by omega)
  have g3 : decide (i < 0) = false := decide_eq_false (by omega)
  have g4 : decide (59 < i) = false := decide_eq_false (by omega)
  have g5 : decide (s < 0) = false := decide_eq_false (by omega)
  have g6 : decide (59 < s) = false := decide_eq_false (by omega)
  go_enter Tryz.func64, Tryz.ntmps64
  go_wp2_with fail
  refine (HD.out _).mono ?_
  rintro e w1 ⟨rfl, hb1⟩
  have c0 := Lx.boxCell hb1 0 _ rfl
  have c1 := Lx.boxCell hb1 1 _ rfl
  have c2 := Lx.boxCell hb1 2 _ rfl
  have c3 := Lx.boxCell hb1 3 _ rfl
  have c4 := Lx.boxCell hb1 4 _ rfl
  have c5 := Lx.boxCell hb1 5 _ rfl
  have hb2 := Lx.boxBelow hb1
  have HB2 := Lib.hid hb2
  clear hb1 hb2
  go_wp2_with fail
  go_ret2
  exact ⟨rfl, HB2.out⟩
set_option maxRecDepth 100000 in
theorem r2_time_no (y m d h i s : Int) (w : World) (H : ¬ Lx.TmOk y m d h i s) :
    Calls Tryz.prog 64 #[civV y m d h i s] w fun e w' => e = .returned (.tuple #[.int .i64 0, .int .i64 2]) ∧ Below w.heap.size w w' := by
  by_cases hv : Cv.Valid y m d
  · have HD := Lib.hid (fun W => r2_days_ok y m d W hv)
    have hr := Cv.num_range hv
    have hx : h < 0 ∨ (0 ≤ h ∧ 23 < h) ∨ (0 ≤ h ∧ h ≤ 23 ∧ i < 0) ∨ (0 ≤ h ∧ h ≤ 23 ∧ 0 ≤ i ∧ 59 < i) ∨ (0 ≤ h ∧ h ≤ 23 ∧ 0 ≤ i ∧ i ≤ 59 ∧ s < 0) ∨ (0 ≤ h ∧ h ≤ 23 ∧ 0 ≤ i ∧ i ≤ 59 ∧ 0 ≤ s ∧ 59 < s) := by
      have : ¬ (0 ≤ h ∧ h ≤ 23 ∧ 0 ≤ i ∧ i ≤ 59 ∧ 0 ≤ s ∧ s ≤ 59) := fun a => H ⟨hv, a⟩
      omega
    clear H hv
    unfold civV
    generalize Cv.num y m d = n at *
    rcases hx with a | ⟨a1, a⟩ | ⟨a1, a2, a⟩ | ⟨a1, a2, a3, a⟩ | ⟨a1, a2, a3, a4, a⟩ | ⟨a1, a2, a3, a4, a5, a⟩
    · have g0 : decide (h < 0) = true := decide_eq_true (by omega)
      go_enter Tryz.func64, Tryz.ntmps64
      go_wp2_with fail
      refine (HD.out _).mono ?_
      rintro e w1 ⟨rfl, hb1⟩
      have c3 := Lx.boxCell hb1 3 _ rfl
      have c4 := Lx.boxCell hb1 4 _ rfl
      have c5 := Lx.boxCell hb1 5 _ rfl
      have hb2 := Lx.boxBelow hb1
      have HB2 := Lib.hid hb2
      clear hb1 hb2
      go_wp2_with fail
      go_ret2
      exact ⟨rfl, HB2.out⟩
    · have g0 : decide (h < 0) = false := decide_eq_false (by omega); have g1 : decide (23 < h) = true := decide_eq_true (by omega)
      go_enter Tryz.func64, Tryz.ntmps64
      go_wp2_with fail
      refine (HD.out _).mono ?_
      rintro e w1 ⟨rfl, hb1⟩
      have c3 := Lx.boxCell hb1 3 _ rfl
      have c4 := Lx.boxCell hb1 4 _ rfl
      have c5 := Lx.boxCell hb1 5 _ rfl
      have hb2 := Lx.boxBelow hb1
      have HB2 := Lib.hid hb2
      clear hb1 hb2
      go_wp2_with fail
      go_ret2
      exact ⟨rfl, HB2.out⟩
    · have g0 : decide (h < 0) = false := decide_eq_false (by omega); have g1 : decide (23 < h) = false := decide_eq_false (by omega); have g2 : decide (i < 0) = true := decide_eq_true (by omega)
      go_enter Tryz.func64, Tryz.ntmps64
      go_wp2_with fail
      refine (HD.out _).mono ?_
      rintro e w1 ⟨rfl, hb1⟩
      have c3 := Lx.boxCell hb1 3 _ rfl
      have c4 := Lx.boxCell hb1 4 _ rfl
      have c5 := Lx.boxCell hb1 5 _ rfl
      have hb2 := Lx.boxBelow hb1
      have HB2 := Lib.hid hb2
      clear hb1 hb2
      go_wp2_with fail
      go_ret2
      exact ⟨rfl, HB2.out⟩
    · have g0 : decide (h < 0) = false := decide_eq_false (by omega); have g1 : decide (23 < h) = false := decide_eq_false (by omega); have g2 : decide (i < 0) = false := decide_eq_false (by omega); have g3 : decide (59 < i) = true := decide_eq_true (by omega)
      go_enter Tryz.func64, Tryz.ntmps64
      go_wp2_with fail
      refine (HD.out _).mono ?_
      rintro e w1 ⟨rfl, hb1⟩
      have c3 := Lx.boxCell hb1 3 _ rfl
      have c4 := Lx.boxCell hb1 4 _ rfl
      have c5 := Lx.boxCell hb1 5 _ rfl
      have hb2 := Lx.boxBelow hb1
      have HB2 := Lib.hid hb2
      clear hb1 hb2
      go_wp2_with fail
      go_ret2
      exact ⟨rfl, HB2.out⟩
    · have g0 : decide (h < 0) = false := decide_eq_false (by omega); have g1 : decide (23 < h) = false := decide_eq_false (by omega); have g2 : decide (i < 0) = false := decide_eq_false (by omega); have g3 : decide (59 < i) = false := decide_eq_false (by omega); have g4 : decide (s < 0) = true := decide_eq_true (by omega)
      go_enter Tryz.func64, Tryz.ntmps64
      go_wp2_with fail
      refine (HD.out _).mono ?_
      rintro e w1 ⟨rfl, hb1⟩
      have c3 := Lx.boxCell hb1 3 _ rfl
      have c4 := Lx.boxCell hb1 4 _ rfl
      have c5 := Lx.boxCell hb1 5 _ rfl
      have hb2 := Lx.boxBelow hb1
      have HB2 := Lib.hid hb2
      clear hb1 hb2
      go_wp2_with fail
      go_ret2
      exact ⟨rfl, HB2.out⟩
    · have g0 : decide (h < 0) = false := decide_eq_false (by omega); have g1 : decide (23 < h) = false := decide_eq_false (by omega); have g2 : decide (i < 0) = false := decide_eq_false (by omega); have g3 : decide (59 < i) = false := decide_eq_false (by omega); have g4 : decide (s < 0) = false := decide_eq_false (by omega); have g5 : decide (59 < s) = true := decide_eq_true (by omega)
      go_enter Tryz.func64, Tryz.ntmps64
      go_wp2_with fail
      refine (HD.out _).mono ?_
      rintro e w1 ⟨rfl, hb1⟩
      have c3 := Lx.boxCell hb1 3 _ rfl
      have c4 := Lx.boxCell hb1 4 _ rfl
      have c5 := Lx.boxCell hb1 5 _ rfl
      have hb2 := Lx.boxBelow hb1
      have HB2 := Lib.hid hb2
      clear hb1 hb2
      go_wp2_with fail
      go_ret2
      exact ⟨rfl, HB2.out⟩
  · have HD := Lib.hid (fun W => r2_days_no y m d W hv)
    clear H hv
    unfold civV
    go_enter Tryz.func64, Tryz.ntmps64
    go_wp2_with fail
    refine (HD.out _).mono ?_
    rintro e w1 ⟨rfl, hb1⟩
    have hb2 := Lx.boxBelow hb1
    have HB2 := Lib.hid hb2
    clear hb1 hb2
    go_wp2_with fail
    go_ret2
    exact ⟨rfl, HB2.out⟩
theorem Lx.boxFree2 {w w' : World} {cs : Array Value} {T : TypeId} (hb : Below (w.alloc (.cells cs T)).heap.size (w.alloc (.cells cs T)) w') (k : Nat) : w'.frozen? ⟨w.heap.size, k, none⟩ = false :=
  (hb.frozen (p := ⟨w.heap.size, k, none⟩) (by show w.heap.size < _; rw [World.size_alloc]; omega)).trans (by simp)
theorem Lx.set6 {w : World} {b : Nat} {u0 u1 u2 u3 u4 u5 : Value} (c0 : w.cell? ⟨b, 0, none⟩ = some u0) (c1 : w.cell? ⟨b, 1, none⟩ = some u1) (c2 : w.cell? ⟨b, 2, none⟩ = some u2) (c3 : w.cell? ⟨b, 3, none⟩ = some u3) (c4 : w.cell? ⟨b, 4, none⟩ = some u4) (c5 : w.cell? ⟨b, 5, none⟩ = some u5) (v0 v1 v2 v3 v4 v5 : Value) :
    ((((((w.setCell ⟨b, 0, none⟩ v0).setCell ⟨b, 1, none⟩ v1).setCell ⟨b, 2, none⟩ v2).setCell ⟨b, 3, none⟩ v3).setCell ⟨b, 4, none⟩ v4).setCell ⟨b, 5, none⟩ v5).cell? ⟨b, 0, none⟩ = some v0 ∧
    ((((((w.setCell ⟨b, 0, none⟩ v0).setCell ⟨b, 1, none⟩ v1).setCell ⟨b, 2, none⟩ v2).setCell ⟨b, 3, none⟩ v3).setCell ⟨b, 4, none⟩ v4).setCell ⟨b, 5, none⟩ v5).cell? ⟨b, 1, none⟩ = some v1 ∧
    ((((((w.setCell ⟨b, 0, none⟩ v0).setCell ⟨b, 1, none⟩ v1).setCell ⟨b, 2, none⟩ v2).setCell ⟨b, 3, none⟩ v3).setCell ⟨b, 4, none⟩ v4).setCell ⟨b, 5, none⟩ v5).cell? ⟨b, 2, none⟩ = some v2 ∧
    ((((((w.setCell ⟨b, 0, none⟩ v0).setCell ⟨b, 1, none⟩ v1).setCell ⟨b, 2, none⟩ v2).setCell ⟨b, 3, none⟩ v3).setCell ⟨b, 4, none⟩ v4).setCell ⟨b, 5, none⟩ v5).cell? ⟨b, 3, none⟩ = some v3 ∧
    ((((((w.setCell ⟨b, 0, none⟩ v0).setCell ⟨b, 1, none⟩ v1).setCell ⟨b, 2, none⟩ v2).setCell ⟨b, 3, none⟩ v3).setCell ⟨b, 4, none⟩ v4).setCell ⟨b, 5, none⟩ v5).cell? ⟨b, 4, none⟩ = some v4 ∧
    ((((((w.setCell ⟨b, 0, none⟩ v0).setCell ⟨b, 1, none⟩ v1).setCell ⟨b, 2, none⟩ v2).setCell ⟨b, 3, none⟩ v3).setCell ⟨b, 4, none⟩ v4).setCell ⟨b, 5, none⟩ v5).cell? ⟨b, 5, none⟩ = some v5 := by
  have hs : ∀ (W : World) (i : Nat) (v u : Value), W.cell? ⟨b, i, none⟩ = some u → (W.setCell ⟨b, i, none⟩ v).cell? ⟨b, i, none⟩ = some v := fun W i v u h => World.cell?_setCell_same W _ _ h
  have ho : ∀ (W : World) (i j : Nat) (v : Value), i ≠ j → (W.setCell ⟨b, i, none⟩ v).cell? ⟨b, j, none⟩ = W.cell? ⟨b, j, none⟩ := fun W i j v h => World.cell?_setCell_other W ⟨b, i, none⟩ ⟨b, j, none⟩ v (by intro e; injection e with _ e; exact h e)
  refine ⟨?_, ?_, ?_, ?_, ?_, ?_⟩
  · rw [ho _ 5 0 _ (by decide), ho _ 4 0 _ (by decide), ho _ 3 0 _ (by decide), ho _ 2 0 _ (by decide), ho _ 1 0 _ (by decide)]; exact hs _ _ _ _ c0
  · rw [ho _ 5 1 _ (by decide), ho _ 4 1 _ (by decide), ho _ 3 1 _ (by decide), ho _ 2 1 _ (by decide)]; exact hs _ _ _ _ ((ho _ 0 1 _ (by decide)).trans c1)
  · rw [ho _ 5 2 _ (by decide), ho _ 4 2 _ (by decide), ho _ 3 2 _ (by decide)]; exact hs _ _ _ _ ((ho _ 1 2 _ (by decide)).trans ((ho _ 0 2 _ (by decide)).trans c2))
  · rw [ho _ 5 3 _ (by decide), ho _ 4 3 _ (by decide)]; exact hs _ _ _ _ ((ho _ 2 3 _ (by decide)).trans ((ho _ 1 3 _ (by decide)).trans ((ho _ 0 3 _ (by decide)).trans c3)))
  · rw [ho _ 5 4 _ (by decide)]; exact hs _ _ _ _ ((ho _ 3 4 _ (by decide)).trans ((ho _ 2 4 _ (by decide)).trans ((ho _ 1 4 _ (by decide)).trans ((ho _ 0 4 _ (by decide)).trans c4))))
  · exact hs _ _ _ _ ((ho _ 4 5 _ (by decide)).trans ((ho _ 3 5 _ (by decide)).trans ((ho _ 2 5 _ (by decide)).trans ((ho _ 1 5 _ (by decide)).trans ((ho _ 0 5 _ (by decide)).trans c5)))))
set_option maxRecDepth 100000 in
theorem r2_of_ok (t : Int) (w : World) (h0 : 0 ≤ t) (h1 : t ≤ 253402300799) :
    Calls Tryz.prog 55 #[.int .i64 t] w fun e w' => e = .returned (.tuple #[tmV t, .int .i64 0]) ∧ Below w.heap.size w w' := by
  have HD := Lib.hid (fun W => r2_date (t / 86400) W (by omega) (by omega))
  have g1 : decide (t < 0) = false := decide_eq_false (by omega)
  have g2 : decide (253402300799 < t) = false := decide_eq_false (by omega)
  unfold tmV
  generalize Cv.dY (t / 86400) = y at *
  generalize Cv.dM (t / 86400) = m at *
  generalize Cv.dD (t / 86400) = d at *
  go_enter Tryz.func55, Tryz.ntmps55
  go_wp2_with fail
  refine (HD.out _).mono ?_
  rintro e w1 ⟨rfl, hb1⟩
  have c0 := Lx.boxCell hb1 0 _ rfl
  have c1 := Lx.boxCell hb1 1 _ rfl
  have c2 := Lx.boxCell hb1 2 _ rfl
  have c3 := Lx.boxCell hb1 3 _ rfl
  have c4 := Lx.boxCell hb1 4 _ rfl
  have c5 := Lx.boxCell hb1 5 _ rfl
  have f0 := Lx.boxFree2 hb1 0
  have f1 := Lx.boxFree2 hb1 1
  have f2 := Lx.boxFree2 hb1 2
  have f3 := Lx.boxFree2 hb1 3
  have f4 := Lx.boxFree2 hb1 4
  have f5 := Lx.boxFree2 hb1 5
  have hb2 := Lx.boxBelow hb1
  have HB2 := Lib.hid hb2
  have e1 : t % 86400 / 60 % 60 = t % 86400 % 3600 / 60 := by omega
  have e2 : t % 60 = t % 86400 % 60 := by omega
  have E1 := Lib.hid e1
  have E2 := Lib.hid e2
  clear hb1 hb2 e1 e2
  go_wp2_with fail
  obtain ⟨d0, d1, d2, d3, d4, d5⟩ := Lx.set6 c0 c1 c2 c3 c4 c5 (.int .i64 y) (.int .i64 m) (.int .i64 d) (.int .i64 (t % 86400 / 3600)) (.int .i64 (t % 86400 / 60 % 60)) (.int .i64 (t % 60))
  refine bodyPost_ret (v := .tuple #[.agg #[.int .i64 y, .int .i64 m, .int .i64 d, .int .i64 (t % 86400 / 3600), .int .i64 (t % 86400 / 60 % 60), .int .i64 (t % 60)], .int .i64 0]) (by simp [results, Tryz.results55, go_sem, d0, d1, d2, d3, d4, d5]) rfl ⟨by rw [E1.out, E2.out], ?_⟩
  exact (((((HB2.out.setCell (p := ⟨w.heap.size, 0, none⟩) (Nat.le_refl _) _).setCell (p := ⟨w.heap.size, 1, none⟩) (Nat.le_refl _) _).setCell (p := ⟨w.heap.size, 2, none⟩) (Nat.le_refl _) _).setCell (p := ⟨w.heap.size, 3, none⟩) (Nat.le_refl _) _).setCell (p := ⟨w.heap.size, 4, none⟩) (Nat.le_refl _) _).setCell (p := ⟨w.heap.size, 5, none⟩) (Nat.le_refl _) _
end Go.Proofs.YtnnkamfpcodnnaaGreatDoor
namespace Go.Proofs.YtnnkamfpcodnnaaGreatDoor
open Go.RowKit

namespace Lx
/-- What is left of a number behind k digits, and these digits. -/
def dx (n : Int) : Nat → Int
  | 0 => n
  | k + 1 => dx n k / 10
def ds (n : Int) : Nat → List UInt8
  | 0 => []
  | k + 1 => dg (dx n k % 10) :: ds n k
theorem dx_bd (n : Int) (h0 : 0 ≤ n) : ∀ k, 0 ≤ dx n k ∧ dx n k ≤ n
  | 0 => ⟨h0, Int.le_refl _⟩
  | k + 1 => by have := dx_bd n h0 k; unfold dx; omega
theorem ds_len (n : Int) : ∀ k, (ds n k).length = k
  | 0 => rfl
  | k + 1 => by unfold ds; rw [List.length_cons, ds_len n k]
theorem ds2 (n : Int) (h0 : 0 ≤ n) (h1 : n ≤ 99) : ds n 2 = d2 n := by
  show [dg (n / 10 % 10), dg (n % 10)] = [dg (n / 10), dg (n % 10)]
  rw [show n / 10 % 10 = n / 10 by omega]
theorem ds4 (n : Int) (h0 : 0 ≤ n) (h1 : n ≤ 9999) : ds n 4 = d4 n := by
  show [dg (n / 10 / 10 / 10 % 10), dg (n / 10 / 10 % 10), dg (n / 10 % 10), dg (n % 10)] = [dg (n / 1000), dg (n / 100 % 10), dg (n / 10 % 10), dg (n % 10)]
  rw [show n / 10 / 10 / 10 % 10 = n / 1000 by omega, show n / 10 / 10 = n / 100 by omega]
end Lx
set_option maxRecDepth 100000 in
theorem r2_digits_any (n : Int) (z : Nat) (hz : z ≤ 4) (w : World) (h0 : 0 ≤ n) (h1 : n ≤ 9999) :
    Calls Tryz.prog 56 #[.int .i64 n, .int .i64 z] w fun e w' => e = .returned (.string ⟨(Lx.ds n z).toArray⟩) ∧ Below w.heap.size w w' := by
  have HD := Lib.hid (Lx.dx_bd n h0)
  clear h0
  go_enter Tryz.func56, Tryz.ntmps56
  go_wp2_with fail
  go_loopw [0, 5, 6] (fun x t i wr => ∃ (k : Nat) (sb : ByteArray), k ≤ z ∧ i = .int .i64 k ∧ x = .int .i64 (Lx.dx n k) ∧ t = .string sb ∧ sb.data.toList = Lx.ds n k ∧ Below w.heap.size w wr) (fun _ _ i _ => z - (intOf i).toNat)
  case atStart => exact ⟨0, ⟨#[]⟩, Nat.zero_le _, rfl, rfl, rfl, rfl, Below.refl _ _⟩
  case round =>
    obtain ⟨k, sb, hk, rfl, rfl, rfl, hsb, hbel⟩ := hrel
    by_cases hlt : k < z
    · have hb := HD.out k
      obtain ⟨hb0, hb1⟩ := hb
      have hss : sb.size = k := by rw [Lib.size_eq, hsb, Lx.ds_len]
      have hnext : Lx.dx n (k + 1) = Lx.dx n k / 10 := rfl
      have htext : Lx.ds n (k + 1) = Lx.dg (Lx.dx n k % 10) :: sb.data.toList := by rw [hsb]; rfl
      generalize Lx.dx n k = x at *
      have hdn := Lx.dg_toNat (n := x % 10) (by omega) (by omega)
      have hcv := conv_one wr (48 + x % 10) (Lx.dg (x % 10)) hdn.symm
      have hz1 : (Lx.one (Lx.dg (x % 10))).size = 1 := rfl
      have hg : ¬ (9223372036854775807 < (Lx.one (Lx.dg (x % 10))).size + sb.size) := by omega
      have hkz : (k : Int) < (z : Int) := by omega
      have hk4 : (k : Int) ≤ 4 := by omega
      have HN := Lib.hid hnext
      have HT := Lib.hid htext
      clear hnext htext hsb hdn hss
      go_wp2_with fail
      go_roundw
      case rel => exact ⟨k + 1, _, by omega, by go_num, by rw [HN.out], rfl, by rw [HT.out]; rfl, hbel.alloc hbel.size _⟩
      case measure => simp [intOf]; omega
    · obtain rfl : k = z := by omega
      have HSB := Lib.hid hsb
      clear hsb
      go_wp2_with fail
      go_ret
      exact ⟨Lx.ret_str (ByteArray.ext (Array.toList_inj.1 HSB.out)), hbel⟩
theorem r2_d2 (n : Int) (w : World) (h0 : 0 ≤ n) (h1 : n ≤ 99) :
    Calls Tryz.prog 56 #[.int .i64 n, .int .i64 2] w fun e w' => e = .returned (.string ⟨(Lx.d2 n).toArray⟩) ∧ Below w.heap.size w w' := by
  have := r2_digits_any n 2 (by omega) w h0 (by omega)
  rw [Lx.ds2 n h0 h1] at this
  exact this
theorem r2_d4 (n : Int) (w : World) (h0 : 0 ≤ n) (h1 : n ≤ 9999) :
    Calls Tryz.prog 56 #[.int .i64 n, .int .i64 4] w fun e w' => e = .returned (.string ⟨(Lx.d4 n).toArray⟩) ∧ Below w.heap.size w w' := by
  have := r2_digits_any n 4 (by omega) w h0 h1
  rw [Lx.ds4 n h0 h1] at this
  exact this
set_option maxRecDepth 100000 in
set_option maxHeartbeats 1600000 in
theorem r2_text (t : Int) (w : World) (h0 : 0 ≤ t) (h1 : t ≤ 253402300799) :
    Calls Tryz.prog 38 #[.int .i64 t] w fun e w' => e = .returned (.tuple #[.string ⟨(Lx.tmText t).toArray⟩, .int .i64 0]) ∧ Below w.heap.size w w' := by
  have HO := Lib.hid (fun W => r2_of_ok t W h0 h1)
  obtain ⟨H, _⟩ := Lx.tm_ok h0 h1
  have htx : Lx.tmText t = Lx.civText (Cv.dY (t / 86400)) (Cv.dM (t / 86400)) (Cv.dD (t / 86400)) (t % 86400 / 3600) (t % 86400 % 3600 / 60) (t % 86400 % 60) := rfl
  unfold tmV at HO
  generalize Cv.dY (t / 86400) = y at *
  generalize Cv.dM (t / 86400) = m at *
  generalize Cv.dD (t / 86400) = d at *
  generalize t % 86400 / 3600 = h at *
  generalize t % 86400 % 3600 / 60 = i at *
  generalize t % 86400 % 60 = s at *
  have hv := Lx.valid_bd H.1
  obtain ⟨⟨y0, y1, m0, m1, d0, _⟩, a1, a2, a3, a4, a5, a6⟩ := H
  obtain ⟨_, _, _, _, _, d1⟩ := hv
  have HS0 := Lib.hid (fun W => r2_d4 y W (by omega) (by omega))
  obtain ⟨S0, q0⟩ : ∃ S : ByteArray, S = ⟨(Lx.d4 y).toArray⟩ := ⟨_, rfl⟩
  rw [← q0] at HS0
  have z0 : S0.size = 4 := by rw [q0]; rfl
  have HS1 := Lib.hid (fun W => r2_d2 m W (by omega) (by omega))
  obtain ⟨S1, q1⟩ : ∃ S : ByteArray, S = ⟨(Lx.d2 m).toArray⟩ := ⟨_, rfl⟩
  rw [← q1] at HS1
  have z1 : S1.size = 2 := by rw [q1]; rfl
  have HS2 := Lib.hid (fun W => r2_d2 d W (by omega) (by omega))
  obtain ⟨S2, q2⟩ : ∃ S : ByteArray, S = ⟨(Lx.d2 d).toArray⟩ := ⟨_, rfl⟩
  rw [← q2] at HS2
  have z2 : S2.size = 2 := by rw [q2]; rfl
  have HS3 := Lib.hid (fun W => r2_d2 h W (by omega) (by omega))
  obtain ⟨S3, q3⟩ : ∃ S : ByteArray, S = ⟨(Lx.d2 h).toArray⟩ := ⟨_, rfl⟩
  rw [← q3] at HS3
  have z3 : S3.size = 2 := by rw [q3]; rfl
  have HS4 := Lib.hid (fun W => r2_d2 i W (by omega) (by omega))
  obtain ⟨S4, q4⟩ : ∃ S : ByteArray, S = ⟨(Lx.d2 i).toArray⟩ := ⟨_, rfl⟩
  rw [← q4] at HS4
  have z4 : S4.size = 2 := by rw [q4]; rfl
  have HS5 := Lib.hid (fun W => r2_d2 s W (by omega) (by omega))
  obtain ⟨S5, q5⟩ : ∃ S : ByteArray, S = ⟨(Lx.d2 s).toArray⟩ := ⟨_, rfl⟩
  rw [← q5] at HS5
  have z5 : S5.size = 2 := by rw [q5]; rfl
  have hd : (⟨#[45]⟩ : ByteArray).size = 1 := rfl
  have hsp : (⟨#[32]⟩ : ByteArray).size = 1 := rfl
  have hco : (⟨#[58]⟩ : ByteArray).size = 1 := rfl
  have f0 : ¬ (9223372036854775807 < S0.size + 1) := by omega
  have f1 : ¬ (9223372036854775807 < S0.size + 1 + S1.size) := by omega
  have f2 : ¬ (9223372036854775807 < S0.size + 1 + S1.size + 1) := by omega
  have f3 : ¬ (9223372036854775807 < S0.size + 1 + S1.size + 1 + S2.size) := by omega
  obtain ⟨DD, hDD⟩ : ∃ DD : ByteArray, DD = S0 ++ ⟨#[45]⟩ ++ S1 ++ ⟨#[45]⟩ ++ S2 := ⟨_, rfl⟩
  have hDz : DD.size = 10 := by rw [hDD]; simp [ByteArray.size_append]; omega
  have f10 : ¬ (9223372036854775807 < DD.size + 1) := by omega
  have f11 : ¬ (9223372036854775807 < DD.size + 1 + S3.size) := by omega
  have f12 : ¬ (9223372036854775807 < DD.size + 1 + S3.size + 1) := by omega
  have f13 : ¬ (9223372036854775807 < DD.size + 1 + S3.size + 1 + S4.size) := by omega
  have f14 : ¬ (9223372036854775807 < DD.size + 1 + S3.size + 1 + S4.size + 1) := by omega
  have f15 : ¬ (9223372036854775807 < DD.size + 1 + S3.size + 1 + S4.size + 1 + S5.size) := by omega
  have hfin : DD ++ ⟨#[32]⟩ ++ S3 ++ ⟨#[58]⟩ ++ S4 ++ ⟨#[58]⟩ ++ S5 = ⟨(Lx.tmText t).toArray⟩ := by
    rw [htx, hDD, q0, q1, q2, q3, q4, q5]; rfl
  have Hfin := Lib.hid hfin
  have HDD := Lib.hid hDD.symm
  clear hfin htx q0 q1 q2 q3 q4 q5 z0 z1 z2 z3 z4 z5 hDD hDz hd hsp hco
  go_enter Tryz.func38, Tryz.ntmps38
  go_wp2_with fail
  refine (HO.out _).mono ?_
  rintro e w1 ⟨rfl, hb1⟩
  have hS0 : (fun wx => Below w.heap.size w wx ∧ w1.heap.size < wx.heap.size ∧ wx.cell? ⟨w1.heap.size, 0, none⟩ = some (.int .i64 y) ∧ wx.cell? ⟨w1.heap.size, 1, none⟩ = some (.int .i64 m) ∧ wx.cell? ⟨w1.heap.size, 2, none⟩ = some (.int .i64 d) ∧ wx.cell? ⟨w1.heap.size, 3, none⟩ = some (.int .i64 h) ∧ wx.cell? ⟨w1.heap.size, 4, none⟩ = some (.int .i64 i) ∧ wx.cell? ⟨w1.heap.size, 5, none⟩ = some (.int .i64 s)) ((w1.alloc (.cells #[.int .i64 y, .int .i64 m, .int .i64 d, .int .i64 h, .int .i64 i, .int .i64 s] 88)).drew) :=
    ⟨(hb1.alloc hb1.size _).trans ((below_drewN _ _ 1)), by rw [show ((w1.alloc (.cells #[.int .i64 y, .int .i64 m, .int .i64 d, .int .i64 h, .int .i64 i, .int .i64 s] 88)).drew).heap.size = w1.heap.size + 1 from World.size_alloc _ _]; omega, by simp, by simp, by simp, by simp, by simp, by simp⟩
  dsimp only at hS0
  go_wp2_with fail
  go_region_held3 (fun wx => Below w.heap.size w wx ∧ w1.heap.size < wx.heap.size ∧ wx.cell? ⟨w1.heap.size, 0, none⟩ = some (.int .i64 y) ∧ wx.cell? ⟨w1.heap.size, 1, none⟩ = some (.int .i64 m) ∧ wx.cell? ⟨w1.heap.size, 2, none⟩ = some (.int .i64 d) ∧ wx.cell? ⟨w1.heap.size, 3, none⟩ = some (.int .i64 h) ∧ wx.cell? ⟨w1.heap.size, 4, none⟩ = some (.int .i64 i) ∧ wx.cell? ⟨w1.heap.size, 5, none⟩ = some (.int .i64 s)) (first | assumption | go_keep)
    (first
      | (go_at_call_of 56 y; refine (HS0.out _).mono ?_; rintro e w2 ⟨rfl, c2⟩; have k2 := Lx.keep6 (by assumption) c2)
      | (go_at_call_of 56 m; refine (HS1.out _).mono ?_; rintro e w3 ⟨rfl, c3⟩; have k3 := Lx.keep6 (by assumption) c3)
      | (go_at_call_of 56 d; refine (HS2.out _).mono ?_; rintro e w4 ⟨rfl, c4⟩; have k4 := Lx.keep6 (by assumption) c4))
  simp only [HDD.out]
  have hS1 : (fun wx => Below w.heap.size w wx ∧ w1.heap.size < wx.heap.size ∧ wx.cell? ⟨w1.heap.size, 0, none⟩ = some (.int .i64 y) ∧ wx.cell? ⟨w1.heap.size, 1, none⟩ = some (.int .i64 m) ∧ wx.cell? ⟨w1.heap.size, 2, none⟩ = some (.int .i64 d) ∧ wx.cell? ⟨w1.heap.size, 3, none⟩ = some (.int .i64 h) ∧ wx.cell? ⟨w1.heap.size, 4, none⟩ = some (.int .i64 i) ∧ wx.cell? ⟨w1.heap.size, 5, none⟩ = some (.int .i64 s)) w4.drew := Lx.keep6 k4 (below_drewN _ _ 1)
  dsimp only at hS1
  clear f0 f1 f2 f3 k2 k3 c2 c3 c4 hS0 k4
  go_wp2_with fail
  go_region_held3 (fun wx => Below w.heap.size w wx ∧ w1.heap.size < wx.heap.size ∧ wx.cell? ⟨w1.heap.size, 0, none⟩ = some (.int .i64 y) ∧ wx.cell? ⟨w1.heap.size, 1, none⟩ = some (.int .i64 m) ∧ wx.cell? ⟨w1.heap.size, 2, none⟩ = some (.int .i64 d) ∧ wx.cell? ⟨w1.heap.size, 3, none⟩ = some (.int .i64 h) ∧ wx.cell? ⟨w1.heap.size, 4, none⟩ = some (.int .i64 i) ∧ wx.cell? ⟨w1.heap.size, 5, none⟩ = some (.int .i64 s)) (first | assumption | go_keep)
    (first
      | (go_at_call_of 56 h; refine (HS3.out _).mono ?_; rintro e w5 ⟨rfl, c5⟩; have k5 := Lx.keep6 (by assumption) c5)
      | (go_at_call_of 56 i; refine (HS4.out _).mono ?_; rintro e w6 ⟨rfl, c6⟩; have k6 := Lx.keep6 (by assumption) c6)
      | (go_at_call_of 56 s; refine (HS5.out _).mono ?_; rintro e w7 ⟨rfl, c7⟩; have k7 := Lx.keep6 (by assumption) c7))
  go_wp2_with fail
  go_ret2
  exact ⟨by rw [Hfin.out]; rfl, And.left (by assumption)⟩
end Go.Proofs.YtnnkamfpcodnnaaGreatDoor
namespace Go.Proofs.YtnnkamfpcodnnaaGreatDoor
open Go.RowKit

namespace Lx
def nv (D : ByteArray) : Nat → Int
  | 0 => 0
  | k + 1 => 10 * nv D k + ((D.data[k]!.toNat : Int) - 48)
def digs (D : ByteArray) : Prop := ∀ j, j < D.size → 48 ≤ (D.data[j]!.toNat : Int) ∧ (D.data[j]!.toNat : Int) ≤ 57
theorem nv_bd {D : ByteArray} (h : digs D) : ∀ {k : Nat}, k ≤ D.size → 0 ≤ nv D k ∧ nv D k < ((10 ^ k : Nat) : Int)
  | 0, _ => by unfold nv; decide
  | k + 1, hk => by
    have := nv_bd h (k := k) (by omega)
    have := h k (by omega)
    unfold nv
    rw [Nat.pow_succ]
    omega
theorem nv_small {D : ByteArray} (h : digs D) {k : Nat} (hk : k ≤ D.size) (h4 : k ≤ 4) : 0 ≤ nv D k ∧ nv D k ≤ 9999 := by
  have := nv_bd h hk
  have h2 : (10 ^ k : Nat) ≤ 10 ^ 4 := Nat.pow_le_pow_right (by decide) h4
  have : (10 ^ 4 : Nat) = 10000 := by decide
  omega
theorem ext_z (s : ByteArray) (a b : Nat) (h : a ≤ b) (hb : b ≤ s.size) : (s.extract a b).size = b - a := by
  rw [ByteArray.size_extract]; omega
theorem ext_at (s : ByteArray) (a b j : Nat) (hb : b ≤ s.size) (hj : a + j < b) : (s.extract a b).data[j]! = s.data[a + j]! := by
  have h1 : j < (s.extract a b).data.size := by show j < (s.extract a b).size; rw [ext_z s a b (by omega) hb]; omega
  have h2 : a + j < s.data.size := by show a + j < s.size; omega
  rw [getElem!_pos (s.extract a b).data j h1, getElem!_pos s.data (a + j) h2]
  simp [ByteArray.data_extract]
theorem ext_digs {s : ByteArray} {a b : Nat} (hs : s.size = 19) (hok : okTo s 19) (hab : a ≤ b) (hb : b ≤ 19) (hf : ∀ j, a ≤ j → j < b → formAt j = 48) : digs (s.extract a b) := by
  intro j hj
  rw [ext_z s a b hab (by omega)] at hj
  rw [ext_at s a b j (by omega) (by omega)]
  have := hok (a + j) (by omega)
  unfold okAt at this
  rw [if_pos (hf (a + j) (by omega) (by omega)), isDig_iff] at this
  exact this
theorem nvTwo (D : ByteArray) : nv D 2 = 10 * (10 * 0 + ((D.data[0]!.toNat : Int) - 48)) + ((D.data[1]!.toNat : Int) - 48) := rfl
theorem nvFour (D : ByteArray) : nv D (4 - 0) = 10 * (10 * (10 * (10 * 0 + ((D.data[0]!.toNat : Int) - 48)) + ((D.data[1]!.toNat : Int) - 48)) + ((D.data[2]!.toNat : Int) - 48)) + ((D.data[3]!.toNat : Int) - 48) := rfl
theorem nv2 {s : ByteArray} {a : Nat} (hs : s.size = 19) (ha : a + 2 ≤ 19) : nv (s.extract a (a + 2)) (s.extract a (a + 2)).size = 10 * (10 * 0 + ((s.data[a]!.toNat : Int) - 48)) + ((s.data[a + 1]!.toNat : Int) - 48) := by
  rw [ext_z s a (a + 2) (by omega) (by omega), show a + 2 - a = 2 by omega]
  rw [nvTwo]
  rw [ext_at s a (a + 2) 0 (by omega) (by omega), ext_at s a (a + 2) 1 (by omega) (by omega), Nat.add_zero]
  omega
theorem nv4 {s : ByteArray} (hs : s.size = 19) : nv (s.extract 0 4) (s.extract 0 4).size = 10 * (10 * (10 * (10 * 0 + ((s.data[0]!.toNat : Int) - 48)) + ((s.data[1]!.toNat : Int) - 48)) + ((s.data[2]!.toNat : Int) - 48)) + ((s.data[3]!.toNat : Int) - 48) := by
  rw [ext_z s 0 4 (by omega) (by omega)]
  rw [nvFour]
  rw [ext_at s 0 4 0 (by omega) (by omega), ext_at s 0 4 1 (by omega) (by omega), ext_at s 0 4 2 (by omega) (by omega), ext_at s 0 4 3 (by omega) (by omega)]
theorem gv_all (s : ByteArray) (hs : s.size = 19) : nv (s.extract 0 4) (s.extract 0 4).size = gV s 0 19 ∧ nv (s.extract 5 7) (s.extract 5 7).size = gV s 1 19 ∧ nv (s.extract 8 10) (s.extract 8 10).size = gV s 2 19 ∧ nv (s.extract 11 13) (s.extract 11 13).size = gV s 3 19 ∧ nv (s.extract 14 16) (s.extract 14 16).size = gV s 4 19 ∧ nv (s.extract 17 19) (s.extract 17 19).size = gV s 5 19 := by
  have e0 : gV s 0 19 = (((0 * 10 + ((s.data[0]!.toNat : Int) - 48)) * 10 + ((s.data[1]!.toNat : Int) - 48)) * 10 + ((s.data[2]!.toNat : Int) - 48)) * 10 + ((s.data[3]!.toNat : Int) - 48) := rfl
  have e1 : gV s 1 19 = (0 * 10 + ((s.data[5]!.toNat : Int) - 48)) * 10 + ((s.data[6]!.toNat : Int) - 48) := rfl
  have e2 : gV s 2 19 = (0 * 10 + ((s.data[8]!.toNat : Int) - 48)) * 10 + ((s.data[9]!.toNat : Int) - 48) := rfl
  have e3 : gV s 3 19 = (0 * 10 + ((s.data[11]!.toNat : Int) - 48)) * 10 + ((s.data[12]!.toNat : Int) - 48) := rfl
  have e4 : gV s 4 19 = (0 * 10 + ((s.data[14]!.toNat : Int) - 48)) * 10 + ((s.data[15]!.toNat : Int) - 48) := rfl
  have e5 : gV s 5 19 = (0 * 10 + ((s.data[17]!.toNat : Int) - 48)) * 10 + ((s.data[18]!.toNat : Int) - 48) := rfl
  have n0 := nv4 hs
  have n1 := nv2 (a := 5) hs (by omega)
  simp only [Nat.reduceAdd] at n1
  have n2 := nv2 (a := 8) hs (by omega)
  simp only [Nat.reduceAdd] at n2
  have n3 := nv2 (a := 11) hs (by omega)
  simp only [Nat.reduceAdd] at n3
  have n4 := nv2 (a := 14) hs (by omega)
  simp only [Nat.reduceAdd] at n4
  have n5 := nv2 (a := 17) hs (by omega)
  simp only [Nat.reduceAdd] at n5
  rw [e0, e1, e2, e3, e4, e5]
  exact ⟨n0.trans (by omega), n1.trans (by omega), n2.trans (by omega), n3.trans (by omega), n4.trans (by omega), n5.trans (by omega)⟩
end Lx
set_option maxRecDepth 100000 in
theorem r2_number (D : ByteArray) (hz : D.size ≤ 4) (hd : Lx.digs D) (w : World) :
    Calls Tryz.prog 65 #[.string D] w fun e w' => e = .returned (.int .i64 (Lx.nv D D.size)) ∧ w = w' := by
  have HD := Lib.hid hd
  clear hd
  go_enter Tryz.func65, Tryz.ntmps65
  go_wp2_with fail
  go_loop [3, 4] (fun n i => ∃ k : Nat, k ≤ D.size ∧ i = .int .i64 k ∧ n = .int .i64 (Lx.nv D k)) (fun _ i => D.size - (intOf i).toNat)
  case atStart => exact ⟨0, Nat.zero_le _, rfl, rfl⟩
  case round =>
    obtain ⟨k, hk, rfl, rfl⟩ := hrel
    by_cases hlt : k < D.size
    · have hb := Lx.nv_small HD.out (k := k) (by omega) (by omega)
      have hdk := HD.out k hlt
      have hn : Lx.nv D (k + 1) = 10 * Lx.nv D k + ((D[k].toNat : Int) - 48) := by rw [← Lx.getB D k hlt]; rfl
      rw [Lx.getB D k hlt] at hdk
      obtain ⟨b0, b1⟩ := hb
      obtain ⟨d0, d1⟩ := hdk
      have HN := Lib.hid hn
      clear hn
      generalize Lx.nv D k = x at *
      go_wp2_with fail
      go_round
      case rel => exact ⟨k + 1, by omega, by go_num, by rw [HN.out]⟩
      case measure => simp [intOf]; omega
    · obtain rfl : k = D.size := by omega
      go_wp2_with fail
      go_ret
      exact ⟨rfl, rfl⟩
def ParPost (s : ByteArray) (w : World) (e : Ending) (w' : World) : Prop := ∃ v x, Lx.TimeIs s.data.toList v x ∧ e = .returned (.tuple #[.int .i64 v, .int .i64 x]) ∧ Below w.heap.size w w'
set_option maxRecDepth 100000 in
theorem r2_parse_short (s : ByteArray) (w : World) (hs : s.size ≠ 19) : Calls Tryz.prog 52 #[.string s] w (ParPost s w) := by
  have hf := Lx.timeIs_form (l := s.data.toList) (e := 10) (by decide) (.inl (by rw [← Lib.size_eq]; exact hs))
  have g : ((s.size : Int) != 19) = true := by rw [bne_iff_ne]; omega
  have HF := Lib.hid hf
  clear hf hs
  go_enter Tryz.func52, Tryz.ntmps52
  go_wp2_with fail
  go_ret2
  exact ⟨_, _, HF.out, rfl, Below.refl _ _⟩
set_option maxRecDepth 100000 in
set_option maxHeartbeats 3200000 in
theorem r2_parse_19 (s : ByteArray) (w : World) (hs : s.size = 19) : Calls Tryz.prog 52 #[.string s] w (ParPost s w) := by
  have g : ((s.size : Int) != 19) = false := by rw [bne_eq_false_iff_eq]; omega
  have HS := Lib.hid hs
  have hs1 : s.size ≤ 19 := by omega
  have hs2 : 19 ≤ s.size := by omega
  clear hs
  go_enter Tryz.func52, Tryz.ntmps52
  go_wp2_with fail
  generalize hF : (⟨#[100, 100, 100, 100, 45, 100, 100, 45, 100, 100, 32, 100, 100, 58, 100, 100, 58, 100, 100]⟩ : ByteArray) = F
  have hFz : F.size = 19 := by rw [← hF]; rfl
  have hFk : ∀ k (h : k < F.size), (F[k].toNat : Int) = if Lx.formAt k = 48 then 100 else ((Lx.formAt k).toNat : Int) := by
    intro k h
    have hk : k < 19 := by rw [hFz] at h; exact h
    subst hF
    revert h
    have : k = 0 ∨ k = 1 ∨ k = 2 ∨ k = 3 ∨ k = 4 ∨ k = 5 ∨ k = 6 ∨ k = 7 ∨ k = 8 ∨ k = 9 ∨ k = 10 ∨ k = 11 ∨ k = 12 ∨ k = 13 ∨ k = 14 ∨ k = 15 ∨ k = 16 ∨ k = 17 ∨ k = 18 := by omega
    rcases this with rfl | rfl | rfl | rfl | rfl | rfl | rfl | rfl | rfl | rfl | rfl | rfl | rfl | rfl | rfl | rfl | rfl | rfl | rfl <;> intro h <;> rfl
  have HFK := Lib.hid hFk
  have f1 : F.size ≤ 19 := by omega
  have f2 : 19 ≤ F.size := by omega
  clear hF hFk hFz g
  go_loopw [5] (fun i wr => ∃ k nq : Nat, k ≤ 19 ∧ i = .int .i64 k ∧ Lx.okTo s k ∧ wr = w.drewN nq) (fun i _ => 19 - (intOf i).toNat)
  case atStart => exact ⟨0, 0, Nat.zero_le _, rfl, fun j hj => absurd hj (Nat.not_lt_zero _), rfl⟩
  case round =>
    obtain ⟨k, nq, hk, rfl, hok, rfl⟩ := hrel
    have HOK := Lib.hid hok
    clear hok
    by_cases hlt : k < 19
    · have hks : k < s.size := by omega
      have hkf : k < F.size := by omega
      have hfk := HFK.out k hkf
      have hget := Lx.getB s k hks
      have hat := Lx.at_get s k hks
      have hki : (k : Int) < 19 := by omega
      have hk0 : (0 : Int) ≤ (k : Int) := by omega
      by_cases h48 : Lx.formAt k = 48
      · rw [if_pos h48] at hfk
        have e1 : ((F[k].toNat : Int) == 100) = true := by rw [hfk]; rfl
        have e2 : ((F[k].toNat : Int) != 100) = false := by rw [hfk]; rfl
        clear hfk
        by_cases hlo : (s[k].toNat : Int) < 48
        · have l1 : decide ((s[k].toNat : Int) < 48) = true := decide_eq_true hlo
          have hf := Lib.hid (Lx.timeIs_form (l := s.data.toList) (e := 10) (by decide) (.inr ⟨k, s.data[k]!, hlt, hat, Lx.okAt_nodig h48 (by rw [hget]; exact .inl hlo)⟩))
          clear hget hat
          go_wp2_with fail
          go_quiet (fail)
          go_wp2_with fail
          go_ret2
          exact ⟨_, _, hf.out, rfl, by rw [World.drewN_drewN]; exact below_drewN _ _ _⟩
        · have l1 : decide ((s[k].toNat : Int) < 48) = false := decide_eq_false hlo
          by_cases hhi : 57 < (s[k].toNat : Int)
          · have l2 : decide (57 < (s[k].toNat : Int)) = true := decide_eq_true hhi
            have hf := Lib.hid (Lx.timeIs_form (l := s.data.toList) (e := 10) (by decide) (.inr ⟨k, s.data[k]!, hlt, hat, Lx.okAt_nodig h48 (by rw [hget]; exact .inr hhi)⟩))
            clear hget hat
            go_wp2_with fail
            go_quiet (fail)
            go_wp2_with fail
            go_ret2
            exact ⟨_, _, hf.out, rfl, by rw [World.drewN_drewN]; exact below_drewN _ _ _⟩
          · have l2 : decide (57 < (s[k].toNat : Int)) = false := decide_eq_false hhi
            have hn := Lib.hid (Lx.okTo_succ HOK.out (Lx.okAt_dig h48 (by rw [hget]; omega) (by rw [hget]; omega)))
            clear hget hat
            go_wp2_with fail
            go_quiet (fail)
            go_wp2_with fail
            go_roundw
            case rel => exact ⟨k + 1, _, by omega, by go_num, hn.out, rfl⟩
            case measure => simp [intOf]; omega
      · rw [if_neg h48] at hfk
        have h100 : ((Lx.formAt k).toNat : Int) ≠ 100 := by unfold Lx.formAt; (repeat' split) <;> decide
        have e1 : ((F[k].toNat : Int) == 100) = false := by rw [hfk, beq_eq_false_iff_ne]; exact h100
        have e2 : ((F[k].toNat : Int) != 100) = true := by rw [hfk, bne_iff_ne]; exact h100
        by_cases heq : (s[k].toNat : Int) = (F[k].toNat : Int)
        · have l1 : ((s[k].toNat : Int) != (F[k].toNat : Int)) = false := by rw [bne_eq_false_iff_eq]; exact heq
          have hn := Lib.hid (Lx.okTo_succ HOK.out (Lx.okAt_sep h48 rfl (by rw [hget, heq, hfk])))
          clear hget hat heq hfk h100
          go_wp2_with fail
          go_quiet (fail)
          go_wp2_with fail
          go_roundw
          case rel => exact ⟨k + 1, _, by omega, by go_num, hn.out, rfl⟩
          case measure => simp [intOf]; omega
        · have l1 : ((s[k].toNat : Int) != (F[k].toNat : Int)) = true := by rw [bne_iff_ne]; exact heq
          have hf := Lib.hid (Lx.timeIs_form (l := s.data.toList) (e := 10) (by decide) (.inr ⟨k, s.data[k]!, hlt, hat, Lx.okAt_nosep h48 rfl (by rw [hget, ← hfk]; exact heq)⟩))
          clear hget hat heq hfk h100
          go_wp2_with fail
          go_quiet (fail)
          go_wp2_with fail
          go_ret2
          exact ⟨_, _, hf.out, rfl, by rw [World.drewN_drewN]; exact below_drewN _ _ _⟩
    · obtain rfl : k = 19 := by omega
      clear hlt
      have hok := HOK.out
      have hs := HS.out
      obtain ⟨hcv, hbd⟩ := Lx.okTo_civ s hs hok
      obtain ⟨n0, n1, n2, n3, n4, n5⟩ := Lx.gv_all s hs
      have H0 := Lib.hid (fun W => r2_number (s.extract 0 4) (by rw [Lx.ext_z s 0 4 (by omega) (by omega)]; omega) (Lx.ext_digs hs hok (by omega) (by omega) (by intro j h1 h2; have : j = 0 ∨ j = 1 ∨ j = 2 ∨ j = 3 := (by omega); rcases this with rfl | rfl | rfl | rfl <;> rfl)) W)
      rw [n0] at H0
      have H1 := Lib.hid (fun W => r2_number (s.extract 5 7) (by rw [Lx.ext_z s 5 7 (by omega) (by omega)]; omega) (Lx.ext_digs hs hok (by omega) (by omega) (by intro j h1 h2; have : j = 5 ∨ j = 6 := (by omega); rcases this with rfl | rfl <;> rfl)) W)
      rw [n1] at H1
      have H2 := Lib.hid (fun W => r2_number (s.extract 8 10) (by rw [Lx.ext_z s 8 10 (by omega) (by omega)]; omega) (Lx.ext_digs hs hok (by omega) (by omega) (by intro j h1 h2; have : j = 8 ∨ j = 9 := (by omega); rcases this with rfl | rfl <;> rfl)) W)
      rw [n2] at H2
      have H3 := Lib.hid (fun W => r2_number (s.extract 11 13) (by rw [Lx.ext_z s 11 13 (by omega) (by omega)]; omega) (Lx.ext_digs hs hok (by omega) (by omega) (by intro j h1 h2; have : j = 11 ∨ j = 12 := (by omega); rcases this with rfl | rfl <;> rfl)) W)
      rw [n3] at H3
      have H4 := Lib.hid (fun W => r2_number (s.extract 14 16) (by rw [Lx.ext_z s 14 16 (by omega) (by omega)]; omega) (Lx.ext_digs hs hok (by omega) (by omega) (by intro j h1 h2; have : j = 14 ∨ j = 15 := (by omega); rcases this with rfl | rfl <;> rfl)) W)
      rw [n4] at H4
      have H5 := Lib.hid (fun W => r2_number (s.extract 17 19) (by rw [Lx.ext_z s 17 19 (by omega) (by omega)]; omega) (Lx.ext_digs hs hok (by omega) (by omega) (by intro j h1 h2; have : j = 17 ∨ j = 18 := (by omega); rcases this with rfl | rfl <;> rfl)) W)
      rw [n5] at H5
      generalize Lx.gV s 0 19 = v0 at *
      generalize Lx.gV s 1 19 = v1 at *
      generalize Lx.gV s 2 19 = v2 at *
      generalize Lx.gV s 3 19 = v3 at *
      generalize Lx.gV s 4 19 = v4 at *
      generalize Lx.gV s 5 19 = v5 at *
      obtain ⟨v, x, hti, hT⟩ : ∃ v x, Lx.TimeIs s.data.toList v x ∧ ∀ W, Calls Tryz.prog 64 #[civV v0 v1 v2 v3 v4 v5] W fun e w' => e = .returned (.tuple #[.int .i64 v, .int .i64 x]) ∧ Below W.heap.size W w' := by
        by_cases H : Lx.TmOk v0 v1 v2 v3 v4 v5
        · exact ⟨_, 0, by rw [hcv]; exact Lx.timeIs_ok H, fun W => r2_time_ok v0 v1 v2 v3 v4 v5 W H⟩
        · exact ⟨0, 2, by rw [hcv]; exact Lx.timeIs_bad (by omega) H (by decide), fun W => r2_time_no v0 v1 v2 v3 v4 v5 W H⟩
      have HTI := Lib.hid hti
      have HT := Lib.hid hT
      unfold civV at HT
      have hS0 : Below w.heap.size w (w.drewN nq).drew := (below_drewN _ _ nq).drew
      have w4 : (4 : Int) ≤ (s.size : Int) := by omega
      have w7 : (7 : Int) ≤ (s.size : Int) := by omega
      have w10 : (10 : Int) ≤ (s.size : Int) := by omega
      have w13 : (13 : Int) ≤ (s.size : Int) := by omega
      have w16 : (16 : Int) ≤ (s.size : Int) := by omega
      have w19 : (19 : Int) ≤ (s.size : Int) := by omega
      clear hok hs hcv hbd n0 n1 n2 n3 n4 n5 hti hT
      go_wp2_with fail
      go_region_held3 (fun wx => Below w.heap.size w wx) (first | assumption | go_keep)
        (first
          | (go_at_call_of 65 (Value.string (s.extract 0 4)); refine (H0.out _).mono ?_; rintro e w2 ⟨rfl, rfl⟩)
          | (go_at_call_of 65 (Value.string (s.extract 5 7)); refine (H1.out _).mono ?_; rintro e w2 ⟨rfl, rfl⟩)
          | (go_at_call_of 65 (Value.string (s.extract 8 10)); refine (H2.out _).mono ?_; rintro e w2 ⟨rfl, rfl⟩)
          | (go_at_call_of 65 (Value.string (s.extract 11 13)); refine (H3.out _).mono ?_; rintro e w2 ⟨rfl, rfl⟩)
          | (go_at_call_of 65 (Value.string (s.extract 14 16)); refine (H4.out _).mono ?_; rintro e w2 ⟨rfl, rfl⟩)
          | (go_at_call_of 65 (Value.string (s.extract 17 19)); refine (H5.out _).mono ?_; rintro e w2 ⟨rfl, rfl⟩)
          | (go_at_call 64; refine (HT.out _).mono ?_; rintro e w3 ⟨rfl, c3⟩; have k3 := Below.trans (by assumption) (c3.mono (Below.size (by assumption)))))
      go_wp2_with fail
      go_ret2
      exact ⟨_, _, HTI.out, rfl, k3⟩
theorem r2_parse (s : ByteArray) (w : World) : Calls Tryz.prog 52 #[.string s] w (ParPost s w) := by
  by_cases h : s.size = 19
  · exact r2_parse_19 s w h
  · exact r2_parse_short s w h
end Go.Proofs.YtnnkamfpcodnnaaGreatDoor
