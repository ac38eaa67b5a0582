/- UnitsParts, way by way. (printed by gen_parts.py) -/
import Derived.Test.YtelacmgfpcmmjaaGreatDoorUnPtN
import Derived.Test.YtelacmgfpcmmjaaGreatDoorUnPartsLx
import Derived.Test.YtelacmgfpcmmjaaGreatDoorUnBackLx
import Derived.Deep.RegionHeld3
import Derived.Deep.DeepCutAuto
namespace Go.Proofs.YtelacmgfpcmmjaaGreatDoor
open Go.RowKit

set_option maxRecDepth 100000 in
set_option maxHeartbeats 6400000 in
theorem parts_badb0 (a b c d : Nat) (ha : (a : Int) ≤ 65535) (hb : (b : Int) ≤ 65535) (hc : (c : Int) ≤ 65535) (hd : (d : Int) ≤ 65535) (hne : ¬ Lx.pcs a b c d = []) (hqq : ¬ (a * 86400 + b * 3600 + c * 60 + d) / 86400 ≤ 65535) (hx : ¬ a = 0) (hy : ¬ d = 0) (hu : b = 0) (w : World) (env : UEnv w) :
    Calls Tryz.prog 3 #[.int .u16 (a : Nat), .int .u16 (b : Nat), .int .u16 (c : Nat), .int .u16 (d : Nat)] w fun e w' => e = .returned (.bool true) ∧ Below w.heap.size w w' := by
  obtain ⟨i0, hi, hz0, hz1, hz2⟩ := info_parts infoS
  have HA := Lib.hid (fun W (E : UEnv W) => part_any a (by omega) 0 100 rfl W E)
  have HB := Lib.hid (fun W (E : UEnv W) => part_any b (by omega) 1 104 rfl W E)
  have HC := Lib.hid (fun W (E : UEnv W) => part_any c (by omega) 2 109 rfl W E)
  have HD := Lib.hid (fun W (E : UEnv W) => part_any d (by omega) 3 115 rfl W E)
  obtain ⟨A, hA⟩ : ∃ A : ByteArray, A = ⟨(Lx.pc a 0).toArray⟩ := ⟨_, rfl⟩
  obtain ⟨B, hB⟩ : ∃ B : ByteArray, B = ⟨(Lx.pc b 1).toArray⟩ := ⟨_, rfl⟩
  obtain ⟨C, hC⟩ : ∃ C : ByteArray, C = ⟨(Lx.pc c 2).toArray⟩ := ⟨_, rfl⟩
  obtain ⟨D, hD⟩ : ∃ D : ByteArray, D = ⟨(Lx.pc d 3).toArray⟩ := ⟨_, rfl⟩
  rw [← hA] at HA
  rw [← hB] at HB
  rw [← hC] at HC
  rw [← hD] at HD
  have hAs : A.size ≤ 12 := by rw [Lib.size_eq, hA]; exact Lx.pc_len a 0 (by omega)
  have hBs : B.size ≤ 12 := by rw [Lib.size_eq, hB]; exact Lx.pc_len b 1 (by omega)
  have hCs : C.size ≤ 12 := by rw [Lib.size_eq, hC]; exact Lx.pc_len c 2 (by omega)
  have hDs : D.size ≤ 12 := by rw [Lib.size_eq, hD]; exact Lx.pc_len d 3 (by omega)
  obtain ⟨T, hT⟩ : ∃ T : ByteArray, A ++ B ++ C ++ D = T := ⟨_, rfl⟩
  have hTl : T.data.toList = Lx.pcs a b c d := by
    rw [← hT, Lx.appT, Lx.appT, Lx.appT, hA, hB, hC, hD]
    unfold Lx.pcs; simp
  have hTs : T.size ≤ 48 := by rw [← hT, ByteArray.size_append, ByteArray.size_append, ByteArray.size_append]; omega
  obtain ⟨sum, hsum⟩ : ∃ sum : Nat, sum = a * 86400 + b * 3600 + c * 60 + d := ⟨_, rfl⟩
  have hsi : (a : Int) * 86400 + (b : Int) * 3600 + (c : Int) * 60 + (d : Int) = (sum : Int) := by omega
  have hsb : (sum : Int) ≤ 5902147635 := by omega
  have hHA := Lib.hid (show A.data.toList = Lx.pc a 0 by rw [hA])
  have hHB := Lib.hid (show B.data.toList = Lx.pc b 1 by rw [hB])
  have hHC := Lib.hid (show C.data.toList = Lx.pc c 2 by rw [hC])
  have hHD := Lib.hid (show D.data.toList = Lx.pc d 3 by rw [hD])
  have Hsum := Lib.hid hsum
  have HTl := Lib.hid hTl
  clear hA hB hC hD hsum hTl
  have hTp : T.size ≠ 0 := by rw [Lib.size_eq, HTl.out]; intro e; exact hne (List.eq_nil_of_length_eq_zero e)
  have hTb : T.toList.isEmpty = false := Lx.strne hTp
  have hT1 : (1 : Int) ≤ (T.size : Int) := by omega
  obtain ⟨z, hzz⟩ : ∃ z : Nat, z = T.size - 1 := ⟨_, rfl⟩
  have hzi : (T.size : Int) - 1 = (z : Int) := by omega
  have hzT : z ≤ T.size := by omega
  -- the sum and its normal text
  have hpar := Lx.in_par (Lx.dur_pcs hne) (by have := Hsum.out; omega)
  rw [← Hsum.out] at hpar
  have H1 := Lib.hid (fun W (E : UEnv W) => parse_any T (by omega) W E)
  rw [HTl.out, hpar.1, hpar.2] at H1
  have hs0 : sum ≠ 0 := by rw [Hsum.out]; exact Lx.pcs_sum0 hne
  obtain ⟨N, hN⟩ : ∃ N : ByteArray, N = ⟨(Lx.prnS sum).toArray⟩ := ⟨_, rfl⟩
  have hnrm : Lx.nrmV (Lx.pcs a b c d) = Lx.prnS sum ∧ Lx.nrmE (Lx.pcs a b c d) = 0 := by
    refine ⟨?_, hpar.2⟩
    unfold Lx.nrmV
    rw [if_pos hpar.2, hpar.1, (Lx.prn_in (d := (sum : Int)) (by omega)).1, Int.toNat_natCast]
  have H2 := Lib.hid (fun W (E : UEnv W) => normal_any T (by omega) W E)
  rw [HTl.out, hnrm.1, hnrm.2, ← hN] at H2
  obtain ⟨q, hq⟩ : ∃ q : Nat, q = sum / 86400 := ⟨_, rfl⟩
  obtain ⟨yh, hyh⟩ : ∃ y : Nat, y = sum / 3600 := ⟨_, rfl⟩
  obtain ⟨ym, hym⟩ : ∃ y : Nat, y = sum / 60 := ⟨_, rfl⟩
  obtain ⟨h2, hh2⟩ : ∃ y : Nat, y = yh % 24 := ⟨_, rfl⟩
  obtain ⟨m2, hm2⟩ : ∃ y : Nat, y = ym % 60 := ⟨_, rfl⟩
  obtain ⟨s2, hs2⟩ : ∃ y : Nat, y = sum % 60 := ⟨_, rfl⟩
  have hqi : (sum : Int) / 86400 = (q : Int) := by omega
  have hyhi : (sum : Int) / 3600 = (yh : Int) := by omega
  have hymi : (sum : Int) / 60 = (ym : Int) := by omega
  have hh2i : (yh : Int) % 24 = (h2 : Int) := by omega
  have hm2i : (ym : Int) % 60 = (m2 : Int) := by omega
  have hs2i : (sum : Int) % 60 = (s2 : Int) := by omega
  have bh2 : (h2 : Int) < 24 := by omega
  have bm2 : (m2 : Int) < 60 := by omega
  have bs2 : (s2 : Int) < 60 := by omega
  have wh2 : IntKind.u16.wrap (h2 : Int) = (h2 : Int) := by rw [IntKind.wrap_u16]; omega
  have wm2 : IntKind.u16.wrap (m2 : Int) = (m2 : Int) := by rw [IntKind.wrap_u16]; omega
  have ws2 : IntKind.u16.wrap (s2 : Int) = (s2 : Int) := by rw [IntKind.wrap_u16]; omega
  obtain ⟨q1, hq1⟩ : ∃ q1 : Nat, q1 = q % 65536 := ⟨_, rfl⟩
  have wq : IntKind.u16.wrap (q : Int) = (q1 : Int) := by rw [IntKind.wrap_u16]; omega
  have hNl : N.data.toList = Lx.pc q 0 ++ (Lx.pc h2 1 ++ (Lx.pc m2 2 ++ Lx.pc s2 3)) := by
    rw [hN]
    show Lx.prnS sum = _
    rw [(Lx.prn_pcs hs0).1, hq, hh2, hyh, hm2, hym, hs2]; rfl
  have HQ := Lib.hid (fun W (E : UEnv W) => part_any q1 (by omega) 0 100 rfl W E)
  have HH := Lib.hid (fun W (E : UEnv W) => part_any h2 (by omega) 1 104 rfl W E)
  have HM := Lib.hid (fun W (E : UEnv W) => part_any m2 (by omega) 2 109 rfl W E)
  have HS := Lib.hid (fun W (E : UEnv W) => part_any s2 (by omega) 3 115 rfl W E)
  obtain ⟨Qa, hQa⟩ : ∃ A : ByteArray, A = ⟨(Lx.pc q1 0).toArray⟩ := ⟨_, rfl⟩
  obtain ⟨Ha, hHa⟩ : ∃ A : ByteArray, A = ⟨(Lx.pc h2 1).toArray⟩ := ⟨_, rfl⟩
  obtain ⟨Ma, hMa⟩ : ∃ A : ByteArray, A = ⟨(Lx.pc m2 2).toArray⟩ := ⟨_, rfl⟩
  obtain ⟨Sa, hSa⟩ : ∃ A : ByteArray, A = ⟨(Lx.pc s2 3).toArray⟩ := ⟨_, rfl⟩
  rw [← hQa] at HQ
  rw [← hHa] at HH
  rw [← hMa] at HM
  rw [← hSa] at HS
  have zQa : Qa.size ≤ 12 := by rw [Lib.size_eq, hQa]; exact Lx.pc_len q1 0 (by omega)
  have zHa : Ha.size ≤ 12 := by rw [Lib.size_eq, hHa]; exact Lx.pc_len h2 1 (by omega)
  have zMa : Ma.size ≤ 12 := by rw [Lib.size_eq, hMa]; exact Lx.pc_len m2 2 (by omega)
  have zSa : Sa.size ≤ 12 := by rw [Lib.size_eq, hSa]; exact Lx.pc_len s2 3 (by omega)
  -- the days' text
  have HG := Lib.hid (fun W (E : UEnv W) => digits_any (q : Int) W (by omega) (by omega) E.env)
  rw [Lx.itoa_pos (by omega), Int.natAbs_natCast] at HG
  obtain ⟨Dq, hDq⟩ : ∃ A : ByteArray, A = ⟨(Lib.decDigits q).toArray⟩ := ⟨_, rfl⟩
  rw [← hDq] at HG
  have zDq : Dq.size ≤ 11 := by rw [Lib.size_eq, hDq]; exact Lx.dd_len q (by omega)
  have hfinA : q ≤ 65535 → Qa ++ (Ha ++ Ma ++ Sa) = N := by
    intro h
    have e : q1 = q := by omega
    apply ByteArray.ext; apply Array.toList_inj.1
    rw [Lx.appT, Lx.appT, Lx.appT, hNl, hQa, hHa, hMa, hSa, e]; simp
  have hfinB : ¬ q ≤ 65535 → Dq ++ ⟨#[100]⟩ ++ (Ha ++ Ma ++ Sa) = N := by
    intro h
    have e : q ≠ 0 := by omega
    apply ByteArray.ext; apply Array.toList_inj.1
    rw [Lx.appT, Lx.appT, Lx.appT, Lx.appT, hNl, hDq, hHa, hMa, hSa, Lx.pc_pos 0 e]; simp [Lx.letr]
  obtain ⟨U, hU⟩ : ∃ U : ByteArray, U = ⟨(Lib.toUpperA T.data.toList).toArray⟩ := ⟨_, rfl⟩
  have HU := Lib.hid (fun W => Tryz.strings_ToUpper_ascii T W (by omega) (by rw [HTl.out]; exact Lx.pcs_ascii a b c d))
  rw [← hU] at HU
  have hUl : U.data.toList = Lib.toUpperA (Lx.pcs a b c d) := by rw [hU, HTl.out]
  have Hbads := Lib.hid (Lx.bads_no T U a b c d HTl.out hne hUl hTs)
  have hsd : ¬ d = 0 → ¬ a = 0 → Lx.BadT (D ++ A) := fun h1 h2 => Lx.badT (by rw [Lx.appT, hHD.out, hHA.out]; exact Lx.pc_two d a 3 0 h1 h2 (by omega) (by omega)) (by rw [ByteArray.size_append]; omega)
  have hmh : ¬ c = 0 → ¬ b = 0 → Lx.BadT (C ++ B) := fun h1 h2 => Lx.badT (by rw [Lx.appT, hHC.out, hHB.out]; exact Lx.pc_two c b 2 1 h1 h2 (by omega) (by omega)) (by rw [ByteArray.size_append]; omega)
  have Hsd := Lib.hid hsd
  have Hmh := Lib.hid hmh
  have HfA := Lib.hid hfinA
  have HfB := Lib.hid hfinB
  have Hzz := Lib.hid hzz
  have k1 : (⟨#[100]⟩ : ByteArray).size = 1 := rfl
  have k2 : (⟨#[48]⟩ : ByteArray).size = 1 := rfl
  have k3 : (⟨#[49]⟩ : ByteArray).size = 1 := rfl
  have k4 : (⟨#[48, 115]⟩ : ByteArray).size = 2 := rfl
  have k5 : (⟨#[32]⟩ : ByteArray).size = 1 := rfl
  have k6 : (⟨#[45]⟩ : ByteArray).size = 1 := rfl
  have hqs : ¬ q ≤ 65535 := by rw [hq, Hsum.out]; exact hqq
  have hqb : (65535 : Int) < (q : Int) := by omega
  have hfin := hfinB hqs
  have ta : 0 < a := by omega
  have td : 0 < d := by omega
  have tb := decide_eq_false (show ¬ 0 < b by omega)
  have tbn : ¬ 0 < b := by omega
  have H_hx := Lib.hid hx
  have H_hy := Lib.hid hy
  have H_hu := Lib.hid hu
  clear hx hy hu
  clear hqs hqq
  clear hne hTp hpar hs0 hN hnrm hq hyh hym hh2 hm2 hs2 hq1 hNl hQa hHa hMa hSa hDq hfinA hfinB hU hUl hsd hmh hzz
  go_enter Tryz.func3, Tryz.ntmps3
  go_wp2_with fail
  refine (HA.out _ env).mono ?_
  rintro e w1 ⟨rfl, b1⟩
  go_wp2_with fail
  refine (HB.out _ (env.below b1)).mono ?_
  rintro e w2 ⟨rfl, c2⟩
  have b2 := b1.trans (c2.mono b1.size)
  clear b1 c2
  go_wp2_with fail
  refine (HC.out _ (env.below b2)).mono ?_
  rintro e w3 ⟨rfl, c3⟩
  have b3 := b2.trans (c3.mono b2.size)
  clear b2 c3
  go_wp2_with fail
  refine (HD.out _ (env.below b3)).mono ?_
  rintro e w4 ⟨rfl, c4⟩
  have b4 := b3.trans (c4.mono b3.size)
  clear b3 c4
  go_wp2_with fail
  refine (H1.out _ (env.below b4)).mono ?_
  rintro e w5 ⟨rfl, c5⟩
  have b5 := b4.trans (c5.mono b4.size)
  clear b4 c5
  go_wp2_with fail
  refine (H2.out _ (env.below b5)).mono ?_
  rintro e w6 ⟨rfl, c6⟩
  have b6 := b5.trans (c6.mono b5.size)
  clear b5 c6
  go_wp2_with fail
  refine (HQ.out _ (env.below b6)).mono ?_
  rintro e w7 ⟨rfl, c7⟩
  have b7 := b6.trans (c7.mono b6.size)
  clear b6 c7
  go_wp2_with fail
  refine (HG.out _ (env.below b7)).mono ?_
  rintro e w70 ⟨rfl, c70⟩
  have b71 := b7.trans (c70.mono b7.size)
  clear b7 c70
  have b7 := b71
  clear b71
  go_wp2_with fail
  refine (HH.out _ (env.below b7)).mono ?_
  rintro e w8 ⟨rfl, c8⟩
  have b8 := b7.trans (c8.mono b7.size)
  clear b7 c8
  go_wp2_with fail
  refine (HM.out _ (env.below b8)).mono ?_
  rintro e w9 ⟨rfl, c9⟩
  have b9 := b8.trans (c9.mono b8.size)
  clear b8 c9
  go_wp2_with fail
  refine (HS.out _ (env.below b9)).mono ?_
  rintro e w10 ⟨rfl, c10⟩
  have b10 := b9.trans (c10.mono b9.size)
  clear b9 c10
  go_wp2_with fail
  clear HA HB HC HD H1 H2 HQ HH HM HS HG HfA HfB hfin hqb hqi hyhi hymi hh2i hm2i hs2i bh2 bm2 bs2 wh2 wm2 ws2 wq hsi hsb hT hTb zQa zHa zMa zSa zDq hHA hHB hHC hHD Hsum HTl k1
  have n1 : ¬ (9223372036854775807 < T.size + T.size) := by omega
  have n2 : ¬ (9223372036854775807 < 1 + T.size) := by omega
  have n3 : ¬ (9223372036854775807 < T.size + 1) := by omega
  have n4 : ¬ (9223372036854775807 < T.size + 2) := by omega
  have n5 : ¬ (9223372036854775807 < 2 + T.size) := by omega
  have nw : IntKind.i64.wrap ((T.size : Int) - 1) = (z : Int) := by rw [IntKind.wrap_i64]; omega
  have nz0 : (0 : Int) ≤ (z : Int) := by omega
  have nwz : IntKind.i64.wrap (z : Int) = (z : Int) := by rw [IntKind.wrap_i64]; omega
  have nz1 : (z : Int) ≤ (T.size : Int) := by omega
  have hsl : ∀ W, (Instr.slice 9 (.string T) none (some (.int .i64 (z : Int))) none).run Tryz.prog W = .ok (.string (T.extract 0 z)) W := by
    intro W
    rw [run_slice_string_to_if (P := Tryz.prog) W 9 T .i64 (z : Int) Tryz.underlying9, Int.toNat_natCast]
    simp [hzT]
  go_region_held3 (fun _ => True) (first | exact trivial) (first | (go_at_call 9; refine (HU.out _).mono ?_; rintro e w11 ⟨rfl, c11⟩))
  have b11 := (b10.trans ((below_drewN w10.heap.size w10 1).mono b10.size)).trans (c11.mono b10.size)
  have hzq := Hzz.out
  have HROW0 := Lib.hid (show (w11.alloc (.cells #[.string (T ++ T), .string (⟨#[48]⟩ ++ T), .string (T ++ ⟨#[49]⟩), .string (T ++ ⟨#[48, 115]⟩), .string (⟨#[32]⟩ ++ T), .string (T ++ ⟨#[32]⟩), .string (T.extract 0 z), .string U, .string (⟨#[45]⟩ ++ T), .string (⟨#[48, 115]⟩ ++ T)] 9)).ownsRow w.heap.size 9 1 (.slice (some ⟨w11.heap.size, 0, none⟩) 10 10) 10 ((Lx.bads T U).map Value.string) from by subst hzq; exact Lx.ownLit w11 w.heap.size b11.size ((Lx.bads T U).map Value.string) 9 (show 10 ≤ maxLen by unfold maxLen; omega))
  have hbelq := b11.alloc b11.size (.cells #[.string (T ++ T), .string (⟨#[48]⟩ ++ T), .string (T ++ ⟨#[49]⟩), .string (T ++ ⟨#[48, 115]⟩), .string (⟨#[32]⟩ ++ T), .string (T ++ ⟨#[32]⟩), .string (T.extract 0 z), .string U, .string (⟨#[45]⟩ ++ T), .string (⟨#[48, 115]⟩ ++ T)] 9)
  obtain ⟨W0, hW0⟩ : ∃ W0, W0 = w11.alloc (.cells #[.string (T ++ T), .string (⟨#[48]⟩ ++ T), .string (T ++ ⟨#[49]⟩), .string (T ++ ⟨#[48, 115]⟩), .string (⟨#[32]⟩ ++ T), .string (T ++ ⟨#[32]⟩), .string (T.extract 0 z), .string U, .string (⟨#[45]⟩ ++ T), .string (⟨#[48, 115]⟩ ++ T)] 9) := ⟨_, rfl⟩
  rw [← hW0] at HROW0 hbelq
  obtain ⟨xs0, hxs0⟩ : ∃ xs, xs = Lx.bads T U := ⟨_, rfl⟩
  rw [← hxs0] at HROW0 Hbads
  have Hrow0 := HROW0
  have Hbad0 := Hbads
  have hbel0 := hbelq
  clear n1 n2 n3 n4 n5 nw nz0 nz1 nwz hsl b10 hT1 hzi HU hzq HROW0 Hbads hbelq c11
  go_upto_region 17 with (fail)
  rw [← hW0]
  clear hW0
  have hl0 : xs0.length = 10 := by rw [hxs0]; rfl
  clear hxs0
  have hbz0 := hbel0.size
  have Hnew0 := Lib.hid (Hsd.out H_hy.out H_hx.out)
  go_wp2_with (at_builtin; refine wpList_append_own _ rfl _ _ 32 rfl w.heap.size 9 i0 _ 1 16 Tryz.underlying32 hi hz0 hz1 hz2 rfl (by decide) _ _ _ rfl (Hrow0.out.alloc _) ⟨W0.heap.size, 0, none⟩ 1 1 [.string (D ++ A)] rfl rfl (Lx.cellNew W0 (.string (D ++ A)) 9) (by simp [Value.oneCell']) (by unfold maxLen; omega) (by omega) (by simp; omega) ?_)
  intro v' W1 hown' hgrow _
  have hbel1 := (hbel0.alloc hbel0.size (.cells #[.string (D ++ A)] 9)).grown hgrow (by simp; omega) (Lx.ownBase Hrow0.out)
  obtain ⟨adr1, cap1, rfl⟩ := Lx.ownSlice hown'
  have Hrow1 := Lib.hid (show W1.ownsRow w.heap.size 9 1 (.slice adr1 11 cap1) 11 ((xs0 ++ [D ++ A]).map Value.string) from by rw [List.map_append]; exact hown')
  have Hbad1 := Lib.hid (show ∀ x ∈ xs0 ++ [D ++ A], Lx.BadT x from by
    intro x hx
    rcases List.mem_append.1 hx with hx | hx
    · exact Hbad0.out x hx
    · rw [List.mem_singleton] at hx; rw [hx]; exact Hnew0.out)
  have hl1 : (xs0 ++ [D ++ A]).length = 11 := by rw [List.length_append, hl0]; rfl
  have hbz1 := hbel1.size
  clear hown' hgrow Hrow0 Hbad0 hbel0 Hnew0 hl0 hbz0
  generalize xs0 ++ [D ++ A] = xs1 at *
  go_wp2_with fail
  go_loopw [187] (fun i wr => ∃ k : Nat, k ≤ 11 ∧ i = .int .i64 k ∧ Below W1.heap.size W1 wr) (fun i _ => 11 - (intOf i).toNat)
  case atStart => exact ⟨0, Nat.zero_le _, rfl, Below.refl _ _⟩
  case round =>
    obtain ⟨k, hk, rfl, hbel⟩ := hrel
    have hbr := hbel1.trans (hbel.mono hbel1.size)
    have envr := env.below hbr
    by_cases hlt : k < 11
    · obtain ⟨g, c', hv9, ltg, hcg⟩ := Lx.ownPos Hrow1.out (by omega)
      cases hv9
      obtain ⟨x, hx9⟩ : ∃ x, xs1[k]? = some x := ⟨_, List.getElem?_eq_getElem (show k < xs1.length by rw [hl1]; exact hlt)⟩
      have r0 := (hbel.cell (p := ⟨_, k, none⟩) ltg).trans (hcg k (.string x) (by rw [List.getElem?_map, hx9]; rfl))
      have HX := Lib.hid (parse_none x (Hbad1.out x (List.mem_of_getElem? hx9)) wr envr)
      have hki : (k : Int) < 11 := by omega
      clear hx9 hcg
      go_wp2_with fail
      refine HX.out.mono ?_
      rintro e w7 ⟨rfl, hb7⟩
      go_wp2_with fail
      go_roundw
      case rel => exact ⟨k + 1, by omega, by go_num, hbel.trans (hb7.mono hbel.size)⟩
      case measure => simp [intOf]; omega
    · obtain rfl : k = 11 := by omega
      have HW := Lib.hid (uworks_any wr envr)
      go_wp2_with fail
      refine HW.out.mono ?_
      rintro e w7 ⟨rfl, hb7⟩
      go_wp2_with fail
      go_ret
      exact ⟨rfl, hbr.trans (hb7.mono hbr.size)⟩

set_option maxRecDepth 100000 in
set_option maxHeartbeats 6400000 in
theorem parts_badc0 (a b c d : Nat) (ha : (a : Int) ≤ 65535) (hb : (b : Int) ≤ 65535) (hc : (c : Int) ≤ 65535) (hd : (d : Int) ≤ 65535) (hne : ¬ Lx.pcs a b c d = []) (hqq : ¬ (a * 86400 + b * 3600 + c * 60 + d) / 86400 ≤ 65535) (hx : ¬ a = 0) (hy : ¬ d = 0) (hu : ¬ b = 0) (hv : c = 0) (w : World) (env : UEnv w) :
    Calls Tryz.prog 3 #[.int .u16 (a : Nat), .int .u16 (b : Nat), .int .u16 (c : Nat), .int .u16 (d : Nat)] w fun e w' => e = .returned (.bool true) ∧ Below w.heap.size w w' := by
  obtain ⟨i0, hi, hz0, hz1, hz2⟩ := info_parts infoS
  have HA := Lib.hid (fun W (E : UEnv W) => part_any a (by omega) 0 100 rfl W E)
  have HB := Lib.hid (fun W (E : UEnv W) => part_any b (by omega) 1 104 rfl W E)
  have HC := Lib.hid (fun W (E : UEnv W) => part_any c (by omega) 2 109 rfl W E)
  have HD := Lib.hid (fun W (E : UEnv W) => part_any d (by omega) 3 115 rfl W E)
  obtain ⟨A, hA⟩ : ∃ A : ByteArray, A = ⟨(Lx.pc a 0).toArray⟩ := ⟨_, rfl⟩
  obtain ⟨B, hB⟩ : ∃ B : ByteArray, B = ⟨(Lx.pc b 1).toArray⟩ := ⟨_, rfl⟩
  obtain ⟨C, hC⟩ : ∃ C : ByteArray, C = ⟨(Lx.pc c 2).toArray⟩ := ⟨_, rfl⟩
  obtain ⟨D, hD⟩ : ∃ D : ByteArray, D = ⟨(Lx.pc d 3).toArray⟩ := ⟨_, rfl⟩
  rw [← hA] at HA
  rw [← hB] at HB
  rw [← hC] at HC
  rw [← hD] at HD
  have hAs : A.size ≤ 12 := by rw [Lib.size_eq, hA]; exact Lx.pc_len a 0 (by omega)
  have hBs : B.size ≤ 12 := by rw [Lib.size_eq, hB]; exact Lx.pc_len b 1 (by omega)
  have hCs : C.size ≤ 12 := by rw [Lib.size_eq, hC]; exact Lx.pc_len c 2 (by omega)
  have hDs : D.size ≤ 12 := by rw [Lib.size_eq, hD]; exact Lx.pc_len d 3 (by omega)
  obtain ⟨T, hT⟩ : ∃ T : ByteArray, A ++ B ++ C ++ D = T := ⟨_, rfl⟩
  have hTl : T.data.toList = Lx.pcs a b c d := by
    rw [← hT, Lx.appT, Lx.appT, Lx.appT, hA, hB, hC, hD]
    unfold Lx.pcs; simp
  have hTs : T.size ≤ 48 := by rw [← hT, ByteArray.size_append, ByteArray.size_append, ByteArray.size_append]; omega
  obtain ⟨sum, hsum⟩ : ∃ sum : Nat, sum = a * 86400 + b * 3600 + c * 60 + d := ⟨_, rfl⟩
  have hsi : (a : Int) * 86400 + (b : Int) * 3600 + (c : Int) * 60 + (d : Int) = (sum : Int) := by omega
  have hsb : (sum : Int) ≤ 5902147635 := by omega
  have hHA := Lib.hid (show A.data.toList = Lx.pc a 0 by rw [hA])
  have hHB := Lib.hid (show B.data.toList = Lx.pc b 1 by rw [hB])
  have hHC := Lib.hid (show C.data.toList = Lx.pc c 2 by rw [hC])
  have hHD := Lib.hid (show D.data.toList = Lx.pc d 3 by rw [hD])
  have Hsum := Lib.hid hsum
  have HTl := Lib.hid hTl
  clear hA hB hC hD hsum hTl
  have hTp : T.size ≠ 0 := by rw [Lib.size_eq, HTl.out]; intro e; exact hne (List.eq_nil_of_length_eq_zero e)
  have hTb : T.toList.isEmpty = false := Lx.strne hTp
  have hT1 : (1 : Int) ≤ (T.size : Int) := by omega
  obtain ⟨z, hzz⟩ : ∃ z : Nat, z = T.size - 1 := ⟨_, rfl⟩
  have hzi : (T.size : Int) - 1 = (z : Int) := by omega
  have hzT : z ≤ T.size := by omega
  -- the sum and its normal text
  have hpar := Lx.in_par (Lx.dur_pcs hne) (by have := Hsum.out; omega)
  rw [← Hsum.out] at hpar
  have H1 := Lib.hid (fun W (E : UEnv W) => parse_any T (by omega) W E)
  rw [HTl.out, hpar.1, hpar.2] at H1
  have hs0 : sum ≠ 0 := by rw [Hsum.out]; exact Lx.pcs_sum0 hne
  obtain ⟨N, hN⟩ : ∃ N : ByteArray, N = ⟨(Lx.prnS sum).toArray⟩ := ⟨_, rfl⟩
  have hnrm : Lx.nrmV (Lx.pcs a b c d) = Lx.prnS sum ∧ Lx.nrmE (Lx.pcs a b c d) = 0 := by
    refine ⟨?_, hpar.2⟩
    unfold Lx.nrmV
    rw [if_pos hpar.2, hpar.1, (Lx.prn_in (d := (sum : Int)) (by omega)).1, Int.toNat_natCast]
  have H2 := Lib.hid (fun W (E : UEnv W) => normal_any T (by omega) W E)
  rw [HTl.out, hnrm.1, hnrm.2, ← hN] at H2
  obtain ⟨q, hq⟩ : ∃ q : Nat, q = sum / 86400 := ⟨_, rfl⟩
  obtain ⟨yh, hyh⟩ : ∃ y : Nat, y = sum / 3600 := ⟨_, rfl⟩
  obtain ⟨ym, hym⟩ : ∃ y : Nat, y = sum / 60 := ⟨_, rfl⟩
  obtain ⟨h2, hh2⟩ : ∃ y : Nat, y = yh % 24 := ⟨_, rfl⟩
  obtain ⟨m2, hm2⟩ : ∃ y : Nat, y = ym % 60 := ⟨_, rfl⟩
  obtain ⟨s2, hs2⟩ : ∃ y : Nat, y = sum % 60 := ⟨_, rfl⟩
  have hqi : (sum : Int) / 86400 = (q : Int) := by omega
  have hyhi : (sum : Int) / 3600 = (yh : Int) := by omega
  have hymi : (sum : Int) / 60 = (ym : Int) := by omega
  have hh2i : (yh : Int) % 24 = (h2 : Int) := by omega
  have hm2i : (ym : Int) % 60 = (m2 : Int) := by omega
  have hs2i : (sum : Int) % 60 = (s2 : Int) := by omega
  have bh2 : (h2 : Int) < 24 := by omega
  have bm2 : (m2 : Int) < 60 := by omega
  have bs2 : (s2 : Int) < 60 := by omega
  have wh2 : IntKind.u16.wrap (h2 : Int) = (h2 : Int) := by rw [IntKind.wrap_u16]; omega
  have wm2 : IntKind.u16.wrap (m2 : Int) = (m2 : Int) := by rw [IntKind.wrap_u16]; omega
  have ws2 : IntKind.u16.wrap (s2 : Int) = (s2 : Int) := by rw [IntKind.wrap_u16]; omega
  obtain ⟨q1, hq1⟩ : ∃ q1 : Nat, q1 = q % 65536 := ⟨_, rfl⟩
  have wq : IntKind.u16.wrap (q : Int) = (q1 : Int) := by rw [IntKind.wrap_u16]; omega
  have hNl : N.data.toList = Lx.pc q 0 ++ (Lx.pc h2 1 ++ (Lx.pc m2 2 ++ Lx.pc s2 3)) := by
    rw [hN]
    show Lx.prnS sum = _
    rw [(Lx.prn_pcs hs0).1, hq, hh2, hyh, hm2, hym, hs2]; rfl
  have HQ := Lib.hid (fun W (E : UEnv W) => part_any q1 (by omega) 0 100 rfl W E)
  have HH := Lib.hid (fun W (E : UEnv W) => part_any h2 (by omega) 1 104 rfl W E)
  have HM := Lib.hid (fun W (E : UEnv W) => part_any m2 (by omega) 2 109 rfl W E)
  have HS := Lib.hid (fun W (E : UEnv W) => part_any s2 (by omega) 3 115 rfl W E)
  obtain ⟨Qa, hQa⟩ : ∃ A : ByteArray, A = ⟨(Lx.pc q1 0).toArray⟩ := ⟨_, rfl⟩
  obtain ⟨Ha, hHa⟩ : ∃ A : ByteArray, A = ⟨(Lx.pc h2 1).toArray⟩ := ⟨_, rfl⟩
  obtain ⟨Ma, hMa⟩ : ∃ A : ByteArray, A = ⟨(Lx.pc m2 2).toArray⟩ := ⟨_, rfl⟩
  obtain ⟨Sa, hSa⟩ : ∃ A : ByteArray, A = ⟨(Lx.pc s2 3).toArray⟩ := ⟨_, rfl⟩
  rw [← hQa] at HQ
  rw [← hHa] at HH
  rw [← hMa] at HM
  rw [← hSa] at HS
  have zQa : Qa.size ≤ 12 := by rw [Lib.size_eq, hQa]; exact Lx.pc_len q1 0 (by omega)
  have zHa : Ha.size ≤ 12 := by rw [Lib.size_eq, hHa]; exact Lx.pc_len h2 1 (by omega)
  have zMa : Ma.size ≤ 12 := by rw [Lib.size_eq, hMa]; exact Lx.pc_len m2 2 (by omega)
  have zSa : Sa.size ≤ 12 := by rw [Lib.size_eq, hSa]; exact Lx.pc_len s2 3 (by omega)
  -- the days' text
  have HG := Lib.hid (fun W (E : UEnv W) => digits_any (q : Int) W (by omega) (by omega) E.env)
  rw [Lx.itoa_pos (by omega), Int.natAbs_natCast] at HG
  obtain ⟨Dq, hDq⟩ : ∃ A : ByteArray, A = ⟨(Lib.decDigits q).toArray⟩ := ⟨_, rfl⟩
  rw [← hDq] at HG
  have zDq : Dq.size ≤ 11 := by rw [Lib.size_eq, hDq]; exact Lx.dd_len q (by omega)
  have hfinA : q ≤ 65535 → Qa ++ (Ha ++ Ma ++ Sa) = N := by
    intro h
    have e : q1 = q := by omega
    apply ByteArray.ext; apply Array.toList_inj.1
    rw [Lx.appT, Lx.appT, Lx.appT, hNl, hQa, hHa, hMa, hSa, e]; simp
  have hfinB : ¬ q ≤ 65535 → Dq ++ ⟨#[100]⟩ ++ (Ha ++ Ma ++ Sa) = N := by
    intro h
    have e : q ≠ 0 := by omega
    apply ByteArray.ext; apply Array.toList_inj.1
    rw [Lx.appT, Lx.appT, Lx.appT, Lx.appT, hNl, hDq, hHa, hMa, hSa, Lx.pc_pos 0 e]; simp [Lx.letr]
  obtain ⟨U, hU⟩ : ∃ U : ByteArray, U = ⟨(Lib.toUpperA T.data.toList).toArray⟩ := ⟨_, rfl⟩
  have HU := Lib.hid (fun W => Tryz.strings_ToUpper_ascii T W (by omega) (by rw [HTl.out]; exact Lx.pcs_ascii a b c d))
  rw [← hU] at HU
  have hUl : U.data.toList = Lib.toUpperA (Lx.pcs a b c d) := by rw [hU, HTl.out]
  have Hbads := Lib.hid (Lx.bads_no T U a b c d HTl.out hne hUl hTs)
  have hsd : ¬ d = 0 → ¬ a = 0 → Lx.BadT (D ++ A) := fun h1 h2 => Lx.badT (by rw [Lx.appT, hHD.out, hHA.out]; exact Lx.pc_two d a 3 0 h1 h2 (by omega) (by omega)) (by rw [ByteArray.size_append]; omega)
  have hmh : ¬ c = 0 → ¬ b = 0 → Lx.BadT (C ++ B) := fun h1 h2 => Lx.badT (by rw [Lx.appT, hHC.out, hHB.out]; exact Lx.pc_two c b 2 1 h1 h2 (by omega) (by omega)) (by rw [ByteArray.size_append]; omega)
  have Hsd := Lib.hid hsd
  have Hmh := Lib.hid hmh
  have HfA := Lib.hid hfinA
  have HfB := Lib.hid hfinB
  have Hzz := Lib.hid hzz
  have k1 : (⟨#[100]⟩ : ByteArray).size = 1 := rfl
  have k2 : (⟨#[48]⟩ : ByteArray).size = 1 := rfl
  have k3 : (⟨#[49]⟩ : ByteArray).size = 1 := rfl
  have k4 : (⟨#[48, 115]⟩ : ByteArray).size = 2 := rfl
  have k5 : (⟨#[32]⟩ : ByteArray).size = 1 := rfl
  have k6 : (⟨#[45]⟩ : ByteArray).size = 1 := rfl
  have hqs : ¬ q ≤ 65535 := by rw [hq, Hsum.out]; exact hqq
  have hqb : (65535 : Int) < (q : Int) := by omega
  have hfin := hfinB hqs
  have ta : 0 < a := by omega
  have td : 0 < d := by omega
  have tb : 0 < b := by omega
  have tc := decide_eq_false (show ¬ 0 < c by omega)
  have tcn : ¬ 0 < c := by omega
  have H_hx := Lib.hid hx
  have H_hy := Lib.hid hy
  have H_hu := Lib.hid hu
  have H_hv := Lib.hid hv
  clear hx hy hu hv
  clear hqs hqq
  clear hne hTp hpar hs0 hN hnrm hq hyh hym hh2 hm2 hs2 hq1 hNl hQa hHa hMa hSa hDq hfinA hfinB hU hUl hsd hmh hzz
  go_enter Tryz.func3, Tryz.ntmps3
  go_wp2_with fail
  refine (HA.out _ env).mono ?_
  rintro e w1 ⟨rfl, b1⟩
  go_wp2_with fail
  refine (HB.out _ (env.below b1)).mono ?_
  rintro e w2 ⟨rfl, c2⟩
  have b2 := b1.trans (c2.mono b1.size)
  clear b1 c2
  go_wp2_with fail
  refine (HC.out _ (env.below b2)).mono ?_
  rintro e w3 ⟨rfl, c3⟩
  have b3 := b2.trans (c3.mono b2.size)
  clear b2 c3
  go_wp2_with fail
  refine (HD.out _ (env.below b3)).mono ?_
  rintro e w4 ⟨rfl, c4⟩
  have b4 := b3.trans (c4.mono b3.size)
  clear b3 c4
  go_wp2_with fail
  refine (H1.out _ (env.below b4)).mono ?_
  rintro e w5 ⟨rfl, c5⟩
  have b5 := b4.trans (c5.mono b4.size)
  clear b4 c5
  go_wp2_with fail
  refine (H2.out _ (env.below b5)).mono ?_
  rintro e w6 ⟨rfl, c6⟩
  have b6 := b5.trans (c6.mono b5.size)
  clear b5 c6
  go_wp2_with fail
  refine (HQ.out _ (env.below b6)).mono ?_
  rintro e w7 ⟨rfl, c7⟩
  have b7 := b6.trans (c7.mono b6.size)
  clear b6 c7
  go_wp2_with fail
  refine (HG.out _ (env.below b7)).mono ?_
  rintro e w70 ⟨rfl, c70⟩
  have b71 := b7.trans (c70.mono b7.size)
  clear b7 c70
  have b7 := b71
  clear b71
  go_wp2_with fail
  refine (HH.out _ (env.below b7)).mono ?_
  rintro e w8 ⟨rfl, c8⟩
  have b8 := b7.trans (c8.mono b7.size)
  clear b7 c8
  go_wp2_with fail
  refine (HM.out _ (env.below b8)).mono ?_
  rintro e w9 ⟨rfl, c9⟩
  have b9 := b8.trans (c9.mono b8.size)
  clear b8 c9
  go_wp2_with fail
  refine (HS.out _ (env.below b9)).mono ?_
  rintro e w10 ⟨rfl, c10⟩
  have b10 := b9.trans (c10.mono b9.size)
  clear b9 c10
  go_wp2_with fail
  clear HA HB HC HD H1 H2 HQ HH HM HS HG HfA HfB hfin hqb hqi hyhi hymi hh2i hm2i hs2i bh2 bm2 bs2 wh2 wm2 ws2 wq hsi hsb hT hTb zQa zHa zMa zSa zDq hHA hHB hHC hHD Hsum HTl k1
  have n1 : ¬ (9223372036854775807 < T.size + T.size) := by omega
  have n2 : ¬ (9223372036854775807 < 1 + T.size) := by omega
  have n3 : ¬ (9223372036854775807 < T.size + 1) := by omega
  have n4 : ¬ (9223372036854775807 < T.size + 2) := by omega
  have n5 : ¬ (9223372036854775807 < 2 + T.size) := by omega
  have nw : IntKind.i64.wrap ((T.size : Int) - 1) = (z : Int) := by rw [IntKind.wrap_i64]; omega
  have nz0 : (0 : Int) ≤ (z : Int) := by omega
  have nwz : IntKind.i64.wrap (z : Int) = (z : Int) := by rw [IntKind.wrap_i64]; omega
  have nz1 : (z : Int) ≤ (T.size : Int) := by omega
  have hsl : ∀ W, (Instr.slice 9 (.string T) none (some (.int .i64 (z : Int))) none).run Tryz.prog W = .ok (.string (T.extract 0 z)) W := by
    intro W
    rw [run_slice_string_to_if (P := Tryz.prog) W 9 T .i64 (z : Int) Tryz.underlying9, Int.toNat_natCast]
    simp [hzT]
  go_region_held3 (fun _ => True) (first | exact trivial) (first | (go_at_call 9; refine (HU.out _).mono ?_; rintro e w11 ⟨rfl, c11⟩))
  have b11 := (b10.trans ((below_drewN w10.heap.size w10 1).mono b10.size)).trans (c11.mono b10.size)
  have hzq := Hzz.out
  have HROW0 := Lib.hid (show (w11.alloc (.cells #[.string (T ++ T), .string (⟨#[48]⟩ ++ T), .string (T ++ ⟨#[49]⟩), .string (T ++ ⟨#[48, 115]⟩), .string (⟨#[32]⟩ ++ T), .string (T ++ ⟨#[32]⟩), .string (T.extract 0 z), .string U, .string (⟨#[45]⟩ ++ T), .string (⟨#[48, 115]⟩ ++ T)] 9)).ownsRow w.heap.size 9 1 (.slice (some ⟨w11.heap.size, 0, none⟩) 10 10) 10 ((Lx.bads T U).map Value.string) from by subst hzq; exact Lx.ownLit w11 w.heap.size b11.size ((Lx.bads T U).map Value.string) 9 (show 10 ≤ maxLen by unfold maxLen; omega))
  have hbelq := b11.alloc b11.size (.cells #[.string (T ++ T), .string (⟨#[48]⟩ ++ T), .string (T ++ ⟨#[49]⟩), .string (T ++ ⟨#[48, 115]⟩), .string (⟨#[32]⟩ ++ T), .string (T ++ ⟨#[32]⟩), .string (T.extract 0 z), .string U, .string (⟨#[45]⟩ ++ T), .string (⟨#[48, 115]⟩ ++ T)] 9)
  obtain ⟨W0, hW0⟩ : ∃ W0, W0 = w11.alloc (.cells #[.string (T ++ T), .string (⟨#[48]⟩ ++ T), .string (T ++ ⟨#[49]⟩), .string (T ++ ⟨#[48, 115]⟩), .string (⟨#[32]⟩ ++ T), .string (T ++ ⟨#[32]⟩), .string (T.extract 0 z), .string U, .string (⟨#[45]⟩ ++ T), .string (⟨#[48, 115]⟩ ++ T)] 9) := ⟨_, rfl⟩
  rw [← hW0] at HROW0 hbelq
  obtain ⟨xs0, hxs0⟩ : ∃ xs, xs = Lx.bads T U := ⟨_, rfl⟩
  rw [← hxs0] at HROW0 Hbads
  have Hrow0 := HROW0
  have Hbad0 := Hbads
  have hbel0 := hbelq
  clear n1 n2 n3 n4 n5 nw nz0 nz1 nwz hsl b10 hT1 hzi HU hzq HROW0 Hbads hbelq c11
  go_upto_region 17 with (fail)
  rw [← hW0]
  clear hW0
  have hl0 : xs0.length = 10 := by rw [hxs0]; rfl
  clear hxs0
  have hbz0 := hbel0.size
  have Hnew0 := Lib.hid (Hsd.out H_hy.out H_hx.out)
  go_wp2_with (at_builtin; refine wpList_append_own _ rfl _ _ 32 rfl w.heap.size 9 i0 _ 1 16 Tryz.underlying32 hi hz0 hz1 hz2 rfl (by decide) _ _ _ rfl (Hrow0.out.alloc _) ⟨W0.heap.size, 0, none⟩ 1 1 [.string (D ++ A)] rfl rfl (Lx.cellNew W0 (.string (D ++ A)) 9) (by simp [Value.oneCell']) (by unfold maxLen; omega) (by omega) (by simp; omega) ?_)
  intro v' W1 hown' hgrow _
  have hbel1 := (hbel0.alloc hbel0.size (.cells #[.string (D ++ A)] 9)).grown hgrow (by simp; omega) (Lx.ownBase Hrow0.out)
  obtain ⟨adr1, cap1, rfl⟩ := Lx.ownSlice hown'
  have Hrow1 := Lib.hid (show W1.ownsRow w.heap.size 9 1 (.slice adr1 11 cap1) 11 ((xs0 ++ [D ++ A]).map Value.string) from by rw [List.map_append]; exact hown')
  have Hbad1 := Lib.hid (show ∀ x ∈ xs0 ++ [D ++ A], Lx.BadT x from by
    intro x hx
    rcases List.mem_append.1 hx with hx | hx
    · exact Hbad0.out x hx
    · rw [List.mem_singleton] at hx; rw [hx]; exact Hnew0.out)
  have hl1 : (xs0 ++ [D ++ A]).length = 11 := by rw [List.length_append, hl0]; rfl
  have hbz1 := hbel1.size
  clear hown' hgrow Hrow0 Hbad0 hbel0 Hnew0 hl0 hbz0
  generalize xs0 ++ [D ++ A] = xs1 at *
  go_wp2_with fail
  go_loopw [187] (fun i wr => ∃ k : Nat, k ≤ 11 ∧ i = .int .i64 k ∧ Below W1.heap.size W1 wr) (fun i _ => 11 - (intOf i).toNat)
  case atStart => exact ⟨0, Nat.zero_le _, rfl, Below.refl _ _⟩
  case round =>
    obtain ⟨k, hk, rfl, hbel⟩ := hrel
    have hbr := hbel1.trans (hbel.mono hbel1.size)
    have envr := env.below hbr
    by_cases hlt : k < 11
    · obtain ⟨g, c', hv9, ltg, hcg⟩ := Lx.ownPos Hrow1.out (by omega)
      cases hv9
      obtain ⟨x, hx9⟩ : ∃ x, xs1[k]? = some x := ⟨_, List.getElem?_eq_getElem (show k < xs1.length by rw [hl1]; exact hlt)⟩
      have r0 := (hbel.cell (p := ⟨_, k, none⟩) ltg).trans (hcg k (.string x) (by rw [List.getElem?_map, hx9]; rfl))
      have HX := Lib.hid (parse_none x (Hbad1.out x (List.mem_of_getElem? hx9)) wr envr)
      have hki : (k : Int) < 11 := by omega
      clear hx9 hcg
      go_wp2_with fail
      refine HX.out.mono ?_
      rintro e w7 ⟨rfl, hb7⟩
      go_wp2_with fail
      go_roundw
      case rel => exact ⟨k + 1, by omega, by go_num, hbel.trans (hb7.mono hbel.size)⟩
      case measure => simp [intOf]; omega
    · obtain rfl : k = 11 := by omega
      have HW := Lib.hid (uworks_any wr envr)
      go_wp2_with fail
      refine HW.out.mono ?_
      rintro e w7 ⟨rfl, hb7⟩
      go_wp2_with fail
      go_ret
      exact ⟨rfl, hbr.trans (hb7.mono hbr.size)⟩

set_option maxRecDepth 100000 in
set_option maxHeartbeats 6400000 in
theorem parts_badbc (a b c d : Nat) (ha : (a : Int) ≤ 65535) (hb : (b : Int) ≤ 65535) (hc : (c : Int) ≤ 65535) (hd : (d : Int) ≤ 65535) (hne : ¬ Lx.pcs a b c d = []) (hqq : ¬ (a * 86400 + b * 3600 + c * 60 + d) / 86400 ≤ 65535) (hx : ¬ a = 0) (hy : ¬ d = 0) (hu : ¬ b = 0) (hv : ¬ c = 0) (w : World) (env : UEnv w) :
    Calls Tryz.prog 3 #[.int .u16 (a : Nat), .int .u16 (b : Nat), .int .u16 (c : Nat), .int .u16 (d : Nat)] w fun e w' => e = .returned (.bool true) ∧ Below w.heap.size w w' := by
  obtain ⟨i0, hi, hz0, hz1, hz2⟩ := info_parts infoS
  have HA := Lib.hid (fun W (E : UEnv W) => part_any a (by omega) 0 100 rfl W E)
  have HB := Lib.hid (fun W (E : UEnv W) => part_any b (by omega) 1 104 rfl W E)
  have HC := Lib.hid (fun W (E : UEnv W) => part_any c (by omega) 2 109 rfl W E)
  have HD := Lib.hid (fun W (E : UEnv W) => part_any d (by omega) 3 115 rfl W E)
  obtain ⟨A, hA⟩ : ∃ A : ByteArray, A = ⟨(Lx.pc a 0).toArray⟩ := ⟨_, rfl⟩
  obtain ⟨B, hB⟩ : ∃ B : ByteArray, B = ⟨(Lx.pc b 1).toArray⟩ := ⟨_, rfl⟩
  obtain ⟨C, hC⟩ : ∃ C : ByteArray, C = ⟨(Lx.pc c 2).toArray⟩ := ⟨_, rfl⟩
  obtain ⟨D, hD⟩ : ∃ D : ByteArray, D = ⟨(Lx.pc d 3).toArray⟩ := ⟨_, rfl⟩
  rw [← hA] at HA
  rw [← hB] at HB
  rw [← hC] at HC
  rw [← hD] at HD
  have hAs : A.size ≤ 12 := by rw [Lib.size_eq, hA]; exact Lx.pc_len a 0 (by omega)
  have hBs : B.size ≤ 12 := by rw [Lib.size_eq, hB]; exact Lx.pc_len b 1 (by omega)
  have hCs : C.size ≤ 12 := by rw [Lib.size_eq, hC]; exact Lx.pc_len c 2 (by omega)
  have hDs : D.size ≤ 12 := by rw [Lib.size_eq, hD]; exact Lx.pc_len d 3 (by omega)
  obtain ⟨T, hT⟩ : ∃ T : ByteArray, A ++ B ++ C ++ D = T := ⟨_, rfl⟩
  have hTl : T.data.toList = Lx.pcs a b c d := by
    rw [← hT, Lx.appT, Lx.appT, Lx.appT, hA, hB, hC, hD]
    unfold Lx.pcs; simp
  have hTs : T.size ≤ 48 := by rw [← hT, ByteArray.size_append, ByteArray.size_append, ByteArray.size_append]; omega
  obtain ⟨sum, hsum⟩ : ∃ sum : Nat, sum = a * 86400 + b * 3600 + c * 60 + d := ⟨_, rfl⟩
  have hsi : (a : Int) * 86400 + (b : Int) * 3600 + (c : Int) * 60 + (d : Int) = (sum : Int) := by omega
  have hsb : (sum : Int) ≤ 5902147635 := by omega
  have hHA := Lib.hid (show A.data.toList = Lx.pc a 0 by rw [hA])
  have hHB := Lib.hid (show B.data.toList = Lx.pc b 1 by rw [hB])
  have hHC := Lib.hid (show C.data.toList = Lx.pc c 2 by rw [hC])
  have hHD := Lib.hid (show D.data.toList = Lx.pc d 3 by rw [hD])
  have Hsum := Lib.hid hsum
  have HTl := Lib.hid hTl
  clear hA hB hC hD hsum hTl
  have hTp : T.size ≠ 0 := by rw [Lib.size_eq, HTl.out]; intro e; exact hne (List.eq_nil_of_length_eq_zero e)
  have hTb : T.toList.isEmpty = false := Lx.strne hTp
  have hT1 : (1 : Int) ≤ (T.size : Int) := by omega
  obtain ⟨z, hzz⟩ : ∃ z : Nat, z = T.size - 1 := ⟨_, rfl⟩
  have hzi : (T.size : Int) - 1 = (z : Int) := by omega
  have hzT : z ≤ T.size := by omega
  -- the sum and its normal text
  have hpar := Lx.in_par (Lx.dur_pcs hne) (by have := Hsum.out; omega)
  rw [← Hsum.out] at hpar
  have H1 := Lib.hid (fun W (E : UEnv W) => parse_any T (by omega) W E)
  rw [HTl.out, hpar.1, hpar.2] at H1
  have hs0 : sum ≠ 0 := by rw [Hsum.out]; exact Lx.pcs_sum0 hne
  obtain ⟨N, hN⟩ : ∃ N : ByteArray, N = ⟨(Lx.prnS sum).toArray⟩ := ⟨_, rfl⟩
  have hnrm : Lx.nrmV (Lx.pcs a b c d) = Lx.prnS sum ∧ Lx.nrmE (Lx.pcs a b c d) = 0 := by
    refine ⟨?_, hpar.2⟩
    unfold Lx.nrmV
    rw [if_pos hpar.2, hpar.1, (Lx.prn_in (d := (sum : Int)) (by omega)).1, Int.toNat_natCast]
  have H2 := Lib.hid (fun W (E : UEnv W) => normal_any T (by omega) W E)
  rw [HTl.out, hnrm.1, hnrm.2, ← hN] at H2
  obtain ⟨q, hq⟩ : ∃ q : Nat, q = sum / 86400 := ⟨_, rfl⟩
  obtain ⟨yh, hyh⟩ : ∃ y : Nat, y = sum / 3600 := ⟨_, rfl⟩
  obtain ⟨ym, hym⟩ : ∃ y : Nat, y = sum / 60 := ⟨_, rfl⟩
  obtain ⟨h2, hh2⟩ : ∃ y : Nat, y = yh % 24 := ⟨_, rfl⟩
  obtain ⟨m2, hm2⟩ : ∃ y : Nat, y = ym % 60 := ⟨_, rfl⟩
  obtain ⟨s2, hs2⟩ : ∃ y : Nat, y = sum % 60 := ⟨_, rfl⟩
  have hqi : (sum : Int) / 86400 = (q : Int) := by omega
  have hyhi : (sum : Int) / 3600 = (yh : Int) := by omega
  have hymi : (sum : Int) / 60 = (ym : Int) := by omega
  have hh2i : (yh : Int) % 24 = (h2 : Int) := by omega
  have hm2i : (ym : Int) % 60 = (m2 : Int) := by omega
  have hs2i : (sum : Int) % 60 = (s2 : Int) := by omega
  have bh2 : (h2 : Int) < 24 := by omega
  have bm2 : (m2 : Int) < 60 := by omega
  have bs2 : (s2 : Int) < 60 := by omega
  have wh2 : IntKind.u16.wrap (h2 : Int) = (h2 : Int) := by rw [IntKind.wrap_u16]; omega
  have wm2 : IntKind.u16.wrap (m2 : Int) = (m2 : Int) := by rw [IntKind.wrap_u16]; omega
  have ws2 : IntKind.u16.wrap (s2 : Int) = (s2 : Int) := by rw [IntKind.wrap_u16]; omega
  obtain ⟨q1, hq1⟩ : ∃ q1 : Nat, q1 = q % 65536 := ⟨_, rfl⟩
  have wq : IntKind.u16.wrap (q : Int) = (q1 : Int) := by rw [IntKind.wrap_u16]; omega
  have hNl : N.data.toList = Lx.pc q 0 ++ (Lx.pc h2 1 ++ (Lx.pc m2 2 ++ Lx.pc s2 3)) := by
    rw [hN]
    show Lx.prnS sum = _
    rw [(Lx.prn_pcs hs0).1, hq, hh2, hyh, hm2, hym, hs2]; rfl
  have HQ := Lib.hid (fun W (E : UEnv W) => part_any q1 (by omega) 0 100 rfl W E)
  have HH := Lib.hid (fun W (E : UEnv W) => part_any h2 (by omega) 1 104 rfl W E)
  have HM := Lib.hid (fun W (E : UEnv W) => part_any m2 (by omega) 2 109 rfl W E)
  have HS := Lib.hid (fun W (E : UEnv W) => part_any s2 (by omega) 3 115 rfl W E)
  obtain ⟨Qa, hQa⟩ : ∃ A : ByteArray, A = ⟨(Lx.pc q1 0).toArray⟩ := ⟨_, rfl⟩
  obtain ⟨Ha, hHa⟩ : ∃ A : ByteArray, A = ⟨(Lx.pc h2 1).toArray⟩ := ⟨_, rfl⟩
  obtain ⟨Ma, hMa⟩ : ∃ A : ByteArray, A = ⟨(Lx.pc m2 2).toArray⟩ := ⟨_, rfl⟩
  obtain ⟨Sa, hSa⟩ : ∃ A : ByteArray, A = ⟨(Lx.pc s2 3).toArray⟩ := ⟨_, rfl⟩
  rw [← hQa] at HQ
  rw [← hHa] at HH
  rw [← hMa] at HM
  rw [← hSa] at HS
  have zQa : Qa.size ≤ 12 := by rw [Lib.size_eq, hQa]; exact Lx.pc_len q1 0 (by omega)
  have zHa : Ha.size ≤ 12 := by rw [Lib.size_eq, hHa]; exact Lx.pc_len h2 1 (by omega)
  have zMa : Ma.size ≤ 12 := by rw [Lib.size_eq, hMa]; exact Lx.pc_len m2 2 (by omega)
  have zSa : Sa.size ≤ 12 := by rw [Lib.size_eq, hSa]; exact Lx.pc_len s2 3 (by omega)
  -- the days' text
  have HG := Lib.hid (fun W (E : UEnv W) => digits_any (q : Int) W (by omega) (by omega) E.env)
  rw [Lx.itoa_pos (by omega), Int.natAbs_natCast] at HG
  obtain ⟨Dq, hDq⟩ : ∃ A : ByteArray, A = ⟨(Lib.decDigits q).toArray⟩ := ⟨_, rfl⟩
  rw [← hDq] at HG
  have zDq : Dq.size ≤ 11 := by rw [Lib.size_eq, hDq]; exact Lx.dd_len q (by omega)
  have hfinA : q ≤ 65535 → Qa ++ (Ha ++ Ma ++ Sa) = N := by
    intro h
    have e : q1 = q := by omega
    apply ByteArray.ext; apply Array.toList_inj.1
    rw [Lx.appT, Lx.appT, Lx.appT, hNl, hQa, hHa, hMa, hSa, e]; simp
  have hfinB : ¬ q ≤ 65535 → Dq ++ ⟨#[100]⟩ ++ (Ha ++ Ma ++ Sa) = N := by
    intro h
    have e : q ≠ 0 := by omega
    apply ByteArray.ext; apply Array.toList_inj.1
    rw [Lx.appT, Lx.appT, Lx.appT, Lx.appT, hNl, hDq, hHa, hMa, hSa, Lx.pc_pos 0 e]; simp [Lx.letr]
  obtain ⟨U, hU⟩ : ∃ U : ByteArray, U = ⟨(Lib.toUpperA T.data.toList).toArray⟩ := ⟨_, rfl⟩
  have HU := Lib.hid (fun W => Tryz.strings_ToUpper_ascii T W (by omega) (by rw [HTl.out]; exact Lx.pcs_ascii a b c d))
  rw [← hU] at HU
  have hUl : U.data.toList = Lib.toUpperA (Lx.pcs a b c d) := by rw [hU, HTl.out]
  have Hbads := Lib.hid (Lx.bads_no T U a b c d HTl.out hne hUl hTs)
  have hsd : ¬ d = 0 → ¬ a = 0 → Lx.BadT (D ++ A) := fun h1 h2 => Lx.badT (by rw [Lx.appT, hHD.out, hHA.out]; exact Lx.pc_two d a 3 0 h1 h2 (by omega) (by omega)) (by rw [ByteArray.size_append]; omega)
  have hmh : ¬ c = 0 → ¬ b = 0 → Lx.BadT (C ++ B) := fun h1 h2 => Lx.badT (by rw [Lx.appT, hHC.out, hHB.out]; exact Lx.pc_two c b 2 1 h1 h2 (by omega) (by omega)) (by rw [ByteArray.size_append]; omega)
  have Hsd := Lib.hid hsd
  have Hmh := Lib.hid hmh
  have HfA := Lib.hid hfinA
  have HfB := Lib.hid hfinB
  have Hzz := Lib.hid hzz
  have k1 : (⟨#[100]⟩ : ByteArray).size = 1 := rfl
  have k2 : (⟨#[48]⟩ : ByteArray).size = 1 := rfl
  have k3 : (⟨#[49]⟩ : ByteArray).size = 1 := rfl
  have k4 : (⟨#[48, 115]⟩ : ByteArray).size = 2 := rfl
  have k5 : (⟨#[32]⟩ : ByteArray).size = 1 := rfl
  have k6 : (⟨#[45]⟩ : ByteArray).size = 1 := rfl
  have hqs : ¬ q ≤ 65535 := by rw [hq, Hsum.out]; exact hqq
  have hqb : (65535 : Int) < (q : Int) := by omega
  have hfin := hfinB hqs
  have ta : 0 < a := by omega
  have td : 0 < d := by omega
  have tb : 0 < b := by omega
  have tc : 0 < c := by omega
  have H_hx := Lib.hid hx
  have H_hy := Lib.hid hy
  have H_hu := Lib.hid hu
  have H_hv := Lib.hid hv
  clear hx hy hu hv
  clear hqs hqq
  clear hne hTp hpar hs0 hN hnrm hq hyh hym hh2 hm2 hs2 hq1 hNl hQa hHa hMa hSa hDq hfinA hfinB hU hUl hsd hmh hzz
  go_enter Tryz.func3, Tryz.ntmps3
  go_wp2_with fail
  refine (HA.out _ env).mono ?_
  rintro e w1 ⟨rfl, b1⟩
  go_wp2_with fail
  refine (HB.out _ (env.below b1)).mono ?_
  rintro e w2 ⟨rfl, c2⟩
  have b2 := b1.trans (c2.mono b1.size)
  clear b1 c2
  go_wp2_with fail
  refine (HC.out _ (env.below b2)).mono ?_
  rintro e w3 ⟨rfl, c3⟩
  have b3 := b2.trans (c3.mono b2.size)
  clear b2 c3
  go_wp2_with fail
  refine (HD.out _ (env.below b3)).mono ?_
  rintro e w4 ⟨rfl, c4⟩
  have b4 := b3.trans (c4.mono b3.size)
  clear b3 c4
  go_wp2_with fail
  refine (H1.out _ (env.below b4)).mono ?_
  rintro e w5 ⟨rfl, c5⟩
  have b5 := b4.trans (c5.mono b4.size)
  clear b4 c5
  go_wp2_with fail
  refine (H2.out _ (env.below b5)).mono ?_
  rintro e w6 ⟨rfl, c6⟩
  have b6 := b5.trans (c6.mono b5.size)
  clear b5 c6
  go_wp2_with fail
  refine (HQ.out _ (env.below b6)).mono ?_
  rintro e w7 ⟨rfl, c7⟩
  have b7 := b6.trans (c7.mono b6.size)
  clear b6 c7
  go_wp2_with fail
  refine (HG.out _ (env.below b7)).mono ?_
  rintro e w70 ⟨rfl, c70⟩
  have b71 := b7.trans (c70.mono b7.size)
  clear b7 c70
  have b7 := b71
  clear b71
  go_wp2_with fail
  refine (HH.out _ (env.below b7)).mono ?_
  rintro e w8 ⟨rfl, c8⟩
  have b8 := b7.trans (c8.mono b7.size)
  clear b7 c8
  go_wp2_with fail
  refine (HM.out _ (env.below b8)).mono ?_
  rintro e w9 ⟨rfl, c9⟩
  have b9 := b8.trans (c9.mono b8.size)
  clear b8 c9
  go_wp2_with fail
  refine (HS.out _ (env.below b9)).mono ?_
  rintro e w10 ⟨rfl, c10⟩
  have b10 := b9.trans (c10.mono b9.size)
  clear b9 c10
  go_wp2_with fail
  clear HA HB HC HD H1 H2 HQ HH HM HS HG HfA HfB hfin hqb hqi hyhi hymi hh2i hm2i hs2i bh2 bm2 bs2 wh2 wm2 ws2 wq hsi hsb hT hTb zQa zHa zMa zSa zDq hHA hHB hHC hHD Hsum HTl k1
  have n1 : ¬ (9223372036854775807 < T.size + T.size) := by omega
  have n2 : ¬ (9223372036854775807 < 1 + T.size) := by omega
  have n3 : ¬ (9223372036854775807 < T.size + 1) := by omega
  have n4 : ¬ (9223372036854775807 < T.size + 2) := by omega
  have n5 : ¬ (9223372036854775807 < 2 + T.size) := by omega
  have nw : IntKind.i64.wrap ((T.size : Int) - 1) = (z : Int) := by rw [IntKind.wrap_i64]; omega
  have nz0 : (0 : Int) ≤ (z : Int) := by omega
  have nwz : IntKind.i64.wrap (z : Int) = (z : Int) := by rw [IntKind.wrap_i64]; omega
  have nz1 : (z : Int) ≤ (T.size : Int) := by omega
  have hsl : ∀ W, (Instr.slice 9 (.string T) none (some (.int .i64 (z : Int))) none).run Tryz.prog W = .ok (.string (T.extract 0 z)) W := by
    intro W
    rw [run_slice_string_to_if (P := Tryz.prog) W 9 T .i64 (z : Int) Tryz.underlying9, Int.toNat_natCast]
    simp [hzT]
  go_region_held3 (fun _ => True) (first | exact trivial) (first | (go_at_call 9; refine (HU.out _).mono ?_; rintro e w11 ⟨rfl, c11⟩))
  have b11 := (b10.trans ((below_drewN w10.heap.size w10 1).mono b10.size)).trans (c11.mono b10.size)
  have hzq := Hzz.out
  have HROW0 := Lib.hid (show (w11.alloc (.cells #[.string (T ++ T), .string (⟨#[48]⟩ ++ T), .string (T ++ ⟨#[49]⟩), .string (T ++ ⟨#[48, 115]⟩), .string (⟨#[32]⟩ ++ T), .string (T ++ ⟨#[32]⟩), .string (T.extract 0 z), .string U, .string (⟨#[45]⟩ ++ T), .string (⟨#[48, 115]⟩ ++ T)] 9)).ownsRow w.heap.size 9 1 (.slice (some ⟨w11.heap.size, 0, none⟩) 10 10) 10 ((Lx.bads T U).map Value.string) from by subst hzq; exact Lx.ownLit w11 w.heap.size b11.size ((Lx.bads T U).map Value.string) 9 (show 10 ≤ maxLen by unfold maxLen; omega))
  have hbelq := b11.alloc b11.size (.cells #[.string (T ++ T), .string (⟨#[48]⟩ ++ T), .string (T ++ ⟨#[49]⟩), .string (T ++ ⟨#[48, 115]⟩), .string (⟨#[32]⟩ ++ T), .string (T ++ ⟨#[32]⟩), .string (T.extract 0 z), .string U, .string (⟨#[45]⟩ ++ T), .string (⟨#[48, 115]⟩ ++ T)] 9)
  obtain ⟨W0, hW0⟩ : ∃ W0, W0 = w11.alloc (.cells #[.string (T ++ T), .string (⟨#[48]⟩ ++ T), .string (T ++ ⟨#[49]⟩), .string (T ++ ⟨#[48, 115]⟩), .string (⟨#[32]⟩ ++ T), .string (T ++ ⟨#[32]⟩), .string (T.extract 0 z), .string U, .string (⟨#[45]⟩ ++ T), .string (⟨#[48, 115]⟩ ++ T)] 9) := ⟨_, rfl⟩
  rw [← hW0] at HROW0 hbelq
  obtain ⟨xs0, hxs0⟩ : ∃ xs, xs = Lx.bads T U := ⟨_, rfl⟩
  rw [← hxs0] at HROW0 Hbads
  have Hrow0 := HROW0
  have Hbad0 := Hbads
  have hbel0 := hbelq
  clear n1 n2 n3 n4 n5 nw nz0 nz1 nwz hsl b10 hT1 hzi HU hzq HROW0 Hbads hbelq c11
  go_upto_region 17 with (fail)
  rw [← hW0]
  clear hW0
  have hl0 : xs0.length = 10 := by rw [hxs0]; rfl
  clear hxs0
  have hbz0 := hbel0.size
  have Hnew0 := Lib.hid (Hsd.out H_hy.out H_hx.out)
  go_wp2_with (at_builtin; refine wpList_append_own _ rfl _ _ 32 rfl w.heap.size 9 i0 _ 1 16 Tryz.underlying32 hi hz0 hz1 hz2 rfl (by decide) _ _ _ rfl (Hrow0.out.alloc _) ⟨W0.heap.size, 0, none⟩ 1 1 [.string (D ++ A)] rfl rfl (Lx.cellNew W0 (.string (D ++ A)) 9) (by simp [Value.oneCell']) (by unfold maxLen; omega) (by omega) (by simp; omega) ?_)
  intro v' W1 hown' hgrow _
  have hbel1 := (hbel0.alloc hbel0.size (.cells #[.string (D ++ A)] 9)).grown hgrow (by simp; omega) (Lx.ownBase Hrow0.out)
  obtain ⟨adr1, cap1, rfl⟩ := Lx.ownSlice hown'
  have Hrow1 := Lib.hid (show W1.ownsRow w.heap.size 9 1 (.slice adr1 11 cap1) 11 ((xs0 ++ [D ++ A]).map Value.string) from by rw [List.map_append]; exact hown')
  have Hbad1 := Lib.hid (show ∀ x ∈ xs0 ++ [D ++ A], Lx.BadT x from by
    intro x hx
    rcases List.mem_append.1 hx with hx | hx
    · exact Hbad0.out x hx
    · rw [List.mem_singleton] at hx; rw [hx]; exact Hnew0.out)
  have hl1 : (xs0 ++ [D ++ A]).length = 11 := by rw [List.length_append, hl0]; rfl
  have hbz1 := hbel1.size
  clear hown' hgrow Hrow0 Hbad0 hbel0 Hnew0 hl0 hbz0
  generalize xs0 ++ [D ++ A] = xs1 at *
  have Hnew1 := Lib.hid (Hmh.out H_hv.out H_hu.out)
  go_wp2_with (at_builtin; refine wpList_append_own _ rfl _ _ 32 rfl w.heap.size 9 i0 _ 1 16 Tryz.underlying32 hi hz0 hz1 hz2 rfl (by decide) _ _ _ rfl (Hrow1.out.alloc _) ⟨W1.heap.size, 0, none⟩ 1 1 [.string (C ++ B)] rfl rfl (Lx.cellNew W1 (.string (C ++ B)) 9) (by simp [Value.oneCell']) (by unfold maxLen; omega) (by omega) (by simp; omega) ?_)
  intro v' W2 hown' hgrow _
  have hbel2 := (hbel1.alloc hbel1.size (.cells #[.string (C ++ B)] 9)).grown hgrow (by simp; omega) (Lx.ownBase Hrow1.out)
  obtain ⟨adr2, cap2, rfl⟩ := Lx.ownSlice hown'
  have Hrow2 := Lib.hid (show W2.ownsRow w.heap.size 9 1 (.slice adr2 12 cap2) 12 ((xs1 ++ [C ++ B]).map Value.string) from by rw [List.map_append]; exact hown')
  have Hbad2 := Lib.hid (show ∀ x ∈ xs1 ++ [C ++ B], Lx.BadT x from by
    intro x hx
    rcases List.mem_append.1 hx with hx | hx
    · exact Hbad1.out x hx
    · rw [List.mem_singleton] at hx; rw [hx]; exact Hnew1.out)
  have hl2 : (xs1 ++ [C ++ B]).length = 12 := by rw [List.length_append, hl1]; rfl
  have hbz2 := hbel2.size
  clear hown' hgrow Hrow1 Hbad1 hbel1 Hnew1 hl1 hbz1
  generalize xs1 ++ [C ++ B] = xs2 at *
  go_wp2_with fail
  go_loopw [187] (fun i wr => ∃ k : Nat, k ≤ 12 ∧ i = .int .i64 k ∧ Below W2.heap.size W2 wr) (fun i _ => 12 - (intOf i).toNat)
  case atStart => exact ⟨0, Nat.zero_le _, rfl, Below.refl _ _⟩
  case round =>
    obtain ⟨k, hk, rfl, hbel⟩ := hrel
    have hbr := hbel2.trans (hbel.mono hbel2.size)
    have envr := env.below hbr
    by_cases hlt : k < 12
    · obtain ⟨g, c', hv9, ltg, hcg⟩ := Lx.ownPos Hrow2.out (by omega)
      cases hv9
      obtain ⟨x, hx9⟩ : ∃ x, xs2[k]? = some x := ⟨_, List.getElem?_eq_getElem (show k < xs2.length by rw [hl2]; exact hlt)⟩
      have r0 := (hbel.cell (p := ⟨_, k, none⟩) ltg).trans (hcg k (.string x) (by rw [List.getElem?_map, hx9]; rfl))
      have HX := Lib.hid (parse_none x (Hbad2.out x (List.mem_of_getElem? hx9)) wr envr)
      have hki : (k : Int) < 12 := by omega
      clear hx9 hcg
      go_wp2_with fail
      refine HX.out.mono ?_
      rintro e w7 ⟨rfl, hb7⟩
      go_wp2_with fail
      go_roundw
      case rel => exact ⟨k + 1, by omega, by go_num, hbel.trans (hb7.mono hbel.size)⟩
      case measure => simp [intOf]; omega
    · obtain rfl : k = 12 := by omega
      have HW := Lib.hid (uworks_any wr envr)
      go_wp2_with fail
      refine HW.out.mono ?_
      rintro e w7 ⟨rfl, hb7⟩
      go_wp2_with fail
      go_ret
      exact ⟨rfl, hbr.trans (hb7.mono hbr.size)⟩
end Go.Proofs.YtelacmgfpcmmjaaGreatDoor
