/- PolicyChecks: for every policy the law returns true; what the call was given reads as before. Conditions: the eight listed variables lie as the program lays them. -/
import Derived.Test.YtdpjcbijddgpgaaGreatDoorUnFrame
import Derived.Test.YtdpjcbijddgpgaaGreatDoorPoM8
import Derived.Test.YtdpjcbijddgpgaaGreatDoorPoKy
import Derived.Test.YtdpjcbijddgpgaaGreatDoorQM1
import Derived.SevenTiedAt
namespace Go.Proofs.YtdpjcbijddgpgaaGreatDoor.lawPolicyChecks
open Go.ChangeShapes Go.WideShapes Go.ChangeAt Go.RowKit
theorem Lx.KeyRow.of {w : World} {A : Nat} (h : ∀ j : Nat, j < 8 → w.cell? ⟨A, j, none⟩ = some (.string ⟨(Lx.keyW j).toArray⟩)) : Lx.KeyRow w A := h
set_option maxRecDepth 100000 in
theorem psame_any (A B c d : Nat) (w : World) (hA : A < w.heap.size) (hB : B < w.heap.size) (h1 : Lx.KeyRow w A) (h2 : Lx.KeyRow w B) :
    Calls Tryz.prog 28 #[.slice (some ⟨A, 0, none⟩) 8 c, .slice (some ⟨B, 0, none⟩) 8 d] w fun e w' => e = .returned (.bool true) ∧ Below w.heap.size w w' := by
  have H1 := Lib.hid h1
  have H2 := Lib.hid h2
  clear h1 h2
  go_enter Tryz.func28, Tryz.ntmps28
  go_wp2_with fail
  go_loopw [5] (fun i wr => ∃ k : Nat, k ≤ 8 ∧ i = .int .i64 k ∧ Below w.heap.size w wr) (fun i _ => 8 - (intOf i).toNat)
  case atStart => exact ⟨0, Nat.zero_le _, rfl, Below.refl _ _⟩
  case round =>
    obtain ⟨k, hk, rfl, hb⟩ := hrel
    by_cases hlt : k < 8
    · have hki : (k : Int) < 8 := by omega
      obtain ⟨T, hT⟩ : ∃ T : ByteArray, T = ⟨(Lx.keyW k).toArray⟩ := ⟨_, rfl⟩
      have q1 := (hb.cell (p := ⟨A, k, none⟩) hA).trans (H1.out k hlt)
      have q2 := (hb.cell (p := ⟨B, k, none⟩) hB).trans (H2.out k hlt)
      rw [← hT] at q1 q2
      have Hb := Lib.hid hb
      have hTT : (T.toList == T.toList) = true := by rw [beq_iff_eq]
      clear hT hb
      go_upto_region 6 with (fail)
      go_quiet (fail)
      go_wp2_with fail
      go_roundw
      case rel => exact ⟨k + 1, by omega, by go_num, Hb.out.trans (below_drewN _ _ _)⟩
      case measure => simp [intOf]; omega
    · obtain rfl : k = 8 := by omega
      have Hb := Lib.hid hb
      clear hb
      go_wp2_with fail
      go_ret
      exact ⟨rfl, Hb.out⟩
set_option maxRecDepth 100000 in
set_option maxHeartbeats 6400000 in
theorem walk (p : Lx.PolV) (w : World) (env : UEnv w) :
    Calls Tryz.prog 8 #[p.val] w fun e w' => e = .returned (.bool true) ∧ Below w.heap.size w w' := by
  have HW := Lib.hid (fun W (E : UEnv W) => pworks_any W E)
  have E0 := Lib.hid env
  have hgl := env.env.lt
  obtain ⟨W0, hW0⟩ : ∃ W0, W0 = w.alloc (.cells p.cells.toArray 29) := ⟨_, rfl⟩
  obtain ⟨g, hg⟩ : ∃ g, g = w.heap.size := ⟨_, rfl⟩
  have S0 := Lib.hid (show Lx.PSt g W0 W0 p from by rw [hg, hW0]; exact Lx.PSt.new w hgl p)
  have B0 := Lib.hid (show Below w.heap.size w W0 from by rw [hW0]; exact (Below.refl _ w).alloc (Nat.le_refl _) _)
  have HP1 := fun W (E : UEnv W) => polPrint_any p W E
  have HP2 := fun W => q14print_any p W
  have HS1 := fun W => span_any p W
  have HS2 := fun W => q14spanp_any p W
  have HC1 := fun W => polCheck_any p W
  have HC2 := fun W => q14check_any p W
  have HL1 := fun W => checkLimit_any p.lt p.lu W
  have HL2 := fun W => q14lim_any p.lt p.lu W
  generalize Lx.limErr p.lt p.lu = le at HL1 HL2
  generalize (⟨(Lx.prS p).toArray⟩ : ByteArray) = T at HP1 HP2
  generalize Lx.spanV p = sv at HS1 HS2
  generalize Lx.polE p = x at HP1 HP2 HS1 HS2 HC1 HC2
  obtain ⟨P, hP⟩ : ∃ P, P = p := ⟨_, rfl⟩
  rw [← hP] at S0 HP1 HP2 HS1 HS2
  obtain ⟨cap, pri, spl, dl, mis, keep, lt, lu, bf, bo, bp, rm, rb, rc, rj⟩ := p
  unfold Lx.PolV.cells at hW0
  dsimp only at hW0 HL1 HL2
  have HPP := Lib.hid hP
  have HP1 := Lib.hid HP1
  have HP2 := Lib.hid HP2
  have HS1 := Lib.hid HS1
  have HS2 := Lib.hid HS2
  have HC1 := Lib.hid (show ∀ W, Calls Tryz.prog 19 #[.agg #[.int .i64 cap, .int .i64 pri, .int .i64 spl, .int .i64 dl, .int .i64 mis, .int .i64 keep, .int .i64 lt, .int .i64 lu, .int .i64 bf, .int .i64 bo, .int .i64 bp, .int .i64 rm, .int .i64 rb, .int .i64 rc, .int .i64 rj]] W fun e w' => e = .returned (.int .i64 x) ∧ Below W.heap.size W w' from HC1)
  have HC2 := Lib.hid (show ∀ W, Calls Tryz.prog 23 #[.agg #[.int .i64 cap, .int .i64 pri, .int .i64 spl, .int .i64 dl, .int .i64 mis, .int .i64 keep, .int .i64 lt, .int .i64 lu, .int .i64 bf, .int .i64 bo, .int .i64 bp, .int .i64 rm, .int .i64 rb, .int .i64 rc, .int .i64 rj]] W fun e w' => e = .returned (.int .i64 x) ∧ Below W.heap.size W w' from HC2)
  have HL1 := Lib.hid HL1
  have HL2 := Lib.hid HL2
  have HD1 := Lib.hid (show ∀ W, Calls Tryz.prog 26 #[] W fun e w' => e = .returned (.agg #[.int .i64 1, .int .i64 50, .int .i64 0, .int .i64 3600, .int .i64 0, .int .i64 0, .int .i64 0, .int .i64 0, .int .i64 0, .int .i64 0, .int .i64 0, .int .i64 0, .int .i64 0, .int .i64 0, .int .i64 0]) ∧ Below W.heap.size W w' from fun W => default_any W)
  have HD2 := Lib.hid (show ∀ W, Calls Tryz.prog 27 #[] W fun e w' => e = .returned (.agg #[.int .i64 1, .int .i64 50, .int .i64 0, .int .i64 3600, .int .i64 0, .int .i64 0, .int .i64 0, .int .i64 0, .int .i64 0, .int .i64 0, .int .i64 0, .int .i64 0, .int .i64 0, .int .i64 0, .int .i64 0]) ∧ Below W.heap.size W w' from fun W => q14default_any W)
  have HK1 := Lib.hid (fun W => polKeys_any W)
  have HK2 := Lib.hid (fun W => q14keys_any W)
  have HeqD := Lib.hid (show ∀ W, (Op.equalIn 10000 29 (.agg #[.int .i64 1, .int .i64 50, .int .i64 0, .int .i64 3600, .int .i64 0, .int .i64 0, .int .i64 0, .int .i64 0, .int .i64 0, .int .i64 0, .int .i64 0, .int .i64 0, .int .i64 0, .int .i64 0, .int .i64 0]) (.agg #[.int .i64 1, .int .i64 50, .int .i64 0, .int .i64 3600, .int .i64 0, .int .i64 0, .int .i64 0, .int .i64 0, .int .i64 0, .int .i64 0, .int .i64 0, .int .i64 0, .int .i64 0, .int .i64 0, .int .i64 0])).run Tryz.prog W = .ok true W from fun W => eqPol_self Lx.polD W)
  have hTT : (T.toList == T.toList) = true := by rw [beq_iff_eq]
  clear hP env
  show Calls Tryz.prog 8 #[.agg #[.int .i64 cap, .int .i64 pri, .int .i64 spl, .int .i64 dl, .int .i64 mis, .int .i64 keep, .int .i64 lt, .int .i64 lu, .int .i64 bf, .int .i64 bo, .int .i64 bp, .int .i64 rm, .int .i64 rb, .int .i64 rc, .int .i64 rj]] w _
  go_enter Tryz.func8, Tryz.ntmps8
  go_upto_region 1 with (fail)
  rw [show (w.alloc (.cells #[.int .i64 cap, .int .i64 pri, .int .i64 spl, .int .i64 dl, .int .i64 mis, .int .i64 keep, .int .i64 lt, .int .i64 lu, .int .i64 bf, .int .i64 bo, .int .i64 bp, .int .i64 rm, .int .i64 rb, .int .i64 rc, .int .i64 rj] 29)) = W0 from hW0.symm, ← hg]
  clear hW0 hg
  go_wp2_with ((with_reducible show wpList _ _ _ _ _ _); refine' Lx.wpList_get _ rfl _ rfl g rfl ?_ ?_; any_goals (with_reducible exact S0.out))
  refine (HP1.out _ (E0.out.below B0.out)).mono ?_
  rintro e w1 ⟨rfl, c1⟩
  have S1 := Lib.hid (S0.out.low c1)
  have B1 := Lib.hid (B0.out.trans (c1.mono B0.out.size))
  clear c1 S0 B0
  go_wp2_with ((with_reducible show wpList _ _ _ _ _ _); refine' Lx.wpList_get _ rfl _ rfl g rfl ?_ ?_; any_goals (with_reducible exact S1.out))
  refine (HP2.out _).mono ?_
  rintro e w2 ⟨rfl, c2⟩
  have S2 := Lib.hid (S1.out.low c2)
  have B2 := Lib.hid (B1.out.trans (c2.mono B1.out.size))
  clear c2 S1 B1
  go_wp2_with ((with_reducible show wpList _ _ _ _ _ _); refine' Lx.wpList_get _ rfl _ rfl g rfl ?_ ?_; any_goals (with_reducible exact S2.out))
  refine (HS1.out _).mono ?_
  rintro e w3 ⟨rfl, c3⟩
  have S3 := Lib.hid (S2.out.low c3)
  have B3 := Lib.hid (B2.out.trans (c3.mono B2.out.size))
  clear c3 S2 B2
  go_wp2_with ((with_reducible show wpList _ _ _ _ _ _); refine' Lx.wpList_get _ rfl _ rfl g rfl ?_ ?_; any_goals (with_reducible exact S3.out))
  refine (HS2.out _).mono ?_
  rintro e W4 ⟨rfl, c4⟩
  have S4 := Lib.hid (S3.out.low c4)
  have B4 := Lib.hid (B3.out.trans (c4.mono B3.out.size))
  clear c4 S3 B3
  have HSS := Lib.hid (show ∀ wx, Below W4.heap.size W4 wx → Below W4.heap.size W4 wx ∧ wx.cell? ⟨g, 0, none⟩ = some (.int .i64 cap) ∧ wx.cell? ⟨g, 1, none⟩ = some (.int .i64 pri) ∧ wx.cell? ⟨g, 2, none⟩ = some (.int .i64 spl) ∧ wx.cell? ⟨g, 3, none⟩ = some (.int .i64 dl) ∧ wx.cell? ⟨g, 4, none⟩ = some (.int .i64 mis) ∧ wx.cell? ⟨g, 5, none⟩ = some (.int .i64 keep) ∧ wx.cell? ⟨g, 6, none⟩ = some (.int .i64 lt) ∧ wx.cell? ⟨g, 7, none⟩ = some (.int .i64 lu) ∧ wx.cell? ⟨g, 8, none⟩ = some (.int .i64 bf) ∧ wx.cell? ⟨g, 9, none⟩ = some (.int .i64 bo) ∧ wx.cell? ⟨g, 10, none⟩ = some (.int .i64 bp) ∧ wx.cell? ⟨g, 11, none⟩ = some (.int .i64 rm) ∧ wx.cell? ⟨g, 12, none⟩ = some (.int .i64 rb) ∧ wx.cell? ⟨g, 13, none⟩ = some (.int .i64 rc) ∧ wx.cell? ⟨g, 14, none⟩ = some (.int .i64 rj) from fun wx b => ⟨b, (b.cell (p := ⟨g, 0, none⟩) S4.out.size).trans (S4.out.cell 0 _ (by rw [HPP.out]; rfl)), (b.cell (p := ⟨g, 1, none⟩) S4.out.size).trans (S4.out.cell 1 _ (by rw [HPP.out]; rfl)), (b.cell (p := ⟨g, 2, none⟩) S4.out.size).trans (S4.out.cell 2 _ (by rw [HPP.out]; rfl)), (b.cell (p := ⟨g, 3, none⟩) S4.out.size).trans (S4.out.cell 3 _ (by rw [HPP.out]; rfl)), (b.cell (p := ⟨g, 4, none⟩) S4.out.size).trans (S4.out.cell 4 _ (by rw [HPP.out]; rfl)), (b.cell (p := ⟨g, 5, none⟩) S4.out.size).trans (S4.out.cell 5 _ (by rw [HPP.out]; rfl)), (b.cell (p := ⟨g, 6, none⟩) S4.out.size).trans (S4.out.cell 6 _ (by rw [HPP.out]; rfl)), (b.cell (p := ⟨g, 7, none⟩) S4.out.size).trans (S4.out.cell 7 _ (by rw [HPP.out]; rfl)), (b.cell (p := ⟨g, 8, none⟩) S4.out.size).trans (S4.out.cell 8 _ (by rw [HPP.out]; rfl)), (b.cell (p := ⟨g, 9, none⟩) S4.out.size).trans (S4.out.cell 9 _ (by rw [HPP.out]; rfl)), (b.cell (p := ⟨g, 10, none⟩) S4.out.size).trans (S4.out.cell 10 _ (by rw [HPP.out]; rfl)), (b.cell (p := ⟨g, 11, none⟩) S4.out.size).trans (S4.out.cell 11 _ (by rw [HPP.out]; rfl)), (b.cell (p := ⟨g, 12, none⟩) S4.out.size).trans (S4.out.cell 12 _ (by rw [HPP.out]; rfl)), (b.cell (p := ⟨g, 13, none⟩) S4.out.size).trans (S4.out.cell 13 _ (by rw [HPP.out]; rfl)), (b.cell (p := ⟨g, 14, none⟩) S4.out.size).trans (S4.out.cell 14 _ (by rw [HPP.out]; rfl))⟩)
  have hS0 := HSS.out W4.drew (Below.refl _ W4).drew
  go_upto_region 5 with (fail)
  refine wp_region_held_drew (S := (fun wx => Below W4.heap.size W4 wx ∧ wx.cell? ⟨g, 0, none⟩ = some (.int .i64 cap) ∧ wx.cell? ⟨g, 1, none⟩ = some (.int .i64 pri) ∧ wx.cell? ⟨g, 2, none⟩ = some (.int .i64 spl) ∧ wx.cell? ⟨g, 3, none⟩ = some (.int .i64 dl) ∧ wx.cell? ⟨g, 4, none⟩ = some (.int .i64 mis) ∧ wx.cell? ⟨g, 5, none⟩ = some (.int .i64 keep) ∧ wx.cell? ⟨g, 6, none⟩ = some (.int .i64 lt) ∧ wx.cell? ⟨g, 7, none⟩ = some (.int .i64 lu) ∧ wx.cell? ⟨g, 8, none⟩ = some (.int .i64 bf) ∧ wx.cell? ⟨g, 9, none⟩ = some (.int .i64 bo) ∧ wx.cell? ⟨g, 10, none⟩ = some (.int .i64 bp) ∧ wx.cell? ⟨g, 11, none⟩ = some (.int .i64 rm) ∧ wx.cell? ⟨g, 12, none⟩ = some (.int .i64 rb) ∧ wx.cell? ⟨g, 13, none⟩ = some (.int .i64 rc) ∧ wx.cell? ⟨g, 14, none⟩ = some (.int .i64 rj))) (by kernel_rfl) ?_ (fun hHeld => ?_)
  · exact hS0
  refine' wpAnyH_take (i := 0) (oi := _) (v := _) ?hi0r1 (by kernel_rfl) (by kernel_rfl) (by kernel_rfl) ?hq0r1 ?hy0r1 (by assumption) ?re0r1
  case hi0r1 => simp only [List.getElem?_toArray, List.getElem?_cons_zero]; rfl
  case hq0r1 => exact fun _ _ _ h => h
  case hy0r1 =>
    refine Or.inl ⟨by rfl, ?_⟩
    intro w hSw; (try dsimp only at hSw); go_simp; try with_reducible rfl
  try simp only [Act.put, List.setIfInBounds_toArray, List.set_cons_zero, List.set_cons_succ]
  refine' wpAnyH_take (i := 1) (oi := _) (v := _) ?hi1r1 (by kernel_rfl) (by kernel_rfl) (by kernel_rfl) ?hq1r1 ?hy1r1 (by assumption) ?re1r1
  case hi1r1 => simp only [List.getElem?_toArray, List.getElem?_cons_succ, List.getElem?_cons_zero]; rfl
  case hq1r1 => exact fun _ _ _ h => h
  case hy1r1 =>
    refine Or.inl ⟨by rfl, ?_⟩
    intro w hSw; (try dsimp only at hSw); go_simp; try with_reducible rfl
  try simp only [Act.put, List.setIfInBounds_toArray, List.set_cons_zero, List.set_cons_succ]
  refine' wpAnyH_take (i := 2) (oi := _) (v := .bool false) ?hi2r1 (by kernel_rfl) (by kernel_rfl) (by kernel_rfl) ?hq2r1 ?hy2r1 (by assumption) ?re2r1
  case hi2r1 => simp only [List.getElem?_toArray, List.getElem?_cons_succ, List.getElem?_cons_zero]; rfl
  case hq2r1 => exact fun _ _ _ h => h
  case hy2r1 =>
    refine Or.inl ⟨by rfl, ?_⟩
    intro w hSw; (try dsimp only at hSw); go_simp; try with_reducible rfl
  try simp only [Act.put, List.setIfInBounds_toArray, List.set_cons_zero, List.set_cons_succ]
  refine' wpAnyH_take (i := 3) (oi := _) (v := _) ?hi3r1 (by kernel_rfl) (by kernel_rfl) (by kernel_rfl) ?hq3r1 ?hy3r1 (by assumption) ?re3r1
  case hi3r1 => simp only [List.getElem?_toArray, List.getElem?_cons_succ, List.getElem?_cons_zero]; rfl
  case hq3r1 => exact fun _ _ _ h => h
  case hy3r1 =>
    refine Or.inl ⟨by rfl, ?_⟩
    intro w hSw; (try dsimp only at hSw); go_simp; try with_reducible rfl
  try simp only [Act.put, List.setIfInBounds_toArray, List.set_cons_zero, List.set_cons_succ]
  refine' wpAnyH_take (i := 4) (oi := _) (v := _) ?hi4r1 (by kernel_rfl) (by kernel_rfl) (by kernel_rfl) ?hq4r1 ?hy4r1 (by assumption) ?re4r1
  case hi4r1 => simp only [List.getElem?_toArray, List.getElem?_cons_succ, List.getElem?_cons_zero]; rfl
  case hq4r1 => exact fun _ _ _ h => h
  case hy4r1 =>
    refine Or.inl ⟨by rfl, ?_⟩
    intro w hSw; (try dsimp only at hSw); go_simp; try with_reducible rfl
  try simp only [Act.put, List.setIfInBounds_toArray, List.set_cons_zero, List.set_cons_succ]
  refine' wpAnyH_take (i := 5) (oi := _) (v := _) ?hi5r1 (by kernel_rfl) (by kernel_rfl) (by kernel_rfl) ?hq5r1 ?hy5r1 (by assumption) ?re5r1
  case hi5r1 => simp only [List.getElem?_toArray, List.getElem?_cons_succ, List.getElem?_cons_zero]; rfl
  case hq5r1 => exact fun _ _ _ h => h
  case hy5r1 =>
    refine Or.inl ⟨by rfl, ?_⟩
    intro w hSw; (try dsimp only at hSw); go_simp; try with_reducible rfl
  try simp only [Act.put, List.setIfInBounds_toArray, List.set_cons_zero, List.set_cons_succ]
  refine' wpAnyH_take (i := 6) (oi := _) (v := .bool false) ?hi6r1 (by kernel_rfl) (by kernel_rfl) (by kernel_rfl) ?hq6r1 ?hy6r1 (by assumption) ?re6r1
  case hi6r1 => simp only [List.getElem?_toArray, List.getElem?_cons_succ, List.getElem?_cons_zero]; rfl
  case hq6r1 => exact fun _ _ _ h => h
  case hy6r1 =>
    refine Or.inl ⟨by rfl, ?_⟩
    intro w hSw; (try dsimp only at hSw); go_simp; try with_reducible rfl
  try simp only [Act.put, List.setIfInBounds_toArray, List.set_cons_zero, List.set_cons_succ]
  refine' wpAnyH_take (i := 7) (oi := _) (v := .bool false) ?hi7r1 (by kernel_rfl) (by kernel_rfl) (by kernel_rfl) ?hq7r1 ?hy7r1 (by assumption) ?re7r1
  case hi7r1 => simp only [List.getElem?_toArray, List.getElem?_cons_succ, List.getElem?_cons_zero]; rfl
  case hq7r1 => exact fun _ _ _ h => h
  case hy7r1 =>
    refine Or.inl ⟨by rfl, ?_⟩
    intro w hSw; (try dsimp only at hSw); go_simp; try with_reducible rfl
  try simp only [Act.put, List.setIfInBounds_toArray, List.set_cons_zero, List.set_cons_succ]
  refine' wpAnyH_take (i := 8) (oi := _) (v := _) ?hi8r1 (by kernel_rfl) (by kernel_rfl) (by kernel_rfl) ?hq8r1 ?hy8r1 (by assumption) ?re8r1
  case hi8r1 => simp only [List.getElem?_toArray, List.getElem?_cons_succ, List.getElem?_cons_zero]; rfl
  case hq8r1 => exact fun _ _ _ h => h
  case hy8r1 =>
    refine Or.inl ⟨by rfl, ?_⟩
    intro w hSw; (try dsimp only at hSw); go_simp; try with_reducible rfl
  try simp only [Act.put, List.setIfInBounds_toArray, List.set_cons_zero, List.set_cons_succ]
  refine' wpAnyH_take (i := 9) (oi := _) (v := _) ?hi9r1 (by kernel_rfl) (by kernel_rfl) (by kernel_rfl) ?hq9r1 ?hy9r1 (by assumption) ?re9r1
  case hi9r1 => simp only [List.getElem?_toArray, List.getElem?_cons_succ, List.getElem?_cons_zero]; rfl
  case hq9r1 => exact fun _ _ _ h => h
  case hy9r1 =>
    refine Or.inl ⟨by rfl, ?_⟩
    intro w hSw; (try dsimp only at hSw); go_simp; try with_reducible rfl
  try simp only [Act.put, List.setIfInBounds_toArray, List.set_cons_zero, List.set_cons_succ]
  refine' wpAnyH_take (i := 10) (oi := _) (v := _) ?hi10r1 (by kernel_rfl) (by kernel_rfl) (by kernel_rfl) ?hq10r1 ?hy10r1 (by assumption) ?re10r1
  case hi10r1 => simp only [List.getElem?_toArray, List.getElem?_cons_succ, List.getElem?_cons_zero]; rfl
  case hq10r1 => exact fun _ _ _ h => h
  case hy10r1 =>
    refine Or.inl ⟨by rfl, ?_⟩
    intro w hSw; (try dsimp only at hSw); go_simp; try with_reducible rfl
  try simp only [Act.put, List.setIfInBounds_toArray, List.set_cons_zero, List.set_cons_succ]
  refine' wpAnyH_take (i := 11) (oi := _) (v := .bool false) ?hi11r1 (by kernel_rfl) (by kernel_rfl) (by kernel_rfl) ?hq11r1 ?hy11r1 (by assumption) ?re11r1
  case hi11r1 => simp only [List.getElem?_toArray, List.getElem?_cons_succ, List.getElem?_cons_zero]; rfl
  case hq11r1 => exact fun _ _ _ h => h
  case hy11r1 =>
    refine Or.inl ⟨by rfl, ?_⟩
    intro w hSw; (try dsimp only at hSw); go_simp; try with_reducible rfl
  try simp only [Act.put, List.setIfInBounds_toArray, List.set_cons_zero, List.set_cons_succ]
  refine' wpAnyH_take (i := 12) (oi := _) (v := .bool false) ?hi12r1 (by kernel_rfl) (by kernel_rfl) (by kernel_rfl) ?hq12r1 ?hy12r1 (by assumption) ?re12r1
  case hi12r1 => simp only [List.getElem?_toArray, List.getElem?_cons_succ, List.getElem?_cons_zero]; rfl
  case hq12r1 => exact fun _ _ _ h => h
  case hy12r1 =>
    refine Or.inl ⟨by rfl, ?_⟩
    intro w hSw; (try dsimp only at hSw); go_simp; try with_reducible rfl
  try simp only [Act.put, List.setIfInBounds_toArray, List.set_cons_zero, List.set_cons_succ]
  refine' wpAnyH_take (i := 13) (oi := _) (v := _) ?hi13r1 (by kernel_rfl) (by kernel_rfl) (by kernel_rfl) ?hq13r1 ?hy13r1 (by assumption) ?re13r1
  case hi13r1 => simp only [List.getElem?_toArray, List.getElem?_cons_succ, List.getElem?_cons_zero]; rfl
  case hq13r1 => exact fun _ _ _ h => h
  case hy13r1 =>
    refine Or.inl ⟨by rfl, ?_⟩
    intro w hSw; (try dsimp only at hSw); go_simp; try with_reducible rfl
  try simp only [Act.put, List.setIfInBounds_toArray, List.set_cons_zero, List.set_cons_succ]
  refine' wpAnyH_take (i := 14) (oi := _) (v := _) ?hi14r1 (by kernel_rfl) (by kernel_rfl) (by kernel_rfl) ?hq14r1 ?hy14r1 (by assumption) ?re14r1
  case hi14r1 => simp only [List.getElem?_toArray, List.getElem?_cons_succ, List.getElem?_cons_zero]; rfl
  case hq14r1 => exact fun _ _ _ h => h
  case hy14r1 =>
    refine Or.inl ⟨by rfl, ?_⟩
    intro w hSw; (try dsimp only at hSw); go_simp; try with_reducible rfl
  try simp only [Act.put, List.setIfInBounds_toArray, List.set_cons_zero, List.set_cons_succ]
  refine' wpAnyH_take (i := 15) (oi := _) (v := _) ?hi15r1 (by kernel_rfl) (by kernel_rfl) (by kernel_rfl) ?hq15r1 ?hy15r1 (by assumption) ?re15r1
  case hi15r1 => simp only [List.getElem?_toArray, List.getElem?_cons_succ, List.getElem?_cons_zero]; rfl
  case hq15r1 => exact fun _ _ _ h => h
  case hy15r1 =>
    refine Or.inl ⟨by rfl, ?_⟩
    intro w hSw; (try dsimp only at hSw); go_simp; try with_reducible rfl
  try simp only [Act.put, List.setIfInBounds_toArray, List.set_cons_zero, List.set_cons_succ]
  refine' wpAnyH_take (i := 16) (oi := _) (v := .bool false) ?hi16r1 (by kernel_rfl) (by kernel_rfl) (by kernel_rfl) ?hq16r1 ?hy16r1 (by assumption) ?re16r1
  case hi16r1 => simp only [List.getElem?_toArray, List.getElem?_cons_succ, List.getElem?_cons_zero]; rfl
  case hq16r1 => exact fun _ _ _ h => h
  case hy16r1 =>
    refine Or.inl ⟨by rfl, ?_⟩
    intro w hSw; (try dsimp only at hSw); go_simp; try with_reducible rfl
  try simp only [Act.put, List.setIfInBounds_toArray, List.set_cons_zero, List.set_cons_succ]
  refine' wpAnyH_take (i := 17) (oi := _) (v := .bool false) ?hi17r1 (by kernel_rfl) (by kernel_rfl) (by kernel_rfl) ?hq17r1 ?hy17r1 (by assumption) ?re17r1
  case hi17r1 => simp only [List.getElem?_toArray, List.getElem?_cons_succ, List.getElem?_cons_zero]; rfl
  case hq17r1 => exact fun _ _ _ h => h
  case hy17r1 =>
    refine Or.inl ⟨by rfl, ?_⟩
    intro w hSw; (try dsimp only at hSw); go_simp; try with_reducible rfl
  try simp only [Act.put, List.setIfInBounds_toArray, List.set_cons_zero, List.set_cons_succ]
  refine' wpAnyH_take (i := 18) (oi := _) (v := _) ?hi18r1 (by kernel_rfl) (by kernel_rfl) (by kernel_rfl) ?hq18r1 ?hy18r1 (by assumption) ?re18r1
  case hi18r1 => simp only [List.getElem?_toArray, List.getElem?_cons_succ, List.getElem?_cons_zero]; rfl
  case hq18r1 => exact fun _ _ _ h => h
  case hy18r1 =>
    refine Or.inl ⟨by rfl, ?_⟩
    intro w hSw; (try dsimp only at hSw); go_simp; try with_reducible rfl
  try simp only [Act.put, List.setIfInBounds_toArray, List.set_cons_zero, List.set_cons_succ]
  refine' wpAnyH_take (i := 19) (oi := _) (v := _) ?hi19r1 (by kernel_rfl) (by kernel_rfl) (by kernel_rfl) ?hq19r1 ?hy19r1 (by assumption) ?re19r1
  case hi19r1 => simp only [List.getElem?_toArray, List.getElem?_cons_succ, List.getElem?_cons_zero]; rfl
  case hq19r1 => exact fun _ _ _ h => h
  case hy19r1 =>
    refine Or.inl ⟨by rfl, ?_⟩
    intro w hSw; (try dsimp only at hSw); go_simp; try with_reducible rfl
  try simp only [Act.put, List.setIfInBounds_toArray, List.set_cons_zero, List.set_cons_succ]
  refine' wpAnyH_take (i := 21) (oi := _) (v := _) ?hi21r1 (by kernel_rfl) (by kernel_rfl) (by kernel_rfl) ?hq21r1 ?hy21r1 (by assumption) ?re21r1
  case hi21r1 => simp only [List.getElem?_toArray, List.getElem?_cons_succ, List.getElem?_cons_zero]; rfl
  case hq21r1 => exact fun _ _ _ h => h
  case hy21r1 =>
    refine Or.inl ⟨by rfl, ?_⟩
    intro w hSw; (try dsimp only at hSw); go_simp; try with_reducible rfl
  try simp only [Act.put, List.setIfInBounds_toArray, List.set_cons_zero, List.set_cons_succ]
  refine wpAnyH_ready (rs := [20]) (by kernel_rfl) (by simp) ?_
  refine' AllReadyH.cons (o := _) ?hi20r1 (fun K hK => ?st20r1) AllReadyH.nil
  case hi20r1 => simp only [List.getElem?_toArray, List.getElem?_cons_succ, List.getElem?_cons_zero]; rfl
  go_simp
  go_at_call 19; refine (HC1.out _).mono ?_; rintro e w8 ⟨rfl, c8⟩; have k8 := HSS.out _ (hHeld.1.trans (c8.mono hHeld.1.size)); clear c8
  try go_wp2_with fail
  refine hK.out _ _ ?_ (fun hHeld => ?_)
  · exact k8
  clear hK K
  try simp only [Act.put, List.setIfInBounds_toArray, List.set_cons_zero, List.set_cons_succ]
  refine wpAnyH_ready (rs := [22]) (by kernel_rfl) (by simp) ?_
  refine' AllReadyH.cons (o := _) ?hi22r1 (fun K hK => ?st22r1) AllReadyH.nil
  case hi22r1 => simp only [List.getElem?_toArray, List.getElem?_cons_succ, List.getElem?_cons_zero]; rfl
  go_simp
  go_at_call 23; refine (HC2.out _).mono ?_; rintro e w8 ⟨rfl, c8⟩; have k8 := HSS.out _ (hHeld.1.trans (c8.mono hHeld.1.size)); clear c8
  try go_wp2_with fail
  refine hK.out _ _ ?_ (fun hHeld => ?_)
  · exact k8
  clear hK K
  try simp only [Act.put, List.setIfInBounds_toArray, List.set_cons_zero, List.set_cons_succ]
  refine' wpAnyH_take (i := 23) (oi := _) (v := .bool false) ?hi23r1 (by kernel_rfl) (by kernel_rfl) (by kernel_rfl) ?hq23r1 ?hy23r1 (by assumption) ?re23r1
  case hi23r1 => simp only [List.getElem?_toArray, List.getElem?_cons_succ, List.getElem?_cons_zero]; rfl
  case hq23r1 => exact fun _ _ _ h => h
  case hy23r1 =>
    refine Or.inl ⟨by rfl, ?_⟩
    intro w hSw; (try dsimp only at hSw); go_simp; try with_reducible rfl
  try simp only [Act.put, List.setIfInBounds_toArray, List.set_cons_zero, List.set_cons_succ]
  refine' wpAnyH_take (i := 24) (oi := _) (v := .bool false) ?hi24r1 (by kernel_rfl) (by kernel_rfl) (by kernel_rfl) ?hq24r1 ?hy24r1 (by assumption) ?re24r1
  case hi24r1 => simp only [List.getElem?_toArray, List.getElem?_cons_succ, List.getElem?_cons_zero]; rfl
  case hq24r1 => exact fun _ _ _ h => h
  case hy24r1 =>
    refine Or.inl ⟨by rfl, ?_⟩
    intro w hSw; (try dsimp only at hSw); go_simp; try with_reducible rfl
  try simp only [Act.put, List.setIfInBounds_toArray, List.set_cons_zero, List.set_cons_succ]
  refine' wpAnyH_take (i := 25) (oi := _) (v := _) ?hi25r1 (by kernel_rfl) (by kernel_rfl) (by kernel_rfl) ?hq25r1 ?hy25r1 (by assumption) ?re25r1
  case hi25r1 => simp only [List.getElem?_toArray, List.getElem?_cons_succ, List.getElem?_cons_zero]; rfl
  case hq25r1 => exact fun _ _ _ h => h
  case hy25r1 =>
    refine Or.inl ⟨by rfl, ?_⟩
    intro w hSw; (try dsimp only at hSw); go_simp; try with_reducible rfl
  try simp only [Act.put, List.setIfInBounds_toArray, List.set_cons_zero, List.set_cons_succ]
  refine' wpAnyH_take (i := 26) (oi := _) (v := _) ?hi26r1 (by kernel_rfl) (by kernel_rfl) (by kernel_rfl) ?hq26r1 ?hy26r1 (by assumption) ?re26r1
  case hi26r1 => simp only [List.getElem?_toArray, List.getElem?_cons_succ, List.getElem?_cons_zero]; rfl
  case hq26r1 => exact fun _ _ _ h => h
  case hy26r1 =>
    refine Or.inl ⟨by rfl, ?_⟩
    intro w hSw; (try dsimp only at hSw); go_simp; try with_reducible rfl
  try simp only [Act.put, List.setIfInBounds_toArray, List.set_cons_zero, List.set_cons_succ]
  refine' wpAnyH_take (i := 27) (oi := _) (v := _) ?hi27r1 (by kernel_rfl) (by kernel_rfl) (by kernel_rfl) ?hq27r1 ?hy27r1 (by assumption) ?re27r1
  case hi27r1 => simp only [List.getElem?_toArray, List.getElem?_cons_succ, List.getElem?_cons_zero]; rfl
  case hq27r1 => exact fun _ _ _ h => h
  case hy27r1 =>
    refine Or.inl ⟨by rfl, ?_⟩
    intro w hSw; (try dsimp only at hSw); go_simp; try with_reducible rfl
  try simp only [Act.put, List.setIfInBounds_toArray, List.set_cons_zero, List.set_cons_succ]
  refine' wpAnyH_take (i := 29) (oi := _) (v := _) ?hi29r1 (by kernel_rfl) (by kernel_rfl) (by kernel_rfl) ?hq29r1 ?hy29r1 (by assumption) ?re29r1
  case hi29r1 => simp only [List.getElem?_toArray, List.getElem?_cons_succ, List.getElem?_cons_zero]; rfl
  case hq29r1 => exact fun _ _ _ h => h
  case hy29r1 =>
    refine Or.inl ⟨by rfl, ?_⟩
    intro w hSw; (try dsimp only at hSw); go_simp; try with_reducible rfl
  try simp only [Act.put, List.setIfInBounds_toArray, List.set_cons_zero, List.set_cons_succ]
  refine' wpAnyH_take (i := 30) (oi := _) (v := _) ?hi30r1 (by kernel_rfl) (by kernel_rfl) (by kernel_rfl) ?hq30r1 ?hy30r1 (by assumption) ?re30r1
  case hi30r1 => simp only [List.getElem?_toArray, List.getElem?_cons_succ, List.getElem?_cons_zero]; rfl
  case hq30r1 => exact fun _ _ _ h => h
  case hy30r1 =>
    refine Or.inl ⟨by rfl, ?_⟩
    intro w hSw; (try dsimp only at hSw); go_simp; try with_reducible rfl
  try simp only [Act.put, List.setIfInBounds_toArray, List.set_cons_zero, List.set_cons_succ]
  refine wpAnyH_ready (rs := [28]) (by kernel_rfl) (by simp) ?_
  refine' AllReadyH.cons (o := _) ?hi28r1 (fun K hK => ?st28r1) AllReadyH.nil
  case hi28r1 => simp only [List.getElem?_toArray, List.getElem?_cons_succ, List.getElem?_cons_zero]; rfl
  go_simp
  go_at_call 24; refine (HL1.out _).mono ?_; rintro e w8 ⟨rfl, c8⟩; have k8 := HSS.out _ (hHeld.1.trans (c8.mono hHeld.1.size)); clear c8
  try go_wp2_with fail
  refine hK.out _ _ ?_ (fun hHeld => ?_)
  · exact k8
  clear hK K
  try simp only [Act.put, List.setIfInBounds_toArray, List.set_cons_zero, List.set_cons_succ]
  refine wpAnyH_ready (rs := [31]) (by kernel_rfl) (by simp) ?_
  refine' AllReadyH.cons (o := _) ?hi31r1 (fun K hK => ?st31r1) AllReadyH.nil
  case hi31r1 => simp only [List.getElem?_toArray, List.getElem?_cons_succ, List.getElem?_cons_zero]; rfl
  go_simp
  go_at_call 25; refine (HL2.out _).mono ?_; rintro e w8 ⟨rfl, c8⟩; have k8 := HSS.out _ (hHeld.1.trans (c8.mono hHeld.1.size)); clear c8
  try go_wp2_with fail
  refine hK.out _ _ ?_ (fun hHeld => ?_)
  · exact k8
  clear hK K
  try simp only [Act.put, List.setIfInBounds_toArray, List.set_cons_zero, List.set_cons_succ]
  refine' wpAnyH_take (i := 32) (oi := _) (v := .bool false) ?hi32r1 (by kernel_rfl) (by kernel_rfl) (by kernel_rfl) ?hq32r1 ?hy32r1 (by assumption) ?re32r1
  case hi32r1 => simp only [List.getElem?_toArray, List.getElem?_cons_succ, List.getElem?_cons_zero]; rfl
  case hq32r1 => exact fun _ _ _ h => h
  case hy32r1 =>
    refine Or.inl ⟨by rfl, ?_⟩
    intro w hSw; (try dsimp only at hSw); go_simp; try with_reducible rfl
  try simp only [Act.put, List.setIfInBounds_toArray, List.set_cons_zero, List.set_cons_succ]
  refine' wpAnyH_take (i := 33) (oi := _) (v := .bool false) ?hi33r1 (by kernel_rfl) (by kernel_rfl) (by kernel_rfl) ?hq33r1 ?hy33r1 (by assumption) ?re33r1
  case hi33r1 => simp only [List.getElem?_toArray, List.getElem?_cons_succ, List.getElem?_cons_zero]; rfl
  case hq33r1 => exact fun _ _ _ h => h
  case hy33r1 =>
    refine Or.inl ⟨by rfl, ?_⟩
    intro w hSw; (try dsimp only at hSw); go_simp; try with_reducible rfl
  try simp only [Act.put, List.setIfInBounds_toArray, List.set_cons_zero, List.set_cons_succ]
  refine wpAnyH_done (by kernel_rfl) ?_ _
  obtain ⟨W5, rfl⟩ : ∃ W, W = w8 := ⟨_, rfl⟩
  have B5 := Lib.hid (B4.out.trans (hHeld.1.mono B4.out.size))
  clear hHeld k8 HSS S4 B4
  go_wp2_with fail
  refine (HD1.out _).mono ?_
  rintro e w6 ⟨rfl, c6⟩
  have B6 := Lib.hid (B5.out.trans (c6.mono B5.out.size))
  clear c6 B5
  go_wp2_with fail
  refine (HD2.out _).mono ?_
  rintro e w7 ⟨rfl, c7⟩
  have B7 := Lib.hid (B6.out.trans (c7.mono B6.out.size))
  have heq := HeqD.out w7
  clear c7 B6
  go_wp2_with fail
  refine (HK1.out _).mono ?_
  rintro e w10 ⟨A, cc, rfl, hA, hA2, hR, c10⟩
  have B10 := Lib.hid (B7.out.trans (c10.mono B7.out.size))
  have HR := Lib.hid (Lx.KeyRow.of hR)
  have HA := Lib.hid hA
  clear c10 B7 hA hA2 hR heq
  go_wp2_with fail
  refine (HK2.out _).mono ?_
  rintro e w11 ⟨A2, rfl, hB, hB2, hR2, c11⟩
  have B11 := Lib.hid (B10.out.trans (c11.mono B10.out.size))
  have HSm := Lib.hid (psame_any A A2 cc 8 w11 (Nat.lt_of_lt_of_le HA.out c11.size) hB (HR.out.below HA.out c11) hR2)
  clear c11 B10 hB hB2 hR2 HR HA
  go_wp2_with fail
  refine HSm.out.mono ?_
  rintro e w12 ⟨rfl, c12⟩
  have B12 := Lib.hid (B11.out.trans (c12.mono B11.out.size))
  clear c12 B11
  go_wp2_with fail
  refine (HW.out _ (E0.out.below B12.out)).mono ?_
  rintro e w9 ⟨rfl, c9⟩
  have B9 := Lib.hid (B12.out.trans (c9.mono B12.out.size))
  clear c9
  go_wp2_with fail
  go_ret
  exact ⟨rfl, B9.out⟩

set_option maxRecDepth 100000 in
/-- What the walk gives, for every argument that can be read. -/
theorem contract (H : Type) (enc : TypeId × Value → H) (W : World) (base : Nat) (args : Array Value) (ds gs : List (DataW H)) (before : List MemPlace)
    (hval : ∀ (j : Nat) t v, Tryz.f8.params[j]? = some t → args[j]? = some v → Value.okWide Tryz.prog W .any base t v)
    (hW : DataW.Whole enc Tryz.prog Tryz.f8.params.toList Rows.policyChecksSpec.vars false W args.toList ds gs before) (hL : laidMetH Tryz.prog Rows.policyChecksRow.laid W) (hsh : W.ShapedOpen Tryz.prog) :
    Calls Tryz.prog 8 args W fun e W' => ∃ v, e = .returned v ∧ Rows.policyChecksSpec.post enc Tryz.prog Tryz.f8 false true false false W args v W' := by
  have hW' := hW
  obtain ⟨p, q, hA0, hV, rfl, hfz, hnd⟩ := hW
  have hA : DataW.TrodAll enc Tryz.prog W 0 (fun _ => true) true Tryz.f8.params.toList args.toList ds p := hA0
  rw [Tryz.params8] at hA hval
  obtain ⟨v0, vs0, d0, ds0, p0, q0, hargs, rfl, rfl, h0, r0⟩ := trodAll_cons hA
  obtain ⟨rfl, rfl, rfl⟩ := trodAll_nil r0
  obtain rfl : args = #[v0] := by cases args; simp_all
  obtain ⟨rfl, rfl⟩ := trodVars_none hV
  have k0 := h0
  have lt0 : ∀ x ∈ p0, x.block < W.heap.size := by obtain ⟨m, hm⟩ := k0; exact DataW.trod_lt m _ _ _ hm
  obtain ⟨o0, rfl⟩ := isPol_of (hval 0 29 v0 rfl rfl) h0
  clear hA0
  refine (walk o0 W (env_of hL hsh)).mono fun e W' ⟨he, bel⟩ => ?_
  subst he
  exact ⟨_, rfl, _, _, _, [], _, [], hW', trodAll_mk1 (shut_bool Tryz.underlying4 _), (trodAll_cons_mk (Below.trod laidOut (by kernel_rfl) (of_decide_eq_true (by kernel_rfl)) k0 bel lt0) trodAll_mk0), rfl, bel.frame _, fun h => by cases h⟩

set_option maxRecDepth 100000 in
theorem reads (os : Os) {H : Type} (enc : TypeId × Value → H) : ∃ places, DataW.whole enc Tryz.prog ((World.laidAll Tryz.prog os Rows.policySetsRow.laid).forCall (fun _ _ => 0) ⟨#[], #[.agg #[.int .i64 0, .int .i64 0, .int .i64 0, .int .i64 0, .int .i64 0, .int .i64 0, .int .i64 0, .int .i64 0, .int .i64 0, .int .i64 0, .int .i64 0, .int .i64 0, .int .i64 0, .int .i64 0, .int .i64 0]], []⟩).memory Tryz.f8.params.toList Rows.policyChecksSpec.vars false (#[.agg #[.int .i64 0, .int .i64 0, .int .i64 0, .int .i64 0, .int .i64 0, .int .i64 0, .int .i64 0, .int .i64 0, .int .i64 0, .int .i64 0, .int .i64 0, .int .i64 0, .int .i64 0, .int .i64 0, .int .i64 0]] : Array Value).toList 8 = some ([.agg [.lit (.int .i64 0), .lit (.int .i64 0), .lit (.int .i64 0), .lit (.int .i64 0), .lit (.int .i64 0), .lit (.int .i64 0), .agg [.lit (.int .i64 0), .lit (.int .i64 0)], .agg [.lit (.int .i64 0), .lit (.int .i64 0), .lit (.int .i64 0)], .agg [.lit (.int .i64 0), .lit (.int .i64 0), .lit (.int .i64 0), .lit (.int .i64 0)]]], [], places) :=
  ⟨[], by kernel_rfl⟩

set_option maxRecDepth 100000 in
theorem lifted (os : Os) (started : os.Started) (H : Type) (enc : TypeId × Value → H) (F : Stop.Interp) :
    ReturnsInHanded {} Tryz.checked os 8 .any ((OpenSpec.ofChange Rows.policyChecksSpec).preRow enc Tryz.prog Tryz.f8 Rows.policyChecksRow.domain false Rows.policyChecksRow.laid) (((OpenSpec.ofChange Rows.policyChecksSpec).at F).post enc Tryz.prog Tryz.f8 false true false false) := by
  obtain ⟨places, hx⟩ := reads os enc
  refine returnsInHanded_of_row (C := Tryz.checked) (s := OpenSpec.ofChange Rows.policyChecksSpec) own started (by kernel_rfl) Tryz.func8
    (witness_row_atRef (enc := enc) (C := Tryz.checked) false (World.laidAll Tryz.prog os Rows.policySetsRow.laid) #[.agg #[.int .i64 0, .int .i64 0, .int .i64 0, .int .i64 0, .int .i64 0, .int .i64 0, .int .i64 0, .int .i64 0, .int .i64 0, .int .i64 0, .int .i64 0, .int .i64 0, .int .i64 0, .int .i64 0, .int .i64 0]] (World.laidAll_os _ _ _) (door_vars os _) (door_rest os _) (by kernel_rfl)
      (OpenSpec.preRow_of_cond 8 hx (by kernel_rfl) (fun k hk => by cases hk) (by kernel_rfl) (door_laid os _))) ?_
  intro W base args ds gs before hval hW _ _ _ hL hsh _
  exact contract H enc W base args ds gs before hval hW hL hsh

theorem said : Rows.PolicyChecksSaid :=
  OpenClaim.holds_of_cond 8 Tryz.f8 rfl rfl rfl rfl rfl rfl rfl ⟨rfl, rfl, rfl, rfl, rfl⟩ rfl rfl rfl rfl rfl (by kernel_rfl) Tryz.func8 (by kernel_rfl)
    (of_decide_eq_true (by kernel_rfl)) (by unfold Func.isWrapper; first | (rw [if_pos (by decide +kernel)]; kernel_rfl) | (rw [if_neg (by decide +kernel)]; exact ⟨rfl, rfl⟩))
    (fun os started H enc _ F => by rw [OpenClaim.pre_eq_preRow]; exact lifted os started H enc F)

theorem plain (f : FuncId) (fn : Func) (hf : Tryz.pinned.checked.prog.funcNamed "wakeman/wakemanlaw14.PolicyChecks" = some f) (hfn : Tryz.pinned.checked.prog.funcs[f]? = some fn) :
    Rows.policyChecksCard.stood.looks = Tryz.pinned.checked.prog.looks [] ∧ ∀ (j : Nat) t, fn.params[j]? = some t → Tryz.pinned.checked.prog.wantsStandIn t = false := by
  obtain rfl : f = 8 := Option.some.inj ((show Tryz.prog.funcNamed "wakeman/wakemanlaw14.PolicyChecks" = some 8 by kernel_rfl).symm.trans hf) |>.symm
  obtain rfl : fn = Tryz.f8 := (Option.some.inj (Tryz.func8.symm.trans hfn)).symm
  refine ⟨by kernel_rfl, fun j t ht => ?_⟩
  rw [Tryz.params8] at ht
  have hm : t ∈ [29] := by
    have := Array.mem_of_getElem? ht
    simpa using this
  have hall : ([29].all fun u => !Tryz.prog.wantsStandIn u) = true := by kernel_rfl
  exact (show Tryz.prog.wantsStandIn t = false by simpa using List.all_eq_true.1 hall t hm)

/-- The card. -/
theorem card : Rows.PolicyChecksCardSaid :=
  Claim7.holds_tied_plain_at .later [] _ _ _ _ said (fun _ h => by cases h) (by kernel_rfl) (fun _ h => by cases h) policyChecks_row_tie rfl ⟨rfl, rfl⟩ (by kernel_rfl) rfl plain (by kernel_rfl)
end Go.Proofs.YtdpjcbijddgpgaaGreatDoor.lawPolicyChecks
