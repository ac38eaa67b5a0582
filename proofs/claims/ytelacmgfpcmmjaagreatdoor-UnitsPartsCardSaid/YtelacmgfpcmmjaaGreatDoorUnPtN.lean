/- UnitsParts, way by way. (printed by gen_parts.py) -/
import Derived.Test.YtelacmgfpcmmjaaGreatDoorUnWorks
import Derived.Test.YtelacmgfpcmmjaaGreatDoorUnPartsLx
import Derived.Test.YtelacmgfpcmmjaaGreatDoorUnBackLx
import Derived.Deep.RegionHeld3
import Derived.Deep.DeepCutAuto
namespace Go.Proofs.YtelacmgfpcmmjaaGreatDoor
open Go.RowKit

/-- units.Parse at a text that is none. -/
theorem parse_none (x : ByteArray) (h : Lx.BadT x) (W : World) (E : UEnv W) :
    Calls Tryz.prog 5 #[.string x] W fun e w' => e = .returned (.tuple #[.int .i64 0, .int .i64 10]) ∧ Below W.heap.size W w' := by
  have := parse_any x (by have := h.2.2; omega) W E
  rw [h.1, h.2.1] at this
  exact this
set_option maxRecDepth 100000 in
set_option maxHeartbeats 6400000 in
theorem parts_none (a b c d : Nat) (ha : (a : Int) ≤ 65535) (hb : (b : Int) ≤ 65535) (hc : (c : Int) ≤ 65535) (hd : (d : Int) ≤ 65535) (hne : Lx.pcs a b c d = []) (w : World) (env : UEnv w) :
    Calls Tryz.prog 3 #[.int .u16 (a : Nat), .int .u16 (b : Nat), .int .u16 (c : Nat), .int .u16 (d : Nat)] w fun e w' => e = .returned (.bool true) ∧ Below w.heap.size w w' := by
  obtain ⟨i0, hi, hz0, hz1, hz2⟩ := info_parts infoS
  have HA := Lib.hid (fun W (E : UEnv W) => part_any a (by omega) 0 100 rfl W E)
  have HB := Lib.hid (fun W (E : UEnv W) => part_any b (by omega) 1 104 rfl W E)
  have HC := Lib.hid (fun W (E : UEnv W) => part_any c (by omega) 2 109 rfl W E)
  have HD := Lib.hid (fun W (E : UEnv W) => part_any d (by omega) 3 115 rfl W E)
  obtain ⟨A, hA⟩ : ∃ A : ByteArray, A = ⟨(Lx.pc a 0).toArray⟩ := ⟨_, rfl⟩
  obtain ⟨B, hB⟩ : ∃ B : ByteArray, B = ⟨(Lx.pc b 1).toArray⟩ := ⟨_, rfl⟩
  obtain ⟨C, hC⟩ : ∃ C : ByteArray, C = ⟨(Lx.pc c 2).toArray⟩ := ⟨_, rfl⟩
  obtain ⟨D, hD⟩ : ∃ D : ByteArray, D = ⟨(Lx.pc d 3).toArray⟩ := ⟨_, rfl⟩
  rw [← hA] at HA
  rw [← hB] at HB
  rw [← hC] at HC
  rw [← hD] at HD
  have hAs : A.size ≤ 12 := by rw [Lib.size_eq, hA]; exact Lx.pc_len a 0 (by omega)
  have hBs : B.size ≤ 12 := by rw [Lib.size_eq, hB]; exact Lx.pc_len b 1 (by omega)
  have hCs : C.size ≤ 12 := by rw [Lib.size_eq, hC]; exact Lx.pc_len c 2 (by omega)
  have hDs : D.size ≤ 12 := by rw [Lib.size_eq, hD]; exact Lx.pc_len d 3 (by omega)
  obtain ⟨T, hT⟩ : ∃ T : ByteArray, A ++ B ++ C ++ D = T := ⟨_, rfl⟩
  have hTl : T.data.toList = Lx.pcs a b c d := by
    rw [← hT, Lx.appT, Lx.appT, Lx.appT, hA, hB, hC, hD]
    unfold Lx.pcs; simp
  have hTs : T.size ≤ 48 := by rw [← hT, ByteArray.size_append, ByteArray.size_append, ByteArray.size_append]; omega
  obtain ⟨sum, hsum⟩ : ∃ sum : Nat, sum = a * 86400 + b * 3600 + c * 60 + d := ⟨_, rfl⟩
  have hsi : (a : Int) * 86400 + (b : Int) * 3600 + (c : Int) * 60 + (d : Int) = (sum : Int) := by omega
  have hsb : (sum : Int) ≤ 5902147635 := by omega
  have hHA := Lib.hid (show A.data.toList = Lx.pc a 0 by rw [hA])
  have hHB := Lib.hid (show B.data.toList = Lx.pc b 1 by rw [hB])
  have hHC := Lib.hid (show C.data.toList = Lx.pc c 2 by rw [hC])
  have hHD := Lib.hid (show D.data.toList = Lx.pc d 3 by rw [hD])
  have Hsum := Lib.hid hsum
  have HTl := Lib.hid hTl
  clear hA hB hC hD hsum hTl
  have hTb : T.toList.isEmpty = true := Lx.streq (by rw [Lib.size_eq, HTl.out, hne]; rfl)
  have H1 := Lib.hid (fun W (E : UEnv W) => parse_any ⟨#[]⟩ (by decide) W E)
  rw [show (⟨#[]⟩ : ByteArray).data.toList = [] from rfl, show Lx.parV [] = 0 from by decide +kernel, show Lx.parE [] = 10 from by decide +kernel] at H1
  have H2 := Lib.hid (fun W (E : UEnv W) => parse_any ⟨#[48, 115]⟩ (by decide) W E)
  rw [show (⟨#[48, 115]⟩ : ByteArray).data.toList = [48, 115] from rfl, show Lx.parV [48, 115] = 0 from by decide +kernel, show Lx.parE [48, 115] = 0 from by decide +kernel] at H2
  clear hne
  go_enter Tryz.func3, Tryz.ntmps3
  go_wp2_with fail
  refine (HA.out _ env).mono ?_
  rintro e w1 ⟨rfl, b1⟩
  go_wp2_with fail
  refine (HB.out _ (env.below b1)).mono ?_
  rintro e w2 ⟨rfl, c2⟩
  have b2 := b1.trans (c2.mono b1.size)
  clear b1 c2
  go_wp2_with fail
  refine (HC.out _ (env.below b2)).mono ?_
  rintro e w3 ⟨rfl, c3⟩
  have b3 := b2.trans (c3.mono b2.size)
  clear b2 c3
  go_wp2_with fail
  refine (HD.out _ (env.below b3)).mono ?_
  rintro e w4 ⟨rfl, c4⟩
  have b4 := b3.trans (c4.mono b3.size)
  clear b3 c4
  go_wp2_with fail
  refine (H1.out _ (env.below b4)).mono ?_
  rintro e w5 ⟨rfl, c5⟩
  have b5 := b4.trans (c5.mono b4.size)
  clear b4 c5
  go_wp2_with fail
  refine (H2.out _ (env.below b5)).mono ?_
  rintro e w6 ⟨rfl, c6⟩
  have b6 := b5.trans (c6.mono b5.size)
  clear b5 c6
  have HW := Lib.hid (uworks_any _ (env.below b6))
  go_wp2_with fail
  refine HW.out.mono ?_
  rintro e w7 ⟨rfl, c7⟩
  go_wp2_with fail
  go_ret
  exact ⟨rfl, b6.trans (c7.mono b6.size)⟩
end Go.Proofs.YtelacmgfpcmmjaaGreatDoor
