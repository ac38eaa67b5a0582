/- PolicyRules: for every policy and every byte the law returns true; what the call was given reads as before. Conditions: the eight listed variables lie as the program lays them. -/
import Derived.Test.YtdpjcbijddgpgaaGreatDoorUnFrame
import Derived.Test.YtdpjcbijddgpgaaGreatDoorPoM8
import Derived.Test.YtdpjcbijddgpgaaGreatDoorPoM5
import Derived.SevenTiedAt
namespace Go.Proofs.YtdpjcbijddgpgaaGreatDoor.lawPolicyRules
open Go.ChangeShapes Go.WideShapes Go.ChangeAt Go.RowKit
theorem prb0 (pri spl dl mis keep lt lu bf bo bp rm rb rc rj : Int) : Lx.polOk (⟨0, pri, spl, dl, mis, keep, lt, lu, bf, bo, bp, rm, rb, rc, rj⟩ : Lx.PolV) = false := by
  simp [Lx.polOk, Lx.fldOk, Lx.misOk, Lx.limOk, Lx.brOk, Lx.reOk, Lx.brZ, Lx.reZ, Lx.inI]
set_option maxRecDepth 100000 in
set_option maxHeartbeats 1600000 in
theorem prw0 (p : Lx.PolV) (h : Lx.polOk p = true) (c : UInt8) (hc : (c.toNat : Int) % 12 = 0) (w : World) (env : UEnv w) :
    Calls Tryz.prog 10 #[p.val, .int .u8 c.toNat] w fun e w' => e = .returned (.bool true) ∧ Below w.heap.size w w' := by
  have HW := Lib.hid (fun W (E : UEnv W) => pworks_any W E)
  have E0 := Lib.hid env
  have hgl := env.env.lt
  obtain ⟨g, hg⟩ : ∃ g, g = w.heap.size := ⟨_, rfl⟩
  have hE : Lx.polE p = 0 := by unfold Lx.polE; rw [if_pos h]
  have HC := fun W => polCheck_any p W
  rw [hE] at HC
  obtain ⟨cap, pri, spl, dl, mis, keep, lt, lu, bf, bo, bp, rm, rb, rc, rj⟩ := p
  have hb := prb0 pri spl dl mis keep lt lu bf bo bp rm rb rc rj
  have hE2 : Lx.polE (⟨0, pri, spl, dl, mis, keep, lt, lu, bf, bo, bp, rm, rb, rc, rj⟩ : Lx.PolV) = 16 := by unfold Lx.polE; rw [if_neg (by rw [hb]; decide)]
  have hS2 : Lx.prS (⟨0, pri, spl, dl, mis, keep, lt, lu, bf, bo, bp, rm, rb, rc, rj⟩ : Lx.PolV) = [] := by unfold Lx.prS; rw [if_neg (by rw [hb]; decide)]
  have hG2 : ∀ s, Lx.getS (⟨0, pri, spl, dl, mis, keep, lt, lu, bf, bo, bp, rm, rb, rc, rj⟩ : Lx.PolV) s = [] ∧ Lx.getE (⟨0, pri, spl, dl, mis, keep, lt, lu, bf, bo, bp, rm, rb, rc, rj⟩ : Lx.PolV) s = 16 := fun s => by
    unfold Lx.getS Lx.getE; rw [if_neg (fun c => by rw [hb] at c; cases c.1), if_neg (by rw [hb]; decide)]; exact ⟨rfl, rfl⟩
  have HC := Lib.hid (show ∀ W, Calls Tryz.prog 19 #[.agg #[.int .i64 cap, .int .i64 pri, .int .i64 spl, .int .i64 dl, .int .i64 mis, .int .i64 keep, .int .i64 lt, .int .i64 lu, .int .i64 bf, .int .i64 bo, .int .i64 bp, .int .i64 rm, .int .i64 rb, .int .i64 rc, .int .i64 rj]] W fun e w' => e = .returned (.int .i64 0) ∧ Below W.heap.size W w' from HC)
  have HP := Lib.hid (show ∀ W, UEnv W → Calls Tryz.prog 18 #[.agg #[.int .i64 0, .int .i64 pri, .int .i64 spl, .int .i64 dl, .int .i64 mis, .int .i64 keep, .int .i64 lt, .int .i64 lu, .int .i64 bf, .int .i64 bo, .int .i64 bp, .int .i64 rm, .int .i64 rb, .int .i64 rc, .int .i64 rj]] W fun e w' => e = .returned (.tuple #[.string ⟨#[]⟩, .int .i64 16]) ∧ Below W.heap.size W w' from fun W E => by have := polPrint_any (⟨0, pri, spl, dl, mis, keep, lt, lu, bf, bo, bp, rm, rb, rc, rj⟩ : Lx.PolV) W E; rw [hE2, hS2] at this; exact this)
  have HG := Lib.hid (show ∀ W, UEnv W → Calls Tryz.prog 31 #[.agg #[.int .i64 0, .int .i64 pri, .int .i64 spl, .int .i64 dl, .int .i64 mis, .int .i64 keep, .int .i64 lt, .int .i64 lu, .int .i64 bf, .int .i64 bo, .int .i64 bp, .int .i64 rm, .int .i64 rb, .int .i64 rc, .int .i64 rj], .string ⟨#[99, 97, 112]⟩] W fun e w' => e = .returned (.tuple #[.string ⟨#[]⟩, .int .i64 16]) ∧ Below W.heap.size W w' from fun W E => by have := polGet_any (⟨0, pri, spl, dl, mis, keep, lt, lu, bf, bo, bp, rm, rb, rc, rj⟩ : Lx.PolV) ⟨#[99, 97, 112]⟩ W E; rw [(hG2 _).1, (hG2 _).2] at this; exact this)
  have HC2 := Lib.hid (show ∀ W, Calls Tryz.prog 19 #[.agg #[.int .i64 0, .int .i64 pri, .int .i64 spl, .int .i64 dl, .int .i64 mis, .int .i64 keep, .int .i64 lt, .int .i64 lu, .int .i64 bf, .int .i64 bo, .int .i64 bp, .int .i64 rm, .int .i64 rb, .int .i64 rc, .int .i64 rj]] W fun e w' => e = .returned (.int .i64 16) ∧ Below W.heap.size W w' from fun W => by have := polCheck_any (⟨0, pri, spl, dl, mis, keep, lt, lu, bf, bo, bp, rm, rb, rc, rj⟩ : Lx.PolV) W; rw [hE2] at this; exact this)
  clear hE hE2 hS2 hG2 hb h env
  obtain ⟨W0, hW0⟩ : ∃ W0, W0 = (w.alloc (.cells #[.int .i64 cap, .int .i64 pri, .int .i64 spl, .int .i64 dl, .int .i64 mis, .int .i64 keep, .int .i64 lt, .int .i64 lu, .int .i64 bf, .int .i64 bo, .int .i64 bp, .int .i64 rm, .int .i64 rb, .int .i64 rc, .int .i64 rj] 29)) := ⟨_, rfl⟩
  have S0 := Lib.hid (show Lx.PSt g W0 W0 ⟨cap, pri, spl, dl, mis, keep, lt, lu, bf, bo, bp, rm, rb, rc, rj⟩ from by rw [hg, hW0]; exact Lx.PSt.new w hgl ⟨cap, pri, spl, dl, mis, keep, lt, lu, bf, bo, bp, rm, rb, rc, rj⟩)
  have B0 := Lib.hid (show Below w.heap.size w W0 from by rw [hW0]; exact (Below.refl _ w).alloc (Nat.le_refl _) _)
  have Hle := Lib.hid (show w.heap.size ≤ g from Nat.le_of_eq hg.symm)
  show Calls Tryz.prog 10 #[.agg #[.int .i64 cap, .int .i64 pri, .int .i64 spl, .int .i64 dl, .int .i64 mis, .int .i64 keep, .int .i64 lt, .int .i64 lu, .int .i64 bf, .int .i64 bo, .int .i64 bp, .int .i64 rm, .int .i64 rb, .int .i64 rc, .int .i64 rj], .int .u8 c.toNat] w _
  go_enter Tryz.func10, Tryz.ntmps10
  go_upto_region 1 with (fail)
  rw [show (w.alloc (.cells #[.int .i64 cap, .int .i64 pri, .int .i64 spl, .int .i64 dl, .int .i64 mis, .int .i64 keep, .int .i64 lt, .int .i64 lu, .int .i64 bf, .int .i64 bo, .int .i64 bp, .int .i64 rm, .int .i64 rb, .int .i64 rc, .int .i64 rj] 29)) = W0 from hW0.symm, ← hg]
  clear hW0 hg
  have u0 : W0.cell? ⟨g, 0, none⟩ = some (.int .i64 cap) := S0.out.cell 0 _ rfl
  have u1 : W0.cell? ⟨g, 1, none⟩ = some (.int .i64 pri) := S0.out.cell 1 _ rfl
  have u2 : W0.cell? ⟨g, 2, none⟩ = some (.int .i64 spl) := S0.out.cell 2 _ rfl
  have u3 : W0.cell? ⟨g, 3, none⟩ = some (.int .i64 dl) := S0.out.cell 3 _ rfl
  have u4 : W0.cell? ⟨g, 4, none⟩ = some (.int .i64 mis) := S0.out.cell 4 _ rfl
  have u5 : W0.cell? ⟨g, 5, none⟩ = some (.int .i64 keep) := S0.out.cell 5 _ rfl
  have u6 : W0.cell? ⟨g, 6, none⟩ = some (.int .i64 lt) := S0.out.cell 6 _ rfl
  have u7 : W0.cell? ⟨g, 7, none⟩ = some (.int .i64 lu) := S0.out.cell 7 _ rfl
  have u8 : W0.cell? ⟨g, 8, none⟩ = some (.int .i64 bf) := S0.out.cell 8 _ rfl
  have u9 : W0.cell? ⟨g, 9, none⟩ = some (.int .i64 bo) := S0.out.cell 9 _ rfl
  have u10 : W0.cell? ⟨g, 10, none⟩ = some (.int .i64 bp) := S0.out.cell 10 _ rfl
  have u11 : W0.cell? ⟨g, 11, none⟩ = some (.int .i64 rm) := S0.out.cell 11 _ rfl
  have u12 : W0.cell? ⟨g, 12, none⟩ = some (.int .i64 rb) := S0.out.cell 12 _ rfl
  have u13 : W0.cell? ⟨g, 13, none⟩ = some (.int .i64 rc) := S0.out.cell 13 _ rfl
  have u14 : W0.cell? ⟨g, 14, none⟩ = some (.int .i64 rj) := S0.out.cell 14 _ rfl
  go_wp2_with fail
  refine (HC.out _).mono ?_
  rintro e W1 ⟨rfl, c1⟩
  have S1 := Lib.hid (S0.out.low c1)
  have B1 := Lib.hid (B0.out.trans (c1.mono B0.out.size))
  clear c1 S0 B0 u0 u1 u2 u3 u4 u5 u6 u7 u8 u9 u10 u11 u12 u13 u14
  have u0 : W1.cell? ⟨g, 0, none⟩ = some (.int .i64 cap) := S1.out.cell 0 _ rfl
  have u1 : W1.cell? ⟨g, 1, none⟩ = some (.int .i64 pri) := S1.out.cell 1 _ rfl
  have u2 : W1.cell? ⟨g, 2, none⟩ = some (.int .i64 spl) := S1.out.cell 2 _ rfl
  have u3 : W1.cell? ⟨g, 3, none⟩ = some (.int .i64 dl) := S1.out.cell 3 _ rfl
  have u4 : W1.cell? ⟨g, 4, none⟩ = some (.int .i64 mis) := S1.out.cell 4 _ rfl
  have u5 : W1.cell? ⟨g, 5, none⟩ = some (.int .i64 keep) := S1.out.cell 5 _ rfl
  have u6 : W1.cell? ⟨g, 6, none⟩ = some (.int .i64 lt) := S1.out.cell 6 _ rfl
  have u7 : W1.cell? ⟨g, 7, none⟩ = some (.int .i64 lu) := S1.out.cell 7 _ rfl
  have u8 : W1.cell? ⟨g, 8, none⟩ = some (.int .i64 bf) := S1.out.cell 8 _ rfl
  have u9 : W1.cell? ⟨g, 9, none⟩ = some (.int .i64 bo) := S1.out.cell 9 _ rfl
  have u10 : W1.cell? ⟨g, 10, none⟩ = some (.int .i64 bp) := S1.out.cell 10 _ rfl
  have u11 : W1.cell? ⟨g, 11, none⟩ = some (.int .i64 rm) := S1.out.cell 11 _ rfl
  have u12 : W1.cell? ⟨g, 12, none⟩ = some (.int .i64 rb) := S1.out.cell 12 _ rfl
  have u13 : W1.cell? ⟨g, 13, none⟩ = some (.int .i64 rc) := S1.out.cell 13 _ rfl
  have u14 : W1.cell? ⟨g, 14, none⟩ = some (.int .i64 rj) := S1.out.cell 14 _ rfl
  have y0 := S1.out.fz 0 (by omega)
  obtain ⟨W2, hW2⟩ : ∃ W2, W2 = (W1.setCell ⟨g, 0, none⟩ (.int .i64 0)) := ⟨_, rfl⟩
  have S2 := Lib.hid (show Lx.PSt g W1 W2 (⟨0, pri, spl, dl, mis, keep, lt, lu, bf, bo, bp, rm, rb, rc, rj⟩ : Lx.PolV) from by rw [hW2]; exact (S1.out.set (j := 0) (q' := (⟨0, pri, spl, dl, mis, keep, lt, lu, bf, bo, bp, rm, rb, rc, rj⟩ : Lx.PolV)) (v := .int .i64 0) (by omega) rfl))
  have B2 := Lib.hid (B1.out.trans (S2.out.toB.mono Hle.out))
  go_upto_region 27 with (fail)
  rw [show (W1.setCell ⟨g, 0, none⟩ (.int .i64 0)) = W2 from hW2.symm]
  clear hW2 S1 u0 u1 u2 u3 u4 u5 u6 u7 u8 u9 u10 u11 u12 u13 u14 y0
  have u0 : W2.cell? ⟨g, 0, none⟩ = some (.int .i64 0) := S2.out.cell 0 _ rfl
  have u1 : W2.cell? ⟨g, 1, none⟩ = some (.int .i64 pri) := S2.out.cell 1 _ rfl
  have u2 : W2.cell? ⟨g, 2, none⟩ = some (.int .i64 spl) := S2.out.cell 2 _ rfl
  have u3 : W2.cell? ⟨g, 3, none⟩ = some (.int .i64 dl) := S2.out.cell 3 _ rfl
  have u4 : W2.cell? ⟨g, 4, none⟩ = some (.int .i64 mis) := S2.out.cell 4 _ rfl
  have u5 : W2.cell? ⟨g, 5, none⟩ = some (.int .i64 keep) := S2.out.cell 5 _ rfl
  have u6 : W2.cell? ⟨g, 6, none⟩ = some (.int .i64 lt) := S2.out.cell 6 _ rfl
  have u7 : W2.cell? ⟨g, 7, none⟩ = some (.int .i64 lu) := S2.out.cell 7 _ rfl
  have u8 : W2.cell? ⟨g, 8, none⟩ = some (.int .i64 bf) := S2.out.cell 8 _ rfl
  have u9 : W2.cell? ⟨g, 9, none⟩ = some (.int .i64 bo) := S2.out.cell 9 _ rfl
  have u10 : W2.cell? ⟨g, 10, none⟩ = some (.int .i64 bp) := S2.out.cell 10 _ rfl
  have u11 : W2.cell? ⟨g, 11, none⟩ = some (.int .i64 rm) := S2.out.cell 11 _ rfl
  have u12 : W2.cell? ⟨g, 12, none⟩ = some (.int .i64 rb) := S2.out.cell 12 _ rfl
  have u13 : W2.cell? ⟨g, 13, none⟩ = some (.int .i64 rc) := S2.out.cell 13 _ rfl
  have u14 : W2.cell? ⟨g, 14, none⟩ = some (.int .i64 rj) := S2.out.cell 14 _ rfl
  go_wp2_with fail
  refine (HP.out _ (E0.out.below B2.out)).mono ?_
  rintro e w3 ⟨rfl, c3⟩
  have S3 := Lib.hid (S2.out.low c3)
  have B3 := Lib.hid (B2.out.trans (c3.mono B2.out.size))
  clear c3 S2 B2 u0 u1 u2 u3 u4 u5 u6 u7 u8 u9 u10 u11 u12 u13 u14
  have u0 : w3.cell? ⟨g, 0, none⟩ = some (.int .i64 0) := S3.out.cell 0 _ rfl
  have u1 : w3.cell? ⟨g, 1, none⟩ = some (.int .i64 pri) := S3.out.cell 1 _ rfl
  have u2 : w3.cell? ⟨g, 2, none⟩ = some (.int .i64 spl) := S3.out.cell 2 _ rfl
  have u3 : w3.cell? ⟨g, 3, none⟩ = some (.int .i64 dl) := S3.out.cell 3 _ rfl
  have u4 : w3.cell? ⟨g, 4, none⟩ = some (.int .i64 mis) := S3.out.cell 4 _ rfl
  have u5 : w3.cell? ⟨g, 5, none⟩ = some (.int .i64 keep) := S3.out.cell 5 _ rfl
  have u6 : w3.cell? ⟨g, 6, none⟩ = some (.int .i64 lt) := S3.out.cell 6 _ rfl
  have u7 : w3.cell? ⟨g, 7, none⟩ = some (.int .i64 lu) := S3.out.cell 7 _ rfl
  have u8 : w3.cell? ⟨g, 8, none⟩ = some (.int .i64 bf) := S3.out.cell 8 _ rfl
  have u9 : w3.cell? ⟨g, 9, none⟩ = some (.int .i64 bo) := S3.out.cell 9 _ rfl
  have u10 : w3.cell? ⟨g, 10, none⟩ = some (.int .i64 bp) := S3.out.cell 10 _ rfl
  have u11 : w3.cell? ⟨g, 11, none⟩ = some (.int .i64 rm) := S3.out.cell 11 _ rfl
  have u12 : w3.cell? ⟨g, 12, none⟩ = some (.int .i64 rb) := S3.out.cell 12 _ rfl
  have u13 : w3.cell? ⟨g, 13, none⟩ = some (.int .i64 rc) := S3.out.cell 13 _ rfl
  have u14 : w3.cell? ⟨g, 14, none⟩ = some (.int .i64 rj) := S3.out.cell 14 _ rfl
  go_wp2_with fail
  refine (HG.out _ (E0.out.below B3.out)).mono ?_
  rintro e w4 ⟨rfl, c4⟩
  have S4 := Lib.hid (S3.out.low c4)
  have B4 := Lib.hid (B3.out.trans (c4.mono B3.out.size))
  clear c4 S3 B3 u0 u1 u2 u3 u4 u5 u6 u7 u8 u9 u10 u11 u12 u13 u14
  have u0 : w4.cell? ⟨g, 0, none⟩ = some (.int .i64 0) := S4.out.cell 0 _ rfl
  have u1 : w4.cell? ⟨g, 1, none⟩ = some (.int .i64 pri) := S4.out.cell 1 _ rfl
  have u2 : w4.cell? ⟨g, 2, none⟩ = some (.int .i64 spl) := S4.out.cell 2 _ rfl
  have u3 : w4.cell? ⟨g, 3, none⟩ = some (.int .i64 dl) := S4.out.cell 3 _ rfl
  have u4 : w4.cell? ⟨g, 4, none⟩ = some (.int .i64 mis) := S4.out.cell 4 _ rfl
  have u5 : w4.cell? ⟨g, 5, none⟩ = some (.int .i64 keep) := S4.out.cell 5 _ rfl
  have u6 : w4.cell? ⟨g, 6, none⟩ = some (.int .i64 lt) := S4.out.cell 6 _ rfl
  have u7 : w4.cell? ⟨g, 7, none⟩ = some (.int .i64 lu) := S4.out.cell 7 _ rfl
  have u8 : w4.cell? ⟨g, 8, none⟩ = some (.int .i64 bf) := S4.out.cell 8 _ rfl
  have u9 : w4.cell? ⟨g, 9, none⟩ = some (.int .i64 bo) := S4.out.cell 9 _ rfl
  have u10 : w4.cell? ⟨g, 10, none⟩ = some (.int .i64 bp) := S4.out.cell 10 _ rfl
  have u11 : w4.cell? ⟨g, 11, none⟩ = some (.int .i64 rm) := S4.out.cell 11 _ rfl
  have u12 : w4.cell? ⟨g, 12, none⟩ = some (.int .i64 rb) := S4.out.cell 12 _ rfl
  have u13 : w4.cell? ⟨g, 13, none⟩ = some (.int .i64 rc) := S4.out.cell 13 _ rfl
  have u14 : w4.cell? ⟨g, 14, none⟩ = some (.int .i64 rj) := S4.out.cell 14 _ rfl
  go_wp2_with fail
  refine (HC2.out _).mono ?_
  rintro e w5 ⟨rfl, c5⟩
  have B5 := Lib.hid (B4.out.trans (c5.mono B4.out.size))
  clear c5 S4 B4 u0 u1 u2 u3 u4 u5 u6 u7 u8 u9 u10 u11 u12 u13 u14
  go_wp2_with fail
  refine (HW.out _ (E0.out.below B5.out)).mono ?_
  rintro e w6 ⟨rfl, c6⟩
  go_wp2_with fail
  go_ret
  exact ⟨rfl, B5.out.trans (c6.mono B5.out.size)⟩
theorem prb1 (pri spl dl mis keep lt lu bf bo bp rm rb rc rj : Int) : Lx.polOk (⟨1001, pri, spl, dl, mis, keep, lt, lu, bf, bo, bp, rm, rb, rc, rj⟩ : Lx.PolV) = false := by
  simp [Lx.polOk, Lx.fldOk, Lx.misOk, Lx.limOk, Lx.brOk, Lx.reOk, Lx.brZ, Lx.reZ, Lx.inI]
set_option maxRecDepth 100000 in
set_option maxHeartbeats 1600000 in
theorem prw1 (p : Lx.PolV) (h : Lx.polOk p = true) (c : UInt8) (hc : (c.toNat : Int) % 12 = 1) (w : World) (env : UEnv w) :
    Calls Tryz.prog 10 #[p.val, .int .u8 c.toNat] w fun e w' => e = .returned (.bool true) ∧ Below w.heap.size w w' := by
  have HW := Lib.hid (fun W (E : UEnv W) => pworks_any W E)
  have E0 := Lib.hid env
  have hgl := env.env.lt
  obtain ⟨g, hg⟩ : ∃ g, g = w.heap.size := ⟨_, rfl⟩
  have hE : Lx.polE p = 0 := by unfold Lx.polE; rw [if_pos h]
  have HC := fun W => polCheck_any p W
  rw [hE] at HC
  obtain ⟨cap, pri, spl, dl, mis, keep, lt, lu, bf, bo, bp, rm, rb, rc, rj⟩ := p
  have hb := prb1 pri spl dl mis keep lt lu bf bo bp rm rb rc rj
  have hE2 : Lx.polE (⟨1001, pri, spl, dl, mis, keep, lt, lu, bf, bo, bp, rm, rb, rc, rj⟩ : Lx.PolV) = 16 := by unfold Lx.polE; rw [if_neg (by rw [hb]; decide)]
  have hS2 : Lx.prS (⟨1001, pri, spl, dl, mis, keep, lt, lu, bf, bo, bp, rm, rb, rc, rj⟩ : Lx.PolV) = [] := by unfold Lx.prS; rw [if_neg (by rw [hb]; decide)]
  have hG2 : ∀ s, Lx.getS (⟨1001, pri, spl, dl, mis, keep, lt, lu, bf, bo, bp, rm, rb, rc, rj⟩ : Lx.PolV) s = [] ∧ Lx.getE (⟨1001, pri, spl, dl, mis, keep, lt, lu, bf, bo, bp, rm, rb, rc, rj⟩ : Lx.PolV) s = 16 := fun s => by
    unfold Lx.getS Lx.getE; rw [if_neg (fun c => by rw [hb] at c; cases c.1), if_neg (by rw [hb]; decide)]; exact ⟨rfl, rfl⟩
  have HC := Lib.hid (show ∀ W, Calls Tryz.prog 19 #[.agg #[.int .i64 cap, .int .i64 pri, .int .i64 spl, .int .i64 dl, .int .i64 mis, .int .i64 keep, .int .i64 lt, .int .i64 lu, .int .i64 bf, .int .i64 bo, .int .i64 bp, .int .i64 rm, .int .i64 rb, .int .i64 rc, .int .i64 rj]] W fun e w' => e = .returned (.int .i64 0) ∧ Below W.heap.size W w' from HC)
  have HP := Lib.hid (show ∀ W, UEnv W → Calls Tryz.prog 18 #[.agg #[.int .i64 1001, .int .i64 pri, .int .i64 spl, .int .i64 dl, .int .i64 mis, .int .i64 keep, .int .i64 lt, .int .i64 lu, .int .i64 bf, .int .i64 bo, .int .i64 bp, .int .i64 rm, .int .i64 rb, .int .i64 rc, .int .i64 rj]] W fun e w' => e = .returned (.tuple #[.string ⟨#[]⟩, .int .i64 16]) ∧ Below W.heap.size W w' from fun W E => by have := polPrint_any (⟨1001, pri, spl, dl, mis, keep, lt, lu, bf, bo, bp, rm, rb, rc, rj⟩ : Lx.PolV) W E; rw [hE2, hS2] at this; exact this)
  have HG := Lib.hid (show ∀ W, UEnv W → Calls Tryz.prog 31 #[.agg #[.int .i64 1001, .int .i64 pri, .int .i64 spl, .int .i64 dl, .int .i64 mis, .int .i64 keep, .int .i64 lt, .int .i64 lu, .int .i64 bf, .int .i64 bo, .int .i64 bp, .int .i64 rm, .int .i64 rb, .int .i64 rc, .int .i64 rj], .string ⟨#[99, 97, 112]⟩] W fun e w' => e = .returned (.tuple #[.string ⟨#[]⟩, .int .i64 16]) ∧ Below W.heap.size W w' from fun W E => by have := polGet_any (⟨1001, pri, spl, dl, mis, keep, lt, lu, bf, bo, bp, rm, rb, rc, rj⟩ : Lx.PolV) ⟨#[99, 97, 112]⟩ W E; rw [(hG2 _).1, (hG2 _).2] at this; exact this)
  have HC2 := Lib.hid (show ∀ W, Calls Tryz.prog 19 #[.agg #[.int .i64 1001, .int .i64 pri, .int .i64 spl, .int .i64 dl, .int .i64 mis, .int .i64 keep, .int .i64 lt, .int .i64 lu, .int .i64 bf, .int .i64 bo, .int .i64 bp, .int .i64 rm, .int .i64 rb, .int .i64 rc, .int .i64 rj]] W fun e w' => e = .returned (.int .i64 16) ∧ Below W.heap.size W w' from fun W => by have := polCheck_any (⟨1001, pri, spl, dl, mis, keep, lt, lu, bf, bo, bp, rm, rb, rc, rj⟩ : Lx.PolV) W; rw [hE2] at this; exact this)
  clear hE hE2 hS2 hG2 hb h env
  obtain ⟨W0, hW0⟩ : ∃ W0, W0 = (w.alloc (.cells #[.int .i64 cap, .int .i64 pri, .int .i64 spl, .int .i64 dl, .int .i64 mis, .int .i64 keep, .int .i64 lt, .int .i64 lu, .int .i64 bf, .int .i64 bo, .int .i64 bp, .int .i64 rm, .int .i64 rb, .int .i64 rc, .int .i64 rj] 29)) := ⟨_, rfl⟩
  have S0 := Lib.hid (show Lx.PSt g W0 W0 ⟨cap, pri, spl, dl, mis, keep, lt, lu, bf, bo, bp, rm, rb, rc, rj⟩ from by rw [hg, hW0]; exact Lx.PSt.new w hgl ⟨cap, pri, spl, dl, mis, keep, lt, lu, bf, bo, bp, rm, rb, rc, rj⟩)
  have B0 := Lib.hid (show Below w.heap.size w W0 from by rw [hW0]; exact (Below.refl _ w).alloc (Nat.le_refl _) _)
  have Hle := Lib.hid (show w.heap.size ≤ g from Nat.le_of_eq hg.symm)
  show Calls Tryz.prog 10 #[.agg #[.int .i64 cap, .int .i64 pri, .int .i64 spl, .int .i64 dl, .int .i64 mis, .int .i64 keep, .int .i64 lt, .int .i64 lu, .int .i64 bf, .int .i64 bo, .int .i64 bp, .int .i64 rm, .int .i64 rb, .int .i64 rc, .int .i64 rj], .int .u8 c.toNat] w _
  go_enter Tryz.func10, Tryz.ntmps10
  go_upto_region 1 with (fail)
  rw [show (w.alloc (.cells #[.int .i64 cap, .int .i64 pri, .int .i64 spl, .int .i64 dl, .int .i64 mis, .int .i64 keep, .int .i64 lt, .int .i64 lu, .int .i64 bf, .int .i64 bo, .int .i64 bp, .int .i64 rm, .int .i64 rb, .int .i64 rc, .int .i64 rj] 29)) = W0 from hW0.symm, ← hg]
  clear hW0 hg
  have u0 : W0.cell? ⟨g, 0, none⟩ = some (.int .i64 cap) := S0.out.cell 0 _ rfl
  have u1 : W0.cell? ⟨g, 1, none⟩ = some (.int .i64 pri) := S0.out.cell 1 _ rfl
  have u2 : W0.cell? ⟨g, 2, none⟩ = some (.int .i64 spl) := S0.out.cell 2 _ rfl
  have u3 : W0.cell? ⟨g, 3, none⟩ = some (.int .i64 dl) := S0.out.cell 3 _ rfl
  have u4 : W0.cell? ⟨g, 4, none⟩ = some (.int .i64 mis) := S0.out.cell 4 _ rfl
  have u5 : W0.cell? ⟨g, 5, none⟩ = some (.int .i64 keep) := S0.out.cell 5 _ rfl
  have u6 : W0.cell? ⟨g, 6, none⟩ = some (.int .i64 lt) := S0.out.cell 6 _ rfl
  have u7 : W0.cell? ⟨g, 7, none⟩ = some (.int .i64 lu) := S0.out.cell 7 _ rfl
  have u8 : W0.cell? ⟨g, 8, none⟩ = some (.int .i64 bf) := S0.out.cell 8 _ rfl
  have u9 : W0.cell? ⟨g, 9, none⟩ = some (.int .i64 bo) := S0.out.cell 9 _ rfl
  have u10 : W0.cell? ⟨g, 10, none⟩ = some (.int .i64 bp) := S0.out.cell 10 _ rfl
  have u11 : W0.cell? ⟨g, 11, none⟩ = some (.int .i64 rm) := S0.out.cell 11 _ rfl
  have u12 : W0.cell? ⟨g, 12, none⟩ = some (.int .i64 rb) := S0.out.cell 12 _ rfl
  have u13 : W0.cell? ⟨g, 13, none⟩ = some (.int .i64 rc) := S0.out.cell 13 _ rfl
  have u14 : W0.cell? ⟨g, 14, none⟩ = some (.int .i64 rj) := S0.out.cell 14 _ rfl
  go_wp2_with fail
  refine (HC.out _).mono ?_
  rintro e W1 ⟨rfl, c1⟩
  have S1 := Lib.hid (S0.out.low c1)
  have B1 := Lib.hid (B0.out.trans (c1.mono B0.out.size))
  clear c1 S0 B0 u0 u1 u2 u3 u4 u5 u6 u7 u8 u9 u10 u11 u12 u13 u14
  have u0 : W1.cell? ⟨g, 0, none⟩ = some (.int .i64 cap) := S1.out.cell 0 _ rfl
  have u1 : W1.cell? ⟨g, 1, none⟩ = some (.int .i64 pri) := S1.out.cell 1 _ rfl
  have u2 : W1.cell? ⟨g, 2, none⟩ = some (.int .i64 spl) := S1.out.cell 2 _ rfl
  have u3 : W1.cell? ⟨g, 3, none⟩ = some (.int .i64 dl) := S1.out.cell 3 _ rfl
  have u4 : W1.cell? ⟨g, 4, none⟩ = some (.int .i64 mis) := S1.out.cell 4 _ rfl
  have u5 : W1.cell? ⟨g, 5, none⟩ = some (.int .i64 keep) := S1.out.cell 5 _ rfl
  have u6 : W1.cell? ⟨g, 6, none⟩ = some (.int .i64 lt) := S1.out.cell 6 _ rfl
  have u7 : W1.cell? ⟨g, 7, none⟩ = some (.int .i64 lu) := S1.out.cell 7 _ rfl
  have u8 : W1.cell? ⟨g, 8, none⟩ = some (.int .i64 bf) := S1.out.cell 8 _ rfl
  have u9 : W1.cell? ⟨g, 9, none⟩ = some (.int .i64 bo) := S1.out.cell 9 _ rfl
  have u10 : W1.cell? ⟨g, 10, none⟩ = some (.int .i64 bp) := S1.out.cell 10 _ rfl
  have u11 : W1.cell? ⟨g, 11, none⟩ = some (.int .i64 rm) := S1.out.cell 11 _ rfl
  have u12 : W1.cell? ⟨g, 12, none⟩ = some (.int .i64 rb) := S1.out.cell 12 _ rfl
  have u13 : W1.cell? ⟨g, 13, none⟩ = some (.int .i64 rc) := S1.out.cell 13 _ rfl
  have u14 : W1.cell? ⟨g, 14, none⟩ = some (.int .i64 rj) := S1.out.cell 14 _ rfl
  have y0 := S1.out.fz 0 (by omega)
  obtain ⟨W2, hW2⟩ : ∃ W2, W2 = (W1.setCell ⟨g, 0, none⟩ (.int .i64 1001)) := ⟨_, rfl⟩
  have S2 := Lib.hid (show Lx.PSt g W1 W2 (⟨1001, pri, spl, dl, mis, keep, lt, lu, bf, bo, bp, rm, rb, rc, rj⟩ : Lx.PolV) from by rw [hW2]; exact (S1.out.set (j := 0) (q' := (⟨1001, pri, spl, dl, mis, keep, lt, lu, bf, bo, bp, rm, rb, rc, rj⟩ : Lx.PolV)) (v := .int .i64 1001) (by omega) rfl))
  have B2 := Lib.hid (B1.out.trans (S2.out.toB.mono Hle.out))
  go_upto_region 27 with (fail)
  rw [show (W1.setCell ⟨g, 0, none⟩ (.int .i64 1001)) = W2 from hW2.symm]
  clear hW2 S1 u0 u1 u2 u3 u4 u5 u6 u7 u8 u9 u10 u11 u12 u13 u14 y0
  have u0 : W2.cell? ⟨g, 0, none⟩ = some (.int .i64 1001) := S2.out.cell 0 _ rfl
  have u1 : W2.cell? ⟨g, 1, none⟩ = some (.int .i64 pri) := S2.out.cell 1 _ rfl
  have u2 : W2.cell? ⟨g, 2, none⟩ = some (.int .i64 spl) := S2.out.cell 2 _ rfl
  have u3 : W2.cell? ⟨g, 3, none⟩ = some (.int .i64 dl) := S2.out.cell 3 _ rfl
  have u4 : W2.cell? ⟨g, 4, none⟩ = some (.int .i64 mis) := S2.out.cell 4 _ rfl
  have u5 : W2.cell? ⟨g, 5, none⟩ = some (.int .i64 keep) := S2.out.cell 5 _ rfl
  have u6 : W2.cell? ⟨g, 6, none⟩ = some (.int .i64 lt) := S2.out.cell 6 _ rfl
  have u7 : W2.cell? ⟨g, 7, none⟩ = some (.int .i64 lu) := S2.out.cell 7 _ rfl
  have u8 : W2.cell? ⟨g, 8, none⟩ = some (.int .i64 bf) := S2.out.cell 8 _ rfl
  have u9 : W2.cell? ⟨g, 9, none⟩ = some (.int .i64 bo) := S2.out.cell 9 _ rfl
  have u10 : W2.cell? ⟨g, 10, none⟩ = some (.int .i64 bp) := S2.out.cell 10 _ rfl
  have u11 : W2.cell? ⟨g, 11, none⟩ = some (.int .i64 rm) := S2.out.cell 11 _ rfl
  have u12 : W2.cell? ⟨g, 12, none⟩ = some (.int .i64 rb) := S2.out.cell 12 _ rfl
  have u13 : W2.cell? ⟨g, 13, none⟩ = some (.int .i64 rc) := S2.out.cell 13 _ rfl
  have u14 : W2.cell? ⟨g, 14, none⟩ = some (.int .i64 rj) := S2.out.cell 14 _ rfl
  go_wp2_with fail
  refine (HP.out _ (E0.out.below B2.out)).mono ?_
  rintro e w3 ⟨rfl, c3⟩
  have S3 := Lib.hid (S2.out.low c3)
  have B3 := Lib.hid (B2.out.trans (c3.mono B2.out.size))
  clear c3 S2 B2 u0 u1 u2 u3 u4 u5 u6 u7 u8 u9 u10 u11 u12 u13 u14
  have u0 : w3.cell? ⟨g, 0, none⟩ = some (.int .i64 1001) := S3.out.cell 0 _ rfl
  have u1 : w3.cell? ⟨g, 1, none⟩ = some (.int .i64 pri) := S3.out.cell 1 _ rfl
  have u2 : w3.cell? ⟨g, 2, none⟩ = some (.int .i64 spl) := S3.out.cell 2 _ rfl
  have u3 : w3.cell? ⟨g, 3, none⟩ = some (.int .i64 dl) := S3.out.cell 3 _ rfl
  have u4 : w3.cell? ⟨g, 4, none⟩ = some (.int .i64 mis) := S3.out.cell 4 _ rfl
  have u5 : w3.cell? ⟨g, 5, none⟩ = some (.int .i64 keep) := S3.out.cell 5 _ rfl
  have u6 : w3.cell? ⟨g, 6, none⟩ = some (.int .i64 lt) := S3.out.cell 6 _ rfl
  have u7 : w3.cell? ⟨g, 7, none⟩ = some (.int .i64 lu) := S3.out.cell 7 _ rfl
  have u8 : w3.cell? ⟨g, 8, none⟩ = some (.int .i64 bf) := S3.out.cell 8 _ rfl
  have u9 : w3.cell? ⟨g, 9, none⟩ = some (.int .i64 bo) := S3.out.cell 9 _ rfl
  have u10 : w3.cell? ⟨g, 10, none⟩ = some (.int .i64 bp) := S3.out.cell 10 _ rfl
  have u11 : w3.cell? ⟨g, 11, none⟩ = some (.int .i64 rm) := S3.out.cell 11 _ rfl
  have u12 : w3.cell? ⟨g, 12, none⟩ = some (.int .i64 rb) := S3.out.cell 12 _ rfl
  have u13 : w3.cell? ⟨g, 13, none⟩ = some (.int .i64 rc) := S3.out.cell 13 _ rfl
  have u14 : w3.cell? ⟨g, 14, none⟩ = some (.int .i64 rj) := S3.out.cell 14 _ rfl
  go_wp2_with fail
  refine (HG.out _ (E0.out.below B3.out)).mono ?_
  rintro e w4 ⟨rfl, c4⟩
  have S4 := Lib.hid (S3.out.low c4)
  have B4 := Lib.hid (B3.out.trans (c4.mono B3.out.size))
  clear c4 S3 B3 u0 u1 u2 u3 u4 u5 u6 u7 u8 u9 u10 u11 u12 u13 u14
  have u0 : w4.cell? ⟨g, 0, none⟩ = some (.int .i64 1001) := S4.out.cell 0 _ rfl
  have u1 : w4.cell? ⟨g, 1, none⟩ = some (.int .i64 pri) := S4.out.cell 1 _ rfl
  have u2 : w4.cell? ⟨g, 2, none⟩ = some (.int .i64 spl) := S4.out.cell 2 _ rfl
  have u3 : w4.cell? ⟨g, 3, none⟩ = some (.int .i64 dl) := S4.out.cell 3 _ rfl
  have u4 : w4.cell? ⟨g, 4, none⟩ = some (.int .i64 mis) := S4.out.cell 4 _ rfl
  have u5 : w4.cell? ⟨g, 5, none⟩ = some (.int .i64 keep) := S4.out.cell 5 _ rfl
  have u6 : w4.cell? ⟨g, 6, none⟩ = some (.int .i64 lt) := S4.out.cell 6 _ rfl
  have u7 : w4.cell? ⟨g, 7, none⟩ = some (.int .i64 lu) := S4.out.cell 7 _ rfl
  have u8 : w4.cell? ⟨g, 8, none⟩ = some (.int .i64 bf) := S4.out.cell 8 _ rfl
  have u9 : w4.cell? ⟨g, 9, none⟩ = some (.int .i64 bo) := S4.out.cell 9 _ rfl
  have u10 : w4.cell? ⟨g, 10, none⟩ = some (.int .i64 bp) := S4.out.cell 10 _ rfl
  have u11 : w4.cell? ⟨g, 11, none⟩ = some (.int .i64 rm) := S4.out.cell 11 _ rfl
  have u12 : w4.cell? ⟨g, 12, none⟩ = some (.int .i64 rb) := S4.out.cell 12 _ rfl
  have u13 : w4.cell? ⟨g, 13, none⟩ = some (.int .i64 rc) := S4.out.cell 13 _ rfl
  have u14 : w4.cell? ⟨g, 14, none⟩ = some (.int .i64 rj) := S4.out.cell 14 _ rfl
  go_wp2_with fail
  refine (HC2.out _).mono ?_
  rintro e w5 ⟨rfl, c5⟩
  have B5 := Lib.hid (B4.out.trans (c5.mono B4.out.size))
  clear c5 S4 B4 u0 u1 u2 u3 u4 u5 u6 u7 u8 u9 u10 u11 u12 u13 u14
  go_wp2_with fail
  refine (HW.out _ (E0.out.below B5.out)).mono ?_
  rintro e w6 ⟨rfl, c6⟩
  go_wp2_with fail
  go_ret
  exact ⟨rfl, B5.out.trans (c6.mono B5.out.size)⟩
theorem prb2 (cap spl dl mis keep lt lu bf bo bp rm rb rc rj : Int) : Lx.polOk (⟨cap, 101, spl, dl, mis, keep, lt, lu, bf, bo, bp, rm, rb, rc, rj⟩ : Lx.PolV) = false := by
  simp [Lx.polOk, Lx.fldOk, Lx.misOk, Lx.limOk, Lx.brOk, Lx.reOk, Lx.brZ, Lx.reZ, Lx.inI]
set_option maxRecDepth 100000 in
set_option maxHeartbeats 1600000 in
theorem prw2 (p : Lx.PolV) (h : Lx.polOk p = true) (c : UInt8) (hc : (c.toNat : Int) % 12 = 2) (w : World) (env : UEnv w) :
    Calls Tryz.prog 10 #[p.val, .int .u8 c.toNat] w fun e w' => e = .returned (.bool true) ∧ Below w.heap.size w w' := by
  have HW := Lib.hid (fun W (E : UEnv W) => pworks_any W E)
  have E0 := Lib.hid env
  have hgl := env.env.lt
  obtain ⟨g, hg⟩ : ∃ g, g = w.heap.size := ⟨_, rfl⟩
  have hE : Lx.polE p = 0 := by unfold Lx.polE; rw [if_pos h]
  have HC := fun W => polCheck_any p W
  rw [hE] at HC
  obtain ⟨cap, pri, spl, dl, mis, keep, lt, lu, bf, bo, bp, rm, rb, rc, rj⟩ := p
  have hb := prb2 cap spl dl mis keep lt lu bf bo bp rm rb rc rj
  have hE2 : Lx.polE (⟨cap, 101, spl, dl, mis, keep, lt, lu, bf, bo, bp, rm, rb, rc, rj⟩ : Lx.PolV) = 16 := by unfold Lx.polE; rw [if_neg (by rw [hb]; decide)]
  have hS2 : Lx.prS (⟨cap, 101, spl, dl, mis, keep, lt, lu, bf, bo, bp, rm, rb, rc, rj⟩ : Lx.PolV) = [] := by unfold Lx.prS; rw [if_neg (by rw [hb]; decide)]
  have hG2 : ∀ s, Lx.getS (⟨cap, 101, spl, dl, mis, keep, lt, lu, bf, bo, bp, rm, rb, rc, rj⟩ : Lx.PolV) s = [] ∧ Lx.getE (⟨cap, 101, spl, dl, mis, keep, lt, lu, bf, bo, bp, rm, rb, rc, rj⟩ : Lx.PolV) s = 16 := fun s => by
    unfold Lx.getS Lx.getE; rw [if_neg (fun c => by rw [hb] at c; cases c.1), if_neg (by rw [hb]; decide)]; exact ⟨rfl, rfl⟩
  have HC := Lib.hid (show ∀ W, Calls Tryz.prog 19 #[.agg #[.int .i64 cap, .int .i64 pri, .int .i64 spl, .int .i64 dl, .int .i64 mis, .int .i64 keep, .int .i64 lt, .int .i64 lu, .int .i64 bf, .int .i64 bo, .int .i64 bp, .int .i64 rm, .int .i64 rb, .int .i64 rc, .int .i64 rj]] W fun e w' => e = .returned (.int .i64 0) ∧ Below W.heap.size W w' from HC)
  have HP := Lib.hid (show ∀ W, UEnv W → Calls Tryz.prog 18 #[.agg #[.int .i64 cap, .int .i64 101, .int .i64 spl, .int .i64 dl, .int .i64 mis, .int .i64 keep, .int .i64 lt, .int .i64 lu, .int .i64 bf, .int .i64 bo, .int .i64 bp, .int .i64 rm, .int .i64 rb, .int .i64 rc, .int .i64 rj]] W fun e w' => e = .returned (.tuple #[.string ⟨#[]⟩, .int .i64 16]) ∧ Below W.heap.size W w' from fun W E => by have := polPrint_any (⟨cap, 101, spl, dl, mis, keep, lt, lu, bf, bo, bp, rm, rb, rc, rj⟩ : Lx.PolV) W E; rw [hE2, hS2] at this; exact this)
  have HG := Lib.hid (show ∀ W, UEnv W → Calls Tryz.prog 31 #[.agg #[.int .i64 cap, .int .i64 101, .int .i64 spl, .int .i64 dl, .int .i64 mis, .int .i64 keep, .int .i64 lt, .int .i64 lu, .int .i64 bf, .int .i64 bo, .int .i64 bp, .int .i64 rm, .int .i64 rb, .int .i64 rc, .int .i64 rj], .string ⟨#[99, 97, 112]⟩] W fun e w' => e = .returned (.tuple #[.string ⟨#[]⟩, .int .i64 16]) ∧ Below W.heap.size W w' from fun W E => by have := polGet_any (⟨cap, 101, spl, dl, mis, keep, lt, lu, bf, bo, bp, rm, rb, rc, rj⟩ : Lx.PolV) ⟨#[99, 97, 112]⟩ W E; rw [(hG2 _).1, (hG2 _).2] at this; exact this)
  have HC2 := Lib.hid (show ∀ W, Calls Tryz.prog 19 #[.agg #[.int .i64 cap, .int .i64 101, .int .i64 spl, .int .i64 dl, .int .i64 mis, .int .i64 keep, .int .i64 lt, .int .i64 lu, .int .i64 bf, .int .i64 bo, .int .i64 bp, .int .i64 rm, .int .i64 rb, .int .i64 rc, .int .i64 rj]] W fun e w' => e = .returned (.int .i64 16) ∧ Below W.heap.size W w' from fun W => by have := polCheck_any (⟨cap, 101, spl, dl, mis, keep, lt, lu, bf, bo, bp, rm, rb, rc, rj⟩ : Lx.PolV) W; rw [hE2] at this; exact this)
  clear hE hE2 hS2 hG2 hb h env
  obtain ⟨W0, hW0⟩ : ∃ W0, W0 = (w.alloc (.cells #[.int .i64 cap, .int .i64 pri, .int .i64 spl, .int .i64 dl, .int .i64 mis, .int .i64 keep, .int .i64 lt, .int .i64 lu, .int .i64 bf, .int .i64 bo, .int .i64 bp, .int .i64 rm, .int .i64 rb, .int .i64 rc, .int .i64 rj] 29)) := ⟨_, rfl⟩
  have S0 := Lib.hid (show Lx.PSt g W0 W0 ⟨cap, pri, spl, dl, mis, keep, lt, lu, bf, bo, bp, rm, rb, rc, rj⟩ from by rw [hg, hW0]; exact Lx.PSt.new w hgl ⟨cap, pri, spl, dl, mis, keep, lt, lu, bf, bo, bp, rm, rb, rc, rj⟩)
  have B0 := Lib.hid (show Below w.heap.size w W0 from by rw [hW0]; exact (Below.refl _ w).alloc (Nat.le_refl _) _)
  have Hle := Lib.hid (show w.heap.size ≤ g from Nat.le_of_eq hg.symm)
  show Calls Tryz.prog 10 #[.agg #[.int .i64 cap, .int .i64 pri, .int .i64 spl, .int .i64 dl, .int .i64 mis, .int .i64 keep, .int .i64 lt, .int .i64 lu, .int .i64 bf, .int .i64 bo, .int .i64 bp, .int .i64 rm, .int .i64 rb, .int .i64 rc, .int .i64 rj], .int .u8 c.toNat] w _
  go_enter Tryz.func10, Tryz.ntmps10
  go_upto_region 1 with (fail)
  rw [show (w.alloc (.cells #[.int .i64 cap, .int .i64 pri, .int .i64 spl, .int .i64 dl, .int .i64 mis, .int .i64 keep, .int .i64 lt, .int .i64 lu, .int .i64 bf, .int .i64 bo, .int .i64 bp, .int .i64 rm, .int .i64 rb, .int .i64 rc, .int .i64 rj] 29)) = W0 from hW0.symm, ← hg]
  clear hW0 hg
  have u0 : W0.cell? ⟨g, 0, none⟩ = some (.int .i64 cap) := S0.out.cell 0 _ rfl
  have u1 : W0.cell? ⟨g, 1, none⟩ = some (.int .i64 pri) := S0.out.cell 1 _ rfl
  have u2 : W0.cell? ⟨g, 2, none⟩ = some (.int .i64 spl) := S0.out.cell 2 _ rfl
  have u3 : W0.cell? ⟨g, 3, none⟩ = some (.int .i64 dl) := S0.out.cell 3 _ rfl
  have u4 : W0.cell? ⟨g, 4, none⟩ = some (.int .i64 mis) := S0.out.cell 4 _ rfl
  have u5 : W0.cell? ⟨g, 5, none⟩ = some (.int .i64 keep) := S0.out.cell 5 _ rfl
  have u6 : W0.cell? ⟨g, 6, none⟩ = some (.int .i64 lt) := S0.out.cell 6 _ rfl
  have u7 : W0.cell? ⟨g, 7, none⟩ = some (.int .i64 lu) := S0.out.cell 7 _ rfl
  have u8 : W0.cell? ⟨g, 8, none⟩ = some (.int .i64 bf) := S0.out.cell 8 _ rfl
  have u9 : W0.cell? ⟨g, 9, none⟩ = some (.int .i64 bo) := S0.out.cell 9 _ rfl
  have u10 : W0.cell? ⟨g, 10, none⟩ = some (.int .i64 bp) := S0.out.cell 10 _ rfl
  have u11 : W0.cell? ⟨g, 11, none⟩ = some (.int .i64 rm) := S0.out.cell 11 _ rfl
  have u12 : W0.cell? ⟨g, 12, none⟩ = some (.int .i64 rb) := S0.out.cell 12 _ rfl
  have u13 : W0.cell? ⟨g, 13, none⟩ = some (.int .i64 rc) := S0.out.cell 13 _ rfl
  have u14 : W0.cell? ⟨g, 14, none⟩ = some (.int .i64 rj) := S0.out.cell 14 _ rfl
  go_wp2_with fail
  refine (HC.out _).mono ?_
  rintro e W1 ⟨rfl, c1⟩
  have S1 := Lib.hid (S0.out.low c1)
  have B1 := Lib.hid (B0.out.trans (c1.mono B0.out.size))
  clear c1 S0 B0 u0 u1 u2 u3 u4 u5 u6 u7 u8 u9 u10 u11 u12 u13 u14
  have u0 : W1.cell? ⟨g, 0, none⟩ = some (.int .i64 cap) := S1.out.cell 0 _ rfl
  have u1 : W1.cell? ⟨g, 1, none⟩ = some (.int .i64 pri) := S1.out.cell 1 _ rfl
  have u2 : W1.cell? ⟨g, 2, none⟩ = some (.int .i64 spl) := S1.out.cell 2 _ rfl
  have u3 : W1.cell? ⟨g, 3, none⟩ = some (.int .i64 dl) := S1.out.cell 3 _ rfl
  have u4 : W1.cell? ⟨g, 4, none⟩ = some (.int .i64 mis) := S1.out.cell 4 _ rfl
  have u5 : W1.cell? ⟨g, 5, none⟩ = some (.int .i64 keep) := S1.out.cell 5 _ rfl
  have u6 : W1.cell? ⟨g, 6, none⟩ = some (.int .i64 lt) := S1.out.cell 6 _ rfl
  have u7 : W1.cell? ⟨g, 7, none⟩ = some (.int .i64 lu) := S1.out.cell 7 _ rfl
  have u8 : W1.cell? ⟨g, 8, none⟩ = some (.int .i64 bf) := S1.out.cell 8 _ rfl
  have u9 : W1.cell? ⟨g, 9, none⟩ = some (.int .i64 bo) := S1.out.cell 9 _ rfl
  have u10 : W1.cell? ⟨g, 10, none⟩ = some (.int .i64 bp) := S1.out.cell 10 _ rfl
  have u11 : W1.cell? ⟨g, 11, none⟩ = some (.int .i64 rm) := S1.out.cell 11 _ rfl
  have u12 : W1.cell? ⟨g, 12, none⟩ = some (.int .i64 rb) := S1.out.cell 12 _ rfl
  have u13 : W1.cell? ⟨g, 13, none⟩ = some (.int .i64 rc) := S1.out.cell 13 _ rfl
  have u14 : W1.cell? ⟨g, 14, none⟩ = some (.int .i64 rj) := S1.out.cell 14 _ rfl
  have y1 := S1.out.fz 1 (by omega)
  obtain ⟨W2, hW2⟩ : ∃ W2, W2 = (W1.setCell ⟨g, 1, none⟩ (.int .i64 101)) := ⟨_, rfl⟩
  have S2 := Lib.hid (show Lx.PSt g W1 W2 (⟨cap, 101, spl, dl, mis, keep, lt, lu, bf, bo, bp, rm, rb, rc, rj⟩ : Lx.PolV) from by rw [hW2]; exact (S1.out.set (j := 1) (q' := (⟨cap, 101, spl, dl, mis, keep, lt, lu, bf, bo, bp, rm, rb, rc, rj⟩ : Lx.PolV)) (v := .int .i64 101) (by omega) rfl))
  have B2 := Lib.hid (B1.out.trans (S2.out.toB.mono Hle.out))
  go_upto_region 27 with (fail)
  rw [show (W1.setCell ⟨g, 1, none⟩ (.int .i64 101)) = W2 from hW2.symm]
  clear hW2 S1 u0 u1 u2 u3 u4 u5 u6 u7 u8 u9 u10 u11 u12 u13 u14 y1
  have u0 : W2.cell? ⟨g, 0, none⟩ = some (.int .i64 cap) := S2.out.cell 0 _ rfl
  have u1 : W2.cell? ⟨g, 1, none⟩ = some (.int .i64 101) := S2.out.cell 1 _ rfl
  have u2 : W2.cell? ⟨g, 2, none⟩ = some (.int .i64 spl) := S2.out.cell 2 _ rfl
  have u3 : W2.cell? ⟨g, 3, none⟩ = some (.int .i64 dl) := S2.out.cell 3 _ rfl
  have u4 : W2.cell? ⟨g, 4, none⟩ = some (.int .i64 mis) := S2.out.cell 4 _ rfl
  have u5 : W2.cell? ⟨g, 5, none⟩ = some (.int .i64 keep) := S2.out.cell 5 _ rfl
  have u6 : W2.cell? ⟨g, 6, none⟩ = some (.int .i64 lt) := S2.out.cell 6 _ rfl
  have u7 : W2.cell? ⟨g, 7, none⟩ = some (.int .i64 lu) := S2.out.cell 7 _ rfl
  have u8 : W2.cell? ⟨g, 8, none⟩ = some (.int .i64 bf) := S2.out.cell 8 _ rfl
  have u9 : W2.cell? ⟨g, 9, none⟩ = some (.int .i64 bo) := S2.out.cell 9 _ rfl
  have u10 : W2.cell? ⟨g, 10, none⟩ = some (.int .i64 bp) := S2.out.cell 10 _ rfl
  have u11 : W2.cell? ⟨g, 11, none⟩ = some (.int .i64 rm) := S2.out.cell 11 _ rfl
  have u12 : W2.cell? ⟨g, 12, none⟩ = some (.int .i64 rb) := S2.out.cell 12 _ rfl
  have u13 : W2.cell? ⟨g, 13, none⟩ = some (.int .i64 rc) := S2.out.cell 13 _ rfl
  have u14 : W2.cell? ⟨g, 14, none⟩ = some (.int .i64 rj) := S2.out.cell 14 _ rfl
  go_wp2_with fail
  refine (HP.out _ (E0.out.below B2.out)).mono ?_
  rintro e w3 ⟨rfl, c3⟩
  have S3 := Lib.hid (S2.out.low c3)
  have B3 := Lib.hid (B2.out.trans (c3.mono B2.out.size))
  clear c3 S2 B2 u0 u1 u2 u3 u4 u5 u6 u7 u8 u9 u10 u11 u12 u13 u14
  have u0 : w3.cell? ⟨g, 0, none⟩ = some (.int .i64 cap) := S3.out.cell 0 _ rfl
  have u1 : w3.cell? ⟨g, 1, none⟩ = some (.int .i64 101) := S3.out.cell 1 _ rfl
  have u2 : w3.cell? ⟨g, 2, none⟩ = some (.int .i64 spl) := S3.out.cell 2 _ rfl
  have u3 : w3.cell? ⟨g, 3, none⟩ = some (.int .i64 dl) := S3.out.cell 3 _ rfl
  have u4 : w3.cell? ⟨g, 4, none⟩ = some (.int .i64 mis) := S3.out.cell 4 _ rfl
  have u5 : w3.cell? ⟨g, 5, none⟩ = some (.int .i64 keep) := S3.out.cell 5 _ rfl
  have u6 : w3.cell? ⟨g, 6, none⟩ = some (.int .i64 lt) := S3.out.cell 6 _ rfl
  have u7 : w3.cell? ⟨g, 7, none⟩ = some (.int .i64 lu) := S3.out.cell 7 _ rfl
  have u8 : w3.cell? ⟨g, 8, none⟩ = some (.int .i64 bf) := S3.out.cell 8 _ rfl
  have u9 : w3.cell? ⟨g, 9, none⟩ = some (.int .i64 bo) := S3.out.cell 9 _ rfl
  have u10 : w3.cell? ⟨g, 10, none⟩ = some (.int .i64 bp) := S3.out.cell 10 _ rfl
  have u11 : w3.cell? ⟨g, 11, none⟩ = some (.int .i64 rm) := S3.out.cell 11 _ rfl
  have u12 : w3.cell? ⟨g, 12, none⟩ = some (.int .i64 rb) := S3.out.cell 12 _ rfl
  have u13 : w3.cell? ⟨g, 13, none⟩ = some (.int .i64 rc) := S3.out.cell 13 _ rfl
  have u14 : w3.cell? ⟨g, 14, none⟩ = some (.int .i64 rj) := S3.out.cell 14 _ rfl
  go_wp2_with fail
  refine (HG.out _ (E0.out.below B3.out)).mono ?_
  rintro e w4 ⟨rfl, c4⟩
  have S4 := Lib.hid (S3.out.low c4)
  have B4 := Lib.hid (B3.out.trans (c4.mono B3.out.size))
  clear c4 S3 B3 u0 u1 u2 u3 u4 u5 u6 u7 u8 u9 u10 u11 u12 u13 u14
  have u0 : w4.cell? ⟨g, 0, none⟩ = some (.int .i64 cap) := S4.out.cell 0 _ rfl
  have u1 : w4.cell? ⟨g, 1, none⟩ = some (.int .i64 101) := S4.out.cell 1 _ rfl
  have u2 : w4.cell? ⟨g, 2, none⟩ = some (.int .i64 spl) := S4.out.cell 2 _ rfl
  have u3 : w4.cell? ⟨g, 3, none⟩ = some (.int .i64 dl) := S4.out.cell 3 _ rfl
  have u4 : w4.cell? ⟨g, 4, none⟩ = some (.int .i64 mis) := S4.out.cell 4 _ rfl
  have u5 : w4.cell? ⟨g, 5, none⟩ = some (.int .i64 keep) := S4.out.cell 5 _ rfl
  have u6 : w4.cell? ⟨g, 6, none⟩ = some (.int .i64 lt) := S4.out.cell 6 _ rfl
  have u7 : w4.cell? ⟨g, 7, none⟩ = some (.int .i64 lu) := S4.out.cell 7 _ rfl
  have u8 : w4.cell? ⟨g, 8, none⟩ = some (.int .i64 bf) := S4.out.cell 8 _ rfl
  have u9 : w4.cell? ⟨g, 9, none⟩ = some (.int .i64 bo) := S4.out.cell 9 _ rfl
  have u10 : w4.cell? ⟨g, 10, none⟩ = some (.int .i64 bp) := S4.out.cell 10 _ rfl
  have u11 : w4.cell? ⟨g, 11, none⟩ = some (.int .i64 rm) := S4.out.cell 11 _ rfl
  have u12 : w4.cell? ⟨g, 12, none⟩ = some (.int .i64 rb) := S4.out.cell 12 _ rfl
  have u13 : w4.cell? ⟨g, 13, none⟩ = some (.int .i64 rc) := S4.out.cell 13 _ rfl
  have u14 : w4.cell? ⟨g, 14, none⟩ = some (.int .i64 rj) := S4.out.cell 14 _ rfl
  go_wp2_with fail
  refine (HC2.out _).mono ?_
  rintro e w5 ⟨rfl, c5⟩
  have B5 := Lib.hid (B4.out.trans (c5.mono B4.out.size))
  clear c5 S4 B4 u0 u1 u2 u3 u4 u5 u6 u7 u8 u9 u10 u11 u12 u13 u14
  go_wp2_with fail
  refine (HW.out _ (E0.out.below B5.out)).mono ?_
  rintro e w6 ⟨rfl, c6⟩
  go_wp2_with fail
  go_ret
  exact ⟨rfl, B5.out.trans (c6.mono B5.out.size)⟩
theorem prb3 (cap pri dl mis keep lt lu bf bo bp rm rb rc rj : Int) : Lx.polOk (⟨cap, pri, 68719476737, dl, mis, keep, lt, lu, bf, bo, bp, rm, rb, rc, rj⟩ : Lx.PolV) = false := by
  simp [Lx.polOk, Lx.fldOk, Lx.misOk, Lx.limOk, Lx.brOk, Lx.reOk, Lx.brZ, Lx.reZ, Lx.inI]
set_option maxRecDepth 100000 in
set_option maxHeartbeats 1600000 in
theorem prw3 (p : Lx.PolV) (h : Lx.polOk p = true) (c : UInt8) (hc : (c.toNat : Int) % 12 = 3) (w : World) (env : UEnv w) :
    Calls Tryz.prog 10 #[p.val, .int .u8 c.toNat] w fun e w' => e = .returned (.bool true) ∧ Below w.heap.size w w' := by
  have HW := Lib.hid (fun W (E : UEnv W) => pworks_any W E)
  have E0 := Lib.hid env
  have hgl := env.env.lt
  obtain ⟨g, hg⟩ : ∃ g, g = w.heap.size := ⟨_, rfl⟩
  have hE : Lx.polE p = 0 := by unfold Lx.polE; rw [if_pos h]
  have HC := fun W => polCheck_any p W
  rw [hE] at HC
  obtain ⟨cap, pri, spl, dl, mis, keep, lt, lu, bf, bo, bp, rm, rb, rc, rj⟩ := p
  have hb := prb3 cap pri dl mis keep lt lu bf bo bp rm rb rc rj
  have hE2 : Lx.polE (⟨cap, pri, 68719476737, dl, mis, keep, lt, lu, bf, bo, bp, rm, rb, rc, rj⟩ : Lx.PolV) = 16 := by unfold Lx.polE; rw [if_neg (by rw [hb]; decide)]
  have hS2 : Lx.prS (⟨cap, pri, 68719476737, dl, mis, keep, lt, lu, bf, bo, bp, rm, rb, rc, rj⟩ : Lx.PolV) = [] := by unfold Lx.prS; rw [if_neg (by rw [hb]; decide)]
  have hG2 : ∀ s, Lx.getS (⟨cap, pri, 68719476737, dl, mis, keep, lt, lu, bf, bo, bp, rm, rb, rc, rj⟩ : Lx.PolV) s = [] ∧ Lx.getE (⟨cap, pri, 68719476737, dl, mis, keep, lt, lu, bf, bo, bp, rm, rb, rc, rj⟩ : Lx.PolV) s = 16 := fun s => by
    unfold Lx.getS Lx.getE; rw [if_neg (fun c => by rw [hb] at c; cases c.1), if_neg (by rw [hb]; decide)]; exact ⟨rfl, rfl⟩
  have HC := Lib.hid (show ∀ W, Calls Tryz.prog 19 #[.agg #[.int .i64 cap, .int .i64 pri, .int .i64 spl, .int .i64 dl, .int .i64 mis, .int .i64 keep, .int .i64 lt, .int .i64 lu, .int .i64 bf, .int .i64 bo, .int .i64 bp, .int .i64 rm, .int .i64 rb, .int .i64 rc, .int .i64 rj]] W fun e w' => e = .returned (.int .i64 0) ∧ Below W.heap.size W w' from HC)
  have HP := Lib.hid (show ∀ W, UEnv W → Calls Tryz.prog 18 #[.agg #[.int .i64 cap, .int .i64 pri, .int .i64 68719476737, .int .i64 dl, .int .i64 mis, .int .i64 keep, .int .i64 lt, .int .i64 lu, .int .i64 bf, .int .i64 bo, .int .i64 bp, .int .i64 rm, .int .i64 rb, .int .i64 rc, .int .i64 rj]] W fun e w' => e = .returned (.tuple #[.string ⟨#[]⟩, .int .i64 16]) ∧ Below W.heap.size W w' from fun W E => by have := polPrint_any (⟨cap, pri, 68719476737, dl, mis, keep, lt, lu, bf, bo, bp, rm, rb, rc, rj⟩ : Lx.PolV) W E; rw [hE2, hS2] at this; exact this)
  have HG := Lib.hid (show ∀ W, UEnv W → Calls Tryz.prog 31 #[.agg #[.int .i64 cap, .int .i64 pri, .int .i64 68719476737, .int .i64 dl, .int .i64 mis, .int .i64 keep, .int .i64 lt, .int .i64 lu, .int .i64 bf, .int .i64 bo, .int .i64 bp, .int .i64 rm, .int .i64 rb, .int .i64 rc, .int .i64 rj], .string ⟨#[99, 97, 112]⟩] W fun e w' => e = .returned (.tuple #[.string ⟨#[]⟩, .int .i64 16]) ∧ Below W.heap.size W w' from fun W E => by have := polGet_any (⟨cap, pri, 68719476737, dl, mis, keep, lt, lu, bf, bo, bp, rm, rb, rc, rj⟩ : Lx.PolV) ⟨#[99, 97, 112]⟩ W E; rw [(hG2 _).1, (hG2 _).2] at this; exact this)
  have HC2 := Lib.hid (show ∀ W, Calls Tryz.prog 19 #[.agg #[.int .i64 cap, .int .i64 pri, .int .i64 68719476737, .int .i64 dl, .int .i64 mis, .int .i64 keep, .int .i64 lt, .int .i64 lu, .int .i64 bf, .int .i64 bo, .int .i64 bp, .int .i64 rm, .int .i64 rb, .int .i64 rc, .int .i64 rj]] W fun e w' => e = .returned (.int .i64 16) ∧ Below W.heap.size W w' from fun W => by have := polCheck_any (⟨cap, pri, 68719476737, dl, mis, keep, lt, lu, bf, bo, bp, rm, rb, rc, rj⟩ : Lx.PolV) W; rw [hE2] at this; exact this)
  clear hE hE2 hS2 hG2 hb h env
  obtain ⟨W0, hW0⟩ : ∃ W0, W0 = (w.alloc (.cells #[.int .i64 cap, .int .i64 pri, .int .i64 spl, .int .i64 dl, .int .i64 mis, .int .i64 keep, .int .i64 lt, .int .i64 lu, .int .i64 bf, .int .i64 bo, .int .i64 bp, .int .i64 rm, .int .i64 rb, .int .i64 rc, .int .i64 rj] 29)) := ⟨_, rfl⟩
  have S0 := Lib.hid (show Lx.PSt g W0 W0 ⟨cap, pri, spl, dl, mis, keep, lt, lu, bf, bo, bp, rm, rb, rc, rj⟩ from by rw [hg, hW0]; exact Lx.PSt.new w hgl ⟨cap, pri, spl, dl, mis, keep, lt, lu, bf, bo, bp, rm, rb, rc, rj⟩)
  have B0 := Lib.hid (show Below w.heap.size w W0 from by rw [hW0]; exact (Below.refl _ w).alloc (Nat.le_refl _) _)
  have Hle := Lib.hid (show w.heap.size ≤ g from Nat.le_of_eq hg.symm)
  show Calls Tryz.prog 10 #[.agg #[.int .i64 cap, .int .i64 pri, .int .i64 spl, .int .i64 dl, .int .i64 mis, .int .i64 keep, .int .i64 lt, .int .i64 lu, .int .i64 bf, .int .i64 bo, .int .i64 bp, .int .i64 rm, .int .i64 rb, .int .i64 rc, .int .i64 rj], .int .u8 c.toNat] w _
  go_enter Tryz.func10, Tryz.ntmps10
  go_upto_region 1 with (fail)
  rw [show (w.alloc (.cells #[.int .i64 cap, .int .i64 pri, .int .i64 spl, .int .i64 dl, .int .i64 mis, .int .i64 keep, .int .i64 lt, .int .i64 lu, .int .i64 bf, .int .i64 bo, .int .i64 bp, .int .i64 rm, .int .i64 rb, .int .i64 rc, .int .i64 rj] 29)) = W0 from hW0.symm, ← hg]
  clear hW0 hg
  have u0 : W0.cell? ⟨g, 0, none⟩ = some (.int .i64 cap) := S0.out.cell 0 _ rfl
  have u1 : W0.cell? ⟨g, 1, none⟩ = some (.int .i64 pri) := S0.out.cell 1 _ rfl
  have u2 : W0.cell? ⟨g, 2, none⟩ = some (.int .i64 spl) := S0.out.cell 2 _ rfl
  have u3 : W0.cell? ⟨g, 3, none⟩ = some (.int .i64 dl) := S0.out.cell 3 _ rfl
  have u4 : W0.cell? ⟨g, 4, none⟩ = some (.int .i64 mis) := S0.out.cell 4 _ rfl
  have u5 : W0.cell? ⟨g, 5, none⟩ = some (.int .i64 keep) := S0.out.cell 5 _ rfl
  have u6 : W0.cell? ⟨g, 6, none⟩ = some (.int .i64 lt) := S0.out.cell 6 _ rfl
  have u7 : W0.cell? ⟨g, 7, none⟩ = some (.int .i64 lu) := S0.out.cell 7 _ rfl
  have u8 : W0.cell? ⟨g, 8, none⟩ = some (.int .i64 bf) := S0.out.cell 8 _ rfl
  have u9 : W0.cell? ⟨g, 9, none⟩ = some (.int .i64 bo) := S0.out.cell 9 _ rfl
  have u10 : W0.cell? ⟨g, 10, none⟩ = some (.int .i64 bp) := S0.out.cell 10 _ rfl
  have u11 : W0.cell? ⟨g, 11, none⟩ = some (.int .i64 rm) := S0.out.cell 11 _ rfl
  have u12 : W0.cell? ⟨g, 12, none⟩ = some (.int .i64 rb) := S0.out.cell 12 _ rfl
  have u13 : W0.cell? ⟨g, 13, none⟩ = some (.int .i64 rc) := S0.out.cell 13 _ rfl
  have u14 : W0.cell? ⟨g, 14, none⟩ = some (.int .i64 rj) := S0.out.cell 14 _ rfl
  go_wp2_with fail
  refine (HC.out _).mono ?_
  rintro e W1 ⟨rfl, c1⟩
  have S1 := Lib.hid (S0.out.low c1)
  have B1 := Lib.hid (B0.out.trans (c1.mono B0.out.size))
  clear c1 S0 B0 u0 u1 u2 u3 u4 u5 u6 u7 u8 u9 u10 u11 u12 u13 u14
  have u0 : W1.cell? ⟨g, 0, none⟩ = some (.int .i64 cap) := S1.out.cell 0 _ rfl
  have u1 : W1.cell? ⟨g, 1, none⟩ = some (.int .i64 pri) := S1.out.cell 1 _ rfl
  have u2 : W1.cell? ⟨g, 2, none⟩ = some (.int .i64 spl) := S1.out.cell 2 _ rfl
  have u3 : W1.cell? ⟨g, 3, none⟩ = some (.int .i64 dl) := S1.out.cell 3 _ rfl
  have u4 : W1.cell? ⟨g, 4, none⟩ = some (.int .i64 mis) := S1.out.cell 4 _ rfl
  have u5 : W1.cell? ⟨g, 5, none⟩ = some (.int .i64 keep) := S1.out.cell 5 _ rfl
  have u6 : W1.cell? ⟨g, 6, none⟩ = some (.int .i64 lt) := S1.out.cell 6 _ rfl
  have u7 : W1.cell? ⟨g, 7, none⟩ = some (.int .i64 lu) := S1.out.cell 7 _ rfl
  have u8 : W1.cell? ⟨g, 8, none⟩ = some (.int .i64 bf) := S1.out.cell 8 _ rfl
  have u9 : W1.cell? ⟨g, 9, none⟩ = some (.int .i64 bo) := S1.out.cell 9 _ rfl
  have u10 : W1.cell? ⟨g, 10, none⟩ = some (.int .i64 bp) := S1.out.cell 10 _ rfl
  have u11 : W1.cell? ⟨g, 11, none⟩ = some (.int .i64 rm) := S1.out.cell 11 _ rfl
  have u12 : W1.cell? ⟨g, 12, none⟩ = some (.int .i64 rb) := S1.out.cell 12 _ rfl
  have u13 : W1.cell? ⟨g, 13, none⟩ = some (.int .i64 rc) := S1.out.cell 13 _ rfl
  have u14 : W1.cell? ⟨g, 14, none⟩ = some (.int .i64 rj) := S1.out.cell 14 _ rfl
  have y2 := S1.out.fz 2 (by omega)
  obtain ⟨W2, hW2⟩ : ∃ W2, W2 = (W1.setCell ⟨g, 2, none⟩ (.int .i64 68719476737)) := ⟨_, rfl⟩
  have S2 := Lib.hid (show Lx.PSt g W1 W2 (⟨cap, pri, 68719476737, dl, mis, keep, lt, lu, bf, bo, bp, rm, rb, rc, rj⟩ : Lx.PolV) from by rw [hW2]; exact (S1.out.set (j := 2) (q' := (⟨cap, pri, 68719476737, dl, mis, keep, lt, lu, bf, bo, bp, rm, rb, rc, rj⟩ : Lx.PolV)) (v := .int .i64 68719476737) (by omega) rfl))
  have B2 := Lib.hid (B1.out.trans (S2.out.toB.mono Hle.out))
  go_upto_region 27 with (fail)
  rw [show (W1.setCell ⟨g, 2, none⟩ (.int .i64 68719476737)) = W2 from hW2.symm]
  clear hW2 S1 u0 u1 u2 u3 u4 u5 u6 u7 u8 u9 u10 u11 u12 u13 u14 y2
  have u0 : W2.cell? ⟨g, 0, none⟩ = some (.int .i64 cap) := S2.out.cell 0 _ rfl
  have u1 : W2.cell? ⟨g, 1, none⟩ = some (.int .i64 pri) := S2.out.cell 1 _ rfl
  have u2 : W2.cell? ⟨g, 2, none⟩ = some (.int .i64 68719476737) := S2.out.cell 2 _ rfl
  have u3 : W2.cell? ⟨g, 3, none⟩ = some (.int .i64 dl) := S2.out.cell 3 _ rfl
  have u4 : W2.cell? ⟨g, 4, none⟩ = some (.int .i64 mis) := S2.out.cell 4 _ rfl
  have u5 : W2.cell? ⟨g, 5, none⟩ = some (.int .i64 keep) := S2.out.cell 5 _ rfl
  have u6 : W2.cell? ⟨g, 6, none⟩ = some (.int .i64 lt) := S2.out.cell 6 _ rfl
  have u7 : W2.cell? ⟨g, 7, none⟩ = some (.int .i64 lu) := S2.out.cell 7 _ rfl
  have u8 : W2.cell? ⟨g, 8, none⟩ = some (.int .i64 bf) := S2.out.cell 8 _ rfl
  have u9 : W2.cell? ⟨g, 9, none⟩ = some (.int .i64 bo) := S2.out.cell 9 _ rfl
  have u10 : W2.cell? ⟨g, 10, none⟩ = some (.int .i64 bp) := S2.out.cell 10 _ rfl
  have u11 : W2.cell? ⟨g, 11, none⟩ = some (.int .i64 rm) := S2.out.cell 11 _ rfl
  have u12 : W2.cell? ⟨g, 12, none⟩ = some (.int .i64 rb) := S2.out.cell 12 _ rfl
  have u13 : W2.cell? ⟨g, 13, none⟩ = some (.int .i64 rc) := S2.out.cell 13 _ rfl
  have u14 : W2.cell? ⟨g, 14, none⟩ = some (.int .i64 rj) := S2.out.cell 14 _ rfl
  go_wp2_with fail
  refine (HP.out _ (E0.out.below B2.out)).mono ?_
  rintro e w3 ⟨rfl, c3⟩
  have S3 := Lib.hid (S2.out.low c3)
  have B3 := Lib.hid (B2.out.trans (c3.mono B2.out.size))
  clear c3 S2 B2 u0 u1 u2 u3 u4 u5 u6 u7 u8 u9 u10 u11 u12 u13 u14
  have u0 : w3.cell? ⟨g, 0, none⟩ = some (.int .i64 cap) := S3.out.cell 0 _ rfl
  have u1 : w3.cell? ⟨g, 1, none⟩ = some (.int .i64 pri) := S3.out.cell 1 _ rfl
  have u2 : w3.cell? ⟨g, 2, none⟩ = some (.int .i64 68719476737) := S3.out.cell 2 _ rfl
  have u3 : w3.cell? ⟨g, 3, none⟩ = some (.int .i64 dl) := S3.out.cell 3 _ rfl
  have u4 : w3.cell? ⟨g, 4, none⟩ = some (.int .i64 mis) := S3.out.cell 4 _ rfl
  have u5 : w3.cell? ⟨g, 5, none⟩ = some (.int .i64 keep) := S3.out.cell 5 _ rfl
  have u6 : w3.cell? ⟨g, 6, none⟩ = some (.int .i64 lt) := S3.out.cell 6 _ rfl
  have u7 : w3.cell? ⟨g, 7, none⟩ = some (.int .i64 lu) := S3.out.cell 7 _ rfl
  have u8 : w3.cell? ⟨g, 8, none⟩ = some (.int .i64 bf) := S3.out.cell 8 _ rfl
  have u9 : w3.cell? ⟨g, 9, none⟩ = some (.int .i64 bo) := S3.out.cell 9 _ rfl
  have u10 : w3.cell? ⟨g, 10, none⟩ = some (.int .i64 bp) := S3.out.cell 10 _ rfl
  have u11 : w3.cell? ⟨g, 11, none⟩ = some (.int .i64 rm) := S3.out.cell 11 _ rfl
  have u12 : w3.cell? ⟨g, 12, none⟩ = some (.int .i64 rb) := S3.out.cell 12 _ rfl
  have u13 : w3.cell? ⟨g, 13, none⟩ = some (.int .i64 rc) := S3.out.cell 13 _ rfl
  have u14 : w3.cell? ⟨g, 14, none⟩ = some (.int .i64 rj) := S3.out.cell 14 _ rfl
  go_wp2_with fail
  refine (HG.out _ (E0.out.below B3.out)).mono ?_
  rintro e w4 ⟨rfl, c4⟩
  have S4 := Lib.hid (S3.out.low c4)
  have B4 := Lib.hid (B3.out.trans (c4.mono B3.out.size))
  clear c4 S3 B3 u0 u1 u2 u3 u4 u5 u6 u7 u8 u9 u10 u11 u12 u13 u14
  have u0 : w4.cell? ⟨g, 0, none⟩ = some (.int .i64 cap) := S4.out.cell 0 _ rfl
  have u1 : w4.cell? ⟨g, 1, none⟩ = some (.int .i64 pri) := S4.out.cell 1 _ rfl
  have u2 : w4.cell? ⟨g, 2, none⟩ = some (.int .i64 68719476737) := S4.out.cell 2 _ rfl
  have u3 : w4.cell? ⟨g, 3, none⟩ = some (.int .i64 dl) := S4.out.cell 3 _ rfl
  have u4 : w4.cell? ⟨g, 4, none⟩ = some (.int .i64 mis) := S4.out.cell 4 _ rfl
  have u5 : w4.cell? ⟨g, 5, none⟩ = some (.int .i64 keep) := S4.out.cell 5 _ rfl
  have u6 : w4.cell? ⟨g, 6, none⟩ = some (.int .i64 lt) := S4.out.cell 6 _ rfl
  have u7 : w4.cell? ⟨g, 7, none⟩ = some (.int .i64 lu) := S4.out.cell 7 _ rfl
  have u8 : w4.cell? ⟨g, 8, none⟩ = some (.int .i64 bf) := S4.out.cell 8 _ rfl
  have u9 : w4.cell? ⟨g, 9, none⟩ = some (.int .i64 bo) := S4.out.cell 9 _ rfl
  have u10 : w4.cell? ⟨g, 10, none⟩ = some (.int .i64 bp) := S4.out.cell 10 _ rfl
  have u11 : w4.cell? ⟨g, 11, none⟩ = some (.int .i64 rm) := S4.out.cell 11 _ rfl
  have u12 : w4.cell? ⟨g, 12, none⟩ = some (.int .i64 rb) := S4.out.cell 12 _ rfl
  have u13 : w4.cell? ⟨g, 13, none⟩ = some (.int .i64 rc) := S4.out.cell 13 _ rfl
  have u14 : w4.cell? ⟨g, 14, none⟩ = some (.int .i64 rj) := S4.out.cell 14 _ rfl
  go_wp2_with fail
  refine (HC2.out _).mono ?_
  rintro e w5 ⟨rfl, c5⟩
  have B5 := Lib.hid (B4.out.trans (c5.mono B4.out.size))
  clear c5 S4 B4 u0 u1 u2 u3 u4 u5 u6 u7 u8 u9 u10 u11 u12 u13 u14
  go_wp2_with fail
  refine (HW.out _ (E0.out.below B5.out)).mono ?_
  rintro e w6 ⟨rfl, c6⟩
  go_wp2_with fail
  go_ret
  exact ⟨rfl, B5.out.trans (c6.mono B5.out.size)⟩
theorem prb4 (cap pri spl mis keep lt lu bf bo bp rm rb rc rj : Int) : Lx.polOk (⟨cap, pri, spl, (-1), mis, keep, lt, lu, bf, bo, bp, rm, rb, rc, rj⟩ : Lx.PolV) = false := by
  simp [Lx.polOk, Lx.fldOk, Lx.misOk, Lx.limOk, Lx.brOk, Lx.reOk, Lx.brZ, Lx.reZ, Lx.inI]
set_option maxRecDepth 100000 in
set_option maxHeartbeats 1600000 in
theorem prw4 (p : Lx.PolV) (h : Lx.polOk p = true) (c : UInt8) (hc : (c.toNat : Int) % 12 = 4) (w : World) (env : UEnv w) :
    Calls Tryz.prog 10 #[p.val, .int .u8 c.toNat] w fun e w' => e = .returned (.bool true) ∧ Below w.heap.size w w' := by
  have HW := Lib.hid (fun W (E : UEnv W) => pworks_any W E)
  have E0 := Lib.hid env
  have hgl := env.env.lt
  obtain ⟨g, hg⟩ : ∃ g, g = w.heap.size := ⟨_, rfl⟩
  have hE : Lx.polE p = 0 := by unfold Lx.polE; rw [if_pos h]
  have HC := fun W => polCheck_any p W
  rw [hE] at HC
  obtain ⟨cap, pri, spl, dl, mis, keep, lt, lu, bf, bo, bp, rm, rb, rc, rj⟩ := p
  have hb := prb4 cap pri spl mis keep lt lu bf bo bp rm rb rc rj
  have hE2 : Lx.polE (⟨cap, pri, spl, (-1), mis, keep, lt, lu, bf, bo, bp, rm, rb, rc, rj⟩ : Lx.PolV) = 16 := by unfold Lx.polE; rw [if_neg (by rw [hb]; decide)]
  have hS2 : Lx.prS (⟨cap, pri, spl, (-1), mis, keep, lt, lu, bf, bo, bp, rm, rb, rc, rj⟩ : Lx.PolV) = [] := by unfold Lx.prS; rw [if_neg (by rw [hb]; decide)]
  have hG2 : ∀ s, Lx.getS (⟨cap, pri, spl, (-1), mis, keep, lt, lu, bf, bo, bp, rm, rb, rc, rj⟩ : Lx.PolV) s = [] ∧ Lx.getE (⟨cap, pri, spl, (-1), mis, keep, lt, lu, bf, bo, bp, rm, rb, rc, rj⟩ : Lx.PolV) s = 16 := fun s => by
    unfold Lx.getS Lx.getE; rw [if_neg (fun c => by rw [hb] at c; cases c.1), if_neg (by rw [hb]; decide)]; exact ⟨rfl, rfl⟩
  have HC := Lib.hid (show ∀ W, Calls Tryz.prog 19 #[.agg #[.int .i64 cap, .int .i64 pri, .int .i64 spl, .int .i64 dl, .int .i64 mis, .int .i64 keep, .int .i64 lt, .int .i64 lu, .int .i64 bf, .int .i64 bo, .int .i64 bp, .int .i64 rm, .int .i64 rb, .int .i64 rc, .int .i64 rj]] W fun e w' => e = .returned (.int .i64 0) ∧ Below W.heap.size W w' from HC)
  have HP := Lib.hid (show ∀ W, UEnv W → Calls Tryz.prog 18 #[.agg #[.int .i64 cap, .int .i64 pri, .int .i64 spl, .int .i64 (-1), .int .i64 mis, .int .i64 keep, .int .i64 lt, .int .i64 lu, .int .i64 bf, .int .i64 bo, .int .i64 bp, .int .i64 rm, .int .i64 rb, .int .i64 rc, .int .i64 rj]] W fun e w' => e = .returned (.tuple #[.string ⟨#[]⟩, .int .i64 16]) ∧ Below W.heap.size W w' from fun W E => by have := polPrint_any (⟨cap, pri, spl, (-1), mis, keep, lt, lu, bf, bo, bp, rm, rb, rc, rj⟩ : Lx.PolV) W E; rw [hE2, hS2] at this; exact this)
  have HG := Lib.hid (show ∀ W, UEnv W → Calls Tryz.prog 31 #[.agg #[.int .i64 cap, .int .i64 pri, .int .i64 spl, .int .i64 (-1), .int .i64 mis, .int .i64 keep, .int .i64 lt, .int .i64 lu, .int .i64 bf, .int .i64 bo, .int .i64 bp, .int .i64 rm, .int .i64 rb, .int .i64 rc, .int .i64 rj], .string ⟨#[99, 97, 112]⟩] W fun e w' => e = .returned (.tuple #[.string ⟨#[]⟩, .int .i64 16]) ∧ Below W.heap.size W w' from fun W E => by have := polGet_any (⟨cap, pri, spl, (-1), mis, keep, lt, lu, bf, bo, bp, rm, rb, rc, rj⟩ : Lx.PolV) ⟨#[99, 97, 112]⟩ W E; rw [(hG2 _).1, (hG2 _).2] at this; exact this)
  have HC2 := Lib.hid (show ∀ W, Calls Tryz.prog 19 #[.agg #[.int .i64 cap, .int .i64 pri, .int .i64 spl, .int .i64 (-1), .int .i64 mis, .int .i64 keep, .int .i64 lt, .int .i64 lu, .int .i64 bf, .int .i64 bo, .int .i64 bp, .int .i64 rm, .int .i64 rb, .int .i64 rc, .int .i64 rj]] W fun e w' => e = .returned (.int .i64 16) ∧ Below W.heap.size W w' from fun W => by have := polCheck_any (⟨cap, pri, spl, (-1), mis, keep, lt, lu, bf, bo, bp, rm, rb, rc, rj⟩ : Lx.PolV) W; rw [hE2] at this; exact this)
  clear hE hE2 hS2 hG2 hb h env
  obtain ⟨W0, hW0⟩ : ∃ W0, W0 = (w.alloc (.cells #[.int .i64 cap, .int .i64 pri, .int .i64 spl, .int .i64 dl, .int .i64 mis, .int .i64 keep, .int .i64 lt, .int .i64 lu, .int .i64 bf, .int .i64 bo, .int .i64 bp, .int .i64 rm, .int .i64 rb, .int .i64 rc, .int .i64 rj] 29)) := ⟨_, rfl⟩
  have S0 := Lib.hid (show Lx.PSt g W0 W0 ⟨cap, pri, spl, dl, mis, keep, lt, lu, bf, bo, bp, rm, rb, rc, rj⟩ from by rw [hg, hW0]; exact Lx.PSt.new w hgl ⟨cap, pri, spl, dl, mis, keep, lt, lu, bf, bo, bp, rm, rb, rc, rj⟩)
  have B0 := Lib.hid (show Below w.heap.size w W0 from by rw [hW0]; exact (Below.refl _ w).alloc (Nat.le_refl _) _)
  have Hle := Lib.hid (show w.heap.size ≤ g from Nat.le_of_eq hg.symm)
  show Calls Tryz.prog 10 #[.agg #[.int .i64 cap, .int .i64 pri, .int .i64 spl, .int .i64 dl, .int .i64 mis, .int .i64 keep, .int .i64 lt, .int .i64 lu, .int .i64 bf, .int .i64 bo, .int .i64 bp, .int .i64 rm, .int .i64 rb, .int .i64 rc, .int .i64 rj], .int .u8 c.toNat] w _
  go_enter Tryz.func10, Tryz.ntmps10
  go_upto_region 1 with (fail)
  rw [show (w.alloc (.cells #[.int .i64 cap, .int .i64 pri, .int .i64 spl, .int .i64 dl, .int .i64 mis, .int .i64 keep, .int .i64 lt, .int .i64 lu, .int .i64 bf, .int .i64 bo, .int .i64 bp, .int .i64 rm, .int .i64 rb, .int .i64 rc, .int .i64 rj] 29)) = W0 from hW0.symm, ← hg]
  clear hW0 hg
  have u0 : W0.cell? ⟨g, 0, none⟩ = some (.int .i64 cap) := S0.out.cell 0 _ rfl
  have u1 : W0.cell? ⟨g, 1, none⟩ = some (.int .i64 pri) := S0.out.cell 1 _ rfl
  have u2 : W0.cell? ⟨g, 2, none⟩ = some (.int .i64 spl) := S0.out.cell 2 _ rfl
  have u3 : W0.cell? ⟨g, 3, none⟩ = some (.int .i64 dl) := S0.out.cell 3 _ rfl
  have u4 : W0.cell? ⟨g, 4, none⟩ = some (.int .i64 mis) := S0.out.cell 4 _ rfl
  have u5 : W0.cell? ⟨g, 5, none⟩ = some (.int .i64 keep) := S0.out.cell 5 _ rfl
  have u6 : W0.cell? ⟨g, 6, none⟩ = some (.int .i64 lt) := S0.out.cell 6 _ rfl
  have u7 : W0.cell? ⟨g, 7, none⟩ = some (.int .i64 lu) := S0.out.cell 7 _ rfl
  have u8 : W0.cell? ⟨g, 8, none⟩ = some (.int .i64 bf) := S0.out.cell 8 _ rfl
  have u9 : W0.cell? ⟨g, 9, none⟩ = some (.int .i64 bo) := S0.out.cell 9 _ rfl
  have u10 : W0.cell? ⟨g, 10, none⟩ = some (.int .i64 bp) := S0.out.cell 10 _ rfl
  have u11 : W0.cell? ⟨g, 11, none⟩ = some (.int .i64 rm) := S0.out.cell 11 _ rfl
  have u12 : W0.cell? ⟨g, 12, none⟩ = some (.int .i64 rb) := S0.out.cell 12 _ rfl
  have u13 : W0.cell? ⟨g, 13, none⟩ = some (.int .i64 rc) := S0.out.cell 13 _ rfl
  have u14 : W0.cell? ⟨g, 14, none⟩ = some (.int .i64 rj) := S0.out.cell 14 _ rfl
  go_wp2_with fail
  refine (HC.out _).mono ?_
  rintro e W1 ⟨rfl, c1⟩
  have S1 := Lib.hid (S0.out.low c1)
  have B1 := Lib.hid (B0.out.trans (c1.mono B0.out.size))
  clear c1 S0 B0 u0 u1 u2 u3 u4 u5 u6 u7 u8 u9 u10 u11 u12 u13 u14
  have u0 : W1.cell? ⟨g, 0, none⟩ = some (.int .i64 cap) := S1.out.cell 0 _ rfl
  have u1 : W1.cell? ⟨g, 1, none⟩ = some (.int .i64 pri) := S1.out.cell 1 _ rfl
  have u2 : W1.cell? ⟨g, 2, none⟩ = some (.int .i64 spl) := S1.out.cell 2 _ rfl
  have u3 : W1.cell? ⟨g, 3, none⟩ = some (.int .i64 dl) := S1.out.cell 3 _ rfl
  have u4 : W1.cell? ⟨g, 4, none⟩ = some (.int .i64 mis) := S1.out.cell 4 _ rfl
  have u5 : W1.cell? ⟨g, 5, none⟩ = some (.int .i64 keep) := S1.out.cell 5 _ rfl
  have u6 : W1.cell? ⟨g, 6, none⟩ = some (.int .i64 lt) := S1.out.cell 6 _ rfl
  have u7 : W1.cell? ⟨g, 7, none⟩ = some (.int .i64 lu) := S1.out.cell 7 _ rfl
  have u8 : W1.cell? ⟨g, 8, none⟩ = some (.int .i64 bf) := S1.out.cell 8 _ rfl
  have u9 : W1.cell? ⟨g, 9, none⟩ = some (.int .i64 bo) := S1.out.cell 9 _ rfl
  have u10 : W1.cell? ⟨g, 10, none⟩ = some (.int .i64 bp) := S1.out.cell 10 _ rfl
  have u11 : W1.cell? ⟨g, 11, none⟩ = some (.int .i64 rm) := S1.out.cell 11 _ rfl
  have u12 : W1.cell? ⟨g, 12, none⟩ = some (.int .i64 rb) := S1.out.cell 12 _ rfl
  have u13 : W1.cell? ⟨g, 13, none⟩ = some (.int .i64 rc) := S1.out.cell 13 _ rfl
  have u14 : W1.cell? ⟨g, 14, none⟩ = some (.int .i64 rj) := S1.out.cell 14 _ rfl
  have y3 := S1.out.fz 3 (by omega)
  obtain ⟨W2, hW2⟩ : ∃ W2, W2 = (W1.setCell ⟨g, 3, none⟩ (.int .i64 (-1))) := ⟨_, rfl⟩
  have S2 := Lib.hid (show Lx.PSt g W1 W2 (⟨cap, pri, spl, (-1), mis, keep, lt, lu, bf, bo, bp, rm, rb, rc, rj⟩ : Lx.PolV) from by rw [hW2]; exact (S1.out.set (j := 3) (q' := (⟨cap, pri, spl, (-1), mis, keep, lt, lu, bf, bo, bp, rm, rb, rc, rj⟩ : Lx.PolV)) (v := .int .i64 (-1)) (by omega) rfl))
  have B2 := Lib.hid (B1.out.trans (S2.out.toB.mono Hle.out))
  go_upto_region 27 with (fail)
  rw [show (W1.setCell ⟨g, 3, none⟩ (.int .i64 (-1))) = W2 from hW2.symm]
  clear hW2 S1 u0 u1 u2 u3 u4 u5 u6 u7 u8 u9 u10 u11 u12 u13 u14 y3
  have u0 : W2.cell? ⟨g, 0, none⟩ = some (.int .i64 cap) := S2.out.cell 0 _ rfl
  have u1 : W2.cell? ⟨g, 1, none⟩ = some (.int .i64 pri) := S2.out.cell 1 _ rfl
  have u2 : W2.cell? ⟨g, 2, none⟩ = some (.int .i64 spl) := S2.out.cell 2 _ rfl
  have u3 : W2.cell? ⟨g, 3, none⟩ = some (.int .i64 (-1)) := S2.out.cell 3 _ rfl
  have u4 : W2.cell? ⟨g, 4, none⟩ = some (.int .i64 mis) := S2.out.cell 4 _ rfl
  have u5 : W2.cell? ⟨g, 5, none⟩ = some (.int .i64 keep) := S2.out.cell 5 _ rfl
  have u6 : W2.cell? ⟨g, 6, none⟩ = some (.int .i64 lt) := S2.out.cell 6 _ rfl
  have u7 : W2.cell? ⟨g, 7, none⟩ = some (.int .i64 lu) := S2.out.cell 7 _ rfl
  have u8 : W2.cell? ⟨g, 8, none⟩ = some (.int .i64 bf) := S2.out.cell 8 _ rfl
  have u9 : W2.cell? ⟨g, 9, none⟩ = some (.int .i64 bo) := S2.out.cell 9 _ rfl
  have u10 : W2.cell? ⟨g, 10, none⟩ = some (.int .i64 bp) := S2.out.cell 10 _ rfl
  have u11 : W2.cell? ⟨g, 11, none⟩ = some (.int .i64 rm) := S2.out.cell 11 _ rfl
  have u12 : W2.cell? ⟨g, 12, none⟩ = some (.int .i64 rb) := S2.out.cell 12 _ rfl
  have u13 : W2.cell? ⟨g, 13, none⟩ = some (.int .i64 rc) := S2.out.cell 13 _ rfl
  have u14 : W2.cell? ⟨g, 14, none⟩ = some (.int .i64 rj) := S2.out.cell 14 _ rfl
  go_wp2_with fail
  refine (HP.out _ (E0.out.below B2.out)).mono ?_
  rintro e w3 ⟨rfl, c3⟩
  have S3 := Lib.hid (S2.out.low c3)
  have B3 := Lib.hid (B2.out.trans (c3.mono B2.out.size))
  clear c3 S2 B2 u0 u1 u2 u3 u4 u5 u6 u7 u8 u9 u10 u11 u12 u13 u14
  have u0 : w3.cell? ⟨g, 0, none⟩ = some (.int .i64 cap) := S3.out.cell 0 _ rfl
  have u1 : w3.cell? ⟨g, 1, none⟩ = some (.int .i64 pri) := S3.out.cell 1 _ rfl
  have u2 : w3.cell? ⟨g, 2, none⟩ = some (.int .i64 spl) := S3.out.cell 2 _ rfl
  have u3 : w3.cell? ⟨g, 3, none⟩ = some (.int .i64 (-1)) := S3.out.cell 3 _ rfl
  have u4 : w3.cell? ⟨g, 4, none⟩ = some (.int .i64 mis) := S3.out.cell 4 _ rfl
  have u5 : w3.cell? ⟨g, 5, none⟩ = some (.int .i64 keep) := S3.out.cell 5 _ rfl
  have u6 : w3.cell? ⟨g, 6, none⟩ = some (.int .i64 lt) := S3.out.cell 6 _ rfl
  have u7 : w3.cell? ⟨g, 7, none⟩ = some (.int .i64 lu) := S3.out.cell 7 _ rfl
  have u8 : w3.cell? ⟨g, 8, none⟩ = some (.int .i64 bf) := S3.out.cell 8 _ rfl
  have u9 : w3.cell? ⟨g, 9, none⟩ = some (.int .i64 bo) := S3.out.cell 9 _ rfl
  have u10 : w3.cell? ⟨g, 10, none⟩ = some (.int .i64 bp) := S3.out.cell 10 _ rfl
  have u11 : w3.cell? ⟨g, 11, none⟩ = some (.int .i64 rm) := S3.out.cell 11 _ rfl
  have u12 : w3.cell? ⟨g, 12, none⟩ = some (.int .i64 rb) := S3.out.cell 12 _ rfl
  have u13 : w3.cell? ⟨g, 13, none⟩ = some (.int .i64 rc) := S3.out.cell 13 _ rfl
  have u14 : w3.cell? ⟨g, 14, none⟩ = some (.int .i64 rj) := S3.out.cell 14 _ rfl
  go_wp2_with fail
  refine (HG.out _ (E0.out.below B3.out)).mono ?_
  rintro e w4 ⟨rfl, c4⟩
  have S4 := Lib.hid (S3.out.low c4)
  have B4 := Lib.hid (B3.out.trans (c4.mono B3.out.size))
  clear c4 S3 B3 u0 u1 u2 u3 u4 u5 u6 u7 u8 u9 u10 u11 u12 u13 u14
  have u0 : w4.cell? ⟨g, 0, none⟩ = some (.int .i64 cap) := S4.out.cell 0 _ rfl
  have u1 : w4.cell? ⟨g, 1, none⟩ = some (.int .i64 pri) := S4.out.cell 1 _ rfl
  have u2 : w4.cell? ⟨g, 2, none⟩ = some (.int .i64 spl) := S4.out.cell 2 _ rfl
  have u3 : w4.cell? ⟨g, 3, none⟩ = some (.int .i64 (-1)) := S4.out.cell 3 _ rfl
  have u4 : w4.cell? ⟨g, 4, none⟩ = some (.int .i64 mis) := S4.out.cell 4 _ rfl
  have u5 : w4.cell? ⟨g, 5, none⟩ = some (.int .i64 keep) := S4.out.cell 5 _ rfl
  have u6 : w4.cell? ⟨g, 6, none⟩ = some (.int .i64 lt) := S4.out.cell 6 _ rfl
  have u7 : w4.cell? ⟨g, 7, none⟩ = some (.int .i64 lu) := S4.out.cell 7 _ rfl
  have u8 : w4.cell? ⟨g, 8, none⟩ = some (.int .i64 bf) := S4.out.cell 8 _ rfl
  have u9 : w4.cell? ⟨g, 9, none⟩ = some (.int .i64 bo) := S4.out.cell 9 _ rfl
  have u10 : w4.cell? ⟨g, 10, none⟩ = some (.int .i64 bp) := S4.out.cell 10 _ rfl
  have u11 : w4.cell? ⟨g, 11, none⟩ = some (.int .i64 rm) := S4.out.cell 11 _ rfl
  have u12 : w4.cell? ⟨g, 12, none⟩ = some (.int .i64 rb) := S4.out.cell 12 _ rfl
  have u13 : w4.cell? ⟨g, 13, none⟩ = some (.int .i64 rc) := S4.out.cell 13 _ rfl
  have u14 : w4.cell? ⟨g, 14, none⟩ = some (.int .i64 rj) := S4.out.cell 14 _ rfl
  go_wp2_with fail
  refine (HC2.out _).mono ?_
  rintro e w5 ⟨rfl, c5⟩
  have B5 := Lib.hid (B4.out.trans (c5.mono B4.out.size))
  clear c5 S4 B4 u0 u1 u2 u3 u4 u5 u6 u7 u8 u9 u10 u11 u12 u13 u14
  go_wp2_with fail
  refine (HW.out _ (E0.out.below B5.out)).mono ?_
  rintro e w6 ⟨rfl, c6⟩
  go_wp2_with fail
  go_ret
  exact ⟨rfl, B5.out.trans (c6.mono B5.out.size)⟩
theorem prb5 (cap pri spl dl keep lt lu bf bo bp rm rb rc rj : Int) : Lx.polOk (⟨cap, pri, spl, dl, 4, keep, lt, lu, bf, bo, bp, rm, rb, rc, rj⟩ : Lx.PolV) = false := by
  simp [Lx.polOk, Lx.fldOk, Lx.misOk, Lx.limOk, Lx.brOk, Lx.reOk, Lx.brZ, Lx.reZ, Lx.inI]
set_option maxRecDepth 100000 in
set_option maxHeartbeats 1600000 in
theorem prw5 (p : Lx.PolV) (h : Lx.polOk p = true) (c : UInt8) (hc : (c.toNat : Int) % 12 = 5) (w : World) (env : UEnv w) :
    Calls Tryz.prog 10 #[p.val, .int .u8 c.toNat] w fun e w' => e = .returned (.bool true) ∧ Below w.heap.size w w' := by
  have HW := Lib.hid (fun W (E : UEnv W) => pworks_any W E)
  have E0 := Lib.hid env
  have hgl := env.env.lt
  obtain ⟨g, hg⟩ : ∃ g, g = w.heap.size := ⟨_, rfl⟩
  have hE : Lx.polE p = 0 := by unfold Lx.polE; rw [if_pos h]
  have HC := fun W => polCheck_any p W
  rw [hE] at HC
  obtain ⟨cap, pri, spl, dl, mis, keep, lt, lu, bf, bo, bp, rm, rb, rc, rj⟩ := p
  have hb := prb5 cap pri spl dl keep lt lu bf bo bp rm rb rc rj
  have hE2 : Lx.polE (⟨cap, pri, spl, dl, 4, keep, lt, lu, bf, bo, bp, rm, rb, rc, rj⟩ : Lx.PolV) = 16 := by unfold Lx.polE; rw [if_neg (by rw [hb]; decide)]
  have hS2 : Lx.prS (⟨cap, pri, spl, dl, 4, keep, lt, lu, bf, bo, bp, rm, rb, rc, rj⟩ : Lx.PolV) = [] := by unfold Lx.prS; rw [if_neg (by rw [hb]; decide)]
  have hG2 : ∀ s, Lx.getS (⟨cap, pri, spl, dl, 4, keep, lt, lu, bf, bo, bp, rm, rb, rc, rj⟩ : Lx.PolV) s = [] ∧ Lx.getE (⟨cap, pri, spl, dl, 4, keep, lt, lu, bf, bo, bp, rm, rb, rc, rj⟩ : Lx.PolV) s = 16 := fun s => by
    unfold Lx.getS Lx.getE; rw [if_neg (fun c => by rw [hb] at c; cases c.1), if_neg (by rw [hb]; decide)]; exact ⟨rfl, rfl⟩
  have HC := Lib.hid (show ∀ W, Calls Tryz.prog 19 #[.agg #[.int .i64 cap, .int .i64 pri, .int .i64 spl, .int .i64 dl, .int .i64 mis, .int .i64 keep, .int .i64 lt, .int .i64 lu, .int .i64 bf, .int .i64 bo, .int .i64 bp, .int .i64 rm, .int .i64 rb, .int .i64 rc, .int .i64 rj]] W fun e w' => e = .returned (.int .i64 0) ∧ Below W.heap.size W w' from HC)
  have HP := Lib.hid (show ∀ W, UEnv W → Calls Tryz.prog 18 #[.agg #[.int .i64 cap, .int .i64 pri, .int .i64 spl, .int .i64 dl, .int .i64 4, .int .i64 keep, .int .i64 lt, .int .i64 lu, .int .i64 bf, .int .i64 bo, .int .i64 bp, .int .i64 rm, .int .i64 rb, .int .i64 rc, .int .i64 rj]] W fun e w' => e = .returned (.tuple #[.string ⟨#[]⟩, .int .i64 16]) ∧ Below W.heap.size W w' from fun W E => by have := polPrint_any (⟨cap, pri, spl, dl, 4, keep, lt, lu, bf, bo, bp, rm, rb, rc, rj⟩ : Lx.PolV) W E; rw [hE2, hS2] at this; exact this)
  have HG := Lib.hid (show ∀ W, UEnv W → Calls Tryz.prog 31 #[.agg #[.int .i64 cap, .int .i64 pri, .int .i64 spl, .int .i64 dl, .int .i64 4, .int .i64 keep, .int .i64 lt, .int .i64 lu, .int .i64 bf, .int .i64 bo, .int .i64 bp, .int .i64 rm, .int .i64 rb, .int .i64 rc, .int .i64 rj], .string ⟨#[99, 97, 112]⟩] W fun e w' => e = .returned (.tuple #[.string ⟨#[]⟩, .int .i64 16]) ∧ Below W.heap.size W w' from fun W E => by have := polGet_any (⟨cap, pri, spl, dl, 4, keep, lt, lu, bf, bo, bp, rm, rb, rc, rj⟩ : Lx.PolV) ⟨#[99, 97, 112]⟩ W E; rw [(hG2 _).1, (hG2 _).2] at this; exact this)
  have HC2 := Lib.hid (show ∀ W, Calls Tryz.prog 19 #[.agg #[.int .i64 cap, .int .i64 pri, .int .i64 spl, .int .i64 dl, .int .i64 4, .int .i64 keep, .int .i64 lt, .int .i64 lu, .int .i64 bf, .int .i64 bo, .int .i64 bp, .int .i64 rm, .int .i64 rb, .int .i64 rc, .int .i64 rj]] W fun e w' => e = .returned (.int .i64 16) ∧ Below W.heap.size W w' from fun W => by have := polCheck_any (⟨cap, pri, spl, dl, 4, keep, lt, lu, bf, bo, bp, rm, rb, rc, rj⟩ : Lx.PolV) W; rw [hE2] at this; exact this)
  clear hE hE2 hS2 hG2 hb h env
  obtain ⟨W0, hW0⟩ : ∃ W0, W0 = (w.alloc (.cells #[.int .i64 cap, .int .i64 pri, .int .i64 spl, .int .i64 dl, .int .i64 mis, .int .i64 keep, .int .i64 lt, .int .i64 lu, .int .i64 bf, .int .i64 bo, .int .i64 bp, .int .i64 rm, .int .i64 rb, .int .i64 rc, .int .i64 rj] 29)) := ⟨_, rfl⟩
  have S0 := Lib.hid (show Lx.PSt g W0 W0 ⟨cap, pri, spl, dl, mis, keep, lt, lu, bf, bo, bp, rm, rb, rc, rj⟩ from by rw [hg, hW0]; exact Lx.PSt.new w hgl ⟨cap, pri, spl, dl, mis, keep, lt, lu, bf, bo, bp, rm, rb, rc, rj⟩)
  have B0 := Lib.hid (show Below w.heap.size w W0 from by rw [hW0]; exact (Below.refl _ w).alloc (Nat.le_refl _) _)
  have Hle := Lib.hid (show w.heap.size ≤ g from Nat.le_of_eq hg.symm)
  show Calls Tryz.prog 10 #[.agg #[.int .i64 cap, .int .i64 pri, .int .i64 spl, .int .i64 dl, .int .i64 mis, .int .i64 keep, .int .i64 lt, .int .i64 lu, .int .i64 bf, .int .i64 bo, .int .i64 bp, .int .i64 rm, .int .i64 rb, .int .i64 rc, .int .i64 rj], .int .u8 c.toNat] w _
  go_enter Tryz.func10, Tryz.ntmps10
  go_upto_region 1 with (fail)
  rw [show (w.alloc (.cells #[.int .i64 cap, .int .i64 pri, .int .i64 spl, .int .i64 dl, .int .i64 mis, .int .i64 keep, .int .i64 lt, .int .i64 lu, .int .i64 bf, .int .i64 bo, .int .i64 bp, .int .i64 rm, .int .i64 rb, .int .i64 rc, .int .i64 rj] 29)) = W0 from hW0.symm, ← hg]
  clear hW0 hg
  have u0 : W0.cell? ⟨g, 0, none⟩ = some (.int .i64 cap) := S0.out.cell 0 _ rfl
  have u1 : W0.cell? ⟨g, 1, none⟩ = some (.int .i64 pri) := S0.out.cell 1 _ rfl
  have u2 : W0.cell? ⟨g, 2, none⟩ = some (.int .i64 spl) := S0.out.cell 2 _ rfl
  have u3 : W0.cell? ⟨g, 3, none⟩ = some (.int .i64 dl) := S0.out.cell 3 _ rfl
  have u4 : W0.cell? ⟨g, 4, none⟩ = some (.int .i64 mis) := S0.out.cell 4 _ rfl
  have u5 : W0.cell? ⟨g, 5, none⟩ = some (.int .i64 keep) := S0.out.cell 5 _ rfl
  have u6 : W0.cell? ⟨g, 6, none⟩ = some (.int .i64 lt) := S0.out.cell 6 _ rfl
  have u7 : W0.cell? ⟨g, 7, none⟩ = some (.int .i64 lu) := S0.out.cell 7 _ rfl
  have u8 : W0.cell? ⟨g, 8, none⟩ = some (.int .i64 bf) := S0.out.cell 8 _ rfl
  have u9 : W0.cell? ⟨g, 9, none⟩ = some (.int .i64 bo) := S0.out.cell 9 _ rfl
  have u10 : W0.cell? ⟨g, 10, none⟩ = some (.int .i64 bp) := S0.out.cell 10 _ rfl
  have u11 : W0.cell? ⟨g, 11, none⟩ = some (.int .i64 rm) := S0.out.cell 11 _ rfl
  have u12 : W0.cell? ⟨g, 12, none⟩ = some (.int .i64 rb) := S0.out.cell 12 _ rfl
  have u13 : W0.cell? ⟨g, 13, none⟩ = some (.int .i64 rc) := S0.out.cell 13 _ rfl
  have u14 : W0.cell? ⟨g, 14, none⟩ = some (.int .i64 rj) := S0.out.cell 14 _ rfl
  go_wp2_with fail
  refine (HC.out _).mono ?_
  rintro e W1 ⟨rfl, c1⟩
  have S1 := Lib.hid (S0.out.low c1)
  have B1 := Lib.hid (B0.out.trans (c1.mono B0.out.size))
  clear c1 S0 B0 u0 u1 u2 u3 u4 u5 u6 u7 u8 u9 u10 u11 u12 u13 u14
  have u0 : W1.cell? ⟨g, 0, none⟩ = some (.int .i64 cap) := S1.out.cell 0 _ rfl
  have u1 : W1.cell? ⟨g, 1, none⟩ = some (.int .i64 pri) := S1.out.cell 1 _ rfl
  have u2 : W1.cell? ⟨g, 2, none⟩ = some (.int .i64 spl) := S1.out.cell 2 _ rfl
  have u3 : W1.cell? ⟨g, 3, none⟩ = some (.int .i64 dl) := S1.out.cell 3 _ rfl
  have u4 : W1.cell? ⟨g, 4, none⟩ = some (.int .i64 mis) := S1.out.cell 4 _ rfl
  have u5 : W1.cell? ⟨g, 5, none⟩ = some (.int .i64 keep) := S1.out.cell 5 _ rfl
  have u6 : W1.cell? ⟨g, 6, none⟩ = some (.int .i64 lt) := S1.out.cell 6 _ rfl
  have u7 : W1.cell? ⟨g, 7, none⟩ = some (.int .i64 lu) := S1.out.cell 7 _ rfl
  have u8 : W1.cell? ⟨g, 8, none⟩ = some (.int .i64 bf) := S1.out.cell 8 _ rfl
  have u9 : W1.cell? ⟨g, 9, none⟩ = some (.int .i64 bo) := S1.out.cell 9 _ rfl
  have u10 : W1.cell? ⟨g, 10, none⟩ = some (.int .i64 bp) := S1.out.cell 10 _ rfl
  have u11 : W1.cell? ⟨g, 11, none⟩ = some (.int .i64 rm) := S1.out.cell 11 _ rfl
  have u12 : W1.cell? ⟨g, 12, none⟩ = some (.int .i64 rb) := S1.out.cell 12 _ rfl
  have u13 : W1.cell? ⟨g, 13, none⟩ = some (.int .i64 rc) := S1.out.cell 13 _ rfl
  have u14 : W1.cell? ⟨g, 14, none⟩ = some (.int .i64 rj) := S1.out.cell 14 _ rfl
  have y4 := S1.out.fz 4 (by omega)
  obtain ⟨W2, hW2⟩ : ∃ W2, W2 = (W1.setCell ⟨g, 4, none⟩ (.int .i64 4)) := ⟨_, rfl⟩
  have S2 := Lib.hid (show Lx.PSt g W1 W2 (⟨cap, pri, spl, dl, 4, keep, lt, lu, bf, bo, bp, rm, rb, rc, rj⟩ : Lx.PolV) from by rw [hW2]; exact (S1.out.set (j := 4) (q' := (⟨cap, pri, spl, dl, 4, keep, lt, lu, bf, bo, bp, rm, rb, rc, rj⟩ : Lx.PolV)) (v := .int .i64 4) (by omega) rfl))
  have B2 := Lib.hid (B1.out.trans (S2.out.toB.mono Hle.out))
  go_upto_region 27 with (fail)
  rw [show (W1.setCell ⟨g, 4, none⟩ (.int .i64 4)) = W2 from hW2.symm]
  clear hW2 S1 u0 u1 u2 u3 u4 u5 u6 u7 u8 u9 u10 u11 u12 u13 u14 y4
  have u0 : W2.cell? ⟨g, 0, none⟩ = some (.int .i64 cap) := S2.out.cell 0 _ rfl
  have u1 : W2.cell? ⟨g, 1, none⟩ = some (.int .i64 pri) := S2.out.cell 1 _ rfl
  have u2 : W2.cell? ⟨g, 2, none⟩ = some (.int .i64 spl) := S2.out.cell 2 _ rfl
  have u3 : W2.cell? ⟨g, 3, none⟩ = some (.int .i64 dl) := S2.out.cell 3 _ rfl
  have u4 : W2.cell? ⟨g, 4, none⟩ = some (.int .i64 4) := S2.out.cell 4 _ rfl
  have u5 : W2.cell? ⟨g, 5, none⟩ = some (.int .i64 keep) := S2.out.cell 5 _ rfl
  have u6 : W2.cell? ⟨g, 6, none⟩ = some (.int .i64 lt) := S2.out.cell 6 _ rfl
  have u7 : W2.cell? ⟨g, 7, none⟩ = some (.int .i64 lu) := S2.out.cell 7 _ rfl
  have u8 : W2.cell? ⟨g, 8, none⟩ = some (.int .i64 bf) := S2.out.cell 8 _ rfl
  have u9 : W2.cell? ⟨g, 9, none⟩ = some (.int .i64 bo) := S2.out.cell 9 _ rfl
  have u10 : W2.cell? ⟨g, 10, none⟩ = some (.int .i64 bp) := S2.out.cell 10 _ rfl
  have u11 : W2.cell? ⟨g, 11, none⟩ = some (.int .i64 rm) := S2.out.cell 11 _ rfl
  have u12 : W2.cell? ⟨g, 12, none⟩ = some (.int .i64 rb) := S2.out.cell 12 _ rfl
  have u13 : W2.cell? ⟨g, 13, none⟩ = some (.int .i64 rc) := S2.out.cell 13 _ rfl
  have u14 : W2.cell? ⟨g, 14, none⟩ = some (.int .i64 rj) := S2.out.cell 14 _ rfl
  go_wp2_with fail
  refine (HP.out _ (E0.out.below B2.out)).mono ?_
  rintro e w3 ⟨rfl, c3⟩
  have S3 := Lib.hid (S2.out.low c3)
  have B3 := Lib.hid (B2.out.trans (c3.mono B2.out.size))
  clear c3 S2 B2 u0 u1 u2 u3 u4 u5 u6 u7 u8 u9 u10 u11 u12 u13 u14
  have u0 : w3.cell? ⟨g, 0, none⟩ = some (.int .i64 cap) := S3.out.cell 0 _ rfl
  have u1 : w3.cell? ⟨g, 1, none⟩ = some (.int .i64 pri) := S3.out.cell 1 _ rfl
  have u2 : w3.cell? ⟨g, 2, none⟩ = some (.int .i64 spl) := S3.out.cell 2 _ rfl
  have u3 : w3.cell? ⟨g, 3, none⟩ = some (.int .i64 dl) := S3.out.cell 3 _ rfl
  have u4 : w3.cell? ⟨g, 4, none⟩ = some (.int .i64 4) := S3.out.cell 4 _ rfl
  have u5 : w3.cell? ⟨g, 5, none⟩ = some (.int .i64 keep) := S3.out.cell 5 _ rfl
  have u6 : w3.cell? ⟨g, 6, none⟩ = some (.int .i64 lt) := S3.out.cell 6 _ rfl
  have u7 : w3.cell? ⟨g, 7, none⟩ = some (.int .i64 lu) := S3.out.cell 7 _ rfl
  have u8 : w3.cell? ⟨g, 8, none⟩ = some (.int .i64 bf) := S3.out.cell 8 _ rfl
  have u9 : w3.cell? ⟨g, 9, none⟩ = some (.int .i64 bo) := S3.out.cell 9 _ rfl
  have u10 : w3.cell? ⟨g, 10, none⟩ = some (.int .i64 bp) := S3.out.cell 10 _ rfl
  have u11 : w3.cell? ⟨g, 11, none⟩ = some (.int .i64 rm) := S3.out.cell 11 _ rfl
  have u12 : w3.cell? ⟨g, 12, none⟩ = some (.int .i64 rb) := S3.out.cell 12 _ rfl
  have u13 : w3.cell? ⟨g, 13, none⟩ = some (.int .i64 rc) := S3.out.cell 13 _ rfl
  have u14 : w3.cell? ⟨g, 14, none⟩ = some (.int .i64 rj) := S3.out.cell 14 _ rfl
  go_wp2_with fail
  refine (HG.out _ (E0.out.below B3.out)).mono ?_
  rintro e w4 ⟨rfl, c4⟩
  have S4 := Lib.hid (S3.out.low c4)
  have B4 := Lib.hid (B3.out.trans (c4.mono B3.out.size))
  clear c4 S3 B3 u0 u1 u2 u3 u4 u5 u6 u7 u8 u9 u10 u11 u12 u13 u14
  have u0 : w4.cell? ⟨g, 0, none⟩ = some (.int .i64 cap) := S4.out.cell 0 _ rfl
  have u1 : w4.cell? ⟨g, 1, none⟩ = some (.int .i64 pri) := S4.out.cell 1 _ rfl
  have u2 : w4.cell? ⟨g, 2, none⟩ = some (.int .i64 spl) := S4.out.cell 2 _ rfl
  have u3 : w4.cell? ⟨g, 3, none⟩ = some (.int .i64 dl) := S4.out.cell 3 _ rfl
  have u4 : w4.cell? ⟨g, 4, none⟩ = some (.int .i64 4) := S4.out.cell 4 _ rfl
  have u5 : w4.cell? ⟨g, 5, none⟩ = some (.int .i64 keep) := S4.out.cell 5 _ rfl
  have u6 : w4.cell? ⟨g, 6, none⟩ = some (.int .i64 lt) := S4.out.cell 6 _ rfl
  have u7 : w4.cell? ⟨g, 7, none⟩ = some (.int .i64 lu) := S4.out.cell 7 _ rfl
  have u8 : w4.cell? ⟨g, 8, none⟩ = some (.int .i64 bf) := S4.out.cell 8 _ rfl
  have u9 : w4.cell? ⟨g, 9, none⟩ = some (.int .i64 bo) := S4.out.cell 9 _ rfl
  have u10 : w4.cell? ⟨g, 10, none⟩ = some (.int .i64 bp) := S4.out.cell 10 _ rfl
  have u11 : w4.cell? ⟨g, 11, none⟩ = some (.int .i64 rm) := S4.out.cell 11 _ rfl
  have u12 : w4.cell? ⟨g, 12, none⟩ = some (.int .i64 rb) := S4.out.cell 12 _ rfl
  have u13 : w4.cell? ⟨g, 13, none⟩ = some (.int .i64 rc) := S4.out.cell 13 _ rfl
  have u14 : w4.cell? ⟨g, 14, none⟩ = some (.int .i64 rj) := S4.out.cell 14 _ rfl
  go_wp2_with fail
  refine (HC2.out _).mono ?_
  rintro e w5 ⟨rfl, c5⟩
  have B5 := Lib.hid (B4.out.trans (c5.mono B4.out.size))
  clear c5 S4 B4 u0 u1 u2 u3 u4 u5 u6 u7 u8 u9 u10 u11 u12 u13 u14
  go_wp2_with fail
  refine (HW.out _ (E0.out.below B5.out)).mono ?_
  rintro e w6 ⟨rfl, c6⟩
  go_wp2_with fail
  go_ret
  exact ⟨rfl, B5.out.trans (c6.mono B5.out.size)⟩
theorem prb6 (cap pri spl dl lt lu bf bo bp rm rb rc rj : Int) : Lx.polOk (⟨cap, pri, spl, dl, 1, 1, lt, lu, bf, bo, bp, rm, rb, rc, rj⟩ : Lx.PolV) = false := by
  simp [Lx.polOk, Lx.fldOk, Lx.misOk, Lx.limOk, Lx.brOk, Lx.reOk, Lx.brZ, Lx.reZ, Lx.inI]
set_option maxRecDepth 100000 in
set_option maxHeartbeats 1600000 in
theorem prw6 (p : Lx.PolV) (h : Lx.polOk p = true) (c : UInt8) (hc : (c.toNat : Int) % 12 = 6) (w : World) (env : UEnv w) :
    Calls Tryz.prog 10 #[p.val, .int .u8 c.toNat] w fun e w' => e = .returned (.bool true) ∧ Below w.heap.size w w' := by
  have HW := Lib.hid (fun W (E : UEnv W) => pworks_any W E)
  have E0 := Lib.hid env
  have hgl := env.env.lt
  obtain ⟨g, hg⟩ : ∃ g, g = w.heap.size := ⟨_, rfl⟩
  have hE : Lx.polE p = 0 := by unfold Lx.polE; rw [if_pos h]
  have HC := fun W => polCheck_any p W
  rw [hE] at HC
  obtain ⟨cap, pri, spl, dl, mis, keep, lt, lu, bf, bo, bp, rm, rb, rc, rj⟩ := p
  have hb := prb6 cap pri spl dl lt lu bf bo bp rm rb rc rj
  have hE2 : Lx.polE (⟨cap, pri, spl, dl, 1, 1, lt, lu, bf, bo, bp, rm, rb, rc, rj⟩ : Lx.PolV) = 16 := by unfold Lx.polE; rw [if_neg (by rw [hb]; decide)]
  have hS2 : Lx.prS (⟨cap, pri, spl, dl, 1, 1, lt, lu, bf, bo, bp, rm, rb, rc, rj⟩ : Lx.PolV) = [] := by unfold Lx.prS; rw [if_neg (by rw [hb]; decide)]
  have hG2 : ∀ s, Lx.getS (⟨cap, pri, spl, dl, 1, 1, lt, lu, bf, bo, bp, rm, rb, rc, rj⟩ : Lx.PolV) s = [] ∧ Lx.getE (⟨cap, pri, spl, dl, 1, 1, lt, lu, bf, bo, bp, rm, rb, rc, rj⟩ : Lx.PolV) s = 16 := fun s => by
    unfold Lx.getS Lx.getE; rw [if_neg (fun c => by rw [hb] at c; cases c.1), if_neg (by rw [hb]; decide)]; exact ⟨rfl, rfl⟩
  have HC := Lib.hid (show ∀ W, Calls Tryz.prog 19 #[.agg #[.int .i64 cap, .int .i64 pri, .int .i64 spl, .int .i64 dl, .int .i64 mis, .int .i64 keep, .int .i64 lt, .int .i64 lu, .int .i64 bf, .int .i64 bo, .int .i64 bp, .int .i64 rm, .int .i64 rb, .int .i64 rc, .int .i64 rj]] W fun e w' => e = .returned (.int .i64 0) ∧ Below W.heap.size W w' from HC)
  have HP := Lib.hid (show ∀ W, UEnv W → Calls Tryz.prog 18 #[.agg #[.int .i64 cap, .int .i64 pri, .int .i64 spl, .int .i64 dl, .int .i64 1, .int .i64 1, .int .i64 lt, .int .i64 lu, .int .i64 bf, .int .i64 bo, .int .i64 bp, .int .i64 rm, .int .i64 rb, .int .i64 rc, .int .i64 rj]] W fun e w' => e = .returned (.tuple #[.string ⟨#[]⟩, .int .i64 16]) ∧ Below W.heap.size W w' from fun W E => by have := polPrint_any (⟨cap, pri, spl, dl, 1, 1, lt, lu, bf, bo, bp, rm, rb, rc, rj⟩ : Lx.PolV) W E; rw [hE2, hS2] at this; exact this)
  have HG := Lib.hid (show ∀ W, UEnv W → Calls Tryz.prog 31 #[.agg #[.int .i64 cap, .int .i64 pri, .int .i64 spl, .int .i64 dl, .int .i64 1, .int .i64 1, .int .i64 lt, .int .i64 lu, .int .i64 bf, .int .i64 bo, .int .i64 bp, .int .i64 rm, .int .i64 rb, .int .i64 rc, .int .i64 rj], .string ⟨#[99, 97, 112]⟩] W fun e w' => e = .returned (.tuple #[.string ⟨#[]⟩, .int .i64 16]) ∧ Below W.heap.size W w' from fun W E => by have := polGet_any (⟨cap, pri, spl, dl, 1, 1, lt, lu, bf, bo, bp, rm, rb, rc, rj⟩ : Lx.PolV) ⟨#[99, 97, 112]⟩ W E; rw [(hG2 _).1, (hG2 _).2] at this; exact this)
  have HC2 := Lib.hid (show ∀ W, Calls Tryz.prog 19 #[.agg #[.int .i64 cap, .int .i64 pri, .int .i64 spl, .int .i64 dl, .int .i64 1, .int .i64 1, .int .i64 lt, .int .i64 lu, .int .i64 bf, .int .i64 bo, .int .i64 bp, .int .i64 rm, .int .i64 rb, .int .i64 rc, .int .i64 rj]] W fun e w' => e = .returned (.int .i64 16) ∧ Below W.heap.size W w' from fun W => by have := polCheck_any (⟨cap, pri, spl, dl, 1, 1, lt, lu, bf, bo, bp, rm, rb, rc, rj⟩ : Lx.PolV) W; rw [hE2] at this; exact this)
  clear hE hE2 hS2 hG2 hb h env
  obtain ⟨W0, hW0⟩ : ∃ W0, W0 = (w.alloc (.cells #[.int .i64 cap, .int .i64 pri, .int .i64 spl, .int .i64 dl, .int .i64 mis, .int .i64 keep, .int .i64 lt, .int .i64 lu, .int .i64 bf, .int .i64 bo, .int .i64 bp, .int .i64 rm, .int .i64 rb, .int .i64 rc, .int .i64 rj] 29)) := ⟨_, rfl⟩
  have S0 := Lib.hid (show Lx.PSt g W0 W0 ⟨cap, pri, spl, dl, mis, keep, lt, lu, bf, bo, bp, rm, rb, rc, rj⟩ from by rw [hg, hW0]; exact Lx.PSt.new w hgl ⟨cap, pri, spl, dl, mis, keep, lt, lu, bf, bo, bp, rm, rb, rc, rj⟩)
  have B0 := Lib.hid (show Below w.heap.size w W0 from by rw [hW0]; exact (Below.refl _ w).alloc (Nat.le_refl _) _)
  have Hle := Lib.hid (show w.heap.size ≤ g from Nat.le_of_eq hg.symm)
  show Calls Tryz.prog 10 #[.agg #[.int .i64 cap, .int .i64 pri, .int .i64 spl, .int .i64 dl, .int .i64 mis, .int .i64 keep, .int .i64 lt, .int .i64 lu, .int .i64 bf, .int .i64 bo, .int .i64 bp, .int .i64 rm, .int .i64 rb, .int .i64 rc, .int .i64 rj], .int .u8 c.toNat] w _
  go_enter Tryz.func10, Tryz.ntmps10
  go_upto_region 1 with (fail)
  rw [show (w.alloc (.cells #[.int .i64 cap, .int .i64 pri, .int .i64 spl, .int .i64 dl, .int .i64 mis, .int .i64 keep, .int .i64 lt, .int .i64 lu, .int .i64 bf, .int .i64 bo, .int .i64 bp, .int .i64 rm, .int .i64 rb, .int .i64 rc, .int .i64 rj] 29)) = W0 from hW0.symm, ← hg]
  clear hW0 hg
  have u0 : W0.cell? ⟨g, 0, none⟩ = some (.int .i64 cap) := S0.out.cell 0 _ rfl
  have u1 : W0.cell? ⟨g, 1, none⟩ = some (.int .i64 pri) := S0.out.cell 1 _ rfl
  have u2 : W0.cell? ⟨g, 2, none⟩ = some (.int .i64 spl) := S0.out.cell 2 _ rfl
  have u3 : W0.cell? ⟨g, 3, none⟩ = some (.int .i64 dl) := S0.out.cell 3 _ rfl
  have u4 : W0.cell? ⟨g, 4, none⟩ = some (.int .i64 mis) := S0.out.cell 4 _ rfl
  have u5 : W0.cell? ⟨g, 5, none⟩ = some (.int .i64 keep) := S0.out.cell 5 _ rfl
  have u6 : W0.cell? ⟨g, 6, none⟩ = some (.int .i64 lt) := S0.out.cell 6 _ rfl
  have u7 : W0.cell? ⟨g, 7, none⟩ = some (.int .i64 lu) := S0.out.cell 7 _ rfl
  have u8 : W0.cell? ⟨g, 8, none⟩ = some (.int .i64 bf) := S0.out.cell 8 _ rfl
  have u9 : W0.cell? ⟨g, 9, none⟩ = some (.int .i64 bo) := S0.out.cell 9 _ rfl
  have u10 : W0.cell? ⟨g, 10, none⟩ = some (.int .i64 bp) := S0.out.cell 10 _ rfl
  have u11 : W0.cell? ⟨g, 11, none⟩ = some (.int .i64 rm) := S0.out.cell 11 _ rfl
  have u12 : W0.cell? ⟨g, 12, none⟩ = some (.int .i64 rb) := S0.out.cell 12 _ rfl
  have u13 : W0.cell? ⟨g, 13, none⟩ = some (.int .i64 rc) := S0.out.cell 13 _ rfl
  have u14 : W0.cell? ⟨g, 14, none⟩ = some (.int .i64 rj) := S0.out.cell 14 _ rfl
  go_wp2_with fail
  refine (HC.out _).mono ?_
  rintro e W1 ⟨rfl, c1⟩
  have S1 := Lib.hid (S0.out.low c1)
  have B1 := Lib.hid (B0.out.trans (c1.mono B0.out.size))
  clear c1 S0 B0 u0 u1 u2 u3 u4 u5 u6 u7 u8 u9 u10 u11 u12 u13 u14
  have u0 : W1.cell? ⟨g, 0, none⟩ = some (.int .i64 cap) := S1.out.cell 0 _ rfl
  have u1 : W1.cell? ⟨g, 1, none⟩ = some (.int .i64 pri) := S1.out.cell 1 _ rfl
  have u2 : W1.cell? ⟨g, 2, none⟩ = some (.int .i64 spl) := S1.out.cell 2 _ rfl
  have u3 : W1.cell? ⟨g, 3, none⟩ = some (.int .i64 dl) := S1.out.cell 3 _ rfl
  have u4 : W1.cell? ⟨g, 4, none⟩ = some (.int .i64 mis) := S1.out.cell 4 _ rfl
  have u5 : W1.cell? ⟨g, 5, none⟩ = some (.int .i64 keep) := S1.out.cell 5 _ rfl
  have u6 : W1.cell? ⟨g, 6, none⟩ = some (.int .i64 lt) := S1.out.cell 6 _ rfl
  have u7 : W1.cell? ⟨g, 7, none⟩ = some (.int .i64 lu) := S1.out.cell 7 _ rfl
  have u8 : W1.cell? ⟨g, 8, none⟩ = some (.int .i64 bf) := S1.out.cell 8 _ rfl
  have u9 : W1.cell? ⟨g, 9, none⟩ = some (.int .i64 bo) := S1.out.cell 9 _ rfl
  have u10 : W1.cell? ⟨g, 10, none⟩ = some (.int .i64 bp) := S1.out.cell 10 _ rfl
  have u11 : W1.cell? ⟨g, 11, none⟩ = some (.int .i64 rm) := S1.out.cell 11 _ rfl
  have u12 : W1.cell? ⟨g, 12, none⟩ = some (.int .i64 rb) := S1.out.cell 12 _ rfl
  have u13 : W1.cell? ⟨g, 13, none⟩ = some (.int .i64 rc) := S1.out.cell 13 _ rfl
  have u14 : W1.cell? ⟨g, 14, none⟩ = some (.int .i64 rj) := S1.out.cell 14 _ rfl
  have y4 := S1.out.fz 4 (by omega)
  have y5 := S1.out.fz 5 (by omega)
  obtain ⟨W2, hW2⟩ : ∃ W2, W2 = ((W1.setCell ⟨g, 4, none⟩ (.int .i64 1)).setCell ⟨g, 5, none⟩ (.int .i64 1)) := ⟨_, rfl⟩
  have S2 := Lib.hid (show Lx.PSt g W1 W2 (⟨cap, pri, spl, dl, 1, 1, lt, lu, bf, bo, bp, rm, rb, rc, rj⟩ : Lx.PolV) from by rw [hW2]; exact ((S1.out.set (j := 4) (q' := (⟨cap, pri, spl, dl, 1, keep, lt, lu, bf, bo, bp, rm, rb, rc, rj⟩ : Lx.PolV)) (v := .int .i64 1) (by omega) rfl).set (j := 5) (q' := (⟨cap, pri, spl, dl, 1, 1, lt, lu, bf, bo, bp, rm, rb, rc, rj⟩ : Lx.PolV)) (v := .int .i64 1) (by omega) rfl))
  have B2 := Lib.hid (B1.out.trans (S2.out.toB.mono Hle.out))
  go_upto_region 27 with (fail)
  rw [show ((W1.setCell ⟨g, 4, none⟩ (.int .i64 1)).setCell ⟨g, 5, none⟩ (.int .i64 1)) = W2 from hW2.symm]
  clear hW2 S1 u0 u1 u2 u3 u4 u5 u6 u7 u8 u9 u10 u11 u12 u13 u14 y4 y5
  have u0 : W2.cell? ⟨g, 0, none⟩ = some (.int .i64 cap) := S2.out.cell 0 _ rfl
  have u1 : W2.cell? ⟨g, 1, none⟩ = some (.int .i64 pri) := S2.out.cell 1 _ rfl
  have u2 : W2.cell? ⟨g, 2, none⟩ = some (.int .i64 spl) := S2.out.cell 2 _ rfl
  have u3 : W2.cell? ⟨g, 3, none⟩ = some (.int .i64 dl) := S2.out.cell 3 _ rfl
  have u4 : W2.cell? ⟨g, 4, none⟩ = some (.int .i64 1) := S2.out.cell 4 _ rfl
  have u5 : W2.cell? ⟨g, 5, none⟩ = some (.int .i64 1) := S2.out.cell 5 _ rfl
  have u6 : W2.cell? ⟨g, 6, none⟩ = some (.int .i64 lt) := S2.out.cell 6 _ rfl
  have u7 : W2.cell? ⟨g, 7, none⟩ = some (.int .i64 lu) := S2.out.cell 7 _ rfl
  have u8 : W2.cell? ⟨g, 8, none⟩ = some (.int .i64 bf) := S2.out.cell 8 _ rfl
  have u9 : W2.cell? ⟨g, 9, none⟩ = some (.int .i64 bo) := S2.out.cell 9 _ rfl
  have u10 : W2.cell? ⟨g, 10, none⟩ = some (.int .i64 bp) := S2.out.cell 10 _ rfl
  have u11 : W2.cell? ⟨g, 11, none⟩ = some (.int .i64 rm) := S2.out.cell 11 _ rfl
  have u12 : W2.cell? ⟨g, 12, none⟩ = some (.int .i64 rb) := S2.out.cell 12 _ rfl
  have u13 : W2.cell? ⟨g, 13, none⟩ = some (.int .i64 rc) := S2.out.cell 13 _ rfl
  have u14 : W2.cell? ⟨g, 14, none⟩ = some (.int .i64 rj) := S2.out.cell 14 _ rfl
  go_wp2_with fail
  refine (HP.out _ (E0.out.below B2.out)).mono ?_
  rintro e w3 ⟨rfl, c3⟩
  have S3 := Lib.hid (S2.out.low c3)
  have B3 := Lib.hid (B2.out.trans (c3.mono B2.out.size))
  clear c3 S2 B2 u0 u1 u2 u3 u4 u5 u6 u7 u8 u9 u10 u11 u12 u13 u14
  have u0 : w3.cell? ⟨g, 0, none⟩ = some (.int .i64 cap) := S3.out.cell 0 _ rfl
  have u1 : w3.cell? ⟨g, 1, none⟩ = some (.int .i64 pri) := S3.out.cell 1 _ rfl
  have u2 : w3.cell? ⟨g, 2, none⟩ = some (.int .i64 spl) := S3.out.cell 2 _ rfl
  have u3 : w3.cell? ⟨g, 3, none⟩ = some (.int .i64 dl) := S3.out.cell 3 _ rfl
  have u4 : w3.cell? ⟨g, 4, none⟩ = some (.int .i64 1) := S3.out.cell 4 _ rfl
  have u5 : w3.cell? ⟨g, 5, none⟩ = some (.int .i64 1) := S3.out.cell 5 _ rfl
  have u6 : w3.cell? ⟨g, 6, none⟩ = some (.int .i64 lt) := S3.out.cell 6 _ rfl
  have u7 : w3.cell? ⟨g, 7, none⟩ = some (.int .i64 lu) := S3.out.cell 7 _ rfl
  have u8 : w3.cell? ⟨g, 8, none⟩ = some (.int .i64 bf) := S3.out.cell 8 _ rfl
  have u9 : w3.cell? ⟨g, 9, none⟩ = some (.int .i64 bo) := S3.out.cell 9 _ rfl
  have u10 : w3.cell? ⟨g, 10, none⟩ = some (.int .i64 bp) := S3.out.cell 10 _ rfl
  have u11 : w3.cell? ⟨g, 11, none⟩ = some (.int .i64 rm) := S3.out.cell 11 _ rfl
  have u12 : w3.cell? ⟨g, 12, none⟩ = some (.int .i64 rb) := S3.out.cell 12 _ rfl
  have u13 : w3.cell? ⟨g, 13, none⟩ = some (.int .i64 rc) := S3.out.cell 13 _ rfl
  have u14 : w3.cell? ⟨g, 14, none⟩ = some (.int .i64 rj) := S3.out.cell 14 _ rfl
  go_wp2_with fail
  refine (HG.out _ (E0.out.below B3.out)).mono ?_
  rintro e w4 ⟨rfl, c4⟩
  have S4 := Lib.hid (S3.out.low c4)
  have B4 := Lib.hid (B3.out.trans (c4.mono B3.out.size))
  clear c4 S3 B3 u0 u1 u2 u3 u4 u5 u6 u7 u8 u9 u10 u11 u12 u13 u14
  have u0 : w4.cell? ⟨g, 0, none⟩ = some (.int .i64 cap) := S4.out.cell 0 _ rfl
  have u1 : w4.cell? ⟨g, 1, none⟩ = some (.int .i64 pri) := S4.out.cell 1 _ rfl
  have u2 : w4.cell? ⟨g, 2, none⟩ = some (.int .i64 spl) := S4.out.cell 2 _ rfl
  have u3 : w4.cell? ⟨g, 3, none⟩ = some (.int .i64 dl) := S4.out.cell 3 _ rfl
  have u4 : w4.cell? ⟨g, 4, none⟩ = some (.int .i64 1) := S4.out.cell 4 _ rfl
  have u5 : w4.cell? ⟨g, 5, none⟩ = some (.int .i64 1) := S4.out.cell 5 _ rfl
  have u6 : w4.cell? ⟨g, 6, none⟩ = some (.int .i64 lt) := S4.out.cell 6 _ rfl
  have u7 : w4.cell? ⟨g, 7, none⟩ = some (.int .i64 lu) := S4.out.cell 7 _ rfl
  have u8 : w4.cell? ⟨g, 8, none⟩ = some (.int .i64 bf) := S4.out.cell 8 _ rfl
  have u9 : w4.cell? ⟨g, 9, none⟩ = some (.int .i64 bo) := S4.out.cell 9 _ rfl
  have u10 : w4.cell? ⟨g, 10, none⟩ = some (.int .i64 bp) := S4.out.cell 10 _ rfl
  have u11 : w4.cell? ⟨g, 11, none⟩ = some (.int .i64 rm) := S4.out.cell 11 _ rfl
  have u12 : w4.cell? ⟨g, 12, none⟩ = some (.int .i64 rb) := S4.out.cell 12 _ rfl
  have u13 : w4.cell? ⟨g, 13, none⟩ = some (.int .i64 rc) := S4.out.cell 13 _ rfl
  have u14 : w4.cell? ⟨g, 14, none⟩ = some (.int .i64 rj) := S4.out.cell 14 _ rfl
  go_wp2_with fail
  refine (HC2.out _).mono ?_
  rintro e w5 ⟨rfl, c5⟩
  have B5 := Lib.hid (B4.out.trans (c5.mono B4.out.size))
  clear c5 S4 B4 u0 u1 u2 u3 u4 u5 u6 u7 u8 u9 u10 u11 u12 u13 u14
  go_wp2_with fail
  refine (HW.out _ (E0.out.below B5.out)).mono ?_
  rintro e w6 ⟨rfl, c6⟩
  go_wp2_with fail
  go_ret
  exact ⟨rfl, B5.out.trans (c6.mono B5.out.size)⟩
theorem prb7 (cap pri spl dl lt lu bf bo bp rm rb rc rj : Int) : Lx.polOk (⟨cap, pri, spl, dl, 3, 101, lt, lu, bf, bo, bp, rm, rb, rc, rj⟩ : Lx.PolV) = false := by
  simp [Lx.polOk, Lx.fldOk, Lx.misOk, Lx.limOk, Lx.brOk, Lx.reOk, Lx.brZ, Lx.reZ, Lx.inI]
set_option maxRecDepth 100000 in
set_option maxHeartbeats 1600000 in
theorem prw7 (p : Lx.PolV) (h : Lx.polOk p = true) (c : UInt8) (hc : (c.toNat : Int) % 12 = 7) (w : World) (env : UEnv w) :
    Calls Tryz.prog 10 #[p.val, .int .u8 c.toNat] w fun e w' => e = .returned (.bool true) ∧ Below w.heap.size w w' := by
  have HW := Lib.hid (fun W (E : UEnv W) => pworks_any W E)
  have E0 := Lib.hid env
  have hgl := env.env.lt
  obtain ⟨g, hg⟩ : ∃ g, g = w.heap.size := ⟨_, rfl⟩
  have hE : Lx.polE p = 0 := by unfold Lx.polE; rw [if_pos h]
  have HC := fun W => polCheck_any p W
  rw [hE] at HC
  obtain ⟨cap, pri, spl, dl, mis, keep, lt, lu, bf, bo, bp, rm, rb, rc, rj⟩ := p
  have hb := prb7 cap pri spl dl lt lu bf bo bp rm rb rc rj
  have hE2 : Lx.polE (⟨cap, pri, spl, dl, 3, 101, lt, lu, bf, bo, bp, rm, rb, rc, rj⟩ : Lx.PolV) = 16 := by unfold Lx.polE; rw [if_neg (by rw [hb]; decide)]
  have hS2 : Lx.prS (⟨cap, pri, spl, dl, 3, 101, lt, lu, bf, bo, bp, rm, rb, rc, rj⟩ : Lx.PolV) = [] := by unfold Lx.prS; rw [if_neg (by rw [hb]; decide)]
  have hG2 : ∀ s, Lx.getS (⟨cap, pri, spl, dl, 3, 101, lt, lu, bf, bo, bp, rm, rb, rc, rj⟩ : Lx.PolV) s = [] ∧ Lx.getE (⟨cap, pri, spl, dl, 3, 101, lt, lu, bf, bo, bp, rm, rb, rc, rj⟩ : Lx.PolV) s = 16 := fun s => by
    unfold Lx.getS Lx.getE; rw [if_neg (fun c => by rw [hb] at c; cases c.1), if_neg (by rw [hb]; decide)]; exact ⟨rfl, rfl⟩
  have HC := Lib.hid (show ∀ W, Calls Tryz.prog 19 #[.agg #[.int .i64 cap, .int .i64 pri, .int .i64 spl, .int .i64 dl, .int .i64 mis, .int .i64 keep, .int .i64 lt, .int .i64 lu, .int .i64 bf, .int .i64 bo, .int .i64 bp, .int .i64 rm, .int .i64 rb, .int .i64 rc, .int .i64 rj]] W fun e w' => e = .returned (.int .i64 0) ∧ Below W.heap.size W w' from HC)
  have HP := Lib.hid (show ∀ W, UEnv W → Calls Tryz.prog 18 #[.agg #[.int .i64 cap, .int .i64 pri, .int .i64 spl, .int .i64 dl, .int .i64 3, .int .i64 101, .int .i64 lt, .int .i64 lu, .int .i64 bf, .int .i64 bo, .int .i64 bp, .int .i64 rm, .int .i64 rb, .int .i64 rc, .int .i64 rj]] W fun e w' => e = .returned (.tuple #[.string ⟨#[]⟩, .int .i64 16]) ∧ Below W.heap.size W w' from fun W E => by have := polPrint_any (⟨cap, pri, spl, dl, 3, 101, lt, lu, bf, bo, bp, rm, rb, rc, rj⟩ : Lx.PolV) W E; rw [hE2, hS2] at this; exact this)
  have HG := Lib.hid (show ∀ W, UEnv W → Calls Tryz.prog 31 #[.agg #[.int .i64 cap, .int .i64 pri, .int .i64 spl, .int .i64 dl, .int .i64 3, .int .i64 101, .int .i64 lt, .int .i64 lu, .int .i64 bf, .int .i64 bo, .int .i64 bp, .int .i64 rm, .int .i64 rb, .int .i64 rc, .int .i64 rj], .string ⟨#[99, 97, 112]⟩] W fun e w' => e = .returned (.tuple #[.string ⟨#[]⟩, .int .i64 16]) ∧ Below W.heap.size W w' from fun W E => by have := polGet_any (⟨cap, pri, spl, dl, 3, 101, lt, lu, bf, bo, bp, rm, rb, rc, rj⟩ : Lx.PolV) ⟨#[99, 97, 112]⟩ W E; rw [(hG2 _).1, (hG2 _).2] at this; exact this)
  have HC2 := Lib.hid (show ∀ W, Calls Tryz.prog 19 #[.agg #[.int .i64 cap, .int .i64 pri, .int .i64 spl, .int .i64 dl, .int .i64 3, .int .i64 101, .int .i64 lt, .int .i64 lu, .int .i64 bf, .int .i64 bo, .int .i64 bp, .int .i64 rm, .int .i64 rb, .int .i64 rc, .int .i64 rj]] W fun e w' => e = .returned (.int .i64 16) ∧ Below W.heap.size W w' from fun W => by have := polCheck_any (⟨cap, pri, spl, dl, 3, 101, lt, lu, bf, bo, bp, rm, rb, rc, rj⟩ : Lx.PolV) W; rw [hE2] at this; exact this)
  clear hE hE2 hS2 hG2 hb h env
  obtain ⟨W0, hW0⟩ : ∃ W0, W0 = (w.alloc (.cells #[.int .i64 cap, .int .i64 pri, .int .i64 spl, .int .i64 dl, .int .i64 mis, .int .i64 keep, .int .i64 lt, .int .i64 lu, .int .i64 bf, .int .i64 bo, .int .i64 bp, .int .i64 rm, .int .i64 rb, .int .i64 rc, .int .i64 rj] 29)) := ⟨_, rfl⟩
  have S0 := Lib.hid (show Lx.PSt g W0 W0 ⟨cap, pri, spl, dl, mis, keep, lt, lu, bf, bo, bp, rm, rb, rc, rj⟩ from by rw [hg, hW0]; exact Lx.PSt.new w hgl ⟨cap, pri, spl, dl, mis, keep, lt, lu, bf, bo, bp, rm, rb, rc, rj⟩)
  have B0 := Lib.hid (show Below w.heap.size w W0 from by rw [hW0]; exact (Below.refl _ w).alloc (Nat.le_refl _) _)
  have Hle := Lib.hid (show w.heap.size ≤ g from Nat.le_of_eq hg.symm)
  show Calls Tryz.prog 10 #[.agg #[.int .i64 cap, .int .i64 pri, .int .i64 spl, .int .i64 dl, .int .i64 mis, .int .i64 keep, .int .i64 lt, .int .i64 lu, .int .i64 bf, .int .i64 bo, .int .i64 bp, .int .i64 rm, .int .i64 rb, .int .i64 rc, .int .i64 rj], .int .u8 c.toNat] w _
  go_enter Tryz.func10, Tryz.ntmps10
  go_upto_region 1 with (fail)
  rw [show (w.alloc (.cells #[.int .i64 cap, .int .i64 pri, .int .i64 spl, .int .i64 dl, .int .i64 mis, .int .i64 keep, .int .i64 lt, .int .i64 lu, .int .i64 bf, .int .i64 bo, .int .i64 bp, .int .i64 rm, .int .i64 rb, .int .i64 rc, .int .i64 rj] 29)) = W0 from hW0.symm, ← hg]
  clear hW0 hg
  have u0 : W0.cell? ⟨g, 0, none⟩ = some (.int .i64 cap) := S0.out.cell 0 _ rfl
  have u1 : W0.cell? ⟨g, 1, none⟩ = some (.int .i64 pri) := S0.out.cell 1 _ rfl
  have u2 : W0.cell? ⟨g, 2, none⟩ = some (.int .i64 spl) := S0.out.cell 2 _ rfl
  have u3 : W0.cell? ⟨g, 3, none⟩ = some (.int .i64 dl) := S0.out.cell 3 _ rfl
  have u4 : W0.cell? ⟨g, 4, none⟩ = some (.int .i64 mis) := S0.out.cell 4 _ rfl
  have u5 : W0.cell? ⟨g, 5, none⟩ = some (.int .i64 keep) := S0.out.cell 5 _ rfl
  have u6 : W0.cell? ⟨g, 6, none⟩ = some (.int .i64 lt) := S0.out.cell 6 _ rfl
  have u7 : W0.cell? ⟨g, 7, none⟩ = some (.int .i64 lu) := S0.out.cell 7 _ rfl
  have u8 : W0.cell? ⟨g, 8, none⟩ = some (.int .i64 bf) := S0.out.cell 8 _ rfl
  have u9 : W0.cell? ⟨g, 9, none⟩ = some (.int .i64 bo) := S0.out.cell 9 _ rfl
  have u10 : W0.cell? ⟨g, 10, none⟩ = some (.int .i64 bp) := S0.out.cell 10 _ rfl
  have u11 : W0.cell? ⟨g, 11, none⟩ = some (.int .i64 rm) := S0.out.cell 11 _ rfl
  have u12 : W0.cell? ⟨g, 12, none⟩ = some (.int .i64 rb) := S0.out.cell 12 _ rfl
  have u13 : W0.cell? ⟨g, 13, none⟩ = some (.int .i64 rc) := S0.out.cell 13 _ rfl
  have u14 : W0.cell? ⟨g, 14, none⟩ = some (.int .i64 rj) := S0.out.cell 14 _ rfl
  go_wp2_with fail
  refine (HC.out _).mono ?_
  rintro e W1 ⟨rfl, c1⟩
  have S1 := Lib.hid (S0.out.low c1)
  have B1 := Lib.hid (B0.out.trans (c1.mono B0.out.size))
  clear c1 S0 B0 u0 u1 u2 u3 u4 u5 u6 u7 u8 u9 u10 u11 u12 u13 u14
  have u0 : W1.cell? ⟨g, 0, none⟩ = some (.int .i64 cap) := S1.out.cell 0 _ rfl
  have u1 : W1.cell? ⟨g, 1, none⟩ = some (.int .i64 pri) := S1.out.cell 1 _ rfl
  have u2 : W1.cell? ⟨g, 2, none⟩ = some (.int .i64 spl) := S1.out.cell 2 _ rfl
  have u3 : W1.cell? ⟨g, 3, none⟩ = some (.int .i64 dl) := S1.out.cell 3 _ rfl
  have u4 : W1.cell? ⟨g, 4, none⟩ = some (.int .i64 mis) := S1.out.cell 4 _ rfl
  have u5 : W1.cell? ⟨g, 5, none⟩ = some (.int .i64 keep) := S1.out.cell 5 _ rfl
  have u6 : W1.cell? ⟨g, 6, none⟩ = some (.int .i64 lt) := S1.out.cell 6 _ rfl
  have u7 : W1.cell? ⟨g, 7, none⟩ = some (.int .i64 lu) := S1.out.cell 7 _ rfl
  have u8 : W1.cell? ⟨g, 8, none⟩ = some (.int .i64 bf) := S1.out.cell 8 _ rfl
  have u9 : W1.cell? ⟨g, 9, none⟩ = some (.int .i64 bo) := S1.out.cell 9 _ rfl
  have u10 : W1.cell? ⟨g, 10, none⟩ = some (.int .i64 bp) := S1.out.cell 10 _ rfl
  have u11 : W1.cell? ⟨g, 11, none⟩ = some (.int .i64 rm) := S1.out.cell 11 _ rfl
  have u12 : W1.cell? ⟨g, 12, none⟩ = some (.int .i64 rb) := S1.out.cell 12 _ rfl
  have u13 : W1.cell? ⟨g, 13, none⟩ = some (.int .i64 rc) := S1.out.cell 13 _ rfl
  have u14 : W1.cell? ⟨g, 14, none⟩ = some (.int .i64 rj) := S1.out.cell 14 _ rfl
  have y4 := S1.out.fz 4 (by omega)
  have y5 := S1.out.fz 5 (by omega)
  obtain ⟨W2, hW2⟩ : ∃ W2, W2 = ((W1.setCell ⟨g, 4, none⟩ (.int .i64 3)).setCell ⟨g, 5, none⟩ (.int .i64 101)) := ⟨_, rfl⟩
  have S2 := Lib.hid (show Lx.PSt g W1 W2 (⟨cap, pri, spl, dl, 3, 101, lt, lu, bf, bo, bp, rm, rb, rc, rj⟩ : Lx.PolV) from by rw [hW2]; exact ((S1.out.set (j := 4) (q' := (⟨cap, pri, spl, dl, 3, keep, lt, lu, bf, bo, bp, rm, rb, rc, rj⟩ : Lx.PolV)) (v := .int .i64 3) (by omega) rfl).set (j := 5) (q' := (⟨cap, pri, spl, dl, 3, 101, lt, lu, bf, bo, bp, rm, rb, rc, rj⟩ : Lx.PolV)) (v := .int .i64 101) (by omega) rfl))
  have B2 := Lib.hid (B1.out.trans (S2.out.toB.mono Hle.out))
  go_upto_region 27 with (fail)
  rw [show ((W1.setCell ⟨g, 4, none⟩ (.int .i64 3)).setCell ⟨g, 5, none⟩ (.int .i64 101)) = W2 from hW2.symm]
  clear hW2 S1 u0 u1 u2 u3 u4 u5 u6 u7 u8 u9 u10 u11 u12 u13 u14 y4 y5
  have u0 : W2.cell? ⟨g, 0, none⟩ = some (.int .i64 cap) := S2.out.cell 0 _ rfl
  have u1 : W2.cell? ⟨g, 1, none⟩ = some (.int .i64 pri) := S2.out.cell 1 _ rfl
  have u2 : W2.cell? ⟨g, 2, none⟩ = some (.int .i64 spl) := S2.out.cell 2 _ rfl
  have u3 : W2.cell? ⟨g, 3, none⟩ = some (.int .i64 dl) := S2.out.cell 3 _ rfl
  have u4 : W2.cell? ⟨g, 4, none⟩ = some (.int .i64 3) := S2.out.cell 4 _ rfl
  have u5 : W2.cell? ⟨g, 5, none⟩ = some (.int .i64 101) := S2.out.cell 5 _ rfl
  have u6 : W2.cell? ⟨g, 6, none⟩ = some (.int .i64 lt) := S2.out.cell 6 _ rfl
  have u7 : W2.cell? ⟨g, 7, none⟩ = some (.int .i64 lu) := S2.out.cell 7 _ rfl
  have u8 : W2.cell? ⟨g, 8, none⟩ = some (.int .i64 bf) := S2.out.cell 8 _ rfl
  have u9 : W2.cell? ⟨g, 9, none⟩ = some (.int .i64 bo) := S2.out.cell 9 _ rfl
  have u10 : W2.cell? ⟨g, 10, none⟩ = some (.int .i64 bp) := S2.out.cell 10 _ rfl
  have u11 : W2.cell? ⟨g, 11, none⟩ = some (.int .i64 rm) := S2.out.cell 11 _ rfl
  have u12 : W2.cell? ⟨g, 12, none⟩ = some (.int .i64 rb) := S2.out.cell 12 _ rfl
  have u13 : W2.cell? ⟨g, 13, none⟩ = some (.int .i64 rc) := S2.out.cell 13 _ rfl
  have u14 : W2.cell? ⟨g, 14, none⟩ = some (.int .i64 rj) := S2.out.cell 14 _ rfl
  go_wp2_with fail
  refine (HP.out _ (E0.out.below B2.out)).mono ?_
  rintro e w3 ⟨rfl, c3⟩
  have S3 := Lib.hid (S2.out.low c3)
  have B3 := Lib.hid (B2.out.trans (c3.mono B2.out.size))
  clear c3 S2 B2 u0 u1 u2 u3 u4 u5 u6 u7 u8 u9 u10 u11 u12 u13 u14
  have u0 : w3.cell? ⟨g, 0, none⟩ = some (.int .i64 cap) := S3.out.cell 0 _ rfl
  have u1 : w3.cell? ⟨g, 1, none⟩ = some (.int .i64 pri) := S3.out.cell 1 _ rfl
  have u2 : w3.cell? ⟨g, 2, none⟩ = some (.int .i64 spl) := S3.out.cell 2 _ rfl
  have u3 : w3.cell? ⟨g, 3, none⟩ = some (.int .i64 dl) := S3.out.cell 3 _ rfl
  have u4 : w3.cell? ⟨g, 4, none⟩ = some (.int .i64 3) := S3.out.cell 4 _ rfl
  have u5 : w3.cell? ⟨g, 5, none⟩ = some (.int .i64 101) := S3.out.cell 5 _ rfl
  have u6 : w3.cell? ⟨g, 6, none⟩ = some (.int .i64 lt) := S3.out.cell 6 _ rfl
  have u7 : w3.cell? ⟨g, 7, none⟩ = some (.int .i64 lu) := S3.out.cell 7 _ rfl
  have u8 : w3.cell? ⟨g, 8, none⟩ = some (.int .i64 bf) := S3.out.cell 8 _ rfl
  have u9 : w3.cell? ⟨g, 9, none⟩ = some (.int .i64 bo) := S3.out.cell 9 _ rfl
  have u10 : w3.cell? ⟨g, 10, none⟩ = some (.int .i64 bp) := S3.out.cell 10 _ rfl
  have u11 : w3.cell? ⟨g, 11, none⟩ = some (.int .i64 rm) := S3.out.cell 11 _ rfl
  have u12 : w3.cell? ⟨g, 12, none⟩ = some (.int .i64 rb) := S3.out.cell 12 _ rfl
  have u13 : w3.cell? ⟨g, 13, none⟩ = some (.int .i64 rc) := S3.out.cell 13 _ rfl
  have u14 : w3.cell? ⟨g, 14, none⟩ = some (.int .i64 rj) := S3.out.cell 14 _ rfl
  go_wp2_with fail
  refine (HG.out _ (E0.out.below B3.out)).mono ?_
  rintro e w4 ⟨rfl, c4⟩
  have S4 := Lib.hid (S3.out.low c4)
  have B4 := Lib.hid (B3.out.trans (c4.mono B3.out.size))
  clear c4 S3 B3 u0 u1 u2 u3 u4 u5 u6 u7 u8 u9 u10 u11 u12 u13 u14
  have u0 : w4.cell? ⟨g, 0, none⟩ = some (.int .i64 cap) := S4.out.cell 0 _ rfl
  have u1 : w4.cell? ⟨g, 1, none⟩ = some (.int .i64 pri) := S4.out.cell 1 _ rfl
  have u2 : w4.cell? ⟨g, 2, none⟩ = some (.int .i64 spl) := S4.out.cell 2 _ rfl
  have u3 : w4.cell? ⟨g, 3, none⟩ = some (.int .i64 dl) := S4.out.cell 3 _ rfl
  have u4 : w4.cell? ⟨g, 4, none⟩ = some (.int .i64 3) := S4.out.cell 4 _ rfl
  have u5 : w4.cell? ⟨g, 5, none⟩ = some (.int .i64 101) := S4.out.cell 5 _ rfl
  have u6 : w4.cell? ⟨g, 6, none⟩ = some (.int .i64 lt) := S4.out.cell 6 _ rfl
  have u7 : w4.cell? ⟨g, 7, none⟩ = some (.int .i64 lu) := S4.out.cell 7 _ rfl
  have u8 : w4.cell? ⟨g, 8, none⟩ = some (.int .i64 bf) := S4.out.cell 8 _ rfl
  have u9 : w4.cell? ⟨g, 9, none⟩ = some (.int .i64 bo) := S4.out.cell 9 _ rfl
  have u10 : w4.cell? ⟨g, 10, none⟩ = some (.int .i64 bp) := S4.out.cell 10 _ rfl
  have u11 : w4.cell? ⟨g, 11, none⟩ = some (.int .i64 rm) := S4.out.cell 11 _ rfl
  have u12 : w4.cell? ⟨g, 12, none⟩ = some (.int .i64 rb) := S4.out.cell 12 _ rfl
  have u13 : w4.cell? ⟨g, 13, none⟩ = some (.int .i64 rc) := S4.out.cell 13 _ rfl
  have u14 : w4.cell? ⟨g, 14, none⟩ = some (.int .i64 rj) := S4.out.cell 14 _ rfl
  go_wp2_with fail
  refine (HC2.out _).mono ?_
  rintro e w5 ⟨rfl, c5⟩
  have B5 := Lib.hid (B4.out.trans (c5.mono B4.out.size))
  clear c5 S4 B4 u0 u1 u2 u3 u4 u5 u6 u7 u8 u9 u10 u11 u12 u13 u14
  go_wp2_with fail
  refine (HW.out _ (E0.out.below B5.out)).mono ?_
  rintro e w6 ⟨rfl, c6⟩
  go_wp2_with fail
  go_ret
  exact ⟨rfl, B5.out.trans (c6.mono B5.out.size)⟩
theorem prb8 (cap pri spl dl mis keep bf bo bp rm rb rc rj : Int) : Lx.polOk (⟨cap, pri, spl, dl, mis, keep, 0, 1, bf, bo, bp, rm, rb, rc, rj⟩ : Lx.PolV) = false := by
  simp [Lx.polOk, Lx.fldOk, Lx.misOk, Lx.limOk, Lx.brOk, Lx.reOk, Lx.brZ, Lx.reZ, Lx.inI]
set_option maxRecDepth 100000 in
set_option maxHeartbeats 1600000 in
theorem prw8 (p : Lx.PolV) (h : Lx.polOk p = true) (c : UInt8) (hc : (c.toNat : Int) % 12 = 8) (w : World) (env : UEnv w) :
    Calls Tryz.prog 10 #[p.val, .int .u8 c.toNat] w fun e w' => e = .returned (.bool true) ∧ Below w.heap.size w w' := by
  have HW := Lib.hid (fun W (E : UEnv W) => pworks_any W E)
  have E0 := Lib.hid env
  have hgl := env.env.lt
  obtain ⟨g, hg⟩ : ∃ g, g = w.heap.size := ⟨_, rfl⟩
  have hE : Lx.polE p = 0 := by unfold Lx.polE; rw [if_pos h]
  have HC := fun W => polCheck_any p W
  rw [hE] at HC
  obtain ⟨cap, pri, spl, dl, mis, keep, lt, lu, bf, bo, bp, rm, rb, rc, rj⟩ := p
  have hb := prb8 cap pri spl dl mis keep bf bo bp rm rb rc rj
  have hE2 : Lx.polE (⟨cap, pri, spl, dl, mis, keep, 0, 1, bf, bo, bp, rm, rb, rc, rj⟩ : Lx.PolV) = 16 := by unfold Lx.polE; rw [if_neg (by rw [hb]; decide)]
  have hS2 : Lx.prS (⟨cap, pri, spl, dl, mis, keep, 0, 1, bf, bo, bp, rm, rb, rc, rj⟩ : Lx.PolV) = [] := by unfold Lx.prS; rw [if_neg (by rw [hb]; decide)]
  have hG2 : ∀ s, Lx.getS (⟨cap, pri, spl, dl, mis, keep, 0, 1, bf, bo, bp, rm, rb, rc, rj⟩ : Lx.PolV) s = [] ∧ Lx.getE (⟨cap, pri, spl, dl, mis, keep, 0, 1, bf, bo, bp, rm, rb, rc, rj⟩ : Lx.PolV) s = 16 := fun s => by
    unfold Lx.getS Lx.getE; rw [if_neg (fun c => by rw [hb] at c; cases c.1), if_neg (by rw [hb]; decide)]; exact ⟨rfl, rfl⟩
  have HC := Lib.hid (show ∀ W, Calls Tryz.prog 19 #[.agg #[.int .i64 cap, .int .i64 pri, .int .i64 spl, .int .i64 dl, .int .i64 mis, .int .i64 keep, .int .i64 lt, .int .i64 lu, .int .i64 bf, .int .i64 bo, .int .i64 bp, .int .i64 rm, .int .i64 rb, .int .i64 rc, .int .i64 rj]] W fun e w' => e = .returned (.int .i64 0) ∧ Below W.heap.size W w' from HC)
  have HP := Lib.hid (show ∀ W, UEnv W → Calls Tryz.prog 18 #[.agg #[.int .i64 cap, .int .i64 pri, .int .i64 spl, .int .i64 dl, .int .i64 mis, .int .i64 keep, .int .i64 0, .int .i64 1, .int .i64 bf, .int .i64 bo, .int .i64 bp, .int .i64 rm, .int .i64 rb, .int .i64 rc, .int .i64 rj]] W fun e w' => e = .returned (.tuple #[.string ⟨#[]⟩, .int .i64 16]) ∧ Below W.heap.size W w' from fun W E => by have := polPrint_any (⟨cap, pri, spl, dl, mis, keep, 0, 1, bf, bo, bp, rm, rb, rc, rj⟩ : Lx.PolV) W E; rw [hE2, hS2] at this; exact this)
  have HG := Lib.hid (show ∀ W, UEnv W → Calls Tryz.prog 31 #[.agg #[.int .i64 cap, .int .i64 pri, .int .i64 spl, .int .i64 dl, .int .i64 mis, .int .i64 keep, .int .i64 0, .int .i64 1, .int .i64 bf, .int .i64 bo, .int .i64 bp, .int .i64 rm, .int .i64 rb, .int .i64 rc, .int .i64 rj], .string ⟨#[99, 97, 112]⟩] W fun e w' => e = .returned (.tuple #[.string ⟨#[]⟩, .int .i64 16]) ∧ Below W.heap.size W w' from fun W E => by have := polGet_any (⟨cap, pri, spl, dl, mis, keep, 0, 1, bf, bo, bp, rm, rb, rc, rj⟩ : Lx.PolV) ⟨#[99, 97, 112]⟩ W E; rw [(hG2 _).1, (hG2 _).2] at this; exact this)
  have HC2 := Lib.hid (show ∀ W, Calls Tryz.prog 19 #[.agg #[.int .i64 cap, .int .i64 pri, .int .i64 spl, .int .i64 dl, .int .i64 mis, .int .i64 keep, .int .i64 0, .int .i64 1, .int .i64 bf, .int .i64 bo, .int .i64 bp, .int .i64 rm, .int .i64 rb, .int .i64 rc, .int .i64 rj]] W fun e w' => e = .returned (.int .i64 16) ∧ Below W.heap.size W w' from fun W => by have := polCheck_any (⟨cap, pri, spl, dl, mis, keep, 0, 1, bf, bo, bp, rm, rb, rc, rj⟩ : Lx.PolV) W; rw [hE2] at this; exact this)
  clear hE hE2 hS2 hG2 hb h env
  obtain ⟨W0, hW0⟩ : ∃ W0, W0 = (w.alloc (.cells #[.int .i64 cap, .int .i64 pri, .int .i64 spl, .int .i64 dl, .int .i64 mis, .int .i64 keep, .int .i64 lt, .int .i64 lu, .int .i64 bf, .int .i64 bo, .int .i64 bp, .int .i64 rm, .int .i64 rb, .int .i64 rc, .int .i64 rj] 29)) := ⟨_, rfl⟩
  have S0 := Lib.hid (show Lx.PSt g W0 W0 ⟨cap, pri, spl, dl, mis, keep, lt, lu, bf, bo, bp, rm, rb, rc, rj⟩ from by rw [hg, hW0]; exact Lx.PSt.new w hgl ⟨cap, pri, spl, dl, mis, keep, lt, lu, bf, bo, bp, rm, rb, rc, rj⟩)
  have B0 := Lib.hid (show Below w.heap.size w W0 from by rw [hW0]; exact (Below.refl _ w).alloc (Nat.le_refl _) _)
  have Hle := Lib.hid (show w.heap.size ≤ g from Nat.le_of_eq hg.symm)
  show Calls Tryz.prog 10 #[.agg #[.int .i64 cap, .int .i64 pri, .int .i64 spl, .int .i64 dl, .int .i64 mis, .int .i64 keep, .int .i64 lt, .int .i64 lu, .int .i64 bf, .int .i64 bo, .int .i64 bp, .int .i64 rm, .int .i64 rb, .int .i64 rc, .int .i64 rj], .int .u8 c.toNat] w _
  go_enter Tryz.func10, Tryz.ntmps10
  go_upto_region 1 with (fail)
  rw [show (w.alloc (.cells #[.int .i64 cap, .int .i64 pri, .int .i64 spl, .int .i64 dl, .int .i64 mis, .int .i64 keep, .int .i64 lt, .int .i64 lu, .int .i64 bf, .int .i64 bo, .int .i64 bp, .int .i64 rm, .int .i64 rb, .int .i64 rc, .int .i64 rj] 29)) = W0 from hW0.symm, ← hg]
  clear hW0 hg
  have u0 : W0.cell? ⟨g, 0, none⟩ = some (.int .i64 cap) := S0.out.cell 0 _ rfl
  have u1 : W0.cell? ⟨g, 1, none⟩ = some (.int .i64 pri) := S0.out.cell 1 _ rfl
  have u2 : W0.cell? ⟨g, 2, none⟩ = some (.int .i64 spl) := S0.out.cell 2 _ rfl
  have u3 : W0.cell? ⟨g, 3, none⟩ = some (.int .i64 dl) := S0.out.cell 3 _ rfl
  have u4 : W0.cell? ⟨g, 4, none⟩ = some (.int .i64 mis) := S0.out.cell 4 _ rfl
  have u5 : W0.cell? ⟨g, 5, none⟩ = some (.int .i64 keep) := S0.out.cell 5 _ rfl
  have u6 : W0.cell? ⟨g, 6, none⟩ = some (.int .i64 lt) := S0.out.cell 6 _ rfl
  have u7 : W0.cell? ⟨g, 7, none⟩ = some (.int .i64 lu) := S0.out.cell 7 _ rfl
  have u8 : W0.cell? ⟨g, 8, none⟩ = some (.int .i64 bf) := S0.out.cell 8 _ rfl
  have u9 : W0.cell? ⟨g, 9, none⟩ = some (.int .i64 bo) := S0.out.cell 9 _ rfl
  have u10 : W0.cell? ⟨g, 10, none⟩ = some (.int .i64 bp) := S0.out.cell 10 _ rfl
  have u11 : W0.cell? ⟨g, 11, none⟩ = some (.int .i64 rm) := S0.out.cell 11 _ rfl
  have u12 : W0.cell? ⟨g, 12, none⟩ = some (.int .i64 rb) := S0.out.cell 12 _ rfl
  have u13 : W0.cell? ⟨g, 13, none⟩ = some (.int .i64 rc) := S0.out.cell 13 _ rfl
  have u14 : W0.cell? ⟨g, 14, none⟩ = some (.int .i64 rj) := S0.out.cell 14 _ rfl
  go_wp2_with fail
  refine (HC.out _).mono ?_
  rintro e W1 ⟨rfl, c1⟩
  have S1 := Lib.hid (S0.out.low c1)
  have B1 := Lib.hid (B0.out.trans (c1.mono B0.out.size))
  clear c1 S0 B0 u0 u1 u2 u3 u4 u5 u6 u7 u8 u9 u10 u11 u12 u13 u14
  have u0 : W1.cell? ⟨g, 0, none⟩ = some (.int .i64 cap) := S1.out.cell 0 _ rfl
  have u1 : W1.cell? ⟨g, 1, none⟩ = some (.int .i64 pri) := S1.out.cell 1 _ rfl
  have u2 : W1.cell? ⟨g, 2, none⟩ = some (.int .i64 spl) := S1.out.cell 2 _ rfl
  have u3 : W1.cell? ⟨g, 3, none⟩ = some (.int .i64 dl) := S1.out.cell 3 _ rfl
  have u4 : W1.cell? ⟨g, 4, none⟩ = some (.int .i64 mis) := S1.out.cell 4 _ rfl
  have u5 : W1.cell? ⟨g, 5, none⟩ = some (.int .i64 keep) := S1.out.cell 5 _ rfl
  have u6 : W1.cell? ⟨g, 6, none⟩ = some (.int .i64 lt) := S1.out.cell 6 _ rfl
  have u7 : W1.cell? ⟨g, 7, none⟩ = some (.int .i64 lu) := S1.out.cell 7 _ rfl
  have u8 : W1.cell? ⟨g, 8, none⟩ = some (.int .i64 bf) := S1.out.cell 8 _ rfl
  have u9 : W1.cell? ⟨g, 9, none⟩ = some (.int .i64 bo) := S1.out.cell 9 _ rfl
  have u10 : W1.cell? ⟨g, 10, none⟩ = some (.int .i64 bp) := S1.out.cell 10 _ rfl
  have u11 : W1.cell? ⟨g, 11, none⟩ = some (.int .i64 rm) := S1.out.cell 11 _ rfl
  have u12 : W1.cell? ⟨g, 12, none⟩ = some (.int .i64 rb) := S1.out.cell 12 _ rfl
  have u13 : W1.cell? ⟨g, 13, none⟩ = some (.int .i64 rc) := S1.out.cell 13 _ rfl
  have u14 : W1.cell? ⟨g, 14, none⟩ = some (.int .i64 rj) := S1.out.cell 14 _ rfl
  have y6 := S1.out.fz 6 (by omega)
  have y7 := S1.out.fz 7 (by omega)
  obtain ⟨W2, hW2⟩ : ∃ W2, W2 = ((W1.setCell ⟨g, 6, none⟩ (.int .i64 0)).setCell ⟨g, 7, none⟩ (.int .i64 1)) := ⟨_, rfl⟩
  have S2 := Lib.hid (show Lx.PSt g W1 W2 (⟨cap, pri, spl, dl, mis, keep, 0, 1, bf, bo, bp, rm, rb, rc, rj⟩ : Lx.PolV) from by rw [hW2]; exact ((S1.out.set (j := 6) (q' := (⟨cap, pri, spl, dl, mis, keep, 0, lu, bf, bo, bp, rm, rb, rc, rj⟩ : Lx.PolV)) (v := .int .i64 0) (by omega) rfl).set (j := 7) (q' := (⟨cap, pri, spl, dl, mis, keep, 0, 1, bf, bo, bp, rm, rb, rc, rj⟩ : Lx.PolV)) (v := .int .i64 1) (by omega) rfl))
  have B2 := Lib.hid (B1.out.trans (S2.out.toB.mono Hle.out))
  go_upto_region 27 with (fail)
  rw [show ((W1.setCell ⟨g, 6, none⟩ (.int .i64 0)).setCell ⟨g, 7, none⟩ (.int .i64 1)) = W2 from hW2.symm]
  clear hW2 S1 u0 u1 u2 u3 u4 u5 u6 u7 u8 u9 u10 u11 u12 u13 u14 y6 y7
  have u0 : W2.cell? ⟨g, 0, none⟩ = some (.int .i64 cap) := S2.out.cell 0 _ rfl
  have u1 : W2.cell? ⟨g, 1, none⟩ = some (.int .i64 pri) := S2.out.cell 1 _ rfl
  have u2 : W2.cell? ⟨g, 2, none⟩ = some (.int .i64 spl) := S2.out.cell 2 _ rfl
  have u3 : W2.cell? ⟨g, 3, none⟩ = some (.int .i64 dl) := S2.out.cell 3 _ rfl
  have u4 : W2.cell? ⟨g, 4, none⟩ = some (.int .i64 mis) := S2.out.cell 4 _ rfl
  have u5 : W2.cell? ⟨g, 5, none⟩ = some (.int .i64 keep) := S2.out.cell 5 _ rfl
  have u6 : W2.cell? ⟨g, 6, none⟩ = some (.int .i64 0) := S2.out.cell 6 _ rfl
  have u7 : W2.cell? ⟨g, 7, none⟩ = some (.int .i64 1) := S2.out.cell 7 _ rfl
  have u8 : W2.cell? ⟨g, 8, none⟩ = some (.int .i64 bf) := S2.out.cell 8 _ rfl
  have u9 : W2.cell? ⟨g, 9, none⟩ = some (.int .i64 bo) := S2.out.cell 9 _ rfl
  have u10 : W2.cell? ⟨g, 10, none⟩ = some (.int .i64 bp) := S2.out.cell 10 _ rfl
  have u11 : W2.cell? ⟨g, 11, none⟩ = some (.int .i64 rm) := S2.out.cell 11 _ rfl
  have u12 : W2.cell? ⟨g, 12, none⟩ = some (.int .i64 rb) := S2.out.cell 12 _ rfl
  have u13 : W2.cell? ⟨g, 13, none⟩ = some (.int .i64 rc) := S2.out.cell 13 _ rfl
  have u14 : W2.cell? ⟨g, 14, none⟩ = some (.int .i64 rj) := S2.out.cell 14 _ rfl
  go_wp2_with fail
  refine (HP.out _ (E0.out.below B2.out)).mono ?_
  rintro e w3 ⟨rfl, c3⟩
  have S3 := Lib.hid (S2.out.low c3)
  have B3 := Lib.hid (B2.out.trans (c3.mono B2.out.size))
  clear c3 S2 B2 u0 u1 u2 u3 u4 u5 u6 u7 u8 u9 u10 u11 u12 u13 u14
  have u0 : w3.cell? ⟨g, 0, none⟩ = some (.int .i64 cap) := S3.out.cell 0 _ rfl
  have u1 : w3.cell? ⟨g, 1, none⟩ = some (.int .i64 pri) := S3.out.cell 1 _ rfl
  have u2 : w3.cell? ⟨g, 2, none⟩ = some (.int .i64 spl) := S3.out.cell 2 _ rfl
  have u3 : w3.cell? ⟨g, 3, none⟩ = some (.int .i64 dl) := S3.out.cell 3 _ rfl
  have u4 : w3.cell? ⟨g, 4, none⟩ = some (.int .i64 mis) := S3.out.cell 4 _ rfl
  have u5 : w3.cell? ⟨g, 5, none⟩ = some (.int .i64 keep) := S3.out.cell 5 _ rfl
  have u6 : w3.cell? ⟨g, 6, none⟩ = some (.int .i64 0) := S3.out.cell 6 _ rfl
  have u7 : w3.cell? ⟨g, 7, none⟩ = some (.int .i64 1) := S3.out.cell 7 _ rfl
  have u8 : w3.cell? ⟨g, 8, none⟩ = some (.int .i64 bf) := S3.out.cell 8 _ rfl
  have u9 : w3.cell? ⟨g, 9, none⟩ = some (.int .i64 bo) := S3.out.cell 9 _ rfl
  have u10 : w3.cell? ⟨g, 10, none⟩ = some (.int .i64 bp) := S3.out.cell 10 _ rfl
  have u11 : w3.cell? ⟨g, 11, none⟩ = some (.int .i64 rm) := S3.out.cell 11 _ rfl
  have u12 : w3.cell? ⟨g, 12, none⟩ = some (.int .i64 rb) := S3.out.cell 12 _ rfl
  have u13 : w3.cell? ⟨g, 13, none⟩ = some (.int .i64 rc) := S3.out.cell 13 _ rfl
  have u14 : w3.cell? ⟨g, 14, none⟩ = some (.int .i64 rj) := S3.out.cell 14 _ rfl
  go_wp2_with fail
  refine (HG.out _ (E0.out.below B3.out)).mono ?_
  rintro e w4 ⟨rfl, c4⟩
  have S4 := Lib.hid (S3.out.low c4)
  have B4 := Lib.hid (B3.out.trans (c4.mono B3.out.size))
  clear c4 S3 B3 u0 u1 u2 u3 u4 u5 u6 u7 u8 u9 u10 u11 u12 u13 u14
  have u0 : w4.cell? ⟨g, 0, none⟩ = some (.int .i64 cap) := S4.out.cell 0 _ rfl
  have u1 : w4.cell? ⟨g, 1, none⟩ = some (.int .i64 pri) := S4.out.cell 1 _ rfl
  have u2 : w4.cell? ⟨g, 2, none⟩ = some (.int .i64 spl) := S4.out.cell 2 _ rfl
  have u3 : w4.cell? ⟨g, 3, none⟩ = some (.int .i64 dl) := S4.out.cell 3 _ rfl
  have u4 : w4.cell? ⟨g, 4, none⟩ = some (.int .i64 mis) := S4.out.cell 4 _ rfl
  have u5 : w4.cell? ⟨g, 5, none⟩ = some (.int .i64 keep) := S4.out.cell 5 _ rfl
  have u6 : w4.cell? ⟨g, 6, none⟩ = some (.int .i64 0) := S4.out.cell 6 _ rfl
  have u7 : w4.cell? ⟨g, 7, none⟩ = some (.int .i64 1) := S4.out.cell 7 _ rfl
  have u8 : w4.cell? ⟨g, 8, none⟩ = some (.int .i64 bf) := S4.out.cell 8 _ rfl
  have u9 : w4.cell? ⟨g, 9, none⟩ = some (.int .i64 bo) := S4.out.cell 9 _ rfl
  have u10 : w4.cell? ⟨g, 10, none⟩ = some (.int .i64 bp) := S4.out.cell 10 _ rfl
  have u11 : w4.cell? ⟨g, 11, none⟩ = some (.int .i64 rm) := S4.out.cell 11 _ rfl
  have u12 : w4.cell? ⟨g, 12, none⟩ = some (.int .i64 rb) := S4.out.cell 12 _ rfl
  have u13 : w4.cell? ⟨g, 13, none⟩ = some (.int .i64 rc) := S4.out.cell 13 _ rfl
  have u14 : w4.cell? ⟨g, 14, none⟩ = some (.int .i64 rj) := S4.out.cell 14 _ rfl
  go_wp2_with fail
  refine (HC2.out _).mono ?_
  rintro e w5 ⟨rfl, c5⟩
  have B5 := Lib.hid (B4.out.trans (c5.mono B4.out.size))
  clear c5 S4 B4 u0 u1 u2 u3 u4 u5 u6 u7 u8 u9 u10 u11 u12 u13 u14
  go_wp2_with fail
  refine (HW.out _ (E0.out.below B5.out)).mono ?_
  rintro e w6 ⟨rfl, c6⟩
  go_wp2_with fail
  go_ret
  exact ⟨rfl, B5.out.trans (c6.mono B5.out.size)⟩
theorem prb9 (cap pri spl dl mis keep lt lu rm rb rc rj : Int) : Lx.polOk (⟨cap, pri, spl, dl, mis, keep, lt, lu, 1, 1, 0, rm, rb, rc, rj⟩ : Lx.PolV) = false := by
  simp [Lx.polOk, Lx.fldOk, Lx.misOk, Lx.limOk, Lx.brOk, Lx.reOk, Lx.brZ, Lx.reZ, Lx.inI]
set_option maxRecDepth 100000 in
set_option maxHeartbeats 1600000 in
theorem prw9 (p : Lx.PolV) (h : Lx.polOk p = true) (c : UInt8) (hc : (c.toNat : Int) % 12 = 9) (w : World) (env : UEnv w) :
    Calls Tryz.prog 10 #[p.val, .int .u8 c.toNat] w fun e w' => e = .returned (.bool true) ∧ Below w.heap.size w w' := by
  have HW := Lib.hid (fun W (E : UEnv W) => pworks_any W E)
  have E0 := Lib.hid env
  have hgl := env.env.lt
  obtain ⟨g, hg⟩ : ∃ g, g = w.heap.size := ⟨_, rfl⟩
  have hE : Lx.polE p = 0 := by unfold Lx.polE; rw [if_pos h]
  have HC := fun W => polCheck_any p W
  rw [hE] at HC
  obtain ⟨cap, pri, spl, dl, mis, keep, lt, lu, bf, bo, bp, rm, rb, rc, rj⟩ := p
  have hb := prb9 cap pri spl dl mis keep lt lu rm rb rc rj
  have hE2 : Lx.polE (⟨cap, pri, spl, dl, mis, keep, lt, lu, 1, 1, 0, rm, rb, rc, rj⟩ : Lx.PolV) = 16 := by unfold Lx.polE; rw [if_neg (by rw [hb]; decide)]
  have hS2 : Lx.prS (⟨cap, pri, spl, dl, mis, keep, lt, lu, 1, 1, 0, rm, rb, rc, rj⟩ : Lx.PolV) = [] := by unfold Lx.prS; rw [if_neg (by rw [hb]; decide)]
  have hG2 : ∀ s, Lx.getS (⟨cap, pri, spl, dl, mis, keep, lt, lu, 1, 1, 0, rm, rb, rc, rj⟩ : Lx.PolV) s = [] ∧ Lx.getE (⟨cap, pri, spl, dl, mis, keep, lt, lu, 1, 1, 0, rm, rb, rc, rj⟩ : Lx.PolV) s = 16 := fun s => by
    unfold Lx.getS Lx.getE; rw [if_neg (fun c => by rw [hb] at c; cases c.1), if_neg (by rw [hb]; decide)]; exact ⟨rfl, rfl⟩
  have HC := Lib.hid (show ∀ W, Calls Tryz.prog 19 #[.agg #[.int .i64 cap, .int .i64 pri, .int .i64 spl, .int .i64 dl, .int .i64 mis, .int .i64 keep, .int .i64 lt, .int .i64 lu, .int .i64 bf, .int .i64 bo, .int .i64 bp, .int .i64 rm, .int .i64 rb, .int .i64 rc, .int .i64 rj]] W fun e w' => e = .returned (.int .i64 0) ∧ Below W.heap.size W w' from HC)
  have HP := Lib.hid (show ∀ W, UEnv W → Calls Tryz.prog 18 #[.agg #[.int .i64 cap, .int .i64 pri, .int .i64 spl, .int .i64 dl, .int .i64 mis, .int .i64 keep, .int .i64 lt, .int .i64 lu, .int .i64 1, .int .i64 1, .int .i64 0, .int .i64 rm, .int .i64 rb, .int .i64 rc, .int .i64 rj]] W fun e w' => e = .returned (.tuple #[.string ⟨#[]⟩, .int .i64 16]) ∧ Below W.heap.size W w' from fun W E => by have := polPrint_any (⟨cap, pri, spl, dl, mis, keep, lt, lu, 1, 1, 0, rm, rb, rc, rj⟩ : Lx.PolV) W E; rw [hE2, hS2] at this; exact this)
  have HG := Lib.hid (show ∀ W, UEnv W → Calls Tryz.prog 31 #[.agg #[.int .i64 cap, .int .i64 pri, .int .i64 spl, .int .i64 dl, .int .i64 mis, .int .i64 keep, .int .i64 lt, .int .i64 lu, .int .i64 1, .int .i64 1, .int .i64 0, .int .i64 rm, .int .i64 rb, .int .i64 rc, .int .i64 rj], .string ⟨#[99, 97, 112]⟩] W fun e w' => e = .returned (.tuple #[.string ⟨#[]⟩, .int .i64 16]) ∧ Below W.heap.size W w' from fun W E => by have := polGet_any (⟨cap, pri, spl, dl, mis, keep, lt, lu, 1, 1, 0, rm, rb, rc, rj⟩ : Lx.PolV) ⟨#[99, 97, 112]⟩ W E; rw [(hG2 _).1, (hG2 _).2] at this; exact this)
  have HC2 := Lib.hid (show ∀ W, Calls Tryz.prog 19 #[.agg #[.int .i64 cap, .int .i64 pri, .int .i64 spl, .int .i64 dl, .int .i64 mis, .int .i64 keep, .int .i64 lt, .int .i64 lu, .int .i64 1, .int .i64 1, .int .i64 0, .int .i64 rm, .int .i64 rb, .int .i64 rc, .int .i64 rj]] W fun e w' => e = .returned (.int .i64 16) ∧ Below W.heap.size W w' from fun W => by have := polCheck_any (⟨cap, pri, spl, dl, mis, keep, lt, lu, 1, 1, 0, rm, rb, rc, rj⟩ : Lx.PolV) W; rw [hE2] at this; exact this)
  clear hE hE2 hS2 hG2 hb h env
  obtain ⟨W0, hW0⟩ : ∃ W0, W0 = (w.alloc (.cells #[.int .i64 cap, .int .i64 pri, .int .i64 spl, .int .i64 dl, .int .i64 mis, .int .i64 keep, .int .i64 lt, .int .i64 lu, .int .i64 bf, .int .i64 bo, .int .i64 bp, .int .i64 rm, .int .i64 rb, .int .i64 rc, .int .i64 rj] 29)) := ⟨_, rfl⟩
  have S0 := Lib.hid (show Lx.PSt g W0 W0 ⟨cap, pri, spl, dl, mis, keep, lt, lu, bf, bo, bp, rm, rb, rc, rj⟩ from by rw [hg, hW0]; exact Lx.PSt.new w hgl ⟨cap, pri, spl, dl, mis, keep, lt, lu, bf, bo, bp, rm, rb, rc, rj⟩)
  have B0 := Lib.hid (show Below w.heap.size w W0 from by rw [hW0]; exact (Below.refl _ w).alloc (Nat.le_refl _) _)
  have Hle := Lib.hid (show w.heap.size ≤ g from Nat.le_of_eq hg.symm)
  show Calls Tryz.prog 10 #[.agg #[.int .i64 cap, .int .i64 pri, .int .i64 spl, .int .i64 dl, .int .i64 mis, .int .i64 keep, .int .i64 lt, .int .i64 lu, .int .i64 bf, .int .i64 bo, .int .i64 bp, .int .i64 rm, .int .i64 rb, .int .i64 rc, .int .i64 rj], .int .u8 c.toNat] w _
  go_enter Tryz.func10, Tryz.ntmps10
  go_upto_region 1 with (fail)
  rw [show (w.alloc (.cells #[.int .i64 cap, .int .i64 pri, .int .i64 spl, .int .i64 dl, .int .i64 mis, .int .i64 keep, .int .i64 lt, .int .i64 lu, .int .i64 bf, .int .i64 bo, .int .i64 bp, .int .i64 rm, .int .i64 rb, .int .i64 rc, .int .i64 rj] 29)) = W0 from hW0.symm, ← hg]
  clear hW0 hg
  have u0 : W0.cell? ⟨g, 0, none⟩ = some (.int .i64 cap) := S0.out.cell 0 _ rfl
  have u1 : W0.cell? ⟨g, 1, none⟩ = some (.int .i64 pri) := S0.out.cell 1 _ rfl
  have u2 : W0.cell? ⟨g, 2, none⟩ = some (.int .i64 spl) := S0.out.cell 2 _ rfl
  have u3 : W0.cell? ⟨g, 3, none⟩ = some (.int .i64 dl) := S0.out.cell 3 _ rfl
  have u4 : W0.cell? ⟨g, 4, none⟩ = some (.int .i64 mis) := S0.out.cell 4 _ rfl
  have u5 : W0.cell? ⟨g, 5, none⟩ = some (.int .i64 keep) := S0.out.cell 5 _ rfl
  have u6 : W0.cell? ⟨g, 6, none⟩ = some (.int .i64 lt) := S0.out.cell 6 _ rfl
  have u7 : W0.cell? ⟨g, 7, none⟩ = some (.int .i64 lu) := S0.out.cell 7 _ rfl
  have u8 : W0.cell? ⟨g, 8, none⟩ = some (.int .i64 bf) := S0.out.cell 8 _ rfl
  have u9 : W0.cell? ⟨g, 9, none⟩ = some (.int .i64 bo) := S0.out.cell 9 _ rfl
  have u10 : W0.cell? ⟨g, 10, none⟩ = some (.int .i64 bp) := S0.out.cell 10 _ rfl
  have u11 : W0.cell? ⟨g, 11, none⟩ = some (.int .i64 rm) := S0.out.cell 11 _ rfl
  have u12 : W0.cell? ⟨g, 12, none⟩ = some (.int .i64 rb) := S0.out.cell 12 _ rfl
  have u13 : W0.cell? ⟨g, 13, none⟩ = some (.int .i64 rc) := S0.out.cell 13 _ rfl
  have u14 : W0.cell? ⟨g, 14, none⟩ = some (.int .i64 rj) := S0.out.cell 14 _ rfl
  go_wp2_with fail
  refine (HC.out _).mono ?_
  rintro e W1 ⟨rfl, c1⟩
  have S1 := Lib.hid (S0.out.low c1)
  have B1 := Lib.hid (B0.out.trans (c1.mono B0.out.size))
  clear c1 S0 B0 u0 u1 u2 u3 u4 u5 u6 u7 u8 u9 u10 u11 u12 u13 u14
  have u0 : W1.cell? ⟨g, 0, none⟩ = some (.int .i64 cap) := S1.out.cell 0 _ rfl
  have u1 : W1.cell? ⟨g, 1, none⟩ = some (.int .i64 pri) := S1.out.cell 1 _ rfl
  have u2 : W1.cell? ⟨g, 2, none⟩ = some (.int .i64 spl) := S1.out.cell 2 _ rfl
  have u3 : W1.cell? ⟨g, 3, none⟩ = some (.int .i64 dl) := S1.out.cell 3 _ rfl
  have u4 : W1.cell? ⟨g, 4, none⟩ = some (.int .i64 mis) := S1.out.cell 4 _ rfl
  have u5 : W1.cell? ⟨g, 5, none⟩ = some (.int .i64 keep) := S1.out.cell 5 _ rfl
  have u6 : W1.cell? ⟨g, 6, none⟩ = some (.int .i64 lt) := S1.out.cell 6 _ rfl
  have u7 : W1.cell? ⟨g, 7, none⟩ = some (.int .i64 lu) := S1.out.cell 7 _ rfl
  have u8 : W1.cell? ⟨g, 8, none⟩ = some (.int .i64 bf) := S1.out.cell 8 _ rfl
  have u9 : W1.cell? ⟨g, 9, none⟩ = some (.int .i64 bo) := S1.out.cell 9 _ rfl
  have u10 : W1.cell? ⟨g, 10, none⟩ = some (.int .i64 bp) := S1.out.cell 10 _ rfl
  have u11 : W1.cell? ⟨g, 11, none⟩ = some (.int .i64 rm) := S1.out.cell 11 _ rfl
  have u12 : W1.cell? ⟨g, 12, none⟩ = some (.int .i64 rb) := S1.out.cell 12 _ rfl
  have u13 : W1.cell? ⟨g, 13, none⟩ = some (.int .i64 rc) := S1.out.cell 13 _ rfl
  have u14 : W1.cell? ⟨g, 14, none⟩ = some (.int .i64 rj) := S1.out.cell 14 _ rfl
  have y8 := S1.out.fz 8 (by omega)
  have y9 := S1.out.fz 9 (by omega)
  have y10 := S1.out.fz 10 (by omega)
  obtain ⟨W2, hW2⟩ : ∃ W2, W2 = (((W1.setCell ⟨g, 8, none⟩ (.int .i64 1)).setCell ⟨g, 9, none⟩ (.int .i64 1)).setCell ⟨g, 10, none⟩ (.int .i64 0)) := ⟨_, rfl⟩
  have S2 := Lib.hid (show Lx.PSt g W1 W2 (⟨cap, pri, spl, dl, mis, keep, lt, lu, 1, 1, 0, rm, rb, rc, rj⟩ : Lx.PolV) from by rw [hW2]; exact (((S1.out.set (j := 8) (q' := (⟨cap, pri, spl, dl, mis, keep, lt, lu, 1, bo, bp, rm, rb, rc, rj⟩ : Lx.PolV)) (v := .int .i64 1) (by omega) rfl).set (j := 9) (q' := (⟨cap, pri, spl, dl, mis, keep, lt, lu, 1, 1, bp, rm, rb, rc, rj⟩ : Lx.PolV)) (v := .int .i64 1) (by omega) rfl).set (j := 10) (q' := (⟨cap, pri, spl, dl, mis, keep, lt, lu, 1, 1, 0, rm, rb, rc, rj⟩ : Lx.PolV)) (v := .int .i64 0) (by omega) rfl))
  have B2 := Lib.hid (B1.out.trans (S2.out.toB.mono Hle.out))
  go_upto_region 27 with (fail)
  rw [show (((W1.setCell ⟨g, 8, none⟩ (.int .i64 1)).setCell ⟨g, 9, none⟩ (.int .i64 1)).setCell ⟨g, 10, none⟩ (.int .i64 0)) = W2 from hW2.symm]
  clear hW2 S1 u0 u1 u2 u3 u4 u5 u6 u7 u8 u9 u10 u11 u12 u13 u14 y8 y9 y10
  have u0 : W2.cell? ⟨g, 0, none⟩ = some (.int .i64 cap) := S2.out.cell 0 _ rfl
  have u1 : W2.cell? ⟨g, 1, none⟩ = some (.int .i64 pri) := S2.out.cell 1 _ rfl
  have u2 : W2.cell? ⟨g, 2, none⟩ = some (.int .i64 spl) := S2.out.cell 2 _ rfl
  have u3 : W2.cell? ⟨g, 3, none⟩ = some (.int .i64 dl) := S2.out.cell 3 _ rfl
  have u4 : W2.cell? ⟨g, 4, none⟩ = some (.int .i64 mis) := S2.out.cell 4 _ rfl
  have u5 : W2.cell? ⟨g, 5, none⟩ = some (.int .i64 keep) := S2.out.cell 5 _ rfl
  have u6 : W2.cell? ⟨g, 6, none⟩ = some (.int .i64 lt) := S2.out.cell 6 _ rfl
  have u7 : W2.cell? ⟨g, 7, none⟩ = some (.int .i64 lu) := S2.out.cell 7 _ rfl
  have u8 : W2.cell? ⟨g, 8, none⟩ = some (.int .i64 1) := S2.out.cell 8 _ rfl
  have u9 : W2.cell? ⟨g, 9, none⟩ = some (.int .i64 1) := S2.out.cell 9 _ rfl
  have u10 : W2.cell? ⟨g, 10, none⟩ = some (.int .i64 0) := S2.out.cell 10 _ rfl
  have u11 : W2.cell? ⟨g, 11, none⟩ = some (.int .i64 rm) := S2.out.cell 11 _ rfl
  have u12 : W2.cell? ⟨g, 12, none⟩ = some (.int .i64 rb) := S2.out.cell 12 _ rfl
  have u13 : W2.cell? ⟨g, 13, none⟩ = some (.int .i64 rc) := S2.out.cell 13 _ rfl
  have u14 : W2.cell? ⟨g, 14, none⟩ = some (.int .i64 rj) := S2.out.cell 14 _ rfl
  go_wp2_with fail
  refine (HP.out _ (E0.out.below B2.out)).mono ?_
  rintro e w3 ⟨rfl, c3⟩
  have S3 := Lib.hid (S2.out.low c3)
  have B3 := Lib.hid (B2.out.trans (c3.mono B2.out.size))
  clear c3 S2 B2 u0 u1 u2 u3 u4 u5 u6 u7 u8 u9 u10 u11 u12 u13 u14
  have u0 : w3.cell? ⟨g, 0, none⟩ = some (.int .i64 cap) := S3.out.cell 0 _ rfl
  have u1 : w3.cell? ⟨g, 1, none⟩ = some (.int .i64 pri) := S3.out.cell 1 _ rfl
  have u2 : w3.cell? ⟨g, 2, none⟩ = some (.int .i64 spl) := S3.out.cell 2 _ rfl
  have u3 : w3.cell? ⟨g, 3, none⟩ = some (.int .i64 dl) := S3.out.cell 3 _ rfl
  have u4 : w3.cell? ⟨g, 4, none⟩ = some (.int .i64 mis) := S3.out.cell 4 _ rfl
  have u5 : w3.cell? ⟨g, 5, none⟩ = some (.int .i64 keep) := S3.out.cell 5 _ rfl
  have u6 : w3.cell? ⟨g, 6, none⟩ = some (.int .i64 lt) := S3.out.cell 6 _ rfl
  have u7 : w3.cell? ⟨g, 7, none⟩ = some (.int .i64 lu) := S3.out.cell 7 _ rfl
  have u8 : w3.cell? ⟨g, 8, none⟩ = some (.int .i64 1) := S3.out.cell 8 _ rfl
  have u9 : w3.cell? ⟨g, 9, none⟩ = some (.int .i64 1) := S3.out.cell 9 _ rfl
  have u10 : w3.cell? ⟨g, 10, none⟩ = some (.int .i64 0) := S3.out.cell 10 _ rfl
  have u11 : w3.cell? ⟨g, 11, none⟩ = some (.int .i64 rm) := S3.out.cell 11 _ rfl
  have u12 : w3.cell? ⟨g, 12, none⟩ = some (.int .i64 rb) := S3.out.cell 12 _ rfl
  have u13 : w3.cell? ⟨g, 13, none⟩ = some (.int .i64 rc) := S3.out.cell 13 _ rfl
  have u14 : w3.cell? ⟨g, 14, none⟩ = some (.int .i64 rj) := S3.out.cell 14 _ rfl
  go_wp2_with fail
  refine (HG.out _ (E0.out.below B3.out)).mono ?_
  rintro e w4 ⟨rfl, c4⟩
  have S4 := Lib.hid (S3.out.low c4)
  have B4 := Lib.hid (B3.out.trans (c4.mono B3.out.size))
  clear c4 S3 B3 u0 u1 u2 u3 u4 u5 u6 u7 u8 u9 u10 u11 u12 u13 u14
  have u0 : w4.cell? ⟨g, 0, none⟩ = some (.int .i64 cap) := S4.out.cell 0 _ rfl
  have u1 : w4.cell? ⟨g, 1, none⟩ = some (.int .i64 pri) := S4.out.cell 1 _ rfl
  have u2 : w4.cell? ⟨g, 2, none⟩ = some (.int .i64 spl) := S4.out.cell 2 _ rfl
  have u3 : w4.cell? ⟨g, 3, none⟩ = some (.int .i64 dl) := S4.out.cell 3 _ rfl
  have u4 : w4.cell? ⟨g, 4, none⟩ = some (.int .i64 mis) := S4.out.cell 4 _ rfl
  have u5 : w4.cell? ⟨g, 5, none⟩ = some (.int .i64 keep) := S4.out.cell 5 _ rfl
  have u6 : w4.cell? ⟨g, 6, none⟩ = some (.int .i64 lt) := S4.out.cell 6 _ rfl
  have u7 : w4.cell? ⟨g, 7, none⟩ = some (.int .i64 lu) := S4.out.cell 7 _ rfl
  have u8 : w4.cell? ⟨g, 8, none⟩ = some (.int .i64 1) := S4.out.cell 8 _ rfl
  have u9 : w4.cell? ⟨g, 9, none⟩ = some (.int .i64 1) := S4.out.cell 9 _ rfl
  have u10 : w4.cell? ⟨g, 10, none⟩ = some (.int .i64 0) := S4.out.cell 10 _ rfl
  have u11 : w4.cell? ⟨g, 11, none⟩ = some (.int .i64 rm) := S4.out.cell 11 _ rfl
  have u12 : w4.cell? ⟨g, 12, none⟩ = some (.int .i64 rb) := S4.out.cell 12 _ rfl
  have u13 : w4.cell? ⟨g, 13, none⟩ = some (.int .i64 rc) := S4.out.cell 13 _ rfl
  have u14 : w4.cell? ⟨g, 14, none⟩ = some (.int .i64 rj) := S4.out.cell 14 _ rfl
  go_wp2_with fail
  refine (HC2.out _).mono ?_
  rintro e w5 ⟨rfl, c5⟩
  have B5 := Lib.hid (B4.out.trans (c5.mono B4.out.size))
  clear c5 S4 B4 u0 u1 u2 u3 u4 u5 u6 u7 u8 u9 u10 u11 u12 u13 u14
  go_wp2_with fail
  refine (HW.out _ (E0.out.below B5.out)).mono ?_
  rintro e w6 ⟨rfl, c6⟩
  go_wp2_with fail
  go_ret
  exact ⟨rfl, B5.out.trans (c6.mono B5.out.size)⟩
theorem prb10 (cap pri spl dl mis keep lt lu bf bo bp : Int) : Lx.polOk (⟨cap, pri, spl, dl, mis, keep, lt, lu, bf, bo, bp, 1, 2, 1, 0⟩ : Lx.PolV) = false := by
  simp [Lx.polOk, Lx.fldOk, Lx.misOk, Lx.limOk, Lx.brOk, Lx.reOk, Lx.brZ, Lx.reZ, Lx.inI]
set_option maxRecDepth 100000 in
set_option maxHeartbeats 1600000 in
theorem prw10 (p : Lx.PolV) (h : Lx.polOk p = true) (c : UInt8) (hc : (c.toNat : Int) % 12 = 10) (w : World) (env : UEnv w) :
    Calls Tryz.prog 10 #[p.val, .int .u8 c.toNat] w fun e w' => e = .returned (.bool true) ∧ Below w.heap.size w w' := by
  have HW := Lib.hid (fun W (E : UEnv W) => pworks_any W E)
  have E0 := Lib.hid env
  have hgl := env.env.lt
  obtain ⟨g, hg⟩ : ∃ g, g = w.heap.size := ⟨_, rfl⟩
  have hE : Lx.polE p = 0 := by unfold Lx.polE; rw [if_pos h]
  have HC := fun W => polCheck_any p W
  rw [hE] at HC
  obtain ⟨cap, pri, spl, dl, mis, keep, lt, lu, bf, bo, bp, rm, rb, rc, rj⟩ := p
  have hb := prb10 cap pri spl dl mis keep lt lu bf bo bp
  have hE2 : Lx.polE (⟨cap, pri, spl, dl, mis, keep, lt, lu, bf, bo, bp, 1, 2, 1, 0⟩ : Lx.PolV) = 16 := by unfold Lx.polE; rw [if_neg (by rw [hb]; decide)]
  have hS2 : Lx.prS (⟨cap, pri, spl, dl, mis, keep, lt, lu, bf, bo, bp, 1, 2, 1, 0⟩ : Lx.PolV) = [] := by unfold Lx.prS; rw [if_neg (by rw [hb]; decide)]
  have hG2 : ∀ s, Lx.getS (⟨cap, pri, spl, dl, mis, keep, lt, lu, bf, bo, bp, 1, 2, 1, 0⟩ : Lx.PolV) s = [] ∧ Lx.getE (⟨cap, pri, spl, dl, mis, keep, lt, lu, bf, bo, bp, 1, 2, 1, 0⟩ : Lx.PolV) s = 16 := fun s => by
    unfold Lx.getS Lx.getE; rw [if_neg (fun c => by rw [hb] at c; cases c.1), if_neg (by rw [hb]; decide)]; exact ⟨rfl, rfl⟩
  have HC := Lib.hid (show ∀ W, Calls Tryz.prog 19 #[.agg #[.int .i64 cap, .int .i64 pri, .int .i64 spl, .int .i64 dl, .int .i64 mis, .int .i64 keep, .int .i64 lt, .int .i64 lu, .int .i64 bf, .int .i64 bo, .int .i64 bp, .int .i64 rm, .int .i64 rb, .int .i64 rc, .int .i64 rj]] W fun e w' => e = .returned (.int .i64 0) ∧ Below W.heap.size W w' from HC)
  have HP := Lib.hid (show ∀ W, UEnv W → Calls Tryz.prog 18 #[.agg #[.int .i64 cap, .int .i64 pri, .int .i64 spl, .int .i64 dl, .int .i64 mis, .int .i64 keep, .int .i64 lt, .int .i64 lu, .int .i64 bf, .int .i64 bo, .int .i64 bp, .int .i64 1, .int .i64 2, .int .i64 1, .int .i64 0]] W fun e w' => e = .returned (.tuple #[.string ⟨#[]⟩, .int .i64 16]) ∧ Below W.heap.size W w' from fun W E => by have := polPrint_any (⟨cap, pri, spl, dl, mis, keep, lt, lu, bf, bo, bp, 1, 2, 1, 0⟩ : Lx.PolV) W E; rw [hE2, hS2] at this; exact this)
  have HG := Lib.hid (show ∀ W, UEnv W → Calls Tryz.prog 31 #[.agg #[.int .i64 cap, .int .i64 pri, .int .i64 spl, .int .i64 dl, .int .i64 mis, .int .i64 keep, .int .i64 lt, .int .i64 lu, .int .i64 bf, .int .i64 bo, .int .i64 bp, .int .i64 1, .int .i64 2, .int .i64 1, .int .i64 0], .string ⟨#[99, 97, 112]⟩] W fun e w' => e = .returned (.tuple #[.string ⟨#[]⟩, .int .i64 16]) ∧ Below W.heap.size W w' from fun W E => by have := polGet_any (⟨cap, pri, spl, dl, mis, keep, lt, lu, bf, bo, bp, 1, 2, 1, 0⟩ : Lx.PolV) ⟨#[99, 97, 112]⟩ W E; rw [(hG2 _).1, (hG2 _).2] at this; exact this)
  have HC2 := Lib.hid (show ∀ W, Calls Tryz.prog 19 #[.agg #[.int .i64 cap, .int .i64 pri, .int .i64 spl, .int .i64 dl, .int .i64 mis, .int .i64 keep, .int .i64 lt, .int .i64 lu, .int .i64 bf, .int .i64 bo, .int .i64 bp, .int .i64 1, .int .i64 2, .int .i64 1, .int .i64 0]] W fun e w' => e = .returned (.int .i64 16) ∧ Below W.heap.size W w' from fun W => by have := polCheck_any (⟨cap, pri, spl, dl, mis, keep, lt, lu, bf, bo, bp, 1, 2, 1, 0⟩ : Lx.PolV) W; rw [hE2] at this; exact this)
  clear hE hE2 hS2 hG2 hb h env
  obtain ⟨W0, hW0⟩ : ∃ W0, W0 = (w.alloc (.cells #[.int .i64 cap, .int .i64 pri, .int .i64 spl, .int .i64 dl, .int .i64 mis, .int .i64 keep, .int .i64 lt, .int .i64 lu, .int .i64 bf, .int .i64 bo, .int .i64 bp, .int .i64 rm, .int .i64 rb, .int .i64 rc, .int .i64 rj] 29)) := ⟨_, rfl⟩
  have S0 := Lib.hid (show Lx.PSt g W0 W0 ⟨cap, pri, spl, dl, mis, keep, lt, lu, bf, bo, bp, rm, rb, rc, rj⟩ from by rw [hg, hW0]; exact Lx.PSt.new w hgl ⟨cap, pri, spl, dl, mis, keep, lt, lu, bf, bo, bp, rm, rb, rc, rj⟩)
  have B0 := Lib.hid (show Below w.heap.size w W0 from by rw [hW0]; exact (Below.refl _ w).alloc (Nat.le_refl _) _)
  have Hle := Lib.hid (show w.heap.size ≤ g from Nat.le_of_eq hg.symm)
  show Calls Tryz.prog 10 #[.agg #[.int .i64 cap, .int .i64 pri, .int .i64 spl, .int .i64 dl, .int .i64 mis, .int .i64 keep, .int .i64 lt, .int .i64 lu, .int .i64 bf, .int .i64 bo, .int .i64 bp, .int .i64 rm, .int .i64 rb, .int .i64 rc, .int .i64 rj], .int .u8 c.toNat] w _
  go_enter Tryz.func10, Tryz.ntmps10
  go_upto_region 1 with (fail)
  rw [show (w.alloc (.cells #[.int .i64 cap, .int .i64 pri, .int .i64 spl, .int .i64 dl, .int .i64 mis, .int .i64 keep, .int .i64 lt, .int .i64 lu, .int .i64 bf, .int .i64 bo, .int .i64 bp, .int .i64 rm, .int .i64 rb, .int .i64 rc, .int .i64 rj] 29)) = W0 from hW0.symm, ← hg]
  clear hW0 hg
  have u0 : W0.cell? ⟨g, 0, none⟩ = some (.int .i64 cap) := S0.out.cell 0 _ rfl
  have u1 : W0.cell? ⟨g, 1, none⟩ = some (.int .i64 pri) := S0.out.cell 1 _ rfl
  have u2 : W0.cell? ⟨g, 2, none⟩ = some (.int .i64 spl) := S0.out.cell 2 _ rfl
  have u3 : W0.cell? ⟨g, 3, none⟩ = some (.int .i64 dl) := S0.out.cell 3 _ rfl
  have u4 : W0.cell? ⟨g, 4, none⟩ = some (.int .i64 mis) := S0.out.cell 4 _ rfl
  have u5 : W0.cell? ⟨g, 5, none⟩ = some (.int .i64 keep) := S0.out.cell 5 _ rfl
  have u6 : W0.cell? ⟨g, 6, none⟩ = some (.int .i64 lt) := S0.out.cell 6 _ rfl
  have u7 : W0.cell? ⟨g, 7, none⟩ = some (.int .i64 lu) := S0.out.cell 7 _ rfl
  have u8 : W0.cell? ⟨g, 8, none⟩ = some (.int .i64 bf) := S0.out.cell 8 _ rfl
  have u9 : W0.cell? ⟨g, 9, none⟩ = some (.int .i64 bo) := S0.out.cell 9 _ rfl
  have u10 : W0.cell? ⟨g, 10, none⟩ = some (.int .i64 bp) := S0.out.cell 10 _ rfl
  have u11 : W0.cell? ⟨g, 11, none⟩ = some (.int .i64 rm) := S0.out.cell 11 _ rfl
  have u12 : W0.cell? ⟨g, 12, none⟩ = some (.int .i64 rb) := S0.out.cell 12 _ rfl
  have u13 : W0.cell? ⟨g, 13, none⟩ = some (.int .i64 rc) := S0.out.cell 13 _ rfl
  have u14 : W0.cell? ⟨g, 14, none⟩ = some (.int .i64 rj) := S0.out.cell 14 _ rfl
  go_wp2_with fail
  refine (HC.out _).mono ?_
  rintro e W1 ⟨rfl, c1⟩
  have S1 := Lib.hid (S0.out.low c1)
  have B1 := Lib.hid (B0.out.trans (c1.mono B0.out.size))
  clear c1 S0 B0 u0 u1 u2 u3 u4 u5 u6 u7 u8 u9 u10 u11 u12 u13 u14
  have u0 : W1.cell? ⟨g, 0, none⟩ = some (.int .i64 cap) := S1.out.cell 0 _ rfl
  have u1 : W1.cell? ⟨g, 1, none⟩ = some (.int .i64 pri) := S1.out.cell 1 _ rfl
  have u2 : W1.cell? ⟨g, 2, none⟩ = some (.int .i64 spl) := S1.out.cell 2 _ rfl
  have u3 : W1.cell? ⟨g, 3, none⟩ = some (.int .i64 dl) := S1.out.cell 3 _ rfl
  have u4 : W1.cell? ⟨g, 4, none⟩ = some (.int .i64 mis) := S1.out.cell 4 _ rfl
  have u5 : W1.cell? ⟨g, 5, none⟩ = some (.int .i64 keep) := S1.out.cell 5 _ rfl
  have u6 : W1.cell? ⟨g, 6, none⟩ = some (.int .i64 lt) := S1.out.cell 6 _ rfl
  have u7 : W1.cell? ⟨g, 7, none⟩ = some (.int .i64 lu) := S1.out.cell 7 _ rfl
  have u8 : W1.cell? ⟨g, 8, none⟩ = some (.int .i64 bf) := S1.out.cell 8 _ rfl
  have u9 : W1.cell? ⟨g, 9, none⟩ = some (.int .i64 bo) := S1.out.cell 9 _ rfl
  have u10 : W1.cell? ⟨g, 10, none⟩ = some (.int .i64 bp) := S1.out.cell 10 _ rfl
  have u11 : W1.cell? ⟨g, 11, none⟩ = some (.int .i64 rm) := S1.out.cell 11 _ rfl
  have u12 : W1.cell? ⟨g, 12, none⟩ = some (.int .i64 rb) := S1.out.cell 12 _ rfl
  have u13 : W1.cell? ⟨g, 13, none⟩ = some (.int .i64 rc) := S1.out.cell 13 _ rfl
  have u14 : W1.cell? ⟨g, 14, none⟩ = some (.int .i64 rj) := S1.out.cell 14 _ rfl
  have y11 := S1.out.fz 11 (by omega)
  have y12 := S1.out.fz 12 (by omega)
  have y13 := S1.out.fz 13 (by omega)
  have y14 := S1.out.fz 14 (by omega)
  obtain ⟨W2, hW2⟩ : ∃ W2, W2 = ((((W1.setCell ⟨g, 11, none⟩ (.int .i64 1)).setCell ⟨g, 12, none⟩ (.int .i64 2)).setCell ⟨g, 13, none⟩ (.int .i64 1)).setCell ⟨g, 14, none⟩ (.int .i64 0)) := ⟨_, rfl⟩
  have S2 := Lib.hid (show Lx.PSt g W1 W2 (⟨cap, pri, spl, dl, mis, keep, lt, lu, bf, bo, bp, 1, 2, 1, 0⟩ : Lx.PolV) from by rw [hW2]; exact ((((S1.out.set (j := 11) (q' := (⟨cap, pri, spl, dl, mis, keep, lt, lu, bf, bo, bp, 1, rb, rc, rj⟩ : Lx.PolV)) (v := .int .i64 1) (by omega) rfl).set (j := 12) (q' := (⟨cap, pri, spl, dl, mis, keep, lt, lu, bf, bo, bp, 1, 2, rc, rj⟩ : Lx.PolV)) (v := .int .i64 2) (by omega) rfl).set (j := 13) (q' := (⟨cap, pri, spl, dl, mis, keep, lt, lu, bf, bo, bp, 1, 2, 1, rj⟩ : Lx.PolV)) (v := .int .i64 1) (by omega) rfl).set (j := 14) (q' := (⟨cap, pri, spl, dl, mis, keep, lt, lu, bf, bo, bp, 1, 2, 1, 0⟩ : Lx.PolV)) (v := .int .i64 0) (by omega) rfl))
  have B2 := Lib.hid (B1.out.trans (S2.out.toB.mono Hle.out))
  go_upto_region 27 with (fail)
  rw [show ((((W1.setCell ⟨g, 11, none⟩ (.int .i64 1)).setCell ⟨g, 12, none⟩ (.int .i64 2)).setCell ⟨g, 13, none⟩ (.int .i64 1)).setCell ⟨g, 14, none⟩ (.int .i64 0)) = W2 from hW2.symm]
  clear hW2 S1 u0 u1 u2 u3 u4 u5 u6 u7 u8 u9 u10 u11 u12 u13 u14 y11 y12 y13 y14
  have u0 : W2.cell? ⟨g, 0, none⟩ = some (.int .i64 cap) := S2.out.cell 0 _ rfl
  have u1 : W2.cell? ⟨g, 1, none⟩ = some (.int .i64 pri) := S2.out.cell 1 _ rfl
  have u2 : W2.cell? ⟨g, 2, none⟩ = some (.int .i64 spl) := S2.out.cell 2 _ rfl
  have u3 : W2.cell? ⟨g, 3, none⟩ = some (.int .i64 dl) := S2.out.cell 3 _ rfl
  have u4 : W2.cell? ⟨g, 4, none⟩ = some (.int .i64 mis) := S2.out.cell 4 _ rfl
  have u5 : W2.cell? ⟨g, 5, none⟩ = some (.int .i64 keep) := S2.out.cell 5 _ rfl
  have u6 : W2.cell? ⟨g, 6, none⟩ = some (.int .i64 lt) := S2.out.cell 6 _ rfl
  have u7 : W2.cell? ⟨g, 7, none⟩ = some (.int .i64 lu) := S2.out.cell 7 _ rfl
  have u8 : W2.cell? ⟨g, 8, none⟩ = some (.int .i64 bf) := S2.out.cell 8 _ rfl
  have u9 : W2.cell? ⟨g, 9, none⟩ = some (.int .i64 bo) := S2.out.cell 9 _ rfl
  have u10 : W2.cell? ⟨g, 10, none⟩ = some (.int .i64 bp) := S2.out.cell 10 _ rfl
  have u11 : W2.cell? ⟨g, 11, none⟩ = some (.int .i64 1) := S2.out.cell 11 _ rfl
  have u12 : W2.cell? ⟨g, 12, none⟩ = some (.int .i64 2) := S2.out.cell 12 _ rfl
  have u13 : W2.cell? ⟨g, 13, none⟩ = some (.int .i64 1) := S2.out.cell 13 _ rfl
  have u14 : W2.cell? ⟨g, 14, none⟩ = some (.int .i64 0) := S2.out.cell 14 _ rfl
  go_wp2_with fail
  refine (HP.out _ (E0.out.below B2.out)).mono ?_
  rintro e w3 ⟨rfl, c3⟩
  have S3 := Lib.hid (S2.out.low c3)
  have B3 := Lib.hid (B2.out.trans (c3.mono B2.out.size))
  clear c3 S2 B2 u0 u1 u2 u3 u4 u5 u6 u7 u8 u9 u10 u11 u12 u13 u14
  have u0 : w3.cell? ⟨g, 0, none⟩ = some (.int .i64 cap) := S3.out.cell 0 _ rfl
  have u1 : w3.cell? ⟨g, 1, none⟩ = some (.int .i64 pri) := S3.out.cell 1 _ rfl
  have u2 : w3.cell? ⟨g, 2, none⟩ = some (.int .i64 spl) := S3.out.cell 2 _ rfl
  have u3 : w3.cell? ⟨g, 3, none⟩ = some (.int .i64 dl) := S3.out.cell 3 _ rfl
  have u4 : w3.cell? ⟨g, 4, none⟩ = some (.int .i64 mis) := S3.out.cell 4 _ rfl
  have u5 : w3.cell? ⟨g, 5, none⟩ = some (.int .i64 keep) := S3.out.cell 5 _ rfl
  have u6 : w3.cell? ⟨g, 6, none⟩ = some (.int .i64 lt) := S3.out.cell 6 _ rfl
  have u7 : w3.cell? ⟨g, 7, none⟩ = some (.int .i64 lu) := S3.out.cell 7 _ rfl
  have u8 : w3.cell? ⟨g, 8, none⟩ = some (.int .i64 bf) := S3.out.cell 8 _ rfl
  have u9 : w3.cell? ⟨g, 9, none⟩ = some (.int .i64 bo) := S3.out.cell 9 _ rfl
  have u10 : w3.cell? ⟨g, 10, none⟩ = some (.int .i64 bp) := S3.out.cell 10 _ rfl
  have u11 : w3.cell? ⟨g, 11, none⟩ = some (.int .i64 1) := S3.out.cell 11 _ rfl
  have u12 : w3.cell? ⟨g, 12, none⟩ = some (.int .i64 2) := S3.out.cell 12 _ rfl
  have u13 : w3.cell? ⟨g, 13, none⟩ = some (.int .i64 1) := S3.out.cell 13 _ rfl
  have u14 : w3.cell? ⟨g, 14, none⟩ = some (.int .i64 0) := S3.out.cell 14 _ rfl
  go_wp2_with fail
  refine (HG.out _ (E0.out.below B3.out)).mono ?_
  rintro e w4 ⟨rfl, c4⟩
  have S4 := Lib.hid (S3.out.low c4)
  have B4 := Lib.hid (B3.out.trans (c4.mono B3.out.size))
  clear c4 S3 B3 u0 u1 u2 u3 u4 u5 u6 u7 u8 u9 u10 u11 u12 u13 u14
  have u0 : w4.cell? ⟨g, 0, none⟩ = some (.int .i64 cap) := S4.out.cell 0 _ rfl
  have u1 : w4.cell? ⟨g, 1, none⟩ = some (.int .i64 pri) := S4.out.cell 1 _ rfl
  have u2 : w4.cell? ⟨g, 2, none⟩ = some (.int .i64 spl) := S4.out.cell 2 _ rfl
  have u3 : w4.cell? ⟨g, 3, none⟩ = some (.int .i64 dl) := S4.out.cell 3 _ rfl
  have u4 : w4.cell? ⟨g, 4, none⟩ = some (.int .i64 mis) := S4.out.cell 4 _ rfl
  have u5 : w4.cell? ⟨g, 5, none⟩ = some (.int .i64 keep) := S4.out.cell 5 _ rfl
  have u6 : w4.cell? ⟨g, 6, none⟩ = some (.int .i64 lt) := S4.out.cell 6 _ rfl
  have u7 : w4.cell? ⟨g, 7, none⟩ = some (.int .i64 lu) := S4.out.cell 7 _ rfl
  have u8 : w4.cell? ⟨g, 8, none⟩ = some (.int .i64 bf) := S4.out.cell 8 _ rfl
  have u9 : w4.cell? ⟨g, 9, none⟩ = some (.int .i64 bo) := S4.out.cell 9 _ rfl
  have u10 : w4.cell? ⟨g, 10, none⟩ = some (.int .i64 bp) := S4.out.cell 10 _ rfl
  have u11 : w4.cell? ⟨g, 11, none⟩ = some (.int .i64 1) := S4.out.cell 11 _ rfl
  have u12 : w4.cell? ⟨g, 12, none⟩ = some (.int .i64 2) := S4.out.cell 12 _ rfl
  have u13 : w4.cell? ⟨g, 13, none⟩ = some (.int .i64 1) := S4.out.cell 13 _ rfl
  have u14 : w4.cell? ⟨g, 14, none⟩ = some (.int .i64 0) := S4.out.cell 14 _ rfl
  go_wp2_with fail
  refine (HC2.out _).mono ?_
  rintro e w5 ⟨rfl, c5⟩
  have B5 := Lib.hid (B4.out.trans (c5.mono B4.out.size))
  clear c5 S4 B4 u0 u1 u2 u3 u4 u5 u6 u7 u8 u9 u10 u11 u12 u13 u14
  go_wp2_with fail
  refine (HW.out _ (E0.out.below B5.out)).mono ?_
  rintro e w6 ⟨rfl, c6⟩
  go_wp2_with fail
  go_ret
  exact ⟨rfl, B5.out.trans (c6.mono B5.out.size)⟩
theorem prb11 (cap pri spl dl mis keep lt lu bf bo bp : Int) : Lx.polOk (⟨cap, pri, spl, dl, mis, keep, lt, lu, bf, bo, bp, 0, 0, 0, 1⟩ : Lx.PolV) = false := by
  simp [Lx.polOk, Lx.fldOk, Lx.misOk, Lx.limOk, Lx.brOk, Lx.reOk, Lx.brZ, Lx.reZ, Lx.inI]
set_option maxRecDepth 100000 in
set_option maxHeartbeats 1600000 in
theorem prw11 (p : Lx.PolV) (h : Lx.polOk p = true) (c : UInt8) (hc : (c.toNat : Int) % 12 = 11) (w : World) (env : UEnv w) :
    Calls Tryz.prog 10 #[p.val, .int .u8 c.toNat] w fun e w' => e = .returned (.bool true) ∧ Below w.heap.size w w' := by
  have HW := Lib.hid (fun W (E : UEnv W) => pworks_any W E)
  have E0 := Lib.hid env
  have hgl := env.env.lt
  obtain ⟨g, hg⟩ : ∃ g, g = w.heap.size := ⟨_, rfl⟩
  have hE : Lx.polE p = 0 := by unfold Lx.polE; rw [if_pos h]
  have HC := fun W => polCheck_any p W
  rw [hE] at HC
  obtain ⟨cap, pri, spl, dl, mis, keep, lt, lu, bf, bo, bp, rm, rb, rc, rj⟩ := p
  have hb := prb11 cap pri spl dl mis keep lt lu bf bo bp
  have hE2 : Lx.polE (⟨cap, pri, spl, dl, mis, keep, lt, lu, bf, bo, bp, 0, 0, 0, 1⟩ : Lx.PolV) = 16 := by unfold Lx.polE; rw [if_neg (by rw [hb]; decide)]
  have hS2 : Lx.prS (⟨cap, pri, spl, dl, mis, keep, lt, lu, bf, bo, bp, 0, 0, 0, 1⟩ : Lx.PolV) = [] := by unfold Lx.prS; rw [if_neg (by rw [hb]; decide)]
  have hG2 : ∀ s, Lx.getS (⟨cap, pri, spl, dl, mis, keep, lt, lu, bf, bo, bp, 0, 0, 0, 1⟩ : Lx.PolV) s = [] ∧ Lx.getE (⟨cap, pri, spl, dl, mis, keep, lt, lu, bf, bo, bp, 0, 0, 0, 1⟩ : Lx.PolV) s = 16 := fun s => by
    unfold Lx.getS Lx.getE; rw [if_neg (fun c => by rw [hb] at c; cases c.1), if_neg (by rw [hb]; decide)]; exact ⟨rfl, rfl⟩
  have HC := Lib.hid (show ∀ W, Calls Tryz.prog 19 #[.agg #[.int .i64 cap, .int .i64 pri, .int .i64 spl, .int .i64 dl, .int .i64 mis, .int .i64 keep, .int .i64 lt, .int .i64 lu, .int .i64 bf, .int .i64 bo, .int .i64 bp, .int .i64 rm, .int .i64 rb, .int .i64 rc, .int .i64 rj]] W fun e w' => e = .returned (.int .i64 0) ∧ Below W.heap.size W w' from HC)
  have HP := Lib.hid (show ∀ W, UEnv W → Calls Tryz.prog 18 #[.agg #[.int .i64 cap, .int .i64 pri, .int .i64 spl, .int .i64 dl, .int .i64 mis, .int .i64 keep, .int .i64 lt, .int .i64 lu, .int .i64 bf, .int .i64 bo, .int .i64 bp, .int .i64 0, .int .i64 0, .int .i64 0, .int .i64 1]] W fun e w' => e = .returned (.tuple #[.string ⟨#[]⟩, .int .i64 16]) ∧ Below W.heap.size W w' from fun W E => by have := polPrint_any (⟨cap, pri, spl, dl, mis, keep, lt, lu, bf, bo, bp, 0, 0, 0, 1⟩ : Lx.PolV) W E; rw [hE2, hS2] at this; exact this)
  have HG := Lib.hid (show ∀ W, UEnv W → Calls Tryz.prog 31 #[.agg #[.int .i64 cap, .int .i64 pri, .int .i64 spl, .int .i64 dl, .int .i64 mis, .int .i64 keep, .int .i64 lt, .int .i64 lu, .int .i64 bf, .int .i64 bo, .int .i64 bp, .int .i64 0, .int .i64 0, .int .i64 0, .int .i64 1], .string ⟨#[99, 97, 112]⟩] W fun e w' => e = .returned (.tuple #[.string ⟨#[]⟩, .int .i64 16]) ∧ Below W.heap.size W w' from fun W E => by have := polGet_any (⟨cap, pri, spl, dl, mis, keep, lt, lu, bf, bo, bp, 0, 0, 0, 1⟩ : Lx.PolV) ⟨#[99, 97, 112]⟩ W E; rw [(hG2 _).1, (hG2 _).2] at this; exact this)
  have HC2 := Lib.hid (show ∀ W, Calls Tryz.prog 19 #[.agg #[.int .i64 cap, .int .i64 pri, .int .i64 spl, .int .i64 dl, .int .i64 mis, .int .i64 keep, .int .i64 lt, .int .i64 lu, .int .i64 bf, .int .i64 bo, .int .i64 bp, .int .i64 0, .int .i64 0, .int .i64 0, .int .i64 1]] W fun e w' => e = .returned (.int .i64 16) ∧ Below W.heap.size W w' from fun W => by have := polCheck_any (⟨cap, pri, spl, dl, mis, keep, lt, lu, bf, bo, bp, 0, 0, 0, 1⟩ : Lx.PolV) W; rw [hE2] at this; exact this)
  clear hE hE2 hS2 hG2 hb h env
  obtain ⟨W0, hW0⟩ : ∃ W0, W0 = (w.alloc (.cells #[.int .i64 cap, .int .i64 pri, .int .i64 spl, .int .i64 dl, .int .i64 mis, .int .i64 keep, .int .i64 lt, .int .i64 lu, .int .i64 bf, .int .i64 bo, .int .i64 bp, .int .i64 rm, .int .i64 rb, .int .i64 rc, .int .i64 rj] 29)) := ⟨_, rfl⟩
  have S0 := Lib.hid (show Lx.PSt g W0 W0 ⟨cap, pri, spl, dl, mis, keep, lt, lu, bf, bo, bp, rm, rb, rc, rj⟩ from by rw [hg, hW0]; exact Lx.PSt.new w hgl ⟨cap, pri, spl, dl, mis, keep, lt, lu, bf, bo, bp, rm, rb, rc, rj⟩)
  have B0 := Lib.hid (show Below w.heap.size w W0 from by rw [hW0]; exact (Below.refl _ w).alloc (Nat.le_refl _) _)
  have Hle := Lib.hid (show w.heap.size ≤ g from Nat.le_of_eq hg.symm)
  show Calls Tryz.prog 10 #[.agg #[.int .i64 cap, .int .i64 pri, .int .i64 spl, .int .i64 dl, .int .i64 mis, .int .i64 keep, .int .i64 lt, .int .i64 lu, .int .i64 bf, .int .i64 bo, .int .i64 bp, .int .i64 rm, .int .i64 rb, .int .i64 rc, .int .i64 rj], .int .u8 c.toNat] w _
  go_enter Tryz.func10, Tryz.ntmps10
  go_upto_region 1 with (fail)
  rw [show (w.alloc (.cells #[.int .i64 cap, .int .i64 pri, .int .i64 spl, .int .i64 dl, .int .i64 mis, .int .i64 keep, .int .i64 lt, .int .i64 lu, .int .i64 bf, .int .i64 bo, .int .i64 bp, .int .i64 rm, .int .i64 rb, .int .i64 rc, .int .i64 rj] 29)) = W0 from hW0.symm, ← hg]
  clear hW0 hg
  have u0 : W0.cell? ⟨g, 0, none⟩ = some (.int .i64 cap) := S0.out.cell 0 _ rfl
  have u1 : W0.cell? ⟨g, 1, none⟩ = some (.int .i64 pri) := S0.out.cell 1 _ rfl
  have u2 : W0.cell? ⟨g, 2, none⟩ = some (.int .i64 spl) := S0.out.cell 2 _ rfl
  have u3 : W0.cell? ⟨g, 3, none⟩ = some (.int .i64 dl) := S0.out.cell 3 _ rfl
  have u4 : W0.cell? ⟨g, 4, none⟩ = some (.int .i64 mis) := S0.out.cell 4 _ rfl
  have u5 : W0.cell? ⟨g, 5, none⟩ = some (.int .i64 keep) := S0.out.cell 5 _ rfl
  have u6 : W0.cell? ⟨g, 6, none⟩ = some (.int .i64 lt) := S0.out.cell 6 _ rfl
  have u7 : W0.cell? ⟨g, 7, none⟩ = some (.int .i64 lu) := S0.out.cell 7 _ rfl
  have u8 : W0.cell? ⟨g, 8, none⟩ = some (.int .i64 bf) := S0.out.cell 8 _ rfl
  have u9 : W0.cell? ⟨g, 9, none⟩ = some (.int .i64 bo) := S0.out.cell 9 _ rfl
  have u10 : W0.cell? ⟨g, 10, none⟩ = some (.int .i64 bp) := S0.out.cell 10 _ rfl
  have u11 : W0.cell? ⟨g, 11, none⟩ = some (.int .i64 rm) := S0.out.cell 11 _ rfl
  have u12 : W0.cell? ⟨g, 12, none⟩ = some (.int .i64 rb) := S0.out.cell 12 _ rfl
  have u13 : W0.cell? ⟨g, 13, none⟩ = some (.int .i64 rc) := S0.out.cell 13 _ rfl
  have u14 : W0.cell? ⟨g, 14, none⟩ = some (.int .i64 rj) := S0.out.cell 14 _ rfl
  go_wp2_with fail
  refine (HC.out _).mono ?_
  rintro e W1 ⟨rfl, c1⟩
  have S1 := Lib.hid (S0.out.low c1)
  have B1 := Lib.hid (B0.out.trans (c1.mono B0.out.size))
  clear c1 S0 B0 u0 u1 u2 u3 u4 u5 u6 u7 u8 u9 u10 u11 u12 u13 u14
  have u0 : W1.cell? ⟨g, 0, none⟩ = some (.int .i64 cap) := S1.out.cell 0 _ rfl
  have u1 : W1.cell? ⟨g, 1, none⟩ = some (.int .i64 pri) := S1.out.cell 1 _ rfl
  have u2 : W1.cell? ⟨g, 2, none⟩ = some (.int .i64 spl) := S1.out.cell 2 _ rfl
  have u3 : W1.cell? ⟨g, 3, none⟩ = some (.int .i64 dl) := S1.out.cell 3 _ rfl
  have u4 : W1.cell? ⟨g, 4, none⟩ = some (.int .i64 mis) := S1.out.cell 4 _ rfl
  have u5 : W1.cell? ⟨g, 5, none⟩ = some (.int .i64 keep) := S1.out.cell 5 _ rfl
  have u6 : W1.cell? ⟨g, 6, none⟩ = some (.int .i64 lt) := S1.out.cell 6 _ rfl
  have u7 : W1.cell? ⟨g, 7, none⟩ = some (.int .i64 lu) := S1.out.cell 7 _ rfl
  have u8 : W1.cell? ⟨g, 8, none⟩ = some (.int .i64 bf) := S1.out.cell 8 _ rfl
  have u9 : W1.cell? ⟨g, 9, none⟩ = some (.int .i64 bo) := S1.out.cell 9 _ rfl
  have u10 : W1.cell? ⟨g, 10, none⟩ = some (.int .i64 bp) := S1.out.cell 10 _ rfl
  have u11 : W1.cell? ⟨g, 11, none⟩ = some (.int .i64 rm) := S1.out.cell 11 _ rfl
  have u12 : W1.cell? ⟨g, 12, none⟩ = some (.int .i64 rb) := S1.out.cell 12 _ rfl
  have u13 : W1.cell? ⟨g, 13, none⟩ = some (.int .i64 rc) := S1.out.cell 13 _ rfl
  have u14 : W1.cell? ⟨g, 14, none⟩ = some (.int .i64 rj) := S1.out.cell 14 _ rfl
  have y11 := S1.out.fz 11 (by omega)
  have y12 := S1.out.fz 12 (by omega)
  have y13 := S1.out.fz 13 (by omega)
  have y14 := S1.out.fz 14 (by omega)
  obtain ⟨W2, hW2⟩ : ∃ W2, W2 = ((((W1.setCell ⟨g, 11, none⟩ (.int .i64 0)).setCell ⟨g, 12, none⟩ (.int .i64 0)).setCell ⟨g, 13, none⟩ (.int .i64 0)).setCell ⟨g, 14, none⟩ (.int .i64 1)) := ⟨_, rfl⟩
  have S2 := Lib.hid (show Lx.PSt g W1 W2 (⟨cap, pri, spl, dl, mis, keep, lt, lu, bf, bo, bp, 0, 0, 0, 1⟩ : Lx.PolV) from by rw [hW2]; exact ((((S1.out.set (j := 11) (q' := (⟨cap, pri, spl, dl, mis, keep, lt, lu, bf, bo, bp, 0, rb, rc, rj⟩ : Lx.PolV)) (v := .int .i64 0) (by omega) rfl).set (j := 12) (q' := (⟨cap, pri, spl, dl, mis, keep, lt, lu, bf, bo, bp, 0, 0, rc, rj⟩ : Lx.PolV)) (v := .int .i64 0) (by omega) rfl).set (j := 13) (q' := (⟨cap, pri, spl, dl, mis, keep, lt, lu, bf, bo, bp, 0, 0, 0, rj⟩ : Lx.PolV)) (v := .int .i64 0) (by omega) rfl).set (j := 14) (q' := (⟨cap, pri, spl, dl, mis, keep, lt, lu, bf, bo, bp, 0, 0, 0, 1⟩ : Lx.PolV)) (v := .int .i64 1) (by omega) rfl))
  have B2 := Lib.hid (B1.out.trans (S2.out.toB.mono Hle.out))
  go_upto_region 27 with (fail)
  rw [show ((((W1.setCell ⟨g, 11, none⟩ (.int .i64 0)).setCell ⟨g, 12, none⟩ (.int .i64 0)).setCell ⟨g, 13, none⟩ (.int .i64 0)).setCell ⟨g, 14, none⟩ (.int .i64 1)) = W2 from hW2.symm]
  clear hW2 S1 u0 u1 u2 u3 u4 u5 u6 u7 u8 u9 u10 u11 u12 u13 u14 y11 y12 y13 y14
  have u0 : W2.cell? ⟨g, 0, none⟩ = some (.int .i64 cap) := S2.out.cell 0 _ rfl
  have u1 : W2.cell? ⟨g, 1, none⟩ = some (.int .i64 pri) := S2.out.cell 1 _ rfl
  have u2 : W2.cell? ⟨g, 2, none⟩ = some (.int .i64 spl) := S2.out.cell 2 _ rfl
  have u3 : W2.cell? ⟨g, 3, none⟩ = some (.int .i64 dl) := S2.out.cell 3 _ rfl
  have u4 : W2.cell? ⟨g, 4, none⟩ = some (.int .i64 mis) := S2.out.cell 4 _ rfl
  have u5 : W2.cell? ⟨g, 5, none⟩ = some (.int .i64 keep) := S2.out.cell 5 _ rfl
  have u6 : W2.cell? ⟨g, 6, none⟩ = some (.int .i64 lt) := S2.out.cell 6 _ rfl
  have u7 : W2.cell? ⟨g, 7, none⟩ = some (.int .i64 lu) := S2.out.cell 7 _ rfl
  have u8 : W2.cell? ⟨g, 8, none⟩ = some (.int .i64 bf) := S2.out.cell 8 _ rfl
  have u9 : W2.cell? ⟨g, 9, none⟩ = some (.int .i64 bo) := S2.out.cell 9 _ rfl
  have u10 : W2.cell? ⟨g, 10, none⟩ = some (.int .i64 bp) := S2.out.cell 10 _ rfl
  have u11 : W2.cell? ⟨g, 11, none⟩ = some (.int .i64 0) := S2.out.cell 11 _ rfl
  have u12 : W2.cell? ⟨g, 12, none⟩ = some (.int .i64 0) := S2.out.cell 12 _ rfl
  have u13 : W2.cell? ⟨g, 13, none⟩ = some (.int .i64 0) := S2.out.cell 13 _ rfl
  have u14 : W2.cell? ⟨g, 14, none⟩ = some (.int .i64 1) := S2.out.cell 14 _ rfl
  go_wp2_with fail
  refine (HP.out _ (E0.out.below B2.out)).mono ?_
  rintro e w3 ⟨rfl, c3⟩
  have S3 := Lib.hid (S2.out.low c3)
  have B3 := Lib.hid (B2.out.trans (c3.mono B2.out.size))
  clear c3 S2 B2 u0 u1 u2 u3 u4 u5 u6 u7 u8 u9 u10 u11 u12 u13 u14
  have u0 : w3.cell? ⟨g, 0, none⟩ = some (.int .i64 cap) := S3.out.cell 0 _ rfl
  have u1 : w3.cell? ⟨g, 1, none⟩ = some (.int .i64 pri) := S3.out.cell 1 _ rfl
  have u2 : w3.cell? ⟨g, 2, none⟩ = some (.int .i64 spl) := S3.out.cell 2 _ rfl
  have u3 : w3.cell? ⟨g, 3, none⟩ = some (.int .i64 dl) := S3.out.cell 3 _ rfl
  have u4 : w3.cell? ⟨g, 4, none⟩ = some (.int .i64 mis) := S3.out.cell 4 _ rfl
  have u5 : w3.cell? ⟨g, 5, none⟩ = some (.int .i64 keep) := S3.out.cell 5 _ rfl
  have u6 : w3.cell? ⟨g, 6, none⟩ = some (.int .i64 lt) := S3.out.cell 6 _ rfl
  have u7 : w3.cell? ⟨g, 7, none⟩ = some (.int .i64 lu) := S3.out.cell 7 _ rfl
  have u8 : w3.cell? ⟨g, 8, none⟩ = some (.int .i64 bf) := S3.out.cell 8 _ rfl
  have u9 : w3.cell? ⟨g, 9, none⟩ = some (.int .i64 bo) := S3.out.cell 9 _ rfl
  have u10 : w3.cell? ⟨g, 10, none⟩ = some (.int .i64 bp) := S3.out.cell 10 _ rfl
  have u11 : w3.cell? ⟨g, 11, none⟩ = some (.int .i64 0) := S3.out.cell 11 _ rfl
  have u12 : w3.cell? ⟨g, 12, none⟩ = some (.int .i64 0) := S3.out.cell 12 _ rfl
  have u13 : w3.cell? ⟨g, 13, none⟩ = some (.int .i64 0) := S3.out.cell 13 _ rfl
  have u14 : w3.cell? ⟨g, 14, none⟩ = some (.int .i64 1) := S3.out.cell 14 _ rfl
  go_wp2_with fail
  refine (HG.out _ (E0.out.below B3.out)).mono ?_
  rintro e w4 ⟨rfl, c4⟩
  have S4 := Lib.hid (S3.out.low c4)
  have B4 := Lib.hid (B3.out.trans (c4.mono B3.out.size))
  clear c4 S3 B3 u0 u1 u2 u3 u4 u5 u6 u7 u8 u9 u10 u11 u12 u13 u14
  have u0 : w4.cell? ⟨g, 0, none⟩ = some (.int .i64 cap) := S4.out.cell 0 _ rfl
  have u1 : w4.cell? ⟨g, 1, none⟩ = some (.int .i64 pri) := S4.out.cell 1 _ rfl
  have u2 : w4.cell? ⟨g, 2, none⟩ = some (.int .i64 spl) := S4.out.cell 2 _ rfl
  have u3 : w4.cell? ⟨g, 3, none⟩ = some (.int .i64 dl) := S4.out.cell 3 _ rfl
  have u4 : w4.cell? ⟨g, 4, none⟩ = some (.int .i64 mis) := S4.out.cell 4 _ rfl
  have u5 : w4.cell? ⟨g, 5, none⟩ = some (.int .i64 keep) := S4.out.cell 5 _ rfl
  have u6 : w4.cell? ⟨g, 6, none⟩ = some (.int .i64 lt) := S4.out.cell 6 _ rfl
  have u7 : w4.cell? ⟨g, 7, none⟩ = some (.int .i64 lu) := S4.out.cell 7 _ rfl
  have u8 : w4.cell? ⟨g, 8, none⟩ = some (.int .i64 bf) := S4.out.cell 8 _ rfl
  have u9 : w4.cell? ⟨g, 9, none⟩ = some (.int .i64 bo) := S4.out.cell 9 _ rfl
  have u10 : w4.cell? ⟨g, 10, none⟩ = some (.int .i64 bp) := S4.out.cell 10 _ rfl
  have u11 : w4.cell? ⟨g, 11, none⟩ = some (.int .i64 0) := S4.out.cell 11 _ rfl
  have u12 : w4.cell? ⟨g, 12, none⟩ = some (.int .i64 0) := S4.out.cell 12 _ rfl
  have u13 : w4.cell? ⟨g, 13, none⟩ = some (.int .i64 0) := S4.out.cell 13 _ rfl
  have u14 : w4.cell? ⟨g, 14, none⟩ = some (.int .i64 1) := S4.out.cell 14 _ rfl
  go_wp2_with fail
  refine (HC2.out _).mono ?_
  rintro e w5 ⟨rfl, c5⟩
  have B5 := Lib.hid (B4.out.trans (c5.mono B4.out.size))
  clear c5 S4 B4 u0 u1 u2 u3 u4 u5 u6 u7 u8 u9 u10 u11 u12 u13 u14
  go_wp2_with fail
  refine (HW.out _ (E0.out.below B5.out)).mono ?_
  rintro e w6 ⟨rfl, c6⟩
  go_wp2_with fail
  go_ret
  exact ⟨rfl, B5.out.trans (c6.mono B5.out.size)⟩
set_option maxRecDepth 100000 in
set_option maxHeartbeats 1600000 in
theorem walk (p : Lx.PolV) (c0 : Int) (hc0 : (Lit.int .u8 c0).wf = true) (w : World) (env : UEnv w) :
    Calls Tryz.prog 10 #[p.val, .int .u8 c0] w fun e w' => e = .returned (.bool true) ∧ Below w.heap.size w w' := by
  obtain ⟨c, rfl⟩ := Lx.u8_of hc0
  by_cases h : Lx.polOk p = true
  · have hr : (c.toNat : Int) % 12 < 12 := by omega
    have hr0 : 0 ≤ (c.toNat : Int) % 12 := by omega
    obtain k | k | k | k | k | k | k | k | k | k | k | k : (c.toNat : Int) % 12 = 0 ∨ (c.toNat : Int) % 12 = 1 ∨ (c.toNat : Int) % 12 = 2 ∨ (c.toNat : Int) % 12 = 3 ∨ (c.toNat : Int) % 12 = 4 ∨ (c.toNat : Int) % 12 = 5 ∨ (c.toNat : Int) % 12 = 6 ∨ (c.toNat : Int) % 12 = 7 ∨ (c.toNat : Int) % 12 = 8 ∨ (c.toNat : Int) % 12 = 9 ∨ (c.toNat : Int) % 12 = 10 ∨ (c.toNat : Int) % 12 = 11 := by omega
    · exact prw0 p h c k w env
    · exact prw1 p h c k w env
    · exact prw2 p h c k w env
    · exact prw3 p h c k w env
    · exact prw4 p h c k w env
    · exact prw5 p h c k w env
    · exact prw6 p h c k w env
    · exact prw7 p h c k w env
    · exact prw8 p h c k w env
    · exact prw9 p h c k w env
    · exact prw10 p h c k w env
    · exact prw11 p h c k w env
  · have HW := Lib.hid (fun W (E : UEnv W) => pworks_any W E)
    have E0 := Lib.hid env
    have hgl := env.env.lt
    obtain ⟨g, hg⟩ : ∃ g, g = w.heap.size := ⟨_, rfl⟩
    have hE : Lx.polE p = 16 := by unfold Lx.polE; rw [if_neg h]
    have HC := fun W => polCheck_any p W
    rw [hE] at HC
    obtain ⟨cap, pri, spl, dl, mis, keep, lt, lu, bf, bo, bp, rm, rb, rc, rj⟩ := p
    have HC := Lib.hid (show ∀ W, Calls Tryz.prog 19 #[.agg #[.int .i64 cap, .int .i64 pri, .int .i64 spl, .int .i64 dl, .int .i64 mis, .int .i64 keep, .int .i64 lt, .int .i64 lu, .int .i64 bf, .int .i64 bo, .int .i64 bp, .int .i64 rm, .int .i64 rb, .int .i64 rc, .int .i64 rj]] W fun e w' => e = .returned (.int .i64 16) ∧ Below W.heap.size W w' from HC)
    clear hE h env
    obtain ⟨W0, hW0⟩ : ∃ W0, W0 = (w.alloc (.cells #[.int .i64 cap, .int .i64 pri, .int .i64 spl, .int .i64 dl, .int .i64 mis, .int .i64 keep, .int .i64 lt, .int .i64 lu, .int .i64 bf, .int .i64 bo, .int .i64 bp, .int .i64 rm, .int .i64 rb, .int .i64 rc, .int .i64 rj] 29)) := ⟨_, rfl⟩
    have S0 := Lib.hid (show Lx.PSt g W0 W0 ⟨cap, pri, spl, dl, mis, keep, lt, lu, bf, bo, bp, rm, rb, rc, rj⟩ from by rw [hg, hW0]; exact Lx.PSt.new w hgl ⟨cap, pri, spl, dl, mis, keep, lt, lu, bf, bo, bp, rm, rb, rc, rj⟩)
    have B0 := Lib.hid (show Below w.heap.size w W0 from by rw [hW0]; exact (Below.refl _ w).alloc (Nat.le_refl _) _)
    show Calls Tryz.prog 10 #[.agg #[.int .i64 cap, .int .i64 pri, .int .i64 spl, .int .i64 dl, .int .i64 mis, .int .i64 keep, .int .i64 lt, .int .i64 lu, .int .i64 bf, .int .i64 bo, .int .i64 bp, .int .i64 rm, .int .i64 rb, .int .i64 rc, .int .i64 rj], .int .u8 c.toNat] w _
    go_enter Tryz.func10, Tryz.ntmps10
    go_upto_region 1 with (fail)
    rw [show (w.alloc (.cells #[.int .i64 cap, .int .i64 pri, .int .i64 spl, .int .i64 dl, .int .i64 mis, .int .i64 keep, .int .i64 lt, .int .i64 lu, .int .i64 bf, .int .i64 bo, .int .i64 bp, .int .i64 rm, .int .i64 rb, .int .i64 rc, .int .i64 rj] 29)) = W0 from hW0.symm, ← hg]
    clear hW0 hg
    have u0 : W0.cell? ⟨g, 0, none⟩ = some (.int .i64 cap) := S0.out.cell 0 _ rfl
    have u1 : W0.cell? ⟨g, 1, none⟩ = some (.int .i64 pri) := S0.out.cell 1 _ rfl
    have u2 : W0.cell? ⟨g, 2, none⟩ = some (.int .i64 spl) := S0.out.cell 2 _ rfl
    have u3 : W0.cell? ⟨g, 3, none⟩ = some (.int .i64 dl) := S0.out.cell 3 _ rfl
    have u4 : W0.cell? ⟨g, 4, none⟩ = some (.int .i64 mis) := S0.out.cell 4 _ rfl
    have u5 : W0.cell? ⟨g, 5, none⟩ = some (.int .i64 keep) := S0.out.cell 5 _ rfl
    have u6 : W0.cell? ⟨g, 6, none⟩ = some (.int .i64 lt) := S0.out.cell 6 _ rfl
    have u7 : W0.cell? ⟨g, 7, none⟩ = some (.int .i64 lu) := S0.out.cell 7 _ rfl
    have u8 : W0.cell? ⟨g, 8, none⟩ = some (.int .i64 bf) := S0.out.cell 8 _ rfl
    have u9 : W0.cell? ⟨g, 9, none⟩ = some (.int .i64 bo) := S0.out.cell 9 _ rfl
    have u10 : W0.cell? ⟨g, 10, none⟩ = some (.int .i64 bp) := S0.out.cell 10 _ rfl
    have u11 : W0.cell? ⟨g, 11, none⟩ = some (.int .i64 rm) := S0.out.cell 11 _ rfl
    have u12 : W0.cell? ⟨g, 12, none⟩ = some (.int .i64 rb) := S0.out.cell 12 _ rfl
    have u13 : W0.cell? ⟨g, 13, none⟩ = some (.int .i64 rc) := S0.out.cell 13 _ rfl
    have u14 : W0.cell? ⟨g, 14, none⟩ = some (.int .i64 rj) := S0.out.cell 14 _ rfl
    go_wp2_with fail
    refine (HC.out _).mono ?_
    rintro e W1 ⟨rfl, c1⟩
    have B1 := Lib.hid (B0.out.trans (c1.mono B0.out.size))
    clear c1 S0 B0
    go_wp2_with fail
    refine (HW.out _ (E0.out.below B1.out)).mono ?_
    rintro e w6 ⟨rfl, c6⟩
    go_wp2_with fail
    go_ret
    exact ⟨rfl, B1.out.trans (c6.mono B1.out.size)⟩

set_option maxRecDepth 100000 in
/-- What the walk gives, for every argument that can be read. -/
theorem contract (H : Type) (enc : TypeId × Value → H) (W : World) (base : Nat) (args : Array Value) (ds gs : List (DataW H)) (before : List MemPlace)
    (hval : ∀ (j : Nat) t v, Tryz.f10.params[j]? = some t → args[j]? = some v → Value.okWide Tryz.prog W .any base t v)
    (hW : DataW.Whole enc Tryz.prog Tryz.f10.params.toList Rows.policyRulesSpec.vars false W args.toList ds gs before) (hL : laidMetH Tryz.prog Rows.policyRulesRow.laid W) (hsh : W.ShapedOpen Tryz.prog) :
    Calls Tryz.prog 10 args W fun e W' => ∃ v, e = .returned v ∧ Rows.policyRulesSpec.post enc Tryz.prog Tryz.f10 false true false false W args v W' := by
  have hW' := hW
  obtain ⟨p, q, hA0, hV, rfl, hfz, hnd⟩ := hW
  have hA : DataW.TrodAll enc Tryz.prog W 0 (fun _ => true) true Tryz.f10.params.toList args.toList ds p := hA0
  rw [Tryz.params10] at hA hval
  obtain ⟨v0, vs0, d0, ds0, p0, q0, hargs, rfl, rfl, h0, r0⟩ := trodAll_cons hA
  obtain ⟨v1, vs1, d1, ds1, p1, q1, rfl, rfl, rfl, h1, r1⟩ := trodAll_cons r0
  obtain ⟨rfl, rfl, rfl⟩ := trodAll_nil r1
  obtain rfl : args = #[v0, v1] := by cases args; simp_all
  obtain ⟨rfl, rfl⟩ := trodVars_none hV
  have k0 := h0
  have lt0 : ∀ x ∈ p0, x.block < W.heap.size := by obtain ⟨m, hm⟩ := k0; exact DataW.trod_lt m _ _ _ hm
  obtain ⟨o0, rfl⟩ := isPol_of (hval 0 29 v0 rfl rfl) h0
  obtain ⟨s1, rfl, rfl, rfl, w1⟩ := open_int Tryz.underlying5 (hval 1 5 v1 rfl rfl) h1
  clear hA0
  refine (walk o0 s1 w1 W (env_of hL hsh)).mono fun e W' ⟨he, bel⟩ => ?_
  subst he
  exact ⟨_, rfl, _, _, _, [], _, [], hW', trodAll_mk1 (shut_bool Tryz.underlying4 _), (trodAll_cons_mk (Below.trod laidOut (by kernel_rfl) (of_decide_eq_true (by kernel_rfl)) k0 bel lt0) (trodAll_cons_mk (shut_int Tryz.underlying5 w1) trodAll_mk0)), rfl, bel.frame _, fun h => by cases h⟩

set_option maxRecDepth 100000 in
theorem reads (os : Os) {H : Type} (enc : TypeId × Value → H) : ∃ places, DataW.whole enc Tryz.prog ((World.laidAll Tryz.prog os Rows.policySetsRow.laid).forCall (fun _ _ => 0) ⟨#[], #[.agg #[.int .i64 0, .int .i64 0, .int .i64 0, .int .i64 0, .int .i64 0, .int .i64 0, .int .i64 0, .int .i64 0, .int .i64 0, .int .i64 0, .int .i64 0, .int .i64 0, .int .i64 0, .int .i64 0, .int .i64 0], .int .u8 0], []⟩).memory Tryz.f10.params.toList Rows.policyRulesSpec.vars false (#[.agg #[.int .i64 0, .int .i64 0, .int .i64 0, .int .i64 0, .int .i64 0, .int .i64 0, .int .i64 0, .int .i64 0, .int .i64 0, .int .i64 0, .int .i64 0, .int .i64 0, .int .i64 0, .int .i64 0, .int .i64 0], .int .u8 0] : Array Value).toList 8 = some ([.agg [.lit (.int .i64 0), .lit (.int .i64 0), .lit (.int .i64 0), .lit (.int .i64 0), .lit (.int .i64 0), .lit (.int .i64 0), .agg [.lit (.int .i64 0), .lit (.int .i64 0)], .agg [.lit (.int .i64 0), .lit (.int .i64 0), .lit (.int .i64 0)], .agg [.lit (.int .i64 0), .lit (.int .i64 0), .lit (.int .i64 0), .lit (.int .i64 0)]], .lit (.int .u8 0)], [], places) :=
  ⟨[], by kernel_rfl⟩

set_option maxRecDepth 100000 in
theorem lifted (os : Os) (started : os.Started) (H : Type) (enc : TypeId × Value → H) (F : Stop.Interp) :
    ReturnsInHanded {} Tryz.checked os 10 .any ((OpenSpec.ofChange Rows.policyRulesSpec).preRow enc Tryz.prog Tryz.f10 Rows.policyRulesRow.domain false Rows.policyRulesRow.laid) (((OpenSpec.ofChange Rows.policyRulesSpec).at F).post enc Tryz.prog Tryz.f10 false true false false) := by
  obtain ⟨places, hx⟩ := reads os enc
  refine returnsInHanded_of_row (C := Tryz.checked) (s := OpenSpec.ofChange Rows.policyRulesSpec) own started (by kernel_rfl) Tryz.func10
    (witness_row_atRef (enc := enc) (C := Tryz.checked) false (World.laidAll Tryz.prog os Rows.policySetsRow.laid) #[.agg #[.int .i64 0, .int .i64 0, .int .i64 0, .int .i64 0, .int .i64 0, .int .i64 0, .int .i64 0, .int .i64 0, .int .i64 0, .int .i64 0, .int .i64 0, .int .i64 0, .int .i64 0, .int .i64 0, .int .i64 0], .int .u8 0] (World.laidAll_os _ _ _) (door_vars os _) (door_rest os _) (by kernel_rfl)
      (OpenSpec.preRow_of_cond 8 hx (by kernel_rfl) (fun k hk => by cases hk) (by kernel_rfl) (door_laid os _))) ?_
  intro W base args ds gs before hval hW _ _ _ hL hsh _
  exact contract H enc W base args ds gs before hval hW hL hsh

theorem said : Rows.PolicyRulesSaid :=
  OpenClaim.holds_of_cond 10 Tryz.f10 rfl rfl rfl rfl rfl rfl rfl ⟨rfl, rfl, rfl, rfl, rfl⟩ rfl rfl rfl rfl rfl (by kernel_rfl) Tryz.func10 (by kernel_rfl)
    (of_decide_eq_true (by kernel_rfl)) (by unfold Func.isWrapper; first | (rw [if_pos (by decide +kernel)]; kernel_rfl) | (rw [if_neg (by decide +kernel)]; exact ⟨rfl, rfl⟩))
    (fun os started H enc _ F => by rw [OpenClaim.pre_eq_preRow]; exact lifted os started H enc F)

theorem plain (f : FuncId) (fn : Func) (hf : Tryz.pinned.checked.prog.funcNamed "wakeman/wakemanlaw14.PolicyRules" = some f) (hfn : Tryz.pinned.checked.prog.funcs[f]? = some fn) :
    Rows.policyRulesCard.stood.looks = Tryz.pinned.checked.prog.looks [] ∧ ∀ (j : Nat) t, fn.params[j]? = some t → Tryz.pinned.checked.prog.wantsStandIn t = false := by
  obtain rfl : f = 10 := Option.some.inj ((show Tryz.prog.funcNamed "wakeman/wakemanlaw14.PolicyRules" = some 10 by kernel_rfl).symm.trans hf) |>.symm
  obtain rfl : fn = Tryz.f10 := (Option.some.inj (Tryz.func10.symm.trans hfn)).symm
  refine ⟨by kernel_rfl, fun j t ht => ?_⟩
  rw [Tryz.params10] at ht
  have hm : t ∈ [29, 5] := by
    have := Array.mem_of_getElem? ht
    simpa using this
  have hall : ([29, 5].all fun u => !Tryz.prog.wantsStandIn u) = true := by kernel_rfl
  exact (show Tryz.prog.wantsStandIn t = false by simpa using List.all_eq_true.1 hall t hm)

/-- The card. -/
theorem card : Rows.PolicyRulesCardSaid :=
  Claim7.holds_tied_plain_at .later [] _ _ _ _ said (fun _ h => by cases h) (by kernel_rfl) (fun _ h => by cases h) policyRules_row_tie rfl ⟨rfl, rfl⟩ (by kernel_rfl) rfl plain (by kernel_rfl)
end Go.Proofs.YtdpjcbijddgpgaaGreatDoor.lawPolicyRules
