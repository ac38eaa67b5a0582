/- PolicySpans: for every policy the law returns true; what the call was given reads as before. Conditions: the eight listed variables lie as the program lays them. -/
import Derived.Test.YtdpjcbijddgpgaaGreatDoorUnFrame
import Derived.Test.YtdpjcbijddgpgaaGreatDoorPoM8
import Derived.Test.YtdpjcbijddgpgaaGreatDoorPoM1
import Derived.SevenTiedAt
namespace Go.Proofs.YtdpjcbijddgpgaaGreatDoor.lawPolicySpans
open Go.ChangeShapes Go.WideShapes Go.ChangeAt Go.RowKit
theorem Lx.span_bd {p : Lx.PolV} (h : Lx.polOk p = true) : 0 ≤ Lx.spanV p ∧ Lx.spanV p ≤ 5000000000000 := by
  obtain ⟨a1, a2, a3, a4, a5, a6, a7, a8⟩ := Lx.pol_parts h
  have e : Lx.spanV p = p.dl + 1 + Lx.waits p.rc p.rj p.dl p.rm.toNat p.rb := by unfold Lx.spanV; rw [if_pos h]
  have h1 := Lx.waits_pos p.rc p.rj p.dl a4.1 p.rm.toNat p.rb (by omega) (by omega)
  have h2 := Lx.waits_bd p.rc p.rj p.dl a4 (by omega) p.rm.toNat p.rb (by omega) (by omega) (by omega) (by omega)
  have h3 : p.rm.toNat ≤ 20 := by omega
  omega
set_option maxRecDepth 100000 in
set_option maxHeartbeats 25600000 in
theorem walk (p : Lx.PolV) (w : World) (env : UEnv w) :
    Calls Tryz.prog 7 #[p.val] w fun e w' => e = .returned (.bool true) ∧ Below w.heap.size w w' := by
  have HW := Lib.hid (fun W (E : UEnv W) => pworks_any W E)
  have E0 := Lib.hid env
  have hgl := env.env.lt
  obtain ⟨g, hg⟩ : ∃ g, g = w.heap.size := ⟨_, rfl⟩
  obtain ⟨W0, hW0⟩ : ∃ W0, W0 = w.alloc (.cells p.cells.toArray 29) := ⟨_, rfl⟩
  have S0 := Lib.hid (show Lx.PSt g W0 W0 p from by rw [hg, hW0]; exact Lx.PSt.new w hgl p)
  have B0 := Lib.hid (show Below w.heap.size w W0 from by rw [hW0]; exact (Below.refl _ w).alloc (Nat.le_refl _) _)
  have HC := fun W => polCheck_any p W
  have HS := fun W => span_any p W
  by_cases h : Lx.polOk p = true
  · have hE : Lx.polE p = 0 := by unfold Lx.polE; rw [if_pos h]
    rw [hE] at HC HS
    obtain ⟨f1, f2, f3, f4⟩ := Lx.span_facts h
    have hbd := Lx.span_bd h
    obtain ⟨_, _, _, a4, _, _, _, a8⟩ := Lx.pol_parts h
    by_cases hd : p.dl < 68719476736
    · by_cases hm : 1 < p.rm
      · as_aux_lemma =>
          obtain ⟨g1, g2⟩ := f3 hd
          have HS1 := fun W => span_any { p with dl := p.dl + 1 } W
          rw [g2, show Lx.polE { p with dl := p.dl + 1 } = 0 from by unfold Lx.polE; rw [if_pos g1]] at HS1
          obtain ⟨k1, k2, k3⟩ := f4 hm
          have hbd2 := Lx.span_bd k1
          have HS2 := fun W => span_any { p with rm := p.rm - 1 } W
          rw [show Lx.polE { p with rm := p.rm - 1 } = 0 from by unfold Lx.polE; rw [if_pos k1]] at HS2
          obtain ⟨B, hB⟩ : ∃ B, B = Lx.spanV { p with rm := p.rm - 1 } := ⟨_, rfl⟩
          rw [← hB] at HS2 k2 k3 hbd2
          clear hB k1
          obtain ⟨A, hA⟩ : ∃ A, A = Lx.spanV p := ⟨_, rfl⟩
          rw [← hA] at HS f1 f2 hbd HS1 g2 k2 k3
          clear hA
          clear g1 g2
          clear f2 f3 f4 h hE
          obtain ⟨P, hP⟩ : ∃ P, P = p := ⟨_, rfl⟩
          rw [← hP] at S0
          obtain ⟨cap, pri, spl, dl, mis, keep, lt, lu, bf, bo, bp, rm, rb, rc, rj⟩ := p
          dsimp only at *
          have h00 : ¬ rm = 0 := by omega
          show Calls Tryz.prog 7 #[.agg #[.int .i64 cap, .int .i64 pri, .int .i64 spl, .int .i64 dl, .int .i64 mis, .int .i64 keep, .int .i64 lt, .int .i64 lu, .int .i64 bf, .int .i64 bo, .int .i64 bp, .int .i64 rm, .int .i64 rb, .int .i64 rc, .int .i64 rj]] w _
          have HPP := Lib.hid hP
          have HC := Lib.hid (show ∀ W, Calls Tryz.prog 19 #[.agg #[.int .i64 cap, .int .i64 pri, .int .i64 spl, .int .i64 dl, .int .i64 mis, .int .i64 keep, .int .i64 lt, .int .i64 lu, .int .i64 bf, .int .i64 bo, .int .i64 bp, .int .i64 rm, .int .i64 rb, .int .i64 rc, .int .i64 rj]] W fun e w' => e = .returned (.int .i64 0) ∧ Below W.heap.size W w' from HC)
          have HS := Lib.hid (show ∀ W, Calls Tryz.prog 20 #[.agg #[.int .i64 cap, .int .i64 pri, .int .i64 spl, .int .i64 dl, .int .i64 mis, .int .i64 keep, .int .i64 lt, .int .i64 lu, .int .i64 bf, .int .i64 bo, .int .i64 bp, .int .i64 rm, .int .i64 rb, .int .i64 rc, .int .i64 rj]] W fun e w' => e = .returned (.tuple #[.int .i64 A, .int .i64 0]) ∧ Below W.heap.size W w' from HS)
          have HS1 := Lib.hid (show ∀ W, Calls Tryz.prog 20 #[.agg #[.int .i64 cap, .int .i64 pri, .int .i64 spl, .int .i64 (dl + 1), .int .i64 mis, .int .i64 keep, .int .i64 lt, .int .i64 lu, .int .i64 bf, .int .i64 bo, .int .i64 bp, .int .i64 rm, .int .i64 rb, .int .i64 rc, .int .i64 rj]] W fun e w' => e = .returned (.tuple #[.int .i64 (A + rm + 1), .int .i64 0]) ∧ Below W.heap.size W w' from HS1)
          have HS2 := Lib.hid (show ∀ W, Calls Tryz.prog 20 #[.agg #[.int .i64 cap, .int .i64 pri, .int .i64 spl, .int .i64 dl, .int .i64 mis, .int .i64 keep, .int .i64 lt, .int .i64 lu, .int .i64 bf, .int .i64 bo, .int .i64 bp, .int .i64 (rm - 1), .int .i64 rb, .int .i64 rc, .int .i64 rj]] W fun e w' => e = .returned (.tuple #[.int .i64 B, .int .i64 0]) ∧ Below W.heap.size W w' from HS2)
          clear hP env
          go_enter Tryz.func7, Tryz.ntmps7
          go_upto_region 1 with (fail)
          rw [show (w.alloc (.cells #[.int .i64 cap, .int .i64 pri, .int .i64 spl, .int .i64 dl, .int .i64 mis, .int .i64 keep, .int .i64 lt, .int .i64 lu, .int .i64 bf, .int .i64 bo, .int .i64 bp, .int .i64 rm, .int .i64 rb, .int .i64 rc, .int .i64 rj] 29)) = W0 from hW0.symm, ← hg]
          have Hg := Lib.hid hg
          clear hW0 hg
          have u0 : W0.cell? ⟨g, 0, none⟩ = some (.int .i64 cap) := S0.out.cell 0 _ (by rw [HPP.out]; rfl)
          have u1 : W0.cell? ⟨g, 1, none⟩ = some (.int .i64 pri) := S0.out.cell 1 _ (by rw [HPP.out]; rfl)
          have u2 : W0.cell? ⟨g, 2, none⟩ = some (.int .i64 spl) := S0.out.cell 2 _ (by rw [HPP.out]; rfl)
          have u3 : W0.cell? ⟨g, 3, none⟩ = some (.int .i64 dl) := S0.out.cell 3 _ (by rw [HPP.out]; rfl)
          have u4 : W0.cell? ⟨g, 4, none⟩ = some (.int .i64 mis) := S0.out.cell 4 _ (by rw [HPP.out]; rfl)
          have u5 : W0.cell? ⟨g, 5, none⟩ = some (.int .i64 keep) := S0.out.cell 5 _ (by rw [HPP.out]; rfl)
          have u6 : W0.cell? ⟨g, 6, none⟩ = some (.int .i64 lt) := S0.out.cell 6 _ (by rw [HPP.out]; rfl)
          have u7 : W0.cell? ⟨g, 7, none⟩ = some (.int .i64 lu) := S0.out.cell 7 _ (by rw [HPP.out]; rfl)
          have u8 : W0.cell? ⟨g, 8, none⟩ = some (.int .i64 bf) := S0.out.cell 8 _ (by rw [HPP.out]; rfl)
          have u9 : W0.cell? ⟨g, 9, none⟩ = some (.int .i64 bo) := S0.out.cell 9 _ (by rw [HPP.out]; rfl)
          have u10 : W0.cell? ⟨g, 10, none⟩ = some (.int .i64 bp) := S0.out.cell 10 _ (by rw [HPP.out]; rfl)
          have u11 : W0.cell? ⟨g, 11, none⟩ = some (.int .i64 rm) := S0.out.cell 11 _ (by rw [HPP.out]; rfl)
          have u12 : W0.cell? ⟨g, 12, none⟩ = some (.int .i64 rb) := S0.out.cell 12 _ (by rw [HPP.out]; rfl)
          have u13 : W0.cell? ⟨g, 13, none⟩ = some (.int .i64 rc) := S0.out.cell 13 _ (by rw [HPP.out]; rfl)
          have u14 : W0.cell? ⟨g, 14, none⟩ = some (.int .i64 rj) := S0.out.cell 14 _ (by rw [HPP.out]; rfl)
          go_wp2_with fail
          refine (HS.out _).mono ?_
          rintro e w1 ⟨rfl, c1⟩
          have S1 := Lib.hid (S0.out.low c1)
          have B1 := Lib.hid (B0.out.trans (c1.mono B0.out.size))
          clear c1 S0 B0 u0 u1 u2 u3 u4 u5 u6 u7 u8 u9 u10 u11 u12 u13 u14
          have u0 : w1.cell? ⟨g, 0, none⟩ = some (.int .i64 cap) := S1.out.cell 0 _ (by rw [HPP.out]; rfl)
          have u1 : w1.cell? ⟨g, 1, none⟩ = some (.int .i64 pri) := S1.out.cell 1 _ (by rw [HPP.out]; rfl)
          have u2 : w1.cell? ⟨g, 2, none⟩ = some (.int .i64 spl) := S1.out.cell 2 _ (by rw [HPP.out]; rfl)
          have u3 : w1.cell? ⟨g, 3, none⟩ = some (.int .i64 dl) := S1.out.cell 3 _ (by rw [HPP.out]; rfl)
          have u4 : w1.cell? ⟨g, 4, none⟩ = some (.int .i64 mis) := S1.out.cell 4 _ (by rw [HPP.out]; rfl)
          have u5 : w1.cell? ⟨g, 5, none⟩ = some (.int .i64 keep) := S1.out.cell 5 _ (by rw [HPP.out]; rfl)
          have u6 : w1.cell? ⟨g, 6, none⟩ = some (.int .i64 lt) := S1.out.cell 6 _ (by rw [HPP.out]; rfl)
          have u7 : w1.cell? ⟨g, 7, none⟩ = some (.int .i64 lu) := S1.out.cell 7 _ (by rw [HPP.out]; rfl)
          have u8 : w1.cell? ⟨g, 8, none⟩ = some (.int .i64 bf) := S1.out.cell 8 _ (by rw [HPP.out]; rfl)
          have u9 : w1.cell? ⟨g, 9, none⟩ = some (.int .i64 bo) := S1.out.cell 9 _ (by rw [HPP.out]; rfl)
          have u10 : w1.cell? ⟨g, 10, none⟩ = some (.int .i64 bp) := S1.out.cell 10 _ (by rw [HPP.out]; rfl)
          have u11 : w1.cell? ⟨g, 11, none⟩ = some (.int .i64 rm) := S1.out.cell 11 _ (by rw [HPP.out]; rfl)
          have u12 : w1.cell? ⟨g, 12, none⟩ = some (.int .i64 rb) := S1.out.cell 12 _ (by rw [HPP.out]; rfl)
          have u13 : w1.cell? ⟨g, 13, none⟩ = some (.int .i64 rc) := S1.out.cell 13 _ (by rw [HPP.out]; rfl)
          have u14 : w1.cell? ⟨g, 14, none⟩ = some (.int .i64 rj) := S1.out.cell 14 _ (by rw [HPP.out]; rfl)
          go_wp2_with fail
          refine (HC.out _).mono ?_
          rintro e w2 ⟨rfl, c2⟩
          have S2 := Lib.hid (S1.out.low c2)
          have B2 := Lib.hid (B1.out.trans (c2.mono B1.out.size))
          clear c2 S1 B1 u0 u1 u2 u3 u4 u5 u6 u7 u8 u9 u10 u11 u12 u13 u14
          have u0 : w2.cell? ⟨g, 0, none⟩ = some (.int .i64 cap) := S2.out.cell 0 _ (by rw [HPP.out]; rfl)
          have u1 : w2.cell? ⟨g, 1, none⟩ = some (.int .i64 pri) := S2.out.cell 1 _ (by rw [HPP.out]; rfl)
          have u2 : w2.cell? ⟨g, 2, none⟩ = some (.int .i64 spl) := S2.out.cell 2 _ (by rw [HPP.out]; rfl)
          have u3 : w2.cell? ⟨g, 3, none⟩ = some (.int .i64 dl) := S2.out.cell 3 _ (by rw [HPP.out]; rfl)
          have u4 : w2.cell? ⟨g, 4, none⟩ = some (.int .i64 mis) := S2.out.cell 4 _ (by rw [HPP.out]; rfl)
          have u5 : w2.cell? ⟨g, 5, none⟩ = some (.int .i64 keep) := S2.out.cell 5 _ (by rw [HPP.out]; rfl)
          have u6 : w2.cell? ⟨g, 6, none⟩ = some (.int .i64 lt) := S2.out.cell 6 _ (by rw [HPP.out]; rfl)
          have u7 : w2.cell? ⟨g, 7, none⟩ = some (.int .i64 lu) := S2.out.cell 7 _ (by rw [HPP.out]; rfl)
          have u8 : w2.cell? ⟨g, 8, none⟩ = some (.int .i64 bf) := S2.out.cell 8 _ (by rw [HPP.out]; rfl)
          have u9 : w2.cell? ⟨g, 9, none⟩ = some (.int .i64 bo) := S2.out.cell 9 _ (by rw [HPP.out]; rfl)
          have u10 : w2.cell? ⟨g, 10, none⟩ = some (.int .i64 bp) := S2.out.cell 10 _ (by rw [HPP.out]; rfl)
          have u11 : w2.cell? ⟨g, 11, none⟩ = some (.int .i64 rm) := S2.out.cell 11 _ (by rw [HPP.out]; rfl)
          have u12 : w2.cell? ⟨g, 12, none⟩ = some (.int .i64 rb) := S2.out.cell 12 _ (by rw [HPP.out]; rfl)
          have u13 : w2.cell? ⟨g, 13, none⟩ = some (.int .i64 rc) := S2.out.cell 13 _ (by rw [HPP.out]; rfl)
          have u14 : w2.cell? ⟨g, 14, none⟩ = some (.int .i64 rj) := S2.out.cell 14 _ (by rw [HPP.out]; rfl)
          go_wp2_with fail
          refine (HS1.out _).mono ?_
          rintro e w3 ⟨rfl, c3⟩
          have d3 := ((Below.refl _ w2).alloc (Nat.le_refl _) (.cells #[.int .i64 cap, .int .i64 pri, .int .i64 spl, .int .i64 (dl + 1), .int .i64 mis, .int .i64 keep, .int .i64 lt, .int .i64 lu, .int .i64 bf, .int .i64 bo, .int .i64 bp, .int .i64 rm, .int .i64 rb, .int .i64 rc, .int .i64 rj] 29)).trans (c3.mono ((Below.refl _ w2).alloc (Nat.le_refl _) (.cells #[.int .i64 cap, .int .i64 pri, .int .i64 spl, .int .i64 (dl + 1), .int .i64 mis, .int .i64 keep, .int .i64 lt, .int .i64 lu, .int .i64 bf, .int .i64 bo, .int .i64 bp, .int .i64 rm, .int .i64 rb, .int .i64 rc, .int .i64 rj] 29)).size)
          have S3 := Lib.hid (S2.out.low d3)
          have B3 := Lib.hid (B2.out.trans (d3.mono B2.out.size))
          clear c3 d3 S2 B2 u0 u1 u2 u3 u4 u5 u6 u7 u8 u9 u10 u11 u12 u13 u14
          have u0 : w3.cell? ⟨g, 0, none⟩ = some (.int .i64 cap) := S3.out.cell 0 _ (by rw [HPP.out]; rfl)
          have u1 : w3.cell? ⟨g, 1, none⟩ = some (.int .i64 pri) := S3.out.cell 1 _ (by rw [HPP.out]; rfl)
          have u2 : w3.cell? ⟨g, 2, none⟩ = some (.int .i64 spl) := S3.out.cell 2 _ (by rw [HPP.out]; rfl)
          have u3 : w3.cell? ⟨g, 3, none⟩ = some (.int .i64 dl) := S3.out.cell 3 _ (by rw [HPP.out]; rfl)
          have u4 : w3.cell? ⟨g, 4, none⟩ = some (.int .i64 mis) := S3.out.cell 4 _ (by rw [HPP.out]; rfl)
          have u5 : w3.cell? ⟨g, 5, none⟩ = some (.int .i64 keep) := S3.out.cell 5 _ (by rw [HPP.out]; rfl)
          have u6 : w3.cell? ⟨g, 6, none⟩ = some (.int .i64 lt) := S3.out.cell 6 _ (by rw [HPP.out]; rfl)
          have u7 : w3.cell? ⟨g, 7, none⟩ = some (.int .i64 lu) := S3.out.cell 7 _ (by rw [HPP.out]; rfl)
          have u8 : w3.cell? ⟨g, 8, none⟩ = some (.int .i64 bf) := S3.out.cell 8 _ (by rw [HPP.out]; rfl)
          have u9 : w3.cell? ⟨g, 9, none⟩ = some (.int .i64 bo) := S3.out.cell 9 _ (by rw [HPP.out]; rfl)
          have u10 : w3.cell? ⟨g, 10, none⟩ = some (.int .i64 bp) := S3.out.cell 10 _ (by rw [HPP.out]; rfl)
          have u11 : w3.cell? ⟨g, 11, none⟩ = some (.int .i64 rm) := S3.out.cell 11 _ (by rw [HPP.out]; rfl)
          have u12 : w3.cell? ⟨g, 12, none⟩ = some (.int .i64 rb) := S3.out.cell 12 _ (by rw [HPP.out]; rfl)
          have u13 : w3.cell? ⟨g, 13, none⟩ = some (.int .i64 rc) := S3.out.cell 13 _ (by rw [HPP.out]; rfl)
          have u14 : w3.cell? ⟨g, 14, none⟩ = some (.int .i64 rj) := S3.out.cell 14 _ (by rw [HPP.out]; rfl)
          go_wp2_with fail
          refine (HS2.out _).mono ?_
          rintro e w4 ⟨rfl, c4⟩
          have d4 := ((Below.refl _ w3).alloc (Nat.le_refl _) (.cells #[.int .i64 cap, .int .i64 pri, .int .i64 spl, .int .i64 dl, .int .i64 mis, .int .i64 keep, .int .i64 lt, .int .i64 lu, .int .i64 bf, .int .i64 bo, .int .i64 bp, .int .i64 (rm - 1), .int .i64 rb, .int .i64 rc, .int .i64 rj] 29)).trans (c4.mono ((Below.refl _ w3).alloc (Nat.le_refl _) (.cells #[.int .i64 cap, .int .i64 pri, .int .i64 spl, .int .i64 dl, .int .i64 mis, .int .i64 keep, .int .i64 lt, .int .i64 lu, .int .i64 bf, .int .i64 bo, .int .i64 bp, .int .i64 (rm - 1), .int .i64 rb, .int .i64 rc, .int .i64 rj] 29)).size)
          have S4 := Lib.hid (S3.out.low d4)
          have B4 := Lib.hid (B3.out.trans (d4.mono B3.out.size))
          clear c4 d4 S3 B3 u0 u1 u2 u3 u4 u5 u6 u7 u8 u9 u10 u11 u12 u13 u14
          have u0 : w4.cell? ⟨g, 0, none⟩ = some (.int .i64 cap) := S4.out.cell 0 _ (by rw [HPP.out]; rfl)
          have u1 : w4.cell? ⟨g, 1, none⟩ = some (.int .i64 pri) := S4.out.cell 1 _ (by rw [HPP.out]; rfl)
          have u2 : w4.cell? ⟨g, 2, none⟩ = some (.int .i64 spl) := S4.out.cell 2 _ (by rw [HPP.out]; rfl)
          have u3 : w4.cell? ⟨g, 3, none⟩ = some (.int .i64 dl) := S4.out.cell 3 _ (by rw [HPP.out]; rfl)
          have u4 : w4.cell? ⟨g, 4, none⟩ = some (.int .i64 mis) := S4.out.cell 4 _ (by rw [HPP.out]; rfl)
          have u5 : w4.cell? ⟨g, 5, none⟩ = some (.int .i64 keep) := S4.out.cell 5 _ (by rw [HPP.out]; rfl)
          have u6 : w4.cell? ⟨g, 6, none⟩ = some (.int .i64 lt) := S4.out.cell 6 _ (by rw [HPP.out]; rfl)
          have u7 : w4.cell? ⟨g, 7, none⟩ = some (.int .i64 lu) := S4.out.cell 7 _ (by rw [HPP.out]; rfl)
          have u8 : w4.cell? ⟨g, 8, none⟩ = some (.int .i64 bf) := S4.out.cell 8 _ (by rw [HPP.out]; rfl)
          have u9 : w4.cell? ⟨g, 9, none⟩ = some (.int .i64 bo) := S4.out.cell 9 _ (by rw [HPP.out]; rfl)
          have u10 : w4.cell? ⟨g, 10, none⟩ = some (.int .i64 bp) := S4.out.cell 10 _ (by rw [HPP.out]; rfl)
          have u11 : w4.cell? ⟨g, 11, none⟩ = some (.int .i64 rm) := S4.out.cell 11 _ (by rw [HPP.out]; rfl)
          have u12 : w4.cell? ⟨g, 12, none⟩ = some (.int .i64 rb) := S4.out.cell 12 _ (by rw [HPP.out]; rfl)
          have u13 : w4.cell? ⟨g, 13, none⟩ = some (.int .i64 rc) := S4.out.cell 13 _ (by rw [HPP.out]; rfl)
          have u14 : w4.cell? ⟨g, 14, none⟩ = some (.int .i64 rj) := S4.out.cell 14 _ (by rw [HPP.out]; rfl)
          go_wp2_with fail
          refine (HW.out _ (E0.out.below B4.out)).mono ?_
          rintro e w9 ⟨rfl, c9⟩
          go_wp2_with fail
          go_ret
          exact ⟨rfl, B4.out.trans (c9.mono B4.out.size)⟩
      · by_cases h0 : p.rm = 0
        · as_aux_lemma =>
            obtain ⟨g1, g2⟩ := f3 hd
            have HS1 := fun W => span_any { p with dl := p.dl + 1 } W
            rw [g2, show Lx.polE { p with dl := p.dl + 1 } = 0 from by unfold Lx.polE; rw [if_pos g1]] at HS1
            rw [f2 h0] at HS HS1
            rw [h0, show p.dl + 1 + 0 + 1 = p.dl + 1 + 1 from by omega] at HS1
            clear g1 g2
            clear f2 f3 f4 h hE
            clear f1 hbd
            obtain ⟨P, hP⟩ : ∃ P, P = p := ⟨_, rfl⟩
            rw [← hP] at S0
            obtain ⟨cap, pri, spl, dl, mis, keep, lt, lu, bf, bo, bp, rm, rb, rc, rj⟩ := p
            dsimp only at *
            subst h0
            show Calls Tryz.prog 7 #[.agg #[.int .i64 cap, .int .i64 pri, .int .i64 spl, .int .i64 dl, .int .i64 mis, .int .i64 keep, .int .i64 lt, .int .i64 lu, .int .i64 bf, .int .i64 bo, .int .i64 bp, .int .i64 0, .int .i64 rb, .int .i64 rc, .int .i64 rj]] w _
            have HPP := Lib.hid hP
            have HC := Lib.hid (show ∀ W, Calls Tryz.prog 19 #[.agg #[.int .i64 cap, .int .i64 pri, .int .i64 spl, .int .i64 dl, .int .i64 mis, .int .i64 keep, .int .i64 lt, .int .i64 lu, .int .i64 bf, .int .i64 bo, .int .i64 bp, .int .i64 0, .int .i64 rb, .int .i64 rc, .int .i64 rj]] W fun e w' => e = .returned (.int .i64 0) ∧ Below W.heap.size W w' from HC)
            have HS := Lib.hid (show ∀ W, Calls Tryz.prog 20 #[.agg #[.int .i64 cap, .int .i64 pri, .int .i64 spl, .int .i64 dl, .int .i64 mis, .int .i64 keep, .int .i64 lt, .int .i64 lu, .int .i64 bf, .int .i64 bo, .int .i64 bp, .int .i64 0, .int .i64 rb, .int .i64 rc, .int .i64 rj]] W fun e w' => e = .returned (.tuple #[.int .i64 (dl + 1), .int .i64 0]) ∧ Below W.heap.size W w' from HS)
            have HS1 := Lib.hid (show ∀ W, Calls Tryz.prog 20 #[.agg #[.int .i64 cap, .int .i64 pri, .int .i64 spl, .int .i64 (dl + 1), .int .i64 mis, .int .i64 keep, .int .i64 lt, .int .i64 lu, .int .i64 bf, .int .i64 bo, .int .i64 bp, .int .i64 0, .int .i64 rb, .int .i64 rc, .int .i64 rj]] W fun e w' => e = .returned (.tuple #[.int .i64 (dl + 1 + 1), .int .i64 0]) ∧ Below W.heap.size W w' from HS1)
            clear hP env
            go_enter Tryz.func7, Tryz.ntmps7
            go_upto_region 1 with (fail)
            rw [show (w.alloc (.cells #[.int .i64 cap, .int .i64 pri, .int .i64 spl, .int .i64 dl, .int .i64 mis, .int .i64 keep, .int .i64 lt, .int .i64 lu, .int .i64 bf, .int .i64 bo, .int .i64 bp, .int .i64 0, .int .i64 rb, .int .i64 rc, .int .i64 rj] 29)) = W0 from hW0.symm, ← hg]
            have Hg := Lib.hid hg
            clear hW0 hg
            have u0 : W0.cell? ⟨g, 0, none⟩ = some (.int .i64 cap) := S0.out.cell 0 _ (by rw [HPP.out]; rfl)
            have u1 : W0.cell? ⟨g, 1, none⟩ = some (.int .i64 pri) := S0.out.cell 1 _ (by rw [HPP.out]; rfl)
            have u2 : W0.cell? ⟨g, 2, none⟩ = some (.int .i64 spl) := S0.out.cell 2 _ (by rw [HPP.out]; rfl)
            have u3 : W0.cell? ⟨g, 3, none⟩ = some (.int .i64 dl) := S0.out.cell 3 _ (by rw [HPP.out]; rfl)
            have u4 : W0.cell? ⟨g, 4, none⟩ = some (.int .i64 mis) := S0.out.cell 4 _ (by rw [HPP.out]; rfl)
            have u5 : W0.cell? ⟨g, 5, none⟩ = some (.int .i64 keep) := S0.out.cell 5 _ (by rw [HPP.out]; rfl)
            have u6 : W0.cell? ⟨g, 6, none⟩ = some (.int .i64 lt) := S0.out.cell 6 _ (by rw [HPP.out]; rfl)
            have u7 : W0.cell? ⟨g, 7, none⟩ = some (.int .i64 lu) := S0.out.cell 7 _ (by rw [HPP.out]; rfl)
            have u8 : W0.cell? ⟨g, 8, none⟩ = some (.int .i64 bf) := S0.out.cell 8 _ (by rw [HPP.out]; rfl)
            have u9 : W0.cell? ⟨g, 9, none⟩ = some (.int .i64 bo) := S0.out.cell 9 _ (by rw [HPP.out]; rfl)
            have u10 : W0.cell? ⟨g, 10, none⟩ = some (.int .i64 bp) := S0.out.cell 10 _ (by rw [HPP.out]; rfl)
            have u11 : W0.cell? ⟨g, 11, none⟩ = some (.int .i64 0) := S0.out.cell 11 _ (by rw [HPP.out]; rfl)
            have u12 : W0.cell? ⟨g, 12, none⟩ = some (.int .i64 rb) := S0.out.cell 12 _ (by rw [HPP.out]; rfl)
            have u13 : W0.cell? ⟨g, 13, none⟩ = some (.int .i64 rc) := S0.out.cell 13 _ (by rw [HPP.out]; rfl)
            have u14 : W0.cell? ⟨g, 14, none⟩ = some (.int .i64 rj) := S0.out.cell 14 _ (by rw [HPP.out]; rfl)
            go_wp2_with fail
            refine (HS.out _).mono ?_
            rintro e w1 ⟨rfl, c1⟩
            have S1 := Lib.hid (S0.out.low c1)
            have B1 := Lib.hid (B0.out.trans (c1.mono B0.out.size))
            clear c1 S0 B0 u0 u1 u2 u3 u4 u5 u6 u7 u8 u9 u10 u11 u12 u13 u14
            have u0 : w1.cell? ⟨g, 0, none⟩ = some (.int .i64 cap) := S1.out.cell 0 _ (by rw [HPP.out]; rfl)
            have u1 : w1.cell? ⟨g, 1, none⟩ = some (.int .i64 pri) := S1.out.cell 1 _ (by rw [HPP.out]; rfl)
            have u2 : w1.cell? ⟨g, 2, none⟩ = some (.int .i64 spl) := S1.out.cell 2 _ (by rw [HPP.out]; rfl)
            have u3 : w1.cell? ⟨g, 3, none⟩ = some (.int .i64 dl) := S1.out.cell 3 _ (by rw [HPP.out]; rfl)
            have u4 : w1.cell? ⟨g, 4, none⟩ = some (.int .i64 mis) := S1.out.cell 4 _ (by rw [HPP.out]; rfl)
            have u5 : w1.cell? ⟨g, 5, none⟩ = some (.int .i64 keep) := S1.out.cell 5 _ (by rw [HPP.out]; rfl)
            have u6 : w1.cell? ⟨g, 6, none⟩ = some (.int .i64 lt) := S1.out.cell 6 _ (by rw [HPP.out]; rfl)
            have u7 : w1.cell? ⟨g, 7, none⟩ = some (.int .i64 lu) := S1.out.cell 7 _ (by rw [HPP.out]; rfl)
            have u8 : w1.cell? ⟨g, 8, none⟩ = some (.int .i64 bf) := S1.out.cell 8 _ (by rw [HPP.out]; rfl)
            have u9 : w1.cell? ⟨g, 9, none⟩ = some (.int .i64 bo) := S1.out.cell 9 _ (by rw [HPP.out]; rfl)
            have u10 : w1.cell? ⟨g, 10, none⟩ = some (.int .i64 bp) := S1.out.cell 10 _ (by rw [HPP.out]; rfl)
            have u11 : w1.cell? ⟨g, 11, none⟩ = some (.int .i64 0) := S1.out.cell 11 _ (by rw [HPP.out]; rfl)
            have u12 : w1.cell? ⟨g, 12, none⟩ = some (.int .i64 rb) := S1.out.cell 12 _ (by rw [HPP.out]; rfl)
            have u13 : w1.cell? ⟨g, 13, none⟩ = some (.int .i64 rc) := S1.out.cell 13 _ (by rw [HPP.out]; rfl)
            have u14 : w1.cell? ⟨g, 14, none⟩ = some (.int .i64 rj) := S1.out.cell 14 _ (by rw [HPP.out]; rfl)
            go_wp2_with fail
            refine (HC.out _).mono ?_
            rintro e w2 ⟨rfl, c2⟩
            have S2 := Lib.hid (S1.out.low c2)
            have B2 := Lib.hid (B1.out.trans (c2.mono B1.out.size))
            clear c2 S1 B1 u0 u1 u2 u3 u4 u5 u6 u7 u8 u9 u10 u11 u12 u13 u14
            have u0 : w2.cell? ⟨g, 0, none⟩ = some (.int .i64 cap) := S2.out.cell 0 _ (by rw [HPP.out]; rfl)
            have u1 : w2.cell? ⟨g, 1, none⟩ = some (.int .i64 pri) := S2.out.cell 1 _ (by rw [HPP.out]; rfl)
            have u2 : w2.cell? ⟨g, 2, none⟩ = some (.int .i64 spl) := S2.out.cell 2 _ (by rw [HPP.out]; rfl)
            have u3 : w2.cell? ⟨g, 3, none⟩ = some (.int .i64 dl) := S2.out.cell 3 _ (by rw [HPP.out]; rfl)
            have u4 : w2.cell? ⟨g, 4, none⟩ = some (.int .i64 mis) := S2.out.cell 4 _ (by rw [HPP.out]; rfl)
            have u5 : w2.cell? ⟨g, 5, none⟩ = some (.int .i64 keep) := S2.out.cell 5 _ (by rw [HPP.out]; rfl)
            have u6 : w2.cell? ⟨g, 6, none⟩ = some (.int .i64 lt) := S2.out.cell 6 _ (by rw [HPP.out]; rfl)
            have u7 : w2.cell? ⟨g, 7, none⟩ = some (.int .i64 lu) := S2.out.cell 7 _ (by rw [HPP.out]; rfl)
            have u8 : w2.cell? ⟨g, 8, none⟩ = some (.int .i64 bf) := S2.out.cell 8 _ (by rw [HPP.out]; rfl)
            have u9 : w2.cell? ⟨g, 9, none⟩ = some (.int .i64 bo) := S2.out.cell 9 _ (by rw [HPP.out]; rfl)
            have u10 : w2.cell? ⟨g, 10, none⟩ = some (.int .i64 bp) := S2.out.cell 10 _ (by rw [HPP.out]; rfl)
            have u11 : w2.cell? ⟨g, 11, none⟩ = some (.int .i64 0) := S2.out.cell 11 _ (by rw [HPP.out]; rfl)
            have u12 : w2.cell? ⟨g, 12, none⟩ = some (.int .i64 rb) := S2.out.cell 12 _ (by rw [HPP.out]; rfl)
            have u13 : w2.cell? ⟨g, 13, none⟩ = some (.int .i64 rc) := S2.out.cell 13 _ (by rw [HPP.out]; rfl)
            have u14 : w2.cell? ⟨g, 14, none⟩ = some (.int .i64 rj) := S2.out.cell 14 _ (by rw [HPP.out]; rfl)
            go_wp2_with fail
            refine (HS1.out _).mono ?_
            rintro e w3 ⟨rfl, c3⟩
            have d3 := ((Below.refl _ w2).alloc (Nat.le_refl _) (.cells #[.int .i64 cap, .int .i64 pri, .int .i64 spl, .int .i64 (dl + 1), .int .i64 mis, .int .i64 keep, .int .i64 lt, .int .i64 lu, .int .i64 bf, .int .i64 bo, .int .i64 bp, .int .i64 0, .int .i64 rb, .int .i64 rc, .int .i64 rj] 29)).trans (c3.mono ((Below.refl _ w2).alloc (Nat.le_refl _) (.cells #[.int .i64 cap, .int .i64 pri, .int .i64 spl, .int .i64 (dl + 1), .int .i64 mis, .int .i64 keep, .int .i64 lt, .int .i64 lu, .int .i64 bf, .int .i64 bo, .int .i64 bp, .int .i64 0, .int .i64 rb, .int .i64 rc, .int .i64 rj] 29)).size)
            have S3 := Lib.hid (S2.out.low d3)
            have B3 := Lib.hid (B2.out.trans (d3.mono B2.out.size))
            clear c3 d3 S2 B2 u0 u1 u2 u3 u4 u5 u6 u7 u8 u9 u10 u11 u12 u13 u14
            have u0 : w3.cell? ⟨g, 0, none⟩ = some (.int .i64 cap) := S3.out.cell 0 _ (by rw [HPP.out]; rfl)
            have u1 : w3.cell? ⟨g, 1, none⟩ = some (.int .i64 pri) := S3.out.cell 1 _ (by rw [HPP.out]; rfl)
            have u2 : w3.cell? ⟨g, 2, none⟩ = some (.int .i64 spl) := S3.out.cell 2 _ (by rw [HPP.out]; rfl)
            have u3 : w3.cell? ⟨g, 3, none⟩ = some (.int .i64 dl) := S3.out.cell 3 _ (by rw [HPP.out]; rfl)
            have u4 : w3.cell? ⟨g, 4, none⟩ = some (.int .i64 mis) := S3.out.cell 4 _ (by rw [HPP.out]; rfl)
            have u5 : w3.cell? ⟨g, 5, none⟩ = some (.int .i64 keep) := S3.out.cell 5 _ (by rw [HPP.out]; rfl)
            have u6 : w3.cell? ⟨g, 6, none⟩ = some (.int .i64 lt) := S3.out.cell 6 _ (by rw [HPP.out]; rfl)
            have u7 : w3.cell? ⟨g, 7, none⟩ = some (.int .i64 lu) := S3.out.cell 7 _ (by rw [HPP.out]; rfl)
            have u8 : w3.cell? ⟨g, 8, none⟩ = some (.int .i64 bf) := S3.out.cell 8 _ (by rw [HPP.out]; rfl)
            have u9 : w3.cell? ⟨g, 9, none⟩ = some (.int .i64 bo) := S3.out.cell 9 _ (by rw [HPP.out]; rfl)
            have u10 : w3.cell? ⟨g, 10, none⟩ = some (.int .i64 bp) := S3.out.cell 10 _ (by rw [HPP.out]; rfl)
            have u11 : w3.cell? ⟨g, 11, none⟩ = some (.int .i64 0) := S3.out.cell 11 _ (by rw [HPP.out]; rfl)
            have u12 : w3.cell? ⟨g, 12, none⟩ = some (.int .i64 rb) := S3.out.cell 12 _ (by rw [HPP.out]; rfl)
            have u13 : w3.cell? ⟨g, 13, none⟩ = some (.int .i64 rc) := S3.out.cell 13 _ (by rw [HPP.out]; rfl)
            have u14 : w3.cell? ⟨g, 14, none⟩ = some (.int .i64 rj) := S3.out.cell 14 _ (by rw [HPP.out]; rfl)
            go_wp2_with fail
            refine (HW.out _ (E0.out.below B3.out)).mono ?_
            rintro e w9 ⟨rfl, c9⟩
            go_wp2_with fail
            go_ret
            exact ⟨rfl, B3.out.trans (c9.mono B3.out.size)⟩
        · as_aux_lemma =>
            obtain ⟨g1, g2⟩ := f3 hd
            have HS1 := fun W => span_any { p with dl := p.dl + 1 } W
            rw [g2, show Lx.polE { p with dl := p.dl + 1 } = 0 from by unfold Lx.polE; rw [if_pos g1]] at HS1
            have hr : p.rm = 1 := by omega
            rw [hr] at HS1
            rw [show Lx.spanV p + 1 + 1 = Lx.spanV p + 2 from by omega] at HS1
            obtain ⟨A, hA⟩ : ∃ A, A = Lx.spanV p := ⟨_, rfl⟩
            rw [← hA] at HS f1 f2 hbd HS1 g2
            clear hA
            clear g1 g2
            clear f2 f3 f4 h hE
            obtain ⟨P, hP⟩ : ∃ P, P = p := ⟨_, rfl⟩
            rw [← hP] at S0
            obtain ⟨cap, pri, spl, dl, mis, keep, lt, lu, bf, bo, bp, rm, rb, rc, rj⟩ := p
            dsimp only at *
            subst hr
            show Calls Tryz.prog 7 #[.agg #[.int .i64 cap, .int .i64 pri, .int .i64 spl, .int .i64 dl, .int .i64 mis, .int .i64 keep, .int .i64 lt, .int .i64 lu, .int .i64 bf, .int .i64 bo, .int .i64 bp, .int .i64 1, .int .i64 rb, .int .i64 rc, .int .i64 rj]] w _
            have HPP := Lib.hid hP
            have HC := Lib.hid (show ∀ W, Calls Tryz.prog 19 #[.agg #[.int .i64 cap, .int .i64 pri, .int .i64 spl, .int .i64 dl, .int .i64 mis, .int .i64 keep, .int .i64 lt, .int .i64 lu, .int .i64 bf, .int .i64 bo, .int .i64 bp, .int .i64 1, .int .i64 rb, .int .i64 rc, .int .i64 rj]] W fun e w' => e = .returned (.int .i64 0) ∧ Below W.heap.size W w' from HC)
            have HS := Lib.hid (show ∀ W, Calls Tryz.prog 20 #[.agg #[.int .i64 cap, .int .i64 pri, .int .i64 spl, .int .i64 dl, .int .i64 mis, .int .i64 keep, .int .i64 lt, .int .i64 lu, .int .i64 bf, .int .i64 bo, .int .i64 bp, .int .i64 1, .int .i64 rb, .int .i64 rc, .int .i64 rj]] W fun e w' => e = .returned (.tuple #[.int .i64 A, .int .i64 0]) ∧ Below W.heap.size W w' from HS)
            have HS1 := Lib.hid (show ∀ W, Calls Tryz.prog 20 #[.agg #[.int .i64 cap, .int .i64 pri, .int .i64 spl, .int .i64 (dl + 1), .int .i64 mis, .int .i64 keep, .int .i64 lt, .int .i64 lu, .int .i64 bf, .int .i64 bo, .int .i64 bp, .int .i64 1, .int .i64 rb, .int .i64 rc, .int .i64 rj]] W fun e w' => e = .returned (.tuple #[.int .i64 (A + 2), .int .i64 0]) ∧ Below W.heap.size W w' from HS1)
            clear hP env
            go_enter Tryz.func7, Tryz.ntmps7
            go_upto_region 1 with (fail)
            rw [show (w.alloc (.cells #[.int .i64 cap, .int .i64 pri, .int .i64 spl, .int .i64 dl, .int .i64 mis, .int .i64 keep, .int .i64 lt, .int .i64 lu, .int .i64 bf, .int .i64 bo, .int .i64 bp, .int .i64 1, .int .i64 rb, .int .i64 rc, .int .i64 rj] 29)) = W0 from hW0.symm, ← hg]
            have Hg := Lib.hid hg
            clear hW0 hg
            have u0 : W0.cell? ⟨g, 0, none⟩ = some (.int .i64 cap) := S0.out.cell 0 _ (by rw [HPP.out]; rfl)
            have u1 : W0.cell? ⟨g, 1, none⟩ = some (.int .i64 pri) := S0.out.cell 1 _ (by rw [HPP.out]; rfl)
            have u2 : W0.cell? ⟨g, 2, none⟩ = some (.int .i64 spl) := S0.out.cell 2 _ (by rw [HPP.out]; rfl)
            have u3 : W0.cell? ⟨g, 3, none⟩ = some (.int .i64 dl) := S0.out.cell 3 _ (by rw [HPP.out]; rfl)
            have u4 : W0.cell? ⟨g, 4, none⟩ = some (.int .i64 mis) := S0.out.cell 4 _ (by rw [HPP.out]; rfl)
            have u5 : W0.cell? ⟨g, 5, none⟩ = some (.int .i64 keep) := S0.out.cell 5 _ (by rw [HPP.out]; rfl)
            have u6 : W0.cell? ⟨g, 6, none⟩ = some (.int .i64 lt) := S0.out.cell 6 _ (by rw [HPP.out]; rfl)
            have u7 : W0.cell? ⟨g, 7, none⟩ = some (.int .i64 lu) := S0.out.cell 7 _ (by rw [HPP.out]; rfl)
            have u8 : W0.cell? ⟨g, 8, none⟩ = some (.int .i64 bf) := S0.out.cell 8 _ (by rw [HPP.out]; rfl)
            have u9 : W0.cell? ⟨g, 9, none⟩ = some (.int .i64 bo) := S0.out.cell 9 _ (by rw [HPP.out]; rfl)
            have u10 : W0.cell? ⟨g, 10, none⟩ = some (.int .i64 bp) := S0.out.cell 10 _ (by rw [HPP.out]; rfl)
            have u11 : W0.cell? ⟨g, 11, none⟩ = some (.int .i64 1) := S0.out.cell 11 _ (by rw [HPP.out]; rfl)
            have u12 : W0.cell? ⟨g, 12, none⟩ = some (.int .i64 rb) := S0.out.cell 12 _ (by rw [HPP.out]; rfl)
            have u13 : W0.cell? ⟨g, 13, none⟩ = some (.int .i64 rc) := S0.out.cell 13 _ (by rw [HPP.out]; rfl)
            have u14 : W0.cell? ⟨g, 14, none⟩ = some (.int .i64 rj) := S0.out.cell 14 _ (by rw [HPP.out]; rfl)
            go_wp2_with fail
            refine (HS.out _).mono ?_
            rintro e w1 ⟨rfl, c1⟩
            have S1 := Lib.hid (S0.out.low c1)
            have B1 := Lib.hid (B0.out.trans (c1.mono B0.out.size))
            clear c1 S0 B0 u0 u1 u2 u3 u4 u5 u6 u7 u8 u9 u10 u11 u12 u13 u14
            have u0 : w1.cell? ⟨g, 0, none⟩ = some (.int .i64 cap) := S1.out.cell 0 _ (by rw [HPP.out]; rfl)
            have u1 : w1.cell? ⟨g, 1, none⟩ = some (.int .i64 pri) := S1.out.cell 1 _ (by rw [HPP.out]; rfl)
            have u2 : w1.cell? ⟨g, 2, none⟩ = some (.int .i64 spl) := S1.out.cell 2 _ (by rw [HPP.out]; rfl)
            have u3 : w1.cell? ⟨g, 3, none⟩ = some (.int .i64 dl) := S1.out.cell 3 _ (by rw [HPP.out]; rfl)
            have u4 : w1.cell? ⟨g, 4, none⟩ = some (.int .i64 mis) := S1.out.cell 4 _ (by rw [HPP.out]; rfl)
            have u5 : w1.cell? ⟨g, 5, none⟩ = some (.int .i64 keep) := S1.out.cell 5 _ (by rw [HPP.out]; rfl)
            have u6 : w1.cell? ⟨g, 6, none⟩ = some (.int .i64 lt) := S1.out.cell 6 _ (by rw [HPP.out]; rfl)
            have u7 : w1.cell? ⟨g, 7, none⟩ = some (.int .i64 lu) := S1.out.cell 7 _ (by rw [HPP.out]; rfl)
            have u8 : w1.cell? ⟨g, 8, none⟩ = some (.int .i64 bf) := S1.out.cell 8 _ (by rw [HPP.out]; rfl)
            have u9 : w1.cell? ⟨g, 9, none⟩ = some (.int .i64 bo) := S1.out.cell 9 _ (by rw [HPP.out]; rfl)
            have u10 : w1.cell? ⟨g, 10, none⟩ = some (.int .i64 bp) := S1.out.cell 10 _ (by rw [HPP.out]; rfl)
            have u11 : w1.cell? ⟨g, 11, none⟩ = some (.int .i64 1) := S1.out.cell 11 _ (by rw [HPP.out]; rfl)
            have u12 : w1.cell? ⟨g, 12, none⟩ = some (.int .i64 rb) := S1.out.cell 12 _ (by rw [HPP.out]; rfl)
            have u13 : w1.cell? ⟨g, 13, none⟩ = some (.int .i64 rc) := S1.out.cell 13 _ (by rw [HPP.out]; rfl)
            have u14 : w1.cell? ⟨g, 14, none⟩ = some (.int .i64 rj) := S1.out.cell 14 _ (by rw [HPP.out]; rfl)
            go_wp2_with fail
            refine (HC.out _).mono ?_
            rintro e w2 ⟨rfl, c2⟩
            have S2 := Lib.hid (S1.out.low c2)
            have B2 := Lib.hid (B1.out.trans (c2.mono B1.out.size))
            clear c2 S1 B1 u0 u1 u2 u3 u4 u5 u6 u7 u8 u9 u10 u11 u12 u13 u14
            have u0 : w2.cell? ⟨g, 0, none⟩ = some (.int .i64 cap) := S2.out.cell 0 _ (by rw [HPP.out]; rfl)
            have u1 : w2.cell? ⟨g, 1, none⟩ = some (.int .i64 pri) := S2.out.cell 1 _ (by rw [HPP.out]; rfl)
            have u2 : w2.cell? ⟨g, 2, none⟩ = some (.int .i64 spl) := S2.out.cell 2 _ (by rw [HPP.out]; rfl)
            have u3 : w2.cell? ⟨g, 3, none⟩ = some (.int .i64 dl) := S2.out.cell 3 _ (by rw [HPP.out]; rfl)
            have u4 : w2.cell? ⟨g, 4, none⟩ = some (.int .i64 mis) := S2.out.cell 4 _ (by rw [HPP.out]; rfl)
            have u5 : w2.cell? ⟨g, 5, none⟩ = some (.int .i64 keep) := S2.out.cell 5 _ (by rw [HPP.out]; rfl)
            have u6 : w2.cell? ⟨g, 6, none⟩ = some (.int .i64 lt) := S2.out.cell 6 _ (by rw [HPP.out]; rfl)
            have u7 : w2.cell? ⟨g, 7, none⟩ = some (.int .i64 lu) := S2.out.cell 7 _ (by rw [HPP.out]; rfl)
            have u8 : w2.cell? ⟨g, 8, none⟩ = some (.int .i64 bf) := S2.out.cell 8 _ (by rw [HPP.out]; rfl)
            have u9 : w2.cell? ⟨g, 9, none⟩ = some (.int .i64 bo) := S2.out.cell 9 _ (by rw [HPP.out]; rfl)
            have u10 : w2.cell? ⟨g, 10, none⟩ = some (.int .i64 bp) := S2.out.cell 10 _ (by rw [HPP.out]; rfl)
            have u11 : w2.cell? ⟨g, 11, none⟩ = some (.int .i64 1) := S2.out.cell 11 _ (by rw [HPP.out]; rfl)
            have u12 : w2.cell? ⟨g, 12, none⟩ = some (.int .i64 rb) := S2.out.cell 12 _ (by rw [HPP.out]; rfl)
            have u13 : w2.cell? ⟨g, 13, none⟩ = some (.int .i64 rc) := S2.out.cell 13 _ (by rw [HPP.out]; rfl)
            have u14 : w2.cell? ⟨g, 14, none⟩ = some (.int .i64 rj) := S2.out.cell 14 _ (by rw [HPP.out]; rfl)
            go_wp2_with fail
            refine (HS1.out _).mono ?_
            rintro e w3 ⟨rfl, c3⟩
            have d3 := ((Below.refl _ w2).alloc (Nat.le_refl _) (.cells #[.int .i64 cap, .int .i64 pri, .int .i64 spl, .int .i64 (dl + 1), .int .i64 mis, .int .i64 keep, .int .i64 lt, .int .i64 lu, .int .i64 bf, .int .i64 bo, .int .i64 bp, .int .i64 1, .int .i64 rb, .int .i64 rc, .int .i64 rj] 29)).trans (c3.mono ((Below.refl _ w2).alloc (Nat.le_refl _) (.cells #[.int .i64 cap, .int .i64 pri, .int .i64 spl, .int .i64 (dl + 1), .int .i64 mis, .int .i64 keep, .int .i64 lt, .int .i64 lu, .int .i64 bf, .int .i64 bo, .int .i64 bp, .int .i64 1, .int .i64 rb, .int .i64 rc, .int .i64 rj] 29)).size)
            have S3 := Lib.hid (S2.out.low d3)
            have B3 := Lib.hid (B2.out.trans (d3.mono B2.out.size))
            clear c3 d3 S2 B2 u0 u1 u2 u3 u4 u5 u6 u7 u8 u9 u10 u11 u12 u13 u14
            have u0 : w3.cell? ⟨g, 0, none⟩ = some (.int .i64 cap) := S3.out.cell 0 _ (by rw [HPP.out]; rfl)
            have u1 : w3.cell? ⟨g, 1, none⟩ = some (.int .i64 pri) := S3.out.cell 1 _ (by rw [HPP.out]; rfl)
            have u2 : w3.cell? ⟨g, 2, none⟩ = some (.int .i64 spl) := S3.out.cell 2 _ (by rw [HPP.out]; rfl)
            have u3 : w3.cell? ⟨g, 3, none⟩ = some (.int .i64 dl) := S3.out.cell 3 _ (by rw [HPP.out]; rfl)
            have u4 : w3.cell? ⟨g, 4, none⟩ = some (.int .i64 mis) := S3.out.cell 4 _ (by rw [HPP.out]; rfl)
            have u5 : w3.cell? ⟨g, 5, none⟩ = some (.int .i64 keep) := S3.out.cell 5 _ (by rw [HPP.out]; rfl)
            have u6 : w3.cell? ⟨g, 6, none⟩ = some (.int .i64 lt) := S3.out.cell 6 _ (by rw [HPP.out]; rfl)
            have u7 : w3.cell? ⟨g, 7, none⟩ = some (.int .i64 lu) := S3.out.cell 7 _ (by rw [HPP.out]; rfl)
            have u8 : w3.cell? ⟨g, 8, none⟩ = some (.int .i64 bf) := S3.out.cell 8 _ (by rw [HPP.out]; rfl)
            have u9 : w3.cell? ⟨g, 9, none⟩ = some (.int .i64 bo) := S3.out.cell 9 _ (by rw [HPP.out]; rfl)
            have u10 : w3.cell? ⟨g, 10, none⟩ = some (.int .i64 bp) := S3.out.cell 10 _ (by rw [HPP.out]; rfl)
            have u11 : w3.cell? ⟨g, 11, none⟩ = some (.int .i64 1) := S3.out.cell 11 _ (by rw [HPP.out]; rfl)
            have u12 : w3.cell? ⟨g, 12, none⟩ = some (.int .i64 rb) := S3.out.cell 12 _ (by rw [HPP.out]; rfl)
            have u13 : w3.cell? ⟨g, 13, none⟩ = some (.int .i64 rc) := S3.out.cell 13 _ (by rw [HPP.out]; rfl)
            have u14 : w3.cell? ⟨g, 14, none⟩ = some (.int .i64 rj) := S3.out.cell 14 _ (by rw [HPP.out]; rfl)
            go_wp2_with fail
            refine (HW.out _ (E0.out.below B3.out)).mono ?_
            rintro e w9 ⟨rfl, c9⟩
            go_wp2_with fail
            go_ret
            exact ⟨rfl, B3.out.trans (c9.mono B3.out.size)⟩
    · by_cases hm : 1 < p.rm
      · as_aux_lemma =>
          have hdl : p.dl = 68719476736 := by omega
          obtain ⟨k1, k2, k3⟩ := f4 hm
          have hbd2 := Lx.span_bd k1
          have HS2 := fun W => span_any { p with rm := p.rm - 1 } W
          rw [show Lx.polE { p with rm := p.rm - 1 } = 0 from by unfold Lx.polE; rw [if_pos k1]] at HS2
          obtain ⟨B, hB⟩ : ∃ B, B = Lx.spanV { p with rm := p.rm - 1 } := ⟨_, rfl⟩
          rw [← hB] at HS2 k2 k3 hbd2
          clear hB k1
          obtain ⟨A, hA⟩ : ∃ A, A = Lx.spanV p := ⟨_, rfl⟩
          rw [← hA] at HS f1 f2 hbd k2 k3
          clear hA
          clear f2 f3 f4 h hE
          obtain ⟨P, hP⟩ : ∃ P, P = p := ⟨_, rfl⟩
          rw [← hP] at S0
          obtain ⟨cap, pri, spl, dl, mis, keep, lt, lu, bf, bo, bp, rm, rb, rc, rj⟩ := p
          dsimp only at *
          have h00 : ¬ rm = 0 := by omega
          subst hdl
          have f5 : (68719476737 : Int) ≤ A := by omega
          have f6 : decide (A < 68719476737) = false := decide_eq_false (by omega)
          show Calls Tryz.prog 7 #[.agg #[.int .i64 cap, .int .i64 pri, .int .i64 spl, .int .i64 68719476736, .int .i64 mis, .int .i64 keep, .int .i64 lt, .int .i64 lu, .int .i64 bf, .int .i64 bo, .int .i64 bp, .int .i64 rm, .int .i64 rb, .int .i64 rc, .int .i64 rj]] w _
          have HPP := Lib.hid hP
          have HC := Lib.hid (show ∀ W, Calls Tryz.prog 19 #[.agg #[.int .i64 cap, .int .i64 pri, .int .i64 spl, .int .i64 68719476736, .int .i64 mis, .int .i64 keep, .int .i64 lt, .int .i64 lu, .int .i64 bf, .int .i64 bo, .int .i64 bp, .int .i64 rm, .int .i64 rb, .int .i64 rc, .int .i64 rj]] W fun e w' => e = .returned (.int .i64 0) ∧ Below W.heap.size W w' from HC)
          have HS := Lib.hid (show ∀ W, Calls Tryz.prog 20 #[.agg #[.int .i64 cap, .int .i64 pri, .int .i64 spl, .int .i64 68719476736, .int .i64 mis, .int .i64 keep, .int .i64 lt, .int .i64 lu, .int .i64 bf, .int .i64 bo, .int .i64 bp, .int .i64 rm, .int .i64 rb, .int .i64 rc, .int .i64 rj]] W fun e w' => e = .returned (.tuple #[.int .i64 A, .int .i64 0]) ∧ Below W.heap.size W w' from HS)
          have HS2 := Lib.hid (show ∀ W, Calls Tryz.prog 20 #[.agg #[.int .i64 cap, .int .i64 pri, .int .i64 spl, .int .i64 68719476736, .int .i64 mis, .int .i64 keep, .int .i64 lt, .int .i64 lu, .int .i64 bf, .int .i64 bo, .int .i64 bp, .int .i64 (rm - 1), .int .i64 rb, .int .i64 rc, .int .i64 rj]] W fun e w' => e = .returned (.tuple #[.int .i64 B, .int .i64 0]) ∧ Below W.heap.size W w' from HS2)
          clear hP env
          go_enter Tryz.func7, Tryz.ntmps7
          go_upto_region 1 with (fail)
          rw [show (w.alloc (.cells #[.int .i64 cap, .int .i64 pri, .int .i64 spl, .int .i64 68719476736, .int .i64 mis, .int .i64 keep, .int .i64 lt, .int .i64 lu, .int .i64 bf, .int .i64 bo, .int .i64 bp, .int .i64 rm, .int .i64 rb, .int .i64 rc, .int .i64 rj] 29)) = W0 from hW0.symm, ← hg]
          have Hg := Lib.hid hg
          clear hW0 hg
          have u0 : W0.cell? ⟨g, 0, none⟩ = some (.int .i64 cap) := S0.out.cell 0 _ (by rw [HPP.out]; rfl)
          have u1 : W0.cell? ⟨g, 1, none⟩ = some (.int .i64 pri) := S0.out.cell 1 _ (by rw [HPP.out]; rfl)
          have u2 : W0.cell? ⟨g, 2, none⟩ = some (.int .i64 spl) := S0.out.cell 2 _ (by rw [HPP.out]; rfl)
          have u3 : W0.cell? ⟨g, 3, none⟩ = some (.int .i64 68719476736) := S0.out.cell 3 _ (by rw [HPP.out]; rfl)
          have u4 : W0.cell? ⟨g, 4, none⟩ = some (.int .i64 mis) := S0.out.cell 4 _ (by rw [HPP.out]; rfl)
          have u5 : W0.cell? ⟨g, 5, none⟩ = some (.int .i64 keep) := S0.out.cell 5 _ (by rw [HPP.out]; rfl)
          have u6 : W0.cell? ⟨g, 6, none⟩ = some (.int .i64 lt) := S0.out.cell 6 _ (by rw [HPP.out]; rfl)
          have u7 : W0.cell? ⟨g, 7, none⟩ = some (.int .i64 lu) := S0.out.cell 7 _ (by rw [HPP.out]; rfl)
          have u8 : W0.cell? ⟨g, 8, none⟩ = some (.int .i64 bf) := S0.out.cell 8 _ (by rw [HPP.out]; rfl)
          have u9 : W0.cell? ⟨g, 9, none⟩ = some (.int .i64 bo) := S0.out.cell 9 _ (by rw [HPP.out]; rfl)
          have u10 : W0.cell? ⟨g, 10, none⟩ = some (.int .i64 bp) := S0.out.cell 10 _ (by rw [HPP.out]; rfl)
          have u11 : W0.cell? ⟨g, 11, none⟩ = some (.int .i64 rm) := S0.out.cell 11 _ (by rw [HPP.out]; rfl)
          have u12 : W0.cell? ⟨g, 12, none⟩ = some (.int .i64 rb) := S0.out.cell 12 _ (by rw [HPP.out]; rfl)
          have u13 : W0.cell? ⟨g, 13, none⟩ = some (.int .i64 rc) := S0.out.cell 13 _ (by rw [HPP.out]; rfl)
          have u14 : W0.cell? ⟨g, 14, none⟩ = some (.int .i64 rj) := S0.out.cell 14 _ (by rw [HPP.out]; rfl)
          go_wp2_with fail
          refine (HS.out _).mono ?_
          rintro e w1 ⟨rfl, c1⟩
          have S1 := Lib.hid (S0.out.low c1)
          have B1 := Lib.hid (B0.out.trans (c1.mono B0.out.size))
          clear c1 S0 B0 u0 u1 u2 u3 u4 u5 u6 u7 u8 u9 u10 u11 u12 u13 u14
          have u0 : w1.cell? ⟨g, 0, none⟩ = some (.int .i64 cap) := S1.out.cell 0 _ (by rw [HPP.out]; rfl)
          have u1 : w1.cell? ⟨g, 1, none⟩ = some (.int .i64 pri) := S1.out.cell 1 _ (by rw [HPP.out]; rfl)
          have u2 : w1.cell? ⟨g, 2, none⟩ = some (.int .i64 spl) := S1.out.cell 2 _ (by rw [HPP.out]; rfl)
          have u3 : w1.cell? ⟨g, 3, none⟩ = some (.int .i64 68719476736) := S1.out.cell 3 _ (by rw [HPP.out]; rfl)
          have u4 : w1.cell? ⟨g, 4, none⟩ = some (.int .i64 mis) := S1.out.cell 4 _ (by rw [HPP.out]; rfl)
          have u5 : w1.cell? ⟨g, 5, none⟩ = some (.int .i64 keep) := S1.out.cell 5 _ (by rw [HPP.out]; rfl)
          have u6 : w1.cell? ⟨g, 6, none⟩ = some (.int .i64 lt) := S1.out.cell 6 _ (by rw [HPP.out]; rfl)
          have u7 : w1.cell? ⟨g, 7, none⟩ = some (.int .i64 lu) := S1.out.cell 7 _ (by rw [HPP.out]; rfl)
          have u8 : w1.cell? ⟨g, 8, none⟩ = some (.int .i64 bf) := S1.out.cell 8 _ (by rw [HPP.out]; rfl)
          have u9 : w1.cell? ⟨g, 9, none⟩ = some (.int .i64 bo) := S1.out.cell 9 _ (by rw [HPP.out]; rfl)
          have u10 : w1.cell? ⟨g, 10, none⟩ = some (.int .i64 bp) := S1.out.cell 10 _ (by rw [HPP.out]; rfl)
          have u11 : w1.cell? ⟨g, 11, none⟩ = some (.int .i64 rm) := S1.out.cell 11 _ (by rw [HPP.out]; rfl)
          have u12 : w1.cell? ⟨g, 12, none⟩ = some (.int .i64 rb) := S1.out.cell 12 _ (by rw [HPP.out]; rfl)
          have u13 : w1.cell? ⟨g, 13, none⟩ = some (.int .i64 rc) := S1.out.cell 13 _ (by rw [HPP.out]; rfl)
          have u14 : w1.cell? ⟨g, 14, none⟩ = some (.int .i64 rj) := S1.out.cell 14 _ (by rw [HPP.out]; rfl)
          go_wp2_with fail
          refine (HC.out _).mono ?_
          rintro e w2 ⟨rfl, c2⟩
          have S2 := Lib.hid (S1.out.low c2)
          have B2 := Lib.hid (B1.out.trans (c2.mono B1.out.size))
          clear c2 S1 B1 u0 u1 u2 u3 u4 u5 u6 u7 u8 u9 u10 u11 u12 u13 u14
          have u0 : w2.cell? ⟨g, 0, none⟩ = some (.int .i64 cap) := S2.out.cell 0 _ (by rw [HPP.out]; rfl)
          have u1 : w2.cell? ⟨g, 1, none⟩ = some (.int .i64 pri) := S2.out.cell 1 _ (by rw [HPP.out]; rfl)
          have u2 : w2.cell? ⟨g, 2, none⟩ = some (.int .i64 spl) := S2.out.cell 2 _ (by rw [HPP.out]; rfl)
          have u3 : w2.cell? ⟨g, 3, none⟩ = some (.int .i64 68719476736) := S2.out.cell 3 _ (by rw [HPP.out]; rfl)
          have u4 : w2.cell? ⟨g, 4, none⟩ = some (.int .i64 mis) := S2.out.cell 4 _ (by rw [HPP.out]; rfl)
          have u5 : w2.cell? ⟨g, 5, none⟩ = some (.int .i64 keep) := S2.out.cell 5 _ (by rw [HPP.out]; rfl)
          have u6 : w2.cell? ⟨g, 6, none⟩ = some (.int .i64 lt) := S2.out.cell 6 _ (by rw [HPP.out]; rfl)
          have u7 : w2.cell? ⟨g, 7, none⟩ = some (.int .i64 lu) := S2.out.cell 7 _ (by rw [HPP.out]; rfl)
          have u8 : w2.cell? ⟨g, 8, none⟩ = some (.int .i64 bf) := S2.out.cell 8 _ (by rw [HPP.out]; rfl)
          have u9 : w2.cell? ⟨g, 9, none⟩ = some (.int .i64 bo) := S2.out.cell 9 _ (by rw [HPP.out]; rfl)
          have u10 : w2.cell? ⟨g, 10, none⟩ = some (.int .i64 bp) := S2.out.cell 10 _ (by rw [HPP.out]; rfl)
          have u11 : w2.cell? ⟨g, 11, none⟩ = some (.int .i64 rm) := S2.out.cell 11 _ (by rw [HPP.out]; rfl)
          have u12 : w2.cell? ⟨g, 12, none⟩ = some (.int .i64 rb) := S2.out.cell 12 _ (by rw [HPP.out]; rfl)
          have u13 : w2.cell? ⟨g, 13, none⟩ = some (.int .i64 rc) := S2.out.cell 13 _ (by rw [HPP.out]; rfl)
          have u14 : w2.cell? ⟨g, 14, none⟩ = some (.int .i64 rj) := S2.out.cell 14 _ (by rw [HPP.out]; rfl)
          go_wp2_with fail
          refine (HS2.out _).mono ?_
          rintro e w3 ⟨rfl, c3⟩
          have d3 := ((Below.refl _ w2).alloc (Nat.le_refl _) (.cells #[.int .i64 cap, .int .i64 pri, .int .i64 spl, .int .i64 68719476736, .int .i64 mis, .int .i64 keep, .int .i64 lt, .int .i64 lu, .int .i64 bf, .int .i64 bo, .int .i64 bp, .int .i64 (rm - 1), .int .i64 rb, .int .i64 rc, .int .i64 rj] 29)).trans (c3.mono ((Below.refl _ w2).alloc (Nat.le_refl _) (.cells #[.int .i64 cap, .int .i64 pri, .int .i64 spl, .int .i64 68719476736, .int .i64 mis, .int .i64 keep, .int .i64 lt, .int .i64 lu, .int .i64 bf, .int .i64 bo, .int .i64 bp, .int .i64 (rm - 1), .int .i64 rb, .int .i64 rc, .int .i64 rj] 29)).size)
          have S3 := Lib.hid (S2.out.low d3)
          have B3 := Lib.hid (B2.out.trans (d3.mono B2.out.size))
          clear c3 d3 S2 B2 u0 u1 u2 u3 u4 u5 u6 u7 u8 u9 u10 u11 u12 u13 u14
          have u0 : w3.cell? ⟨g, 0, none⟩ = some (.int .i64 cap) := S3.out.cell 0 _ (by rw [HPP.out]; rfl)
          have u1 : w3.cell? ⟨g, 1, none⟩ = some (.int .i64 pri) := S3.out.cell 1 _ (by rw [HPP.out]; rfl)
          have u2 : w3.cell? ⟨g, 2, none⟩ = some (.int .i64 spl) := S3.out.cell 2 _ (by rw [HPP.out]; rfl)
          have u3 : w3.cell? ⟨g, 3, none⟩ = some (.int .i64 68719476736) := S3.out.cell 3 _ (by rw [HPP.out]; rfl)
          have u4 : w3.cell? ⟨g, 4, none⟩ = some (.int .i64 mis) := S3.out.cell 4 _ (by rw [HPP.out]; rfl)
          have u5 : w3.cell? ⟨g, 5, none⟩ = some (.int .i64 keep) := S3.out.cell 5 _ (by rw [HPP.out]; rfl)
          have u6 : w3.cell? ⟨g, 6, none⟩ = some (.int .i64 lt) := S3.out.cell 6 _ (by rw [HPP.out]; rfl)
          have u7 : w3.cell? ⟨g, 7, none⟩ = some (.int .i64 lu) := S3.out.cell 7 _ (by rw [HPP.out]; rfl)
          have u8 : w3.cell? ⟨g, 8, none⟩ = some (.int .i64 bf) := S3.out.cell 8 _ (by rw [HPP.out]; rfl)
          have u9 : w3.cell? ⟨g, 9, none⟩ = some (.int .i64 bo) := S3.out.cell 9 _ (by rw [HPP.out]; rfl)
          have u10 : w3.cell? ⟨g, 10, none⟩ = some (.int .i64 bp) := S3.out.cell 10 _ (by rw [HPP.out]; rfl)
          have u11 : w3.cell? ⟨g, 11, none⟩ = some (.int .i64 rm) := S3.out.cell 11 _ (by rw [HPP.out]; rfl)
          have u12 : w3.cell? ⟨g, 12, none⟩ = some (.int .i64 rb) := S3.out.cell 12 _ (by rw [HPP.out]; rfl)
          have u13 : w3.cell? ⟨g, 13, none⟩ = some (.int .i64 rc) := S3.out.cell 13 _ (by rw [HPP.out]; rfl)
          have u14 : w3.cell? ⟨g, 14, none⟩ = some (.int .i64 rj) := S3.out.cell 14 _ (by rw [HPP.out]; rfl)
          go_wp2_with fail
          refine (HW.out _ (E0.out.below B3.out)).mono ?_
          rintro e w9 ⟨rfl, c9⟩
          go_wp2_with fail
          go_ret
          exact ⟨rfl, B3.out.trans (c9.mono B3.out.size)⟩
      · by_cases h0 : p.rm = 0
        · as_aux_lemma =>
            have hdl : p.dl = 68719476736 := by omega
            rw [f2 h0] at HS
            clear f2 f3 f4 h hE
            clear f1 hbd
            obtain ⟨P, hP⟩ : ∃ P, P = p := ⟨_, rfl⟩
            rw [← hP] at S0
            obtain ⟨cap, pri, spl, dl, mis, keep, lt, lu, bf, bo, bp, rm, rb, rc, rj⟩ := p
            dsimp only at *
            subst h0
            subst hdl
            show Calls Tryz.prog 7 #[.agg #[.int .i64 cap, .int .i64 pri, .int .i64 spl, .int .i64 68719476736, .int .i64 mis, .int .i64 keep, .int .i64 lt, .int .i64 lu, .int .i64 bf, .int .i64 bo, .int .i64 bp, .int .i64 0, .int .i64 rb, .int .i64 rc, .int .i64 rj]] w _
            have HPP := Lib.hid hP
            have HC := Lib.hid (show ∀ W, Calls Tryz.prog 19 #[.agg #[.int .i64 cap, .int .i64 pri, .int .i64 spl, .int .i64 68719476736, .int .i64 mis, .int .i64 keep, .int .i64 lt, .int .i64 lu, .int .i64 bf, .int .i64 bo, .int .i64 bp, .int .i64 0, .int .i64 rb, .int .i64 rc, .int .i64 rj]] W fun e w' => e = .returned (.int .i64 0) ∧ Below W.heap.size W w' from HC)
            have HS := Lib.hid (show ∀ W, Calls Tryz.prog 20 #[.agg #[.int .i64 cap, .int .i64 pri, .int .i64 spl, .int .i64 68719476736, .int .i64 mis, .int .i64 keep, .int .i64 lt, .int .i64 lu, .int .i64 bf, .int .i64 bo, .int .i64 bp, .int .i64 0, .int .i64 rb, .int .i64 rc, .int .i64 rj]] W fun e w' => e = .returned (.tuple #[.int .i64 (68719476736 + 1), .int .i64 0]) ∧ Below W.heap.size W w' from HS)
            clear hP env
            go_enter Tryz.func7, Tryz.ntmps7
            go_upto_region 1 with (fail)
            rw [show (w.alloc (.cells #[.int .i64 cap, .int .i64 pri, .int .i64 spl, .int .i64 68719476736, .int .i64 mis, .int .i64 keep, .int .i64 lt, .int .i64 lu, .int .i64 bf, .int .i64 bo, .int .i64 bp, .int .i64 0, .int .i64 rb, .int .i64 rc, .int .i64 rj] 29)) = W0 from hW0.symm, ← hg]
            have Hg := Lib.hid hg
            clear hW0 hg
            have u0 : W0.cell? ⟨g, 0, none⟩ = some (.int .i64 cap) := S0.out.cell 0 _ (by rw [HPP.out]; rfl)
            have u1 : W0.cell? ⟨g, 1, none⟩ = some (.int .i64 pri) := S0.out.cell 1 _ (by rw [HPP.out]; rfl)
            have u2 : W0.cell? ⟨g, 2, none⟩ = some (.int .i64 spl) := S0.out.cell 2 _ (by rw [HPP.out]; rfl)
            have u3 : W0.cell? ⟨g, 3, none⟩ = some (.int .i64 68719476736) := S0.out.cell 3 _ (by rw [HPP.out]; rfl)
            have u4 : W0.cell? ⟨g, 4, none⟩ = some (.int .i64 mis) := S0.out.cell 4 _ (by rw [HPP.out]; rfl)
            have u5 : W0.cell? ⟨g, 5, none⟩ = some (.int .i64 keep) := S0.out.cell 5 _ (by rw [HPP.out]; rfl)
            have u6 : W0.cell? ⟨g, 6, none⟩ = some (.int .i64 lt) := S0.out.cell 6 _ (by rw [HPP.out]; rfl)
            have u7 : W0.cell? ⟨g, 7, none⟩ = some (.int .i64 lu) := S0.out.cell 7 _ (by rw [HPP.out]; rfl)
            have u8 : W0.cell? ⟨g, 8, none⟩ = some (.int .i64 bf) := S0.out.cell 8 _ (by rw [HPP.out]; rfl)
            have u9 : W0.cell? ⟨g, 9, none⟩ = some (.int .i64 bo) := S0.out.cell 9 _ (by rw [HPP.out]; rfl)
            have u10 : W0.cell? ⟨g, 10, none⟩ = some (.int .i64 bp) := S0.out.cell 10 _ (by rw [HPP.out]; rfl)
            have u11 : W0.cell? ⟨g, 11, none⟩ = some (.int .i64 0) := S0.out.cell 11 _ (by rw [HPP.out]; rfl)
            have u12 : W0.cell? ⟨g, 12, none⟩ = some (.int .i64 rb) := S0.out.cell 12 _ (by rw [HPP.out]; rfl)
            have u13 : W0.cell? ⟨g, 13, none⟩ = some (.int .i64 rc) := S0.out.cell 13 _ (by rw [HPP.out]; rfl)
            have u14 : W0.cell? ⟨g, 14, none⟩ = some (.int .i64 rj) := S0.out.cell 14 _ (by rw [HPP.out]; rfl)
            go_wp2_with fail
            refine (HS.out _).mono ?_
            rintro e w1 ⟨rfl, c1⟩
            have S1 := Lib.hid (S0.out.low c1)
            have B1 := Lib.hid (B0.out.trans (c1.mono B0.out.size))
            clear c1 S0 B0 u0 u1 u2 u3 u4 u5 u6 u7 u8 u9 u10 u11 u12 u13 u14
            have u0 : w1.cell? ⟨g, 0, none⟩ = some (.int .i64 cap) := S1.out.cell 0 _ (by rw [HPP.out]; rfl)
            have u1 : w1.cell? ⟨g, 1, none⟩ = some (.int .i64 pri) := S1.out.cell 1 _ (by rw [HPP.out]; rfl)
            have u2 : w1.cell? ⟨g, 2, none⟩ = some (.int .i64 spl) := S1.out.cell 2 _ (by rw [HPP.out]; rfl)
            have u3 : w1.cell? ⟨g, 3, none⟩ = some (.int .i64 68719476736) := S1.out.cell 3 _ (by rw [HPP.out]; rfl)
            have u4 : w1.cell? ⟨g, 4, none⟩ = some (.int .i64 mis) := S1.out.cell 4 _ (by rw [HPP.out]; rfl)
            have u5 : w1.cell? ⟨g, 5, none⟩ = some (.int .i64 keep) := S1.out.cell 5 _ (by rw [HPP.out]; rfl)
            have u6 : w1.cell? ⟨g, 6, none⟩ = some (.int .i64 lt) := S1.out.cell 6 _ (by rw [HPP.out]; rfl)
            have u7 : w1.cell? ⟨g, 7, none⟩ = some (.int .i64 lu) := S1.out.cell 7 _ (by rw [HPP.out]; rfl)
            have u8 : w1.cell? ⟨g, 8, none⟩ = some (.int .i64 bf) := S1.out.cell 8 _ (by rw [HPP.out]; rfl)
            have u9 : w1.cell? ⟨g, 9, none⟩ = some (.int .i64 bo) := S1.out.cell 9 _ (by rw [HPP.out]; rfl)
            have u10 : w1.cell? ⟨g, 10, none⟩ = some (.int .i64 bp) := S1.out.cell 10 _ (by rw [HPP.out]; rfl)
            have u11 : w1.cell? ⟨g, 11, none⟩ = some (.int .i64 0) := S1.out.cell 11 _ (by rw [HPP.out]; rfl)
            have u12 : w1.cell? ⟨g, 12, none⟩ = some (.int .i64 rb) := S1.out.cell 12 _ (by rw [HPP.out]; rfl)
            have u13 : w1.cell? ⟨g, 13, none⟩ = some (.int .i64 rc) := S1.out.cell 13 _ (by rw [HPP.out]; rfl)
            have u14 : w1.cell? ⟨g, 14, none⟩ = some (.int .i64 rj) := S1.out.cell 14 _ (by rw [HPP.out]; rfl)
            go_wp2_with fail
            refine (HC.out _).mono ?_
            rintro e w2 ⟨rfl, c2⟩
            have S2 := Lib.hid (S1.out.low c2)
            have B2 := Lib.hid (B1.out.trans (c2.mono B1.out.size))
            clear c2 S1 B1 u0 u1 u2 u3 u4 u5 u6 u7 u8 u9 u10 u11 u12 u13 u14
            have u0 : w2.cell? ⟨g, 0, none⟩ = some (.int .i64 cap) := S2.out.cell 0 _ (by rw [HPP.out]; rfl)
            have u1 : w2.cell? ⟨g, 1, none⟩ = some (.int .i64 pri) := S2.out.cell 1 _ (by rw [HPP.out]; rfl)
            have u2 : w2.cell? ⟨g, 2, none⟩ = some (.int .i64 spl) := S2.out.cell 2 _ (by rw [HPP.out]; rfl)
            have u3 : w2.cell? ⟨g, 3, none⟩ = some (.int .i64 68719476736) := S2.out.cell 3 _ (by rw [HPP.out]; rfl)
            have u4 : w2.cell? ⟨g, 4, none⟩ = some (.int .i64 mis) := S2.out.cell 4 _ (by rw [HPP.out]; rfl)
            have u5 : w2.cell? ⟨g, 5, none⟩ = some (.int .i64 keep) := S2.out.cell 5 _ (by rw [HPP.out]; rfl)
            have u6 : w2.cell? ⟨g, 6, none⟩ = some (.int .i64 lt) := S2.out.cell 6 _ (by rw [HPP.out]; rfl)
            have u7 : w2.cell? ⟨g, 7, none⟩ = some (.int .i64 lu) := S2.out.cell 7 _ (by rw [HPP.out]; rfl)
            have u8 : w2.cell? ⟨g, 8, none⟩ = some (.int .i64 bf) := S2.out.cell 8 _ (by rw [HPP.out]; rfl)
            have u9 : w2.cell? ⟨g, 9, none⟩ = some (.int .i64 bo) := S2.out.cell 9 _ (by rw [HPP.out]; rfl)
            have u10 : w2.cell? ⟨g, 10, none⟩ = some (.int .i64 bp) := S2.out.cell 10 _ (by rw [HPP.out]; rfl)
            have u11 : w2.cell? ⟨g, 11, none⟩ = some (.int .i64 0) := S2.out.cell 11 _ (by rw [HPP.out]; rfl)
            have u12 : w2.cell? ⟨g, 12, none⟩ = some (.int .i64 rb) := S2.out.cell 12 _ (by rw [HPP.out]; rfl)
            have u13 : w2.cell? ⟨g, 13, none⟩ = some (.int .i64 rc) := S2.out.cell 13 _ (by rw [HPP.out]; rfl)
            have u14 : w2.cell? ⟨g, 14, none⟩ = some (.int .i64 rj) := S2.out.cell 14 _ (by rw [HPP.out]; rfl)
            go_wp2_with fail
            refine (HW.out _ (E0.out.below B2.out)).mono ?_
            rintro e w9 ⟨rfl, c9⟩
            go_wp2_with fail
            go_ret
            exact ⟨rfl, B2.out.trans (c9.mono B2.out.size)⟩
        · as_aux_lemma =>
            have hdl : p.dl = 68719476736 := by omega
            have hr : p.rm = 1 := by omega
            obtain ⟨A, hA⟩ : ∃ A, A = Lx.spanV p := ⟨_, rfl⟩
            rw [← hA] at HS f1 f2 hbd
            clear hA
            clear f2 f3 f4 h hE
            obtain ⟨P, hP⟩ : ∃ P, P = p := ⟨_, rfl⟩
            rw [← hP] at S0
            obtain ⟨cap, pri, spl, dl, mis, keep, lt, lu, bf, bo, bp, rm, rb, rc, rj⟩ := p
            dsimp only at *
            subst hr
            subst hdl
            have f5 : (68719476737 : Int) ≤ A := by omega
            have f6 : decide (A < 68719476737) = false := decide_eq_false (by omega)
            show Calls Tryz.prog 7 #[.agg #[.int .i64 cap, .int .i64 pri, .int .i64 spl, .int .i64 68719476736, .int .i64 mis, .int .i64 keep, .int .i64 lt, .int .i64 lu, .int .i64 bf, .int .i64 bo, .int .i64 bp, .int .i64 1, .int .i64 rb, .int .i64 rc, .int .i64 rj]] w _
            have HPP := Lib.hid hP
            have HC := Lib.hid (show ∀ W, Calls Tryz.prog 19 #[.agg #[.int .i64 cap, .int .i64 pri, .int .i64 spl, .int .i64 68719476736, .int .i64 mis, .int .i64 keep, .int .i64 lt, .int .i64 lu, .int .i64 bf, .int .i64 bo, .int .i64 bp, .int .i64 1, .int .i64 rb, .int .i64 rc, .int .i64 rj]] W fun e w' => e = .returned (.int .i64 0) ∧ Below W.heap.size W w' from HC)
            have HS := Lib.hid (show ∀ W, Calls Tryz.prog 20 #[.agg #[.int .i64 cap, .int .i64 pri, .int .i64 spl, .int .i64 68719476736, .int .i64 mis, .int .i64 keep, .int .i64 lt, .int .i64 lu, .int .i64 bf, .int .i64 bo, .int .i64 bp, .int .i64 1, .int .i64 rb, .int .i64 rc, .int .i64 rj]] W fun e w' => e = .returned (.tuple #[.int .i64 A, .int .i64 0]) ∧ Below W.heap.size W w' from HS)
            clear hP env
            go_enter Tryz.func7, Tryz.ntmps7
            go_upto_region 1 with (fail)
            rw [show (w.alloc (.cells #[.int .i64 cap, .int .i64 pri, .int .i64 spl, .int .i64 68719476736, .int .i64 mis, .int .i64 keep, .int .i64 lt, .int .i64 lu, .int .i64 bf, .int .i64 bo, .int .i64 bp, .int .i64 1, .int .i64 rb, .int .i64 rc, .int .i64 rj] 29)) = W0 from hW0.symm, ← hg]
            have Hg := Lib.hid hg
            clear hW0 hg
            have u0 : W0.cell? ⟨g, 0, none⟩ = some (.int .i64 cap) := S0.out.cell 0 _ (by rw [HPP.out]; rfl)
            have u1 : W0.cell? ⟨g, 1, none⟩ = some (.int .i64 pri) := S0.out.cell 1 _ (by rw [HPP.out]; rfl)
            have u2 : W0.cell? ⟨g, 2, none⟩ = some (.int .i64 spl) := S0.out.cell 2 _ (by rw [HPP.out]; rfl)
            have u3 : W0.cell? ⟨g, 3, none⟩ = some (.int .i64 68719476736) := S0.out.cell 3 _ (by rw [HPP.out]; rfl)
            have u4 : W0.cell? ⟨g, 4, none⟩ = some (.int .i64 mis) := S0.out.cell 4 _ (by rw [HPP.out]; rfl)
            have u5 : W0.cell? ⟨g, 5, none⟩ = some (.int .i64 keep) := S0.out.cell 5 _ (by rw [HPP.out]; rfl)
            have u6 : W0.cell? ⟨g, 6, none⟩ = some (.int .i64 lt) := S0.out.cell 6 _ (by rw [HPP.out]; rfl)
            have u7 : W0.cell? ⟨g, 7, none⟩ = some (.int .i64 lu) := S0.out.cell 7 _ (by rw [HPP.out]; rfl)
            have u8 : W0.cell? ⟨g, 8, none⟩ = some (.int .i64 bf) := S0.out.cell 8 _ (by rw [HPP.out]; rfl)
            have u9 : W0.cell? ⟨g, 9, none⟩ = some (.int .i64 bo) := S0.out.cell 9 _ (by rw [HPP.out]; rfl)
            have u10 : W0.cell? ⟨g, 10, none⟩ = some (.int .i64 bp) := S0.out.cell 10 _ (by rw [HPP.out]; rfl)
            have u11 : W0.cell? ⟨g, 11, none⟩ = some (.int .i64 1) := S0.out.cell 11 _ (by rw [HPP.out]; rfl)
            have u12 : W0.cell? ⟨g, 12, none⟩ = some (.int .i64 rb) := S0.out.cell 12 _ (by rw [HPP.out]; rfl)
            have u13 : W0.cell? ⟨g, 13, none⟩ = some (.int .i64 rc) := S0.out.cell 13 _ (by rw [HPP.out]; rfl)
            have u14 : W0.cell? ⟨g, 14, none⟩ = some (.int .i64 rj) := S0.out.cell 14 _ (by rw [HPP.out]; rfl)
            go_wp2_with fail
            refine (HS.out _).mono ?_
            rintro e w1 ⟨rfl, c1⟩
            have S1 := Lib.hid (S0.out.low c1)
            have B1 := Lib.hid (B0.out.trans (c1.mono B0.out.size))
            clear c1 S0 B0 u0 u1 u2 u3 u4 u5 u6 u7 u8 u9 u10 u11 u12 u13 u14
            have u0 : w1.cell? ⟨g, 0, none⟩ = some (.int .i64 cap) := S1.out.cell 0 _ (by rw [HPP.out]; rfl)
            have u1 : w1.cell? ⟨g, 1, none⟩ = some (.int .i64 pri) := S1.out.cell 1 _ (by rw [HPP.out]; rfl)
            have u2 : w1.cell? ⟨g, 2, none⟩ = some (.int .i64 spl) := S1.out.cell 2 _ (by rw [HPP.out]; rfl)
            have u3 : w1.cell? ⟨g, 3, none⟩ = some (.int .i64 68719476736) := S1.out.cell 3 _ (by rw [HPP.out]; rfl)
            have u4 : w1.cell? ⟨g, 4, none⟩ = some (.int .i64 mis) := S1.out.cell 4 _ (by rw [HPP.out]; rfl)
            have u5 : w1.cell? ⟨g, 5, none⟩ = some (.int .i64 keep) := S1.out.cell 5 _ (by rw [HPP.out]; rfl)
            have u6 : w1.cell? ⟨g, 6, none⟩ = some (.int .i64 lt) := S1.out.cell 6 _ (by rw [HPP.out]; rfl)
            have u7 : w1.cell? ⟨g, 7, none⟩ = some (.int .i64 lu) := S1.out.cell 7 _ (by rw [HPP.out]; rfl)
            have u8 : w1.cell? ⟨g, 8, none⟩ = some (.int .i64 bf) := S1.out.cell 8 _ (by rw [HPP.out]; rfl)
            have u9 : w1.cell? ⟨g, 9, none⟩ = some (.int .i64 bo) := S1.out.cell 9 _ (by rw [HPP.out]; rfl)
            have u10 : w1.cell? ⟨g, 10, none⟩ = some (.int .i64 bp) := S1.out.cell 10 _ (by rw [HPP.out]; rfl)
            have u11 : w1.cell? ⟨g, 11, none⟩ = some (.int .i64 1) := S1.out.cell 11 _ (by rw [HPP.out]; rfl)
            have u12 : w1.cell? ⟨g, 12, none⟩ = some (.int .i64 rb) := S1.out.cell 12 _ (by rw [HPP.out]; rfl)
            have u13 : w1.cell? ⟨g, 13, none⟩ = some (.int .i64 rc) := S1.out.cell 13 _ (by rw [HPP.out]; rfl)
            have u14 : w1.cell? ⟨g, 14, none⟩ = some (.int .i64 rj) := S1.out.cell 14 _ (by rw [HPP.out]; rfl)
            go_wp2_with fail
            refine (HC.out _).mono ?_
            rintro e w2 ⟨rfl, c2⟩
            have S2 := Lib.hid (S1.out.low c2)
            have B2 := Lib.hid (B1.out.trans (c2.mono B1.out.size))
            clear c2 S1 B1 u0 u1 u2 u3 u4 u5 u6 u7 u8 u9 u10 u11 u12 u13 u14
            have u0 : w2.cell? ⟨g, 0, none⟩ = some (.int .i64 cap) := S2.out.cell 0 _ (by rw [HPP.out]; rfl)
            have u1 : w2.cell? ⟨g, 1, none⟩ = some (.int .i64 pri) := S2.out.cell 1 _ (by rw [HPP.out]; rfl)
            have u2 : w2.cell? ⟨g, 2, none⟩ = some (.int .i64 spl) := S2.out.cell 2 _ (by rw [HPP.out]; rfl)
            have u3 : w2.cell? ⟨g, 3, none⟩ = some (.int .i64 68719476736) := S2.out.cell 3 _ (by rw [HPP.out]; rfl)
            have u4 : w2.cell? ⟨g, 4, none⟩ = some (.int .i64 mis) := S2.out.cell 4 _ (by rw [HPP.out]; rfl)
            have u5 : w2.cell? ⟨g, 5, none⟩ = some (.int .i64 keep) := S2.out.cell 5 _ (by rw [HPP.out]; rfl)
            have u6 : w2.cell? ⟨g, 6, none⟩ = some (.int .i64 lt) := S2.out.cell 6 _ (by rw [HPP.out]; rfl)
            have u7 : w2.cell? ⟨g, 7, none⟩ = some (.int .i64 lu) := S2.out.cell 7 _ (by rw [HPP.out]; rfl)
            have u8 : w2.cell? ⟨g, 8, none⟩ = some (.int .i64 bf) := S2.out.cell 8 _ (by rw [HPP.out]; rfl)
            have u9 : w2.cell? ⟨g, 9, none⟩ = some (.int .i64 bo) := S2.out.cell 9 _ (by rw [HPP.out]; rfl)
            have u10 : w2.cell? ⟨g, 10, none⟩ = some (.int .i64 bp) := S2.out.cell 10 _ (by rw [HPP.out]; rfl)
            have u11 : w2.cell? ⟨g, 11, none⟩ = some (.int .i64 1) := S2.out.cell 11 _ (by rw [HPP.out]; rfl)
            have u12 : w2.cell? ⟨g, 12, none⟩ = some (.int .i64 rb) := S2.out.cell 12 _ (by rw [HPP.out]; rfl)
            have u13 : w2.cell? ⟨g, 13, none⟩ = some (.int .i64 rc) := S2.out.cell 13 _ (by rw [HPP.out]; rfl)
            have u14 : w2.cell? ⟨g, 14, none⟩ = some (.int .i64 rj) := S2.out.cell 14 _ (by rw [HPP.out]; rfl)
            go_wp2_with fail
            refine (HW.out _ (E0.out.below B2.out)).mono ?_
            rintro e w9 ⟨rfl, c9⟩
            go_wp2_with fail
            go_ret
            exact ⟨rfl, B2.out.trans (c9.mono B2.out.size)⟩
  · have hE : Lx.polE p = 16 := by unfold Lx.polE; rw [if_neg h]
    have hV : Lx.spanV p = 0 := by unfold Lx.spanV; rw [if_neg h]
    rw [hE] at HC HS
    rw [hV] at HS
    clear hE hV h
    obtain ⟨P, hP⟩ : ∃ P, P = p := ⟨_, rfl⟩
    rw [← hP] at S0
    obtain ⟨cap, pri, spl, dl, mis, keep, lt, lu, bf, bo, bp, rm, rb, rc, rj⟩ := p
    try dsimp only at *
    show Calls Tryz.prog 7 #[.agg #[.int .i64 cap, .int .i64 pri, .int .i64 spl, .int .i64 dl, .int .i64 mis, .int .i64 keep, .int .i64 lt, .int .i64 lu, .int .i64 bf, .int .i64 bo, .int .i64 bp, .int .i64 rm, .int .i64 rb, .int .i64 rc, .int .i64 rj]] w _
    have HPP := Lib.hid hP
    have HC := Lib.hid (show ∀ W, Calls Tryz.prog 19 #[.agg #[.int .i64 cap, .int .i64 pri, .int .i64 spl, .int .i64 dl, .int .i64 mis, .int .i64 keep, .int .i64 lt, .int .i64 lu, .int .i64 bf, .int .i64 bo, .int .i64 bp, .int .i64 rm, .int .i64 rb, .int .i64 rc, .int .i64 rj]] W fun e w' => e = .returned (.int .i64 16) ∧ Below W.heap.size W w' from HC)
    have HS := Lib.hid (show ∀ W, Calls Tryz.prog 20 #[.agg #[.int .i64 cap, .int .i64 pri, .int .i64 spl, .int .i64 dl, .int .i64 mis, .int .i64 keep, .int .i64 lt, .int .i64 lu, .int .i64 bf, .int .i64 bo, .int .i64 bp, .int .i64 rm, .int .i64 rb, .int .i64 rc, .int .i64 rj]] W fun e w' => e = .returned (.tuple #[.int .i64 0, .int .i64 16]) ∧ Below W.heap.size W w' from HS)
    clear hP env
    go_enter Tryz.func7, Tryz.ntmps7
    go_upto_region 1 with (fail)
    rw [show (w.alloc (.cells #[.int .i64 cap, .int .i64 pri, .int .i64 spl, .int .i64 dl, .int .i64 mis, .int .i64 keep, .int .i64 lt, .int .i64 lu, .int .i64 bf, .int .i64 bo, .int .i64 bp, .int .i64 rm, .int .i64 rb, .int .i64 rc, .int .i64 rj] 29)) = W0 from hW0.symm, ← hg]
    have Hg := Lib.hid hg
    clear hW0 hg
    have u0 : W0.cell? ⟨g, 0, none⟩ = some (.int .i64 cap) := S0.out.cell 0 _ (by rw [HPP.out]; rfl)
    have u1 : W0.cell? ⟨g, 1, none⟩ = some (.int .i64 pri) := S0.out.cell 1 _ (by rw [HPP.out]; rfl)
    have u2 : W0.cell? ⟨g, 2, none⟩ = some (.int .i64 spl) := S0.out.cell 2 _ (by rw [HPP.out]; rfl)
    have u3 : W0.cell? ⟨g, 3, none⟩ = some (.int .i64 dl) := S0.out.cell 3 _ (by rw [HPP.out]; rfl)
    have u4 : W0.cell? ⟨g, 4, none⟩ = some (.int .i64 mis) := S0.out.cell 4 _ (by rw [HPP.out]; rfl)
    have u5 : W0.cell? ⟨g, 5, none⟩ = some (.int .i64 keep) := S0.out.cell 5 _ (by rw [HPP.out]; rfl)
    have u6 : W0.cell? ⟨g, 6, none⟩ = some (.int .i64 lt) := S0.out.cell 6 _ (by rw [HPP.out]; rfl)
    have u7 : W0.cell? ⟨g, 7, none⟩ = some (.int .i64 lu) := S0.out.cell 7 _ (by rw [HPP.out]; rfl)
    have u8 : W0.cell? ⟨g, 8, none⟩ = some (.int .i64 bf) := S0.out.cell 8 _ (by rw [HPP.out]; rfl)
    have u9 : W0.cell? ⟨g, 9, none⟩ = some (.int .i64 bo) := S0.out.cell 9 _ (by rw [HPP.out]; rfl)
    have u10 : W0.cell? ⟨g, 10, none⟩ = some (.int .i64 bp) := S0.out.cell 10 _ (by rw [HPP.out]; rfl)
    have u11 : W0.cell? ⟨g, 11, none⟩ = some (.int .i64 rm) := S0.out.cell 11 _ (by rw [HPP.out]; rfl)
    have u12 : W0.cell? ⟨g, 12, none⟩ = some (.int .i64 rb) := S0.out.cell 12 _ (by rw [HPP.out]; rfl)
    have u13 : W0.cell? ⟨g, 13, none⟩ = some (.int .i64 rc) := S0.out.cell 13 _ (by rw [HPP.out]; rfl)
    have u14 : W0.cell? ⟨g, 14, none⟩ = some (.int .i64 rj) := S0.out.cell 14 _ (by rw [HPP.out]; rfl)
    go_wp2_with fail
    refine (HS.out _).mono ?_
    rintro e w1 ⟨rfl, c1⟩
    have S1 := Lib.hid (S0.out.low c1)
    have B1 := Lib.hid (B0.out.trans (c1.mono B0.out.size))
    clear c1 S0 B0 u0 u1 u2 u3 u4 u5 u6 u7 u8 u9 u10 u11 u12 u13 u14
    have u0 : w1.cell? ⟨g, 0, none⟩ = some (.int .i64 cap) := S1.out.cell 0 _ (by rw [HPP.out]; rfl)
    have u1 : w1.cell? ⟨g, 1, none⟩ = some (.int .i64 pri) := S1.out.cell 1 _ (by rw [HPP.out]; rfl)
    have u2 : w1.cell? ⟨g, 2, none⟩ = some (.int .i64 spl) := S1.out.cell 2 _ (by rw [HPP.out]; rfl)
    have u3 : w1.cell? ⟨g, 3, none⟩ = some (.int .i64 dl) := S1.out.cell 3 _ (by rw [HPP.out]; rfl)
    have u4 : w1.cell? ⟨g, 4, none⟩ = some (.int .i64 mis) := S1.out.cell 4 _ (by rw [HPP.out]; rfl)
    have u5 : w1.cell? ⟨g, 5, none⟩ = some (.int .i64 keep) := S1.out.cell 5 _ (by rw [HPP.out]; rfl)
    have u6 : w1.cell? ⟨g, 6, none⟩ = some (.int .i64 lt) := S1.out.cell 6 _ (by rw [HPP.out]; rfl)
    have u7 : w1.cell? ⟨g, 7, none⟩ = some (.int .i64 lu) := S1.out.cell 7 _ (by rw [HPP.out]; rfl)
    have u8 : w1.cell? ⟨g, 8, none⟩ = some (.int .i64 bf) := S1.out.cell 8 _ (by rw [HPP.out]; rfl)
    have u9 : w1.cell? ⟨g, 9, none⟩ = some (.int .i64 bo) := S1.out.cell 9 _ (by rw [HPP.out]; rfl)
    have u10 : w1.cell? ⟨g, 10, none⟩ = some (.int .i64 bp) := S1.out.cell 10 _ (by rw [HPP.out]; rfl)
    have u11 : w1.cell? ⟨g, 11, none⟩ = some (.int .i64 rm) := S1.out.cell 11 _ (by rw [HPP.out]; rfl)
    have u12 : w1.cell? ⟨g, 12, none⟩ = some (.int .i64 rb) := S1.out.cell 12 _ (by rw [HPP.out]; rfl)
    have u13 : w1.cell? ⟨g, 13, none⟩ = some (.int .i64 rc) := S1.out.cell 13 _ (by rw [HPP.out]; rfl)
    have u14 : w1.cell? ⟨g, 14, none⟩ = some (.int .i64 rj) := S1.out.cell 14 _ (by rw [HPP.out]; rfl)
    go_wp2_with fail
    refine (HC.out _).mono ?_
    rintro e w2 ⟨rfl, c2⟩
    have S2 := Lib.hid (S1.out.low c2)
    have B2 := Lib.hid (B1.out.trans (c2.mono B1.out.size))
    clear c2 S1 B1 u0 u1 u2 u3 u4 u5 u6 u7 u8 u9 u10 u11 u12 u13 u14
    have u0 : w2.cell? ⟨g, 0, none⟩ = some (.int .i64 cap) := S2.out.cell 0 _ (by rw [HPP.out]; rfl)
    have u1 : w2.cell? ⟨g, 1, none⟩ = some (.int .i64 pri) := S2.out.cell 1 _ (by rw [HPP.out]; rfl)
    have u2 : w2.cell? ⟨g, 2, none⟩ = some (.int .i64 spl) := S2.out.cell 2 _ (by rw [HPP.out]; rfl)
    have u3 : w2.cell? ⟨g, 3, none⟩ = some (.int .i64 dl) := S2.out.cell 3 _ (by rw [HPP.out]; rfl)
    have u4 : w2.cell? ⟨g, 4, none⟩ = some (.int .i64 mis) := S2.out.cell 4 _ (by rw [HPP.out]; rfl)
    have u5 : w2.cell? ⟨g, 5, none⟩ = some (.int .i64 keep) := S2.out.cell 5 _ (by rw [HPP.out]; rfl)
    have u6 : w2.cell? ⟨g, 6, none⟩ = some (.int .i64 lt) := S2.out.cell 6 _ (by rw [HPP.out]; rfl)
    have u7 : w2.cell? ⟨g, 7, none⟩ = some (.int .i64 lu) := S2.out.cell 7 _ (by rw [HPP.out]; rfl)
    have u8 : w2.cell? ⟨g, 8, none⟩ = some (.int .i64 bf) := S2.out.cell 8 _ (by rw [HPP.out]; rfl)
    have u9 : w2.cell? ⟨g, 9, none⟩ = some (.int .i64 bo) := S2.out.cell 9 _ (by rw [HPP.out]; rfl)
    have u10 : w2.cell? ⟨g, 10, none⟩ = some (.int .i64 bp) := S2.out.cell 10 _ (by rw [HPP.out]; rfl)
    have u11 : w2.cell? ⟨g, 11, none⟩ = some (.int .i64 rm) := S2.out.cell 11 _ (by rw [HPP.out]; rfl)
    have u12 : w2.cell? ⟨g, 12, none⟩ = some (.int .i64 rb) := S2.out.cell 12 _ (by rw [HPP.out]; rfl)
    have u13 : w2.cell? ⟨g, 13, none⟩ = some (.int .i64 rc) := S2.out.cell 13 _ (by rw [HPP.out]; rfl)
    have u14 : w2.cell? ⟨g, 14, none⟩ = some (.int .i64 rj) := S2.out.cell 14 _ (by rw [HPP.out]; rfl)
    go_wp2_with fail
    refine (HW.out _ (E0.out.below B2.out)).mono ?_
    rintro e w9 ⟨rfl, c9⟩
    go_wp2_with fail
    go_ret
    exact ⟨rfl, B2.out.trans (c9.mono B2.out.size)⟩

set_option maxRecDepth 100000 in
/-- What the walk gives, for every argument that can be read. -/
theorem contract (H : Type) (enc : TypeId × Value → H) (W : World) (base : Nat) (args : Array Value) (ds gs : List (DataW H)) (before : List MemPlace)
    (hval : ∀ (j : Nat) t v, Tryz.f7.params[j]? = some t → args[j]? = some v → Value.okWide Tryz.prog W .any base t v)
    (hW : DataW.Whole enc Tryz.prog Tryz.f7.params.toList Rows.policySpansSpec.vars false W args.toList ds gs before) (hL : laidMetH Tryz.prog Rows.policySpansRow.laid W) (hsh : W.ShapedOpen Tryz.prog) :
    Calls Tryz.prog 7 args W fun e W' => ∃ v, e = .returned v ∧ Rows.policySpansSpec.post enc Tryz.prog Tryz.f7 false true false false W args v W' := by
  have hW' := hW
  obtain ⟨p, q, hA0, hV, rfl, hfz, hnd⟩ := hW
  have hA : DataW.TrodAll enc Tryz.prog W 0 (fun _ => true) true Tryz.f7.params.toList args.toList ds p := hA0
  rw [Tryz.params7] at hA hval
  obtain ⟨v0, vs0, d0, ds0, p0, q0, hargs, rfl, rfl, h0, r0⟩ := trodAll_cons hA
  obtain ⟨rfl, rfl, rfl⟩ := trodAll_nil r0
  obtain rfl : args = #[v0] := by cases args; simp_all
  obtain ⟨rfl, rfl⟩ := trodVars_none hV
  have k0 := h0
  have lt0 : ∀ x ∈ p0, x.block < W.heap.size := by obtain ⟨m, hm⟩ := k0; exact DataW.trod_lt m _ _ _ hm
  obtain ⟨o0, rfl⟩ := isPol_of (hval 0 29 v0 rfl rfl) h0
  clear hA0
  refine (walk o0 W (env_of hL hsh)).mono fun e W' ⟨he, bel⟩ => ?_
  subst he
  exact ⟨_, rfl, _, _, _, [], _, [], hW', trodAll_mk1 (shut_bool Tryz.underlying4 _), (trodAll_cons_mk (Below.trod laidOut (by kernel_rfl) (of_decide_eq_true (by kernel_rfl)) k0 bel lt0) trodAll_mk0), rfl, bel.frame _, fun h => by cases h⟩

set_option maxRecDepth 100000 in
theorem reads (os : Os) {H : Type} (enc : TypeId × Value → H) : ∃ places, DataW.whole enc Tryz.prog ((World.laidAll Tryz.prog os Rows.policySetsRow.laid).forCall (fun _ _ => 0) ⟨#[], #[.agg #[.int .i64 0, .int .i64 0, .int .i64 0, .int .i64 0, .int .i64 0, .int .i64 0, .int .i64 0, .int .i64 0, .int .i64 0, .int .i64 0, .int .i64 0, .int .i64 0, .int .i64 0, .int .i64 0, .int .i64 0]], []⟩).memory Tryz.f7.params.toList Rows.policySpansSpec.vars false (#[.agg #[.int .i64 0, .int .i64 0, .int .i64 0, .int .i64 0, .int .i64 0, .int .i64 0, .int .i64 0, .int .i64 0, .int .i64 0, .int .i64 0, .int .i64 0, .int .i64 0, .int .i64 0, .int .i64 0, .int .i64 0]] : Array Value).toList 8 = some ([.agg [.lit (.int .i64 0), .lit (.int .i64 0), .lit (.int .i64 0), .lit (.int .i64 0), .lit (.int .i64 0), .lit (.int .i64 0), .agg [.lit (.int .i64 0), .lit (.int .i64 0)], .agg [.lit (.int .i64 0), .lit (.int .i64 0), .lit (.int .i64 0)], .agg [.lit (.int .i64 0), .lit (.int .i64 0), .lit (.int .i64 0), .lit (.int .i64 0)]]], [], places) :=
  ⟨[], by kernel_rfl⟩

set_option maxRecDepth 100000 in
theorem lifted (os : Os) (started : os.Started) (H : Type) (enc : TypeId × Value → H) (F : Stop.Interp) :
    ReturnsInHanded {} Tryz.checked os 7 .any ((OpenSpec.ofChange Rows.policySpansSpec).preRow enc Tryz.prog Tryz.f7 Rows.policySpansRow.domain false Rows.policySpansRow.laid) (((OpenSpec.ofChange Rows.policySpansSpec).at F).post enc Tryz.prog Tryz.f7 false true false false) := by
  obtain ⟨places, hx⟩ := reads os enc
  refine returnsInHanded_of_row (C := Tryz.checked) (s := OpenSpec.ofChange Rows.policySpansSpec) own started (by kernel_rfl) Tryz.func7
    (witness_row_atRef (enc := enc) (C := Tryz.checked) false (World.laidAll Tryz.prog os Rows.policySetsRow.laid) #[.agg #[.int .i64 0, .int .i64 0, .int .i64 0, .int .i64 0, .int .i64 0, .int .i64 0, .int .i64 0, .int .i64 0, .int .i64 0, .int .i64 0, .int .i64 0, .int .i64 0, .int .i64 0, .int .i64 0, .int .i64 0]] (World.laidAll_os _ _ _) (door_vars os _) (door_rest os _) (by kernel_rfl)
      (OpenSpec.preRow_of_cond 8 hx (by kernel_rfl) (fun k hk => by cases hk) (by kernel_rfl) (door_laid os _))) ?_
  intro W base args ds gs before hval hW _ _ _ hL hsh _
  exact contract H enc W base args ds gs before hval hW hL hsh

theorem said : Rows.PolicySpansSaid :=
  OpenClaim.holds_of_cond 7 Tryz.f7 rfl rfl rfl rfl rfl rfl rfl ⟨rfl, rfl, rfl, rfl, rfl⟩ rfl rfl rfl rfl rfl (by kernel_rfl) Tryz.func7 (by kernel_rfl)
    (of_decide_eq_true (by kernel_rfl)) (by unfold Func.isWrapper; first | (rw [if_pos (by decide +kernel)]; kernel_rfl) | (rw [if_neg (by decide +kernel)]; exact ⟨rfl, rfl⟩))
    (fun os started H enc _ F => by rw [OpenClaim.pre_eq_preRow]; exact lifted os started H enc F)

theorem plain (f : FuncId) (fn : Func) (hf : Tryz.pinned.checked.prog.funcNamed "wakeman/wakemanlaw14.PolicySpans" = some f) (hfn : Tryz.pinned.checked.prog.funcs[f]? = some fn) :
    Rows.policySpansCard.stood.looks = Tryz.pinned.checked.prog.looks [] ∧ ∀ (j : Nat) t, fn.params[j]? = some t → Tryz.pinned.checked.prog.wantsStandIn t = false := by
  obtain rfl : f = 7 := Option.some.inj ((show Tryz.prog.funcNamed "wakeman/wakemanlaw14.PolicySpans" = some 7 by kernel_rfl).symm.trans hf) |>.symm
  obtain rfl : fn = Tryz.f7 := (Option.some.inj (Tryz.func7.symm.trans hfn)).symm
  refine ⟨by kernel_rfl, fun j t ht => ?_⟩
  rw [Tryz.params7] at ht
  have hm : t ∈ [29] := by
    have := Array.mem_of_getElem? ht
    simpa using this
  have hall : ([29].all fun u => !Tryz.prog.wantsStandIn u) = true := by kernel_rfl
  exact (show Tryz.prog.wantsStandIn t = false by simpa using List.all_eq_true.1 hall t hm)

/-- The card. -/
theorem card : Rows.PolicySpansCardSaid :=
  Claim7.holds_tied_plain_at .later [] _ _ _ _ said (fun _ h => by cases h) (by kernel_rfl) (fun _ h => by cases h) policySpans_row_tie rfl ⟨rfl, rfl⟩ (by kernel_rfl) rfl plain (by kernel_rfl)
end Go.Proofs.YtdpjcbijddgpgaaGreatDoor.lawPolicySpans
