/- PolicyParses: for every text the law returns true; what the call was given reads as before. Conditions: the eight listed variables lie as the program lays them. -/
import Derived.Test.YtdpjcbijddgpgaaGreatDoorUnFrame
import Derived.Test.YtdpjcbijddgpgaaGreatDoorPoM8
import Derived.Test.YtdpjcbijddgpgaaGreatDoorQM2
import Derived.SevenTiedAt
namespace Go.Proofs.YtdpjcbijddgpgaaGreatDoor.lawPolicyParses
open Go.ChangeShapes Go.WideShapes Go.ChangeAt Go.RowKit
set_option maxRecDepth 100000 in
set_option maxHeartbeats 6400000 in
theorem walk (s : ByteArray) (_hs : s.size ≤ maxLen) (w : World) (env : UEnv w) :
    Calls Tryz.prog 4 #[.string s] w fun e w' => e = .returned (.bool true) ∧ Below w.heap.size w w' := by
  have HW := Lib.hid (fun W (E : UEnv W) => pworks_any W E)
  have E0 := Lib.hid env
  have hgl := env.env.lt
  clear env
  by_cases h1 : 600 < s.size
  · have h1i : (600 : Int) < (s.size : Int) := by omega
    by_cases h2 : s.size ≤ 65536
    · have h2i : (s.size : Int) ≤ 65536 := by omega
      go_enter Tryz.func4, Tryz.ntmps4
      go_wp2_with fail
      refine (HW.out _ (E0.out.below (Below.refl w.heap.size w))).mono ?_
      rintro e w9 ⟨rfl, c9⟩
      have B9 := (Below.refl w.heap.size w).trans (c9.mono (Below.refl w.heap.size w).size)
      go_wp2_with fail
      go_ret
      exact ⟨rfl, B9⟩
    have h2i : decide ((s.size : Int) ≤ 65536) = false := decide_eq_false (by omega)
    by_cases h3 : 65556 < s.size
    · have h3i : (65556 : Int) < (s.size : Int) := by omega
      go_enter Tryz.func4, Tryz.ntmps4
      go_wp2_with fail
      refine (HW.out _ (E0.out.below (Below.refl w.heap.size w))).mono ?_
      rintro e w9 ⟨rfl, c9⟩
      have B9 := (Below.refl w.heap.size w).trans (c9.mono (Below.refl w.heap.size w).size)
      go_wp2_with fail
      go_ret
      exact ⟨rfl, B9⟩
    have h3i : decide ((65556 : Int) < (s.size : Int)) = false := decide_eq_false (by omega)
    have HG := Lib.hid (fun W (E : UEnv W) => polParse_any s (by omega) W E)
    have HR := Lib.hid (fun W (h : Tryz.prog.globals.size ≤ W.heap.size) => q14parse_any s (by omega) W h)
    generalize Lx.parP s = R at HG HR
    obtain ⟨q, n, x⟩ := R
    obtain ⟨Q, hQ⟩ : ∃ Q, Q = q := ⟨_, rfl⟩
    obtain ⟨cap2, pri2, spl2, dl2, mis2, keep2, lt2, lu2, bf2, bo2, bp2, rm2, rb2, rc2, rj2⟩ := q
    have HQ := Lib.hid hQ
    have HQv := Lib.hid (show Q.val = .agg #[.int .i64 cap2, .int .i64 pri2, .int .i64 spl2, .int .i64 dl2, .int .i64 mis2, .int .i64 keep2, .int .i64 lt2, .int .i64 lu2, .int .i64 bf2, .int .i64 bo2, .int .i64 bp2, .int .i64 rm2, .int .i64 rb2, .int .i64 rc2, .int .i64 rj2] from by rw [hQ]; rfl)
    clear hQ
    have HG := Lib.hid (show ∀ W, UEnv W → Calls Tryz.prog 16 #[.string s] W fun e w' => e = .returned (.tuple #[.agg #[.int .i64 cap2, .int .i64 pri2, .int .i64 spl2, .int .i64 dl2, .int .i64 mis2, .int .i64 keep2, .int .i64 lt2, .int .i64 lu2, .int .i64 bf2, .int .i64 bo2, .int .i64 bp2, .int .i64 rm2, .int .i64 rb2, .int .i64 rc2, .int .i64 rj2], .int .i64 n, .int .i64 x]) ∧ Below W.heap.size W w' from HG.out)
    have HR := Lib.hid (show ∀ W, Tryz.prog.globals.size ≤ W.heap.size → Calls Tryz.prog 17 #[.string s] W fun e w' => e = .returned (.tuple #[.agg #[.int .i64 cap2, .int .i64 pri2, .int .i64 spl2, .int .i64 dl2, .int .i64 mis2, .int .i64 keep2, .int .i64 lt2, .int .i64 lu2, .int .i64 bf2, .int .i64 bo2, .int .i64 bp2, .int .i64 rm2, .int .i64 rb2, .int .i64 rc2, .int .i64 rj2], .int .i64 n, .int .i64 x]) ∧ Below W.heap.size W w' from HR.out)
    have B0 := Lib.hid (Below.refl w.heap.size w)
    go_enter Tryz.func4, Tryz.ntmps4
    go_wp2_with fail
    refine (HG.out _ (E0.out.below B0.out)).mono ?_
    rintro e w1 ⟨rfl, c1⟩
    obtain ⟨W2, hW2⟩ : ∃ W2, W2 = (w1.alloc (.cells #[.int .i64 cap2, .int .i64 pri2, .int .i64 spl2, .int .i64 dl2, .int .i64 mis2, .int .i64 keep2, .int .i64 lt2, .int .i64 lu2, .int .i64 bf2, .int .i64 bo2, .int .i64 bp2, .int .i64 rm2, .int .i64 rb2, .int .i64 rc2, .int .i64 rj2] 29)) := ⟨_, rfl⟩
    obtain ⟨g7, hg7⟩ : ∃ g, g = w1.heap.size := ⟨_, rfl⟩
    have b1 := B0.out.trans (c1.mono B0.out.size)
    have c2 : Below w1.heap.size w1 W2 := by rw [hW2]; exact (Below.refl _ _).alloc (Nat.le_refl _) _
    have B2 := Lib.hid (b1.trans (c2.mono b1.size))
    have Q2 := Lib.hid (show Lx.PSt g7 W2 W2 Q from by rw [hg7, hW2, HQ.out]; exact Lx.PSt.new w1 (Nat.le_trans hgl b1.size) ⟨cap2, pri2, spl2, dl2, mis2, keep2, lt2, lu2, bf2, bo2, bp2, rm2, rb2, rc2, rj2⟩)
    clear c1 c2 b1
    go_upto_region 4 with (fail)
    rw [show (w1.alloc (.cells #[.int .i64 cap2, .int .i64 pri2, .int .i64 spl2, .int .i64 dl2, .int .i64 mis2, .int .i64 keep2, .int .i64 lt2, .int .i64 lu2, .int .i64 bf2, .int .i64 bo2, .int .i64 bp2, .int .i64 rm2, .int .i64 rb2, .int .i64 rc2, .int .i64 rj2] 29)) = W2 from hW2.symm, ← hg7]
    clear hW2 hg7
    go_wp2_with fail
    refine (HR.out _ (Nat.le_trans hgl B2.out.size)).mono ?_
    rintro e w3 ⟨rfl, c3⟩
    obtain ⟨W4, hW4⟩ : ∃ W4, W4 = (w3.alloc (.cells #[.int .i64 cap2, .int .i64 pri2, .int .i64 spl2, .int .i64 dl2, .int .i64 mis2, .int .i64 keep2, .int .i64 lt2, .int .i64 lu2, .int .i64 bf2, .int .i64 bo2, .int .i64 bp2, .int .i64 rm2, .int .i64 rb2, .int .i64 rc2, .int .i64 rj2] 29)) := ⟨_, rfl⟩
    obtain ⟨g9, hg9⟩ : ∃ g, g = w3.heap.size := ⟨_, rfl⟩
    have b3 := B2.out.trans (c3.mono B2.out.size)
    have c4 : Below w3.heap.size w3 W4 := by rw [hW4]; exact (Below.refl _ _).alloc (Nat.le_refl _) _
    have B4 := Lib.hid (b3.trans (c4.mono b3.size))
    have Q4 := Lib.hid ((Q2.out.low c3).low c4)
    have R4 := Lib.hid (show Lx.PSt g9 W4 W4 Q from by rw [hg9, hW4, HQ.out]; exact Lx.PSt.new w3 (Nat.le_trans hgl b3.size) ⟨cap2, pri2, spl2, dl2, mis2, keep2, lt2, lu2, bf2, bo2, bp2, rm2, rb2, rc2, rj2⟩)
    clear c3 c4 b3 Q2
    go_upto_region 5 with (fail)
    rw [show (w3.alloc (.cells #[.int .i64 cap2, .int .i64 pri2, .int .i64 spl2, .int .i64 dl2, .int .i64 mis2, .int .i64 keep2, .int .i64 lt2, .int .i64 lu2, .int .i64 bf2, .int .i64 bo2, .int .i64 bp2, .int .i64 rm2, .int .i64 rb2, .int .i64 rc2, .int .i64 rj2] 29)) = W4 from hW4.symm, ← hg9]
    clear hW4 hg9
    have heq : (Op.equalIn 10000 29 Q.val Q.val).run Tryz.prog W4 = .ok true W4 := eqPol_self Q W4
    rw [HQv.out] at heq
    have u0 : W4.cell? ⟨g7, 0, none⟩ = some (.int .i64 cap2) := Q4.out.cell 0 _ (by rw [HQ.out]; rfl)
    have u1 : W4.cell? ⟨g7, 1, none⟩ = some (.int .i64 pri2) := Q4.out.cell 1 _ (by rw [HQ.out]; rfl)
    have u2 : W4.cell? ⟨g7, 2, none⟩ = some (.int .i64 spl2) := Q4.out.cell 2 _ (by rw [HQ.out]; rfl)
    have u3 : W4.cell? ⟨g7, 3, none⟩ = some (.int .i64 dl2) := Q4.out.cell 3 _ (by rw [HQ.out]; rfl)
    have u4 : W4.cell? ⟨g7, 4, none⟩ = some (.int .i64 mis2) := Q4.out.cell 4 _ (by rw [HQ.out]; rfl)
    have u5 : W4.cell? ⟨g7, 5, none⟩ = some (.int .i64 keep2) := Q4.out.cell 5 _ (by rw [HQ.out]; rfl)
    have u6 : W4.cell? ⟨g7, 6, none⟩ = some (.int .i64 lt2) := Q4.out.cell 6 _ (by rw [HQ.out]; rfl)
    have u7 : W4.cell? ⟨g7, 7, none⟩ = some (.int .i64 lu2) := Q4.out.cell 7 _ (by rw [HQ.out]; rfl)
    have u8 : W4.cell? ⟨g7, 8, none⟩ = some (.int .i64 bf2) := Q4.out.cell 8 _ (by rw [HQ.out]; rfl)
    have u9 : W4.cell? ⟨g7, 9, none⟩ = some (.int .i64 bo2) := Q4.out.cell 9 _ (by rw [HQ.out]; rfl)
    have u10 : W4.cell? ⟨g7, 10, none⟩ = some (.int .i64 bp2) := Q4.out.cell 10 _ (by rw [HQ.out]; rfl)
    have u11 : W4.cell? ⟨g7, 11, none⟩ = some (.int .i64 rm2) := Q4.out.cell 11 _ (by rw [HQ.out]; rfl)
    have u12 : W4.cell? ⟨g7, 12, none⟩ = some (.int .i64 rb2) := Q4.out.cell 12 _ (by rw [HQ.out]; rfl)
    have u13 : W4.cell? ⟨g7, 13, none⟩ = some (.int .i64 rc2) := Q4.out.cell 13 _ (by rw [HQ.out]; rfl)
    have u14 : W4.cell? ⟨g7, 14, none⟩ = some (.int .i64 rj2) := Q4.out.cell 14 _ (by rw [HQ.out]; rfl)
    have v0 : W4.cell? ⟨g9, 0, none⟩ = some (.int .i64 cap2) := R4.out.cell 0 _ (by rw [HQ.out]; rfl)
    have v1 : W4.cell? ⟨g9, 1, none⟩ = some (.int .i64 pri2) := R4.out.cell 1 _ (by rw [HQ.out]; rfl)
    have v2 : W4.cell? ⟨g9, 2, none⟩ = some (.int .i64 spl2) := R4.out.cell 2 _ (by rw [HQ.out]; rfl)
    have v3 : W4.cell? ⟨g9, 3, none⟩ = some (.int .i64 dl2) := R4.out.cell 3 _ (by rw [HQ.out]; rfl)
    have v4 : W4.cell? ⟨g9, 4, none⟩ = some (.int .i64 mis2) := R4.out.cell 4 _ (by rw [HQ.out]; rfl)
    have v5 : W4.cell? ⟨g9, 5, none⟩ = some (.int .i64 keep2) := R4.out.cell 5 _ (by rw [HQ.out]; rfl)
    have v6 : W4.cell? ⟨g9, 6, none⟩ = some (.int .i64 lt2) := R4.out.cell 6 _ (by rw [HQ.out]; rfl)
    have v7 : W4.cell? ⟨g9, 7, none⟩ = some (.int .i64 lu2) := R4.out.cell 7 _ (by rw [HQ.out]; rfl)
    have v8 : W4.cell? ⟨g9, 8, none⟩ = some (.int .i64 bf2) := R4.out.cell 8 _ (by rw [HQ.out]; rfl)
    have v9 : W4.cell? ⟨g9, 9, none⟩ = some (.int .i64 bo2) := R4.out.cell 9 _ (by rw [HQ.out]; rfl)
    have v10 : W4.cell? ⟨g9, 10, none⟩ = some (.int .i64 bp2) := R4.out.cell 10 _ (by rw [HQ.out]; rfl)
    have v11 : W4.cell? ⟨g9, 11, none⟩ = some (.int .i64 rm2) := R4.out.cell 11 _ (by rw [HQ.out]; rfl)
    have v12 : W4.cell? ⟨g9, 12, none⟩ = some (.int .i64 rb2) := R4.out.cell 12 _ (by rw [HQ.out]; rfl)
    have v13 : W4.cell? ⟨g9, 13, none⟩ = some (.int .i64 rc2) := R4.out.cell 13 _ (by rw [HQ.out]; rfl)
    have v14 : W4.cell? ⟨g9, 14, none⟩ = some (.int .i64 rj2) := R4.out.cell 14 _ (by rw [HQ.out]; rfl)
    go_wp2_with fail
    refine (HW.out _ (E0.out.below (B4.out))).mono ?_
    rintro e w9 ⟨rfl, c9⟩
    have B9 := (B4.out).trans (c9.mono (B4.out).size)
    go_wp2_with fail
    go_ret
    exact ⟨rfl, B9⟩
  have h1i : (s.size : Int) ≤ 600 := by omega
  have h1d : decide ((600 : Int) < (s.size : Int)) = false := decide_eq_false (by omega)
  have h3i : decide ((65556 : Int) < (s.size : Int)) = false := decide_eq_false (by omega)
  have HG := Lib.hid (fun W (E : UEnv W) => polParse_any s (by omega) W E)
  have HR := Lib.hid (fun W (h : Tryz.prog.globals.size ≤ W.heap.size) => q14parse_any s (by omega) W h)
  generalize Lx.parP s = R at HG HR
  obtain ⟨q, n, x⟩ := R
  obtain ⟨Q, hQ⟩ : ∃ Q, Q = q := ⟨_, rfl⟩
  obtain ⟨cap2, pri2, spl2, dl2, mis2, keep2, lt2, lu2, bf2, bo2, bp2, rm2, rb2, rc2, rj2⟩ := q
  have HQ := Lib.hid hQ
  have HQv := Lib.hid (show Q.val = .agg #[.int .i64 cap2, .int .i64 pri2, .int .i64 spl2, .int .i64 dl2, .int .i64 mis2, .int .i64 keep2, .int .i64 lt2, .int .i64 lu2, .int .i64 bf2, .int .i64 bo2, .int .i64 bp2, .int .i64 rm2, .int .i64 rb2, .int .i64 rc2, .int .i64 rj2] from by rw [hQ]; rfl)
  clear hQ
  have HG := Lib.hid (show ∀ W, UEnv W → Calls Tryz.prog 16 #[.string s] W fun e w' => e = .returned (.tuple #[.agg #[.int .i64 cap2, .int .i64 pri2, .int .i64 spl2, .int .i64 dl2, .int .i64 mis2, .int .i64 keep2, .int .i64 lt2, .int .i64 lu2, .int .i64 bf2, .int .i64 bo2, .int .i64 bp2, .int .i64 rm2, .int .i64 rb2, .int .i64 rc2, .int .i64 rj2], .int .i64 n, .int .i64 x]) ∧ Below W.heap.size W w' from HG.out)
  have HR := Lib.hid (show ∀ W, Tryz.prog.globals.size ≤ W.heap.size → Calls Tryz.prog 17 #[.string s] W fun e w' => e = .returned (.tuple #[.agg #[.int .i64 cap2, .int .i64 pri2, .int .i64 spl2, .int .i64 dl2, .int .i64 mis2, .int .i64 keep2, .int .i64 lt2, .int .i64 lu2, .int .i64 bf2, .int .i64 bo2, .int .i64 bp2, .int .i64 rm2, .int .i64 rb2, .int .i64 rc2, .int .i64 rj2], .int .i64 n, .int .i64 x]) ∧ Below W.heap.size W w' from HR.out)
  have B0 := Lib.hid (Below.refl w.heap.size w)
  go_enter Tryz.func4, Tryz.ntmps4
  go_wp2_with fail
  refine (HG.out _ (E0.out.below B0.out)).mono ?_
  rintro e w1 ⟨rfl, c1⟩
  obtain ⟨W2, hW2⟩ : ∃ W2, W2 = (w1.alloc (.cells #[.int .i64 cap2, .int .i64 pri2, .int .i64 spl2, .int .i64 dl2, .int .i64 mis2, .int .i64 keep2, .int .i64 lt2, .int .i64 lu2, .int .i64 bf2, .int .i64 bo2, .int .i64 bp2, .int .i64 rm2, .int .i64 rb2, .int .i64 rc2, .int .i64 rj2] 29)) := ⟨_, rfl⟩
  obtain ⟨g7, hg7⟩ : ∃ g, g = w1.heap.size := ⟨_, rfl⟩
  have b1 := B0.out.trans (c1.mono B0.out.size)
  have c2 : Below w1.heap.size w1 W2 := by rw [hW2]; exact (Below.refl _ _).alloc (Nat.le_refl _) _
  have B2 := Lib.hid (b1.trans (c2.mono b1.size))
  have Q2 := Lib.hid (show Lx.PSt g7 W2 W2 Q from by rw [hg7, hW2, HQ.out]; exact Lx.PSt.new w1 (Nat.le_trans hgl b1.size) ⟨cap2, pri2, spl2, dl2, mis2, keep2, lt2, lu2, bf2, bo2, bp2, rm2, rb2, rc2, rj2⟩)
  clear c1 c2 b1
  go_upto_region 4 with (fail)
  rw [show (w1.alloc (.cells #[.int .i64 cap2, .int .i64 pri2, .int .i64 spl2, .int .i64 dl2, .int .i64 mis2, .int .i64 keep2, .int .i64 lt2, .int .i64 lu2, .int .i64 bf2, .int .i64 bo2, .int .i64 bp2, .int .i64 rm2, .int .i64 rb2, .int .i64 rc2, .int .i64 rj2] 29)) = W2 from hW2.symm, ← hg7]
  clear hW2 hg7
  go_wp2_with fail
  refine (HR.out _ (Nat.le_trans hgl B2.out.size)).mono ?_
  rintro e w3 ⟨rfl, c3⟩
  obtain ⟨W4, hW4⟩ : ∃ W4, W4 = (w3.alloc (.cells #[.int .i64 cap2, .int .i64 pri2, .int .i64 spl2, .int .i64 dl2, .int .i64 mis2, .int .i64 keep2, .int .i64 lt2, .int .i64 lu2, .int .i64 bf2, .int .i64 bo2, .int .i64 bp2, .int .i64 rm2, .int .i64 rb2, .int .i64 rc2, .int .i64 rj2] 29)) := ⟨_, rfl⟩
  obtain ⟨g9, hg9⟩ : ∃ g, g = w3.heap.size := ⟨_, rfl⟩
  have b3 := B2.out.trans (c3.mono B2.out.size)
  have c4 : Below w3.heap.size w3 W4 := by rw [hW4]; exact (Below.refl _ _).alloc (Nat.le_refl _) _
  have B4 := Lib.hid (b3.trans (c4.mono b3.size))
  have Q4 := Lib.hid ((Q2.out.low c3).low c4)
  have R4 := Lib.hid (show Lx.PSt g9 W4 W4 Q from by rw [hg9, hW4, HQ.out]; exact Lx.PSt.new w3 (Nat.le_trans hgl b3.size) ⟨cap2, pri2, spl2, dl2, mis2, keep2, lt2, lu2, bf2, bo2, bp2, rm2, rb2, rc2, rj2⟩)
  clear c3 c4 b3 Q2
  go_upto_region 5 with (fail)
  rw [show (w3.alloc (.cells #[.int .i64 cap2, .int .i64 pri2, .int .i64 spl2, .int .i64 dl2, .int .i64 mis2, .int .i64 keep2, .int .i64 lt2, .int .i64 lu2, .int .i64 bf2, .int .i64 bo2, .int .i64 bp2, .int .i64 rm2, .int .i64 rb2, .int .i64 rc2, .int .i64 rj2] 29)) = W4 from hW4.symm, ← hg9]
  clear hW4 hg9
  have heq : (Op.equalIn 10000 29 Q.val Q.val).run Tryz.prog W4 = .ok true W4 := eqPol_self Q W4
  rw [HQv.out] at heq
  have u0 : W4.cell? ⟨g7, 0, none⟩ = some (.int .i64 cap2) := Q4.out.cell 0 _ (by rw [HQ.out]; rfl)
  have u1 : W4.cell? ⟨g7, 1, none⟩ = some (.int .i64 pri2) := Q4.out.cell 1 _ (by rw [HQ.out]; rfl)
  have u2 : W4.cell? ⟨g7, 2, none⟩ = some (.int .i64 spl2) := Q4.out.cell 2 _ (by rw [HQ.out]; rfl)
  have u3 : W4.cell? ⟨g7, 3, none⟩ = some (.int .i64 dl2) := Q4.out.cell 3 _ (by rw [HQ.out]; rfl)
  have u4 : W4.cell? ⟨g7, 4, none⟩ = some (.int .i64 mis2) := Q4.out.cell 4 _ (by rw [HQ.out]; rfl)
  have u5 : W4.cell? ⟨g7, 5, none⟩ = some (.int .i64 keep2) := Q4.out.cell 5 _ (by rw [HQ.out]; rfl)
  have u6 : W4.cell? ⟨g7, 6, none⟩ = some (.int .i64 lt2) := Q4.out.cell 6 _ (by rw [HQ.out]; rfl)
  have u7 : W4.cell? ⟨g7, 7, none⟩ = some (.int .i64 lu2) := Q4.out.cell 7 _ (by rw [HQ.out]; rfl)
  have u8 : W4.cell? ⟨g7, 8, none⟩ = some (.int .i64 bf2) := Q4.out.cell 8 _ (by rw [HQ.out]; rfl)
  have u9 : W4.cell? ⟨g7, 9, none⟩ = some (.int .i64 bo2) := Q4.out.cell 9 _ (by rw [HQ.out]; rfl)
  have u10 : W4.cell? ⟨g7, 10, none⟩ = some (.int .i64 bp2) := Q4.out.cell 10 _ (by rw [HQ.out]; rfl)
  have u11 : W4.cell? ⟨g7, 11, none⟩ = some (.int .i64 rm2) := Q4.out.cell 11 _ (by rw [HQ.out]; rfl)
  have u12 : W4.cell? ⟨g7, 12, none⟩ = some (.int .i64 rb2) := Q4.out.cell 12 _ (by rw [HQ.out]; rfl)
  have u13 : W4.cell? ⟨g7, 13, none⟩ = some (.int .i64 rc2) := Q4.out.cell 13 _ (by rw [HQ.out]; rfl)
  have u14 : W4.cell? ⟨g7, 14, none⟩ = some (.int .i64 rj2) := Q4.out.cell 14 _ (by rw [HQ.out]; rfl)
  have v0 : W4.cell? ⟨g9, 0, none⟩ = some (.int .i64 cap2) := R4.out.cell 0 _ (by rw [HQ.out]; rfl)
  have v1 : W4.cell? ⟨g9, 1, none⟩ = some (.int .i64 pri2) := R4.out.cell 1 _ (by rw [HQ.out]; rfl)
  have v2 : W4.cell? ⟨g9, 2, none⟩ = some (.int .i64 spl2) := R4.out.cell 2 _ (by rw [HQ.out]; rfl)
  have v3 : W4.cell? ⟨g9, 3, none⟩ = some (.int .i64 dl2) := R4.out.cell 3 _ (by rw [HQ.out]; rfl)
  have v4 : W4.cell? ⟨g9, 4, none⟩ = some (.int .i64 mis2) := R4.out.cell 4 _ (by rw [HQ.out]; rfl)
  have v5 : W4.cell? ⟨g9, 5, none⟩ = some (.int .i64 keep2) := R4.out.cell 5 _ (by rw [HQ.out]; rfl)
  have v6 : W4.cell? ⟨g9, 6, none⟩ = some (.int .i64 lt2) := R4.out.cell 6 _ (by rw [HQ.out]; rfl)
  have v7 : W4.cell? ⟨g9, 7, none⟩ = some (.int .i64 lu2) := R4.out.cell 7 _ (by rw [HQ.out]; rfl)
  have v8 : W4.cell? ⟨g9, 8, none⟩ = some (.int .i64 bf2) := R4.out.cell 8 _ (by rw [HQ.out]; rfl)
  have v9 : W4.cell? ⟨g9, 9, none⟩ = some (.int .i64 bo2) := R4.out.cell 9 _ (by rw [HQ.out]; rfl)
  have v10 : W4.cell? ⟨g9, 10, none⟩ = some (.int .i64 bp2) := R4.out.cell 10 _ (by rw [HQ.out]; rfl)
  have v11 : W4.cell? ⟨g9, 11, none⟩ = some (.int .i64 rm2) := R4.out.cell 11 _ (by rw [HQ.out]; rfl)
  have v12 : W4.cell? ⟨g9, 12, none⟩ = some (.int .i64 rb2) := R4.out.cell 12 _ (by rw [HQ.out]; rfl)
  have v13 : W4.cell? ⟨g9, 13, none⟩ = some (.int .i64 rc2) := R4.out.cell 13 _ (by rw [HQ.out]; rfl)
  have v14 : W4.cell? ⟨g9, 14, none⟩ = some (.int .i64 rj2) := R4.out.cell 14 _ (by rw [HQ.out]; rfl)
  go_wp2_with fail
  refine (HW.out _ (E0.out.below (B4.out))).mono ?_
  rintro e w9 ⟨rfl, c9⟩
  have B9 := (B4.out).trans (c9.mono (B4.out).size)
  go_wp2_with fail
  go_ret
  exact ⟨rfl, B9⟩

set_option maxRecDepth 100000 in
/-- What the walk gives, for every argument that can be read. -/
theorem contract (H : Type) (enc : TypeId × Value → H) (W : World) (base : Nat) (args : Array Value) (ds gs : List (DataW H)) (before : List MemPlace)
    (hval : ∀ (j : Nat) t v, Tryz.f4.params[j]? = some t → args[j]? = some v → Value.okWide Tryz.prog W .any base t v)
    (hW : DataW.Whole enc Tryz.prog Tryz.f4.params.toList Rows.policyParsesSpec.vars false W args.toList ds gs before) (hL : laidMetH Tryz.prog Rows.policyParsesRow.laid W) (hsh : W.ShapedOpen Tryz.prog) :
    Calls Tryz.prog 4 args W fun e W' => ∃ v, e = .returned v ∧ Rows.policyParsesSpec.post enc Tryz.prog Tryz.f4 false true false false W args v W' := by
  have hW' := hW
  obtain ⟨p, q, hA0, hV, rfl, hfz, hnd⟩ := hW
  have hA : DataW.TrodAll enc Tryz.prog W 0 (fun _ => true) true Tryz.f4.params.toList args.toList ds p := hA0
  rw [Tryz.params4] at hA hval
  obtain ⟨v0, vs0, d0, ds0, p0, q0, hargs, rfl, rfl, h0, r0⟩ := trodAll_cons hA
  obtain ⟨rfl, rfl, rfl⟩ := trodAll_nil r0
  obtain rfl : args = #[v0] := by cases args; simp_all
  obtain ⟨rfl, rfl⟩ := trodVars_none hV
  obtain ⟨s0, rfl, rfl, rfl, w0⟩ := Go.ChangeMaps.open_string Tryz.underlying9 (hval 0 9 v0 rfl rfl) h0
  clear hA0
  refine (walk s0 w0 W (env_of hL hsh)).mono fun e W' ⟨he, bel⟩ => ?_
  subst he
  exact ⟨_, rfl, _, _, _, [], _, [], hW', trodAll_mk1 (shut_bool Tryz.underlying4 _), (trodAll_cons_mk (Go.ChangeMaps.shut_string Tryz.underlying9 w0) trodAll_mk0), rfl, bel.frame _, fun h => by cases h⟩

set_option maxRecDepth 100000 in
theorem reads (os : Os) {H : Type} (enc : TypeId × Value → H) : ∃ places, DataW.whole enc Tryz.prog ((World.laidAll Tryz.prog os Rows.policySetsRow.laid).forCall (fun _ _ => 0) ⟨#[], #[.string ⟨#[]⟩], []⟩).memory Tryz.f4.params.toList Rows.policyParsesSpec.vars false (#[.string ⟨#[]⟩] : Array Value).toList 8 = some ([.lit (.string [])], [], places) :=
  ⟨[], by kernel_rfl⟩

set_option maxRecDepth 100000 in
theorem lifted (os : Os) (started : os.Started) (H : Type) (enc : TypeId × Value → H) (F : Stop.Interp) :
    ReturnsInHanded {} Tryz.checked os 4 .any ((OpenSpec.ofChange Rows.policyParsesSpec).preRow enc Tryz.prog Tryz.f4 Rows.policyParsesRow.domain false Rows.policyParsesRow.laid) (((OpenSpec.ofChange Rows.policyParsesSpec).at F).post enc Tryz.prog Tryz.f4 false true false false) := by
  obtain ⟨places, hx⟩ := reads os enc
  refine returnsInHanded_of_row (C := Tryz.checked) (s := OpenSpec.ofChange Rows.policyParsesSpec) own started (by kernel_rfl) Tryz.func4
    (witness_row_atRef (enc := enc) (C := Tryz.checked) false (World.laidAll Tryz.prog os Rows.policySetsRow.laid) #[.string ⟨#[]⟩] (World.laidAll_os _ _ _) (door_vars os _) (door_rest os _) (by kernel_rfl)
      (OpenSpec.preRow_of_cond 8 hx (by kernel_rfl) (fun k hk => by cases hk) (by kernel_rfl) (door_laid os _))) ?_
  intro W base args ds gs before hval hW _ _ _ hL hsh _
  exact contract H enc W base args ds gs before hval hW hL hsh

theorem said : Rows.PolicyParsesSaid :=
  OpenClaim.holds_of_cond 4 Tryz.f4 rfl rfl rfl rfl rfl rfl rfl ⟨rfl, rfl, rfl, rfl, rfl⟩ rfl rfl rfl rfl rfl (by kernel_rfl) Tryz.func4 (by kernel_rfl)
    (of_decide_eq_true (by kernel_rfl)) (by unfold Func.isWrapper; first | (rw [if_pos (by decide +kernel)]; kernel_rfl) | (rw [if_neg (by decide +kernel)]; exact ⟨rfl, rfl⟩))
    (fun os started H enc _ F => by rw [OpenClaim.pre_eq_preRow]; exact lifted os started H enc F)

theorem plain (f : FuncId) (fn : Func) (hf : Tryz.pinned.checked.prog.funcNamed "wakeman/wakemanlaw14.PolicyParses" = some f) (hfn : Tryz.pinned.checked.prog.funcs[f]? = some fn) :
    Rows.policyParsesCard.stood.looks = Tryz.pinned.checked.prog.looks [] ∧ ∀ (j : Nat) t, fn.params[j]? = some t → Tryz.pinned.checked.prog.wantsStandIn t = false := by
  obtain rfl : f = 4 := Option.some.inj ((show Tryz.prog.funcNamed "wakeman/wakemanlaw14.PolicyParses" = some 4 by kernel_rfl).symm.trans hf) |>.symm
  obtain rfl : fn = Tryz.f4 := (Option.some.inj (Tryz.func4.symm.trans hfn)).symm
  refine ⟨by kernel_rfl, fun j t ht => ?_⟩
  rw [Tryz.params4] at ht
  have hm : t ∈ [9] := by
    have := Array.mem_of_getElem? ht
    simpa using this
  have hall : ([9].all fun u => !Tryz.prog.wantsStandIn u) = true := by kernel_rfl
  exact (show Tryz.prog.wantsStandIn t = false by simpa using List.all_eq_true.1 hall t hm)

/-- The card. -/
theorem card : Rows.PolicyParsesCardSaid :=
  Claim7.holds_tied_plain_at .later [] _ _ _ _ said (fun _ h => by cases h) (by kernel_rfl) (fun _ h => by cases h) policyParses_row_tie rfl ⟨rfl, rfl⟩ (by kernel_rfl) rfl plain (by kernel_rfl)
end Go.Proofs.YtdpjcbijddgpgaaGreatDoor.lawPolicyParses
