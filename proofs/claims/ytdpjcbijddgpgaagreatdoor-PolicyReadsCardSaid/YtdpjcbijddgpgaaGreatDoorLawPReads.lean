/- PolicyReads: for every text the law returns true; what the call was given reads as before. Conditions: the eight listed variables lie as the program lays them. -/
import Derived.Test.YtdpjcbijddgpgaaGreatDoorUnFrame
import Derived.Test.YtdpjcbijddgpgaaGreatDoorPoM8
import Derived.SevenTiedAt
namespace Go.Proofs.YtdpjcbijddgpgaaGreatDoor.lawPolicyReads
open Go.ChangeShapes Go.WideShapes Go.ChangeAt Go.RowKit
set_option maxRecDepth 100000 in
set_option maxHeartbeats 1600000 in
theorem walk (s : ByteArray) (_hs : s.size ≤ maxLen) (w : World) (env : UEnv w) :
    Calls Tryz.prog 6 #[.string s] w fun e w' => e = .returned (.bool true) ∧ Below w.heap.size w w' := by
  have HW := Lib.hid (fun W (E : UEnv W) => pworks_any W E)
  have E0 := Lib.hid env
  have hgl := env.env.lt
  by_cases hbig : 600 < s.size
  · have hbi : (600 : Int) < (s.size : Int) := by omega
    clear env
    go_enter Tryz.func6, Tryz.ntmps6
    go_wp2_with fail
    refine (HW.out _ E0.out).mono ?_
    rintro e w1 ⟨rfl, c1⟩
    go_wp2_with fail
    go_ret
    exact ⟨rfl, c1⟩
  have hbi : (s.size : Int) ≤ 600 := by omega
  have hbd : decide ((600 : Int) < (s.size : Int)) = false := decide_eq_false (by omega)
  have hfact := Lx.parP_facts s
  have HPa := fun W (E : UEnv W) => polParse_any s (by omega) W E
  obtain ⟨⟨q, n, x⟩, hr⟩ : ∃ r, Lx.parP s = r := ⟨_, rfl⟩
  rw [hr] at hfact HPa
  rcases hfact with ⟨h0, hok, hn⟩ | ⟨h0, hq, hn⟩
  · have h0 : x = 0 := h0
    have hn : n = 0 := hn
    have hok : Lx.polOk q = true := hok
    subst h0 hn
    have hE : Lx.polE q = 0 := by unfold Lx.polE; rw [if_pos hok]
    have HC := Lib.hid (show ∀ W, Calls Tryz.prog 19 #[q.val] W fun e w' => e = .returned (.int .i64 0) ∧ Below W.heap.size W w' from fun W => by have := polCheck_any q W; rw [hE] at this; exact this)
    obtain ⟨T, hT⟩ : ∃ T : ByteArray, T = ⟨(Lx.prS q).toArray⟩ := ⟨_, rfl⟩
    have HP := Lib.hid (show ∀ W, UEnv W → Calls Tryz.prog 18 #[q.val] W fun e w' => e = .returned (.tuple #[.string T, .int .i64 0]) ∧ Below W.heap.size W w' from fun W E => by have := polPrint_any q W E; rw [hE, ← hT] at this; exact this)
    have hTs : T.size ≤ 3280 := by rw [Lib.size_eq, hT]; exact Lx.prS_len hok
    have k1 : (⟨#[32]⟩ : ByteArray).size = 1 := rfl
    have n1 : ¬ (9223372036854775807 < 1 + T.size) := by omega
    have n2 : ¬ (9223372036854775807 < 1 + T.size + 1) := by omega
    have hpar := Lx.par_print_bl hok (s := ⟨#[32]⟩ ++ T ++ ⟨#[32]⟩) (by rw [ByteArray.data_append, ByteArray.data_append, hT]; simp)
    have HP2 := fun W (E : UEnv W) => polParse_any (⟨#[32]⟩ ++ T ++ ⟨#[32]⟩) (by rw [ByteArray.size_append, ByteArray.size_append, k1]; omega) W E
    rw [hpar] at HP2
    obtain ⟨P, hP⟩ : ∃ P, P = q := ⟨_, rfl⟩
    rw [← hP] at HC HP
    obtain ⟨cap, pri, spl, dl, mis, keep, lt, lu, bf, bo, bp, rm, rb, rc, rj⟩ := q
    have HPa := Lib.hid (show ∀ W, UEnv W → Calls Tryz.prog 16 #[.string s] W fun e w' => e = .returned (.tuple #[.agg #[.int .i64 cap, .int .i64 pri, .int .i64 spl, .int .i64 dl, .int .i64 mis, .int .i64 keep, .int .i64 lt, .int .i64 lu, .int .i64 bf, .int .i64 bo, .int .i64 bp, .int .i64 rm, .int .i64 rb, .int .i64 rc, .int .i64 rj], .int .i64 0, .int .i64 0]) ∧ Below W.heap.size W w' from HPa)
    have HP2 := Lib.hid (show ∀ W, UEnv W → Calls Tryz.prog 16 #[.string (⟨#[32]⟩ ++ T ++ ⟨#[32]⟩)] W fun e w' => e = .returned (.tuple #[.agg #[.int .i64 cap, .int .i64 pri, .int .i64 spl, .int .i64 dl, .int .i64 mis, .int .i64 keep, .int .i64 lt, .int .i64 lu, .int .i64 bf, .int .i64 bo, .int .i64 bp, .int .i64 rm, .int .i64 rb, .int .i64 rc, .int .i64 rj], .int .i64 0, .int .i64 0]) ∧ Below W.heap.size W w' from HP2)
    have HPP := Lib.hid hP
    have HC := Lib.hid (show ∀ W, Calls Tryz.prog 19 #[.agg #[.int .i64 cap, .int .i64 pri, .int .i64 spl, .int .i64 dl, .int .i64 mis, .int .i64 keep, .int .i64 lt, .int .i64 lu, .int .i64 bf, .int .i64 bo, .int .i64 bp, .int .i64 rm, .int .i64 rb, .int .i64 rc, .int .i64 rj]] W fun e w' => e = .returned (.int .i64 0) ∧ Below W.heap.size W w' from fun W => by have := HC.out W; rw [hP] at this; exact this)
    clear hT hTs hpar hE env hP hr hok hbig
    go_enter Tryz.func6, Tryz.ntmps6
    go_wp2_with fail
    refine (HPa.out _ E0.out).mono ?_
    rintro e w1 ⟨rfl, c1⟩
    obtain ⟨g3, hg3⟩ : ∃ g, g = w1.heap.size := ⟨_, rfl⟩
    obtain ⟨W2, hW2⟩ : ∃ W2, W2 = (w1.alloc (.cells #[.int .i64 cap, .int .i64 pri, .int .i64 spl, .int .i64 dl, .int .i64 mis, .int .i64 keep, .int .i64 lt, .int .i64 lu, .int .i64 bf, .int .i64 bo, .int .i64 bp, .int .i64 rm, .int .i64 rb, .int .i64 rc, .int .i64 rj] 29)) := ⟨_, rfl⟩
    have B2 := Lib.hid (show Below w.heap.size w W2 from by rw [hW2]; exact c1.alloc c1.size _)
    have S2 := Lib.hid (show Lx.PSt g3 W2 W2 P from by rw [hg3, hW2, HPP.out]; exact Lx.PSt.new w1 (Nat.le_trans hgl c1.size) ⟨cap, pri, spl, dl, mis, keep, lt, lu, bf, bo, bp, rm, rb, rc, rj⟩)
    go_upto_region 4 with (fail)
    rw [show (w1.alloc (.cells #[.int .i64 cap, .int .i64 pri, .int .i64 spl, .int .i64 dl, .int .i64 mis, .int .i64 keep, .int .i64 lt, .int .i64 lu, .int .i64 bf, .int .i64 bo, .int .i64 bp, .int .i64 rm, .int .i64 rb, .int .i64 rc, .int .i64 rj] 29)) = W2 from hW2.symm, ← hg3]
    have Hg3 := Lib.hid hg3
    clear hW2 hg3 c1
    go_wp2_with ((with_reducible show wpList _ _ _ _ _ _); refine Lx.wpList_get _ rfl _ rfl g3 rfl S2.out ?_)
    refine (HP.out _ (E0.out.below B2.out)).mono ?_
    rintro e w3 ⟨rfl, c3⟩
    have S3 := Lib.hid (S2.out.low c3)
    have B3 := Lib.hid (B2.out.trans (c3.mono B2.out.size))
    clear c3 S2 B2
    go_wp2_with fail
    refine (HP2.out _ (E0.out.below B3.out)).mono ?_
    rintro e w4 ⟨rfl, c4⟩
    obtain ⟨g8, hg8⟩ : ∃ g, g = w4.heap.size := ⟨_, rfl⟩
    obtain ⟨W5, hW5⟩ : ∃ W5, W5 = (w4.alloc (.cells #[.int .i64 cap, .int .i64 pri, .int .i64 spl, .int .i64 dl, .int .i64 mis, .int .i64 keep, .int .i64 lt, .int .i64 lu, .int .i64 bf, .int .i64 bo, .int .i64 bp, .int .i64 rm, .int .i64 rb, .int .i64 rc, .int .i64 rj] 29)) := ⟨_, rfl⟩
    have b4 := B3.out.trans (c4.mono B3.out.size)
    have c5 : Below w4.heap.size w4 W5 := by rw [hW5]; exact (Below.refl _ _).alloc (Nat.le_refl _) _
    have S5 := Lib.hid ((S3.out.low c4).low c5)
    have B5 := Lib.hid (b4.trans (c5.mono b4.size))
    have Q5 := Lib.hid (show Lx.PSt g8 W5 W5 P from by rw [hg8, hW5, HPP.out]; exact Lx.PSt.new w4 (Nat.le_trans hgl b4.size) ⟨cap, pri, spl, dl, mis, keep, lt, lu, bf, bo, bp, rm, rb, rc, rj⟩)
    clear c4 c5 b4 S3 B3
    go_upto_region 8 with (fail)
    rw [show (w4.alloc (.cells #[.int .i64 cap, .int .i64 pri, .int .i64 spl, .int .i64 dl, .int .i64 mis, .int .i64 keep, .int .i64 lt, .int .i64 lu, .int .i64 bf, .int .i64 bo, .int .i64 bp, .int .i64 rm, .int .i64 rb, .int .i64 rc, .int .i64 rj] 29)) = W5 from hW5.symm, ← hg8]
    have Hg8 := Lib.hid hg8
    clear hW5 hg8
    have u0 : W5.cell? ⟨g3, 0, none⟩ = some (.int .i64 cap) := S5.out.cell 0 _ (by rw [HPP.out]; rfl)
    have u1 : W5.cell? ⟨g3, 1, none⟩ = some (.int .i64 pri) := S5.out.cell 1 _ (by rw [HPP.out]; rfl)
    have u2 : W5.cell? ⟨g3, 2, none⟩ = some (.int .i64 spl) := S5.out.cell 2 _ (by rw [HPP.out]; rfl)
    have u3 : W5.cell? ⟨g3, 3, none⟩ = some (.int .i64 dl) := S5.out.cell 3 _ (by rw [HPP.out]; rfl)
    have u4 : W5.cell? ⟨g3, 4, none⟩ = some (.int .i64 mis) := S5.out.cell 4 _ (by rw [HPP.out]; rfl)
    have u5 : W5.cell? ⟨g3, 5, none⟩ = some (.int .i64 keep) := S5.out.cell 5 _ (by rw [HPP.out]; rfl)
    have u6 : W5.cell? ⟨g3, 6, none⟩ = some (.int .i64 lt) := S5.out.cell 6 _ (by rw [HPP.out]; rfl)
    have u7 : W5.cell? ⟨g3, 7, none⟩ = some (.int .i64 lu) := S5.out.cell 7 _ (by rw [HPP.out]; rfl)
    have u8 : W5.cell? ⟨g3, 8, none⟩ = some (.int .i64 bf) := S5.out.cell 8 _ (by rw [HPP.out]; rfl)
    have u9 : W5.cell? ⟨g3, 9, none⟩ = some (.int .i64 bo) := S5.out.cell 9 _ (by rw [HPP.out]; rfl)
    have u10 : W5.cell? ⟨g3, 10, none⟩ = some (.int .i64 bp) := S5.out.cell 10 _ (by rw [HPP.out]; rfl)
    have u11 : W5.cell? ⟨g3, 11, none⟩ = some (.int .i64 rm) := S5.out.cell 11 _ (by rw [HPP.out]; rfl)
    have u12 : W5.cell? ⟨g3, 12, none⟩ = some (.int .i64 rb) := S5.out.cell 12 _ (by rw [HPP.out]; rfl)
    have u13 : W5.cell? ⟨g3, 13, none⟩ = some (.int .i64 rc) := S5.out.cell 13 _ (by rw [HPP.out]; rfl)
    have u14 : W5.cell? ⟨g3, 14, none⟩ = some (.int .i64 rj) := S5.out.cell 14 _ (by rw [HPP.out]; rfl)
    go_wp2_with fail
    refine (HC.out _).mono ?_
    rintro e w6 ⟨rfl, c6⟩
    have S6 := Lib.hid (S5.out.low c6)
    have Q6 := Lib.hid (Q5.out.low c6)
    have B6 := Lib.hid (B5.out.trans (c6.mono B5.out.size))
    clear c6 u0 u1 u2 u3 u4 u5 u6 u7 u8 u9 u10 u11 u12 u13 u14
    have u0 : w6.cell? ⟨g3, 0, none⟩ = some (.int .i64 cap) := S6.out.cell 0 _ (by rw [HPP.out]; rfl)
    have u1 : w6.cell? ⟨g3, 1, none⟩ = some (.int .i64 pri) := S6.out.cell 1 _ (by rw [HPP.out]; rfl)
    have u2 : w6.cell? ⟨g3, 2, none⟩ = some (.int .i64 spl) := S6.out.cell 2 _ (by rw [HPP.out]; rfl)
    have u3 : w6.cell? ⟨g3, 3, none⟩ = some (.int .i64 dl) := S6.out.cell 3 _ (by rw [HPP.out]; rfl)
    have u4 : w6.cell? ⟨g3, 4, none⟩ = some (.int .i64 mis) := S6.out.cell 4 _ (by rw [HPP.out]; rfl)
    have u5 : w6.cell? ⟨g3, 5, none⟩ = some (.int .i64 keep) := S6.out.cell 5 _ (by rw [HPP.out]; rfl)
    have u6 : w6.cell? ⟨g3, 6, none⟩ = some (.int .i64 lt) := S6.out.cell 6 _ (by rw [HPP.out]; rfl)
    have u7 : w6.cell? ⟨g3, 7, none⟩ = some (.int .i64 lu) := S6.out.cell 7 _ (by rw [HPP.out]; rfl)
    have u8 : w6.cell? ⟨g3, 8, none⟩ = some (.int .i64 bf) := S6.out.cell 8 _ (by rw [HPP.out]; rfl)
    have u9 : w6.cell? ⟨g3, 9, none⟩ = some (.int .i64 bo) := S6.out.cell 9 _ (by rw [HPP.out]; rfl)
    have u10 : w6.cell? ⟨g3, 10, none⟩ = some (.int .i64 bp) := S6.out.cell 10 _ (by rw [HPP.out]; rfl)
    have u11 : w6.cell? ⟨g3, 11, none⟩ = some (.int .i64 rm) := S6.out.cell 11 _ (by rw [HPP.out]; rfl)
    have u12 : w6.cell? ⟨g3, 12, none⟩ = some (.int .i64 rb) := S6.out.cell 12 _ (by rw [HPP.out]; rfl)
    have u13 : w6.cell? ⟨g3, 13, none⟩ = some (.int .i64 rc) := S6.out.cell 13 _ (by rw [HPP.out]; rfl)
    have u14 : w6.cell? ⟨g3, 14, none⟩ = some (.int .i64 rj) := S6.out.cell 14 _ (by rw [HPP.out]; rfl)
    have v0 : w6.cell? ⟨g8, 0, none⟩ = some (.int .i64 cap) := Q6.out.cell 0 _ (by rw [HPP.out]; rfl)
    have v1 : w6.cell? ⟨g8, 1, none⟩ = some (.int .i64 pri) := Q6.out.cell 1 _ (by rw [HPP.out]; rfl)
    have v2 : w6.cell? ⟨g8, 2, none⟩ = some (.int .i64 spl) := Q6.out.cell 2 _ (by rw [HPP.out]; rfl)
    have v3 : w6.cell? ⟨g8, 3, none⟩ = some (.int .i64 dl) := Q6.out.cell 3 _ (by rw [HPP.out]; rfl)
    have v4 : w6.cell? ⟨g8, 4, none⟩ = some (.int .i64 mis) := Q6.out.cell 4 _ (by rw [HPP.out]; rfl)
    have v5 : w6.cell? ⟨g8, 5, none⟩ = some (.int .i64 keep) := Q6.out.cell 5 _ (by rw [HPP.out]; rfl)
    have v6 : w6.cell? ⟨g8, 6, none⟩ = some (.int .i64 lt) := Q6.out.cell 6 _ (by rw [HPP.out]; rfl)
    have v7 : w6.cell? ⟨g8, 7, none⟩ = some (.int .i64 lu) := Q6.out.cell 7 _ (by rw [HPP.out]; rfl)
    have v8 : w6.cell? ⟨g8, 8, none⟩ = some (.int .i64 bf) := Q6.out.cell 8 _ (by rw [HPP.out]; rfl)
    have v9 : w6.cell? ⟨g8, 9, none⟩ = some (.int .i64 bo) := Q6.out.cell 9 _ (by rw [HPP.out]; rfl)
    have v10 : w6.cell? ⟨g8, 10, none⟩ = some (.int .i64 bp) := Q6.out.cell 10 _ (by rw [HPP.out]; rfl)
    have v11 : w6.cell? ⟨g8, 11, none⟩ = some (.int .i64 rm) := Q6.out.cell 11 _ (by rw [HPP.out]; rfl)
    have v12 : w6.cell? ⟨g8, 12, none⟩ = some (.int .i64 rb) := Q6.out.cell 12 _ (by rw [HPP.out]; rfl)
    have v13 : w6.cell? ⟨g8, 13, none⟩ = some (.int .i64 rc) := Q6.out.cell 13 _ (by rw [HPP.out]; rfl)
    have v14 : w6.cell? ⟨g8, 14, none⟩ = some (.int .i64 rj) := Q6.out.cell 14 _ (by rw [HPP.out]; rfl)
    have heq : (Op.equalIn 10000 29 (.agg #[.int .i64 cap, .int .i64 pri, .int .i64 spl, .int .i64 dl, .int .i64 mis, .int .i64 keep, .int .i64 lt, .int .i64 lu, .int .i64 bf, .int .i64 bo, .int .i64 bp, .int .i64 rm, .int .i64 rb, .int .i64 rc, .int .i64 rj]) (.agg #[.int .i64 cap, .int .i64 pri, .int .i64 spl, .int .i64 dl, .int .i64 mis, .int .i64 keep, .int .i64 lt, .int .i64 lu, .int .i64 bf, .int .i64 bo, .int .i64 bp, .int .i64 rm, .int .i64 rb, .int .i64 rc, .int .i64 rj])).run Tryz.prog w6 = .ok true w6 := eqPol_self ⟨cap, pri, spl, dl, mis, keep, lt, lu, bf, bo, bp, rm, rb, rc, rj⟩ w6
    go_wp2_with fail
    refine (HW.out _ (E0.out.below B6.out)).mono ?_
    rintro e w7 ⟨rfl, c7⟩
    go_wp2_with fail
    go_ret
    exact ⟨rfl, B6.out.trans (c7.mono B6.out.size)⟩
  · have h0 : x ≠ 0 := h0
    have hq : q = Lx.polZ := hq
    have hn : n ≤ s.size := hn
    subst hq
    have hni : (n : Int) ≤ (s.size : Int) := by omega
    have hn0 : (0 : Int) ≤ (n : Int) := by omega
    have HPa := Lib.hid (show ∀ W, UEnv W → Calls Tryz.prog 16 #[.string s] W fun e w' => e = .returned (.tuple #[.agg #[.int .i64 0, .int .i64 0, .int .i64 0, .int .i64 0, .int .i64 0, .int .i64 0, .int .i64 0, .int .i64 0, .int .i64 0, .int .i64 0, .int .i64 0, .int .i64 0, .int .i64 0, .int .i64 0, .int .i64 0], .int .i64 n, .int .i64 x]) ∧ Below W.heap.size W w' from HPa)
    clear env hr hbig hn
    go_enter Tryz.func6, Tryz.ntmps6
    go_wp2_with fail
    refine (HPa.out _ E0.out).mono ?_
    rintro e w1 ⟨rfl, c1⟩
    obtain ⟨g3, hg3⟩ : ∃ g, g = w1.heap.size := ⟨_, rfl⟩
    obtain ⟨W2, hW2⟩ : ∃ W2, W2 = w1.alloc (.cells #[.int .i64 0, .int .i64 0, .int .i64 0, .int .i64 0, .int .i64 0, .int .i64 0, .int .i64 0, .int .i64 0, .int .i64 0, .int .i64 0, .int .i64 0, .int .i64 0, .int .i64 0, .int .i64 0, .int .i64 0] 29) := ⟨_, rfl⟩
    have B2 := Lib.hid (show Below w.heap.size w W2 from by rw [hW2]; exact c1.alloc c1.size _)
    have S2 := Lib.hid (show Lx.PSt g3 W2 W2 Lx.polZ from by rw [hg3, hW2]; exact Lx.PSt.new w1 (Nat.le_trans hgl c1.size) Lx.polZ)
    go_upto_region 4 with (fail)
    rw [show w1.alloc (.cells #[.int .i64 0, .int .i64 0, .int .i64 0, .int .i64 0, .int .i64 0, .int .i64 0, .int .i64 0, .int .i64 0, .int .i64 0, .int .i64 0, .int .i64 0, .int .i64 0, .int .i64 0, .int .i64 0, .int .i64 0] 29) = W2 from hW2.symm, ← hg3]
    clear hW2 hg3 c1
    have z0 : W2.cell? ⟨g3, 0, none⟩ = some (.int .i64 0) := S2.out.cell 0 _ rfl
    have z1 : W2.cell? ⟨g3, 1, none⟩ = some (.int .i64 0) := S2.out.cell 1 _ rfl
    have z2 : W2.cell? ⟨g3, 2, none⟩ = some (.int .i64 0) := S2.out.cell 2 _ rfl
    have z3 : W2.cell? ⟨g3, 3, none⟩ = some (.int .i64 0) := S2.out.cell 3 _ rfl
    have z4 : W2.cell? ⟨g3, 4, none⟩ = some (.int .i64 0) := S2.out.cell 4 _ rfl
    have z5 : W2.cell? ⟨g3, 5, none⟩ = some (.int .i64 0) := S2.out.cell 5 _ rfl
    have z6 : W2.cell? ⟨g3, 6, none⟩ = some (.int .i64 0) := S2.out.cell 6 _ rfl
    have z7 : W2.cell? ⟨g3, 7, none⟩ = some (.int .i64 0) := S2.out.cell 7 _ rfl
    have z8 : W2.cell? ⟨g3, 8, none⟩ = some (.int .i64 0) := S2.out.cell 8 _ rfl
    have z9 : W2.cell? ⟨g3, 9, none⟩ = some (.int .i64 0) := S2.out.cell 9 _ rfl
    have z10 : W2.cell? ⟨g3, 10, none⟩ = some (.int .i64 0) := S2.out.cell 10 _ rfl
    have z11 : W2.cell? ⟨g3, 11, none⟩ = some (.int .i64 0) := S2.out.cell 11 _ rfl
    have z12 : W2.cell? ⟨g3, 12, none⟩ = some (.int .i64 0) := S2.out.cell 12 _ rfl
    have z13 : W2.cell? ⟨g3, 13, none⟩ = some (.int .i64 0) := S2.out.cell 13 _ rfl
    have z14 : W2.cell? ⟨g3, 14, none⟩ = some (.int .i64 0) := S2.out.cell 14 _ rfl
    have heq : (Op.equalIn 10000 29 (.agg #[.int .i64 0, .int .i64 0, .int .i64 0, .int .i64 0, .int .i64 0, .int .i64 0, .int .i64 0, .int .i64 0, .int .i64 0, .int .i64 0, .int .i64 0, .int .i64 0, .int .i64 0, .int .i64 0, .int .i64 0]) (.agg #[.int .i64 0, .int .i64 0, .int .i64 0, .int .i64 0, .int .i64 0, .int .i64 0, .int .i64 0, .int .i64 0, .int .i64 0, .int .i64 0, .int .i64 0, .int .i64 0, .int .i64 0, .int .i64 0, .int .i64 0])).run Tryz.prog W2 = .ok true W2 := eqPol_self Lx.polZ W2
    go_wp2_with fail
    refine (HW.out _ (E0.out.below B2.out)).mono ?_
    rintro e w7 ⟨rfl, c7⟩
    go_wp2_with fail
    go_ret
    exact ⟨rfl, B2.out.trans (c7.mono B2.out.size)⟩

set_option maxRecDepth 100000 in
/-- What the walk gives, for every argument that can be read. -/
theorem contract (H : Type) (enc : TypeId × Value → H) (W : World) (base : Nat) (args : Array Value) (ds gs : List (DataW H)) (before : List MemPlace)
    (hval : ∀ (j : Nat) t v, Tryz.f6.params[j]? = some t → args[j]? = some v → Value.okWide Tryz.prog W .any base t v)
    (hW : DataW.Whole enc Tryz.prog Tryz.f6.params.toList Rows.policyReadsSpec.vars false W args.toList ds gs before) (hL : laidMetH Tryz.prog Rows.policyReadsRow.laid W) (hsh : W.ShapedOpen Tryz.prog) :
    Calls Tryz.prog 6 args W fun e W' => ∃ v, e = .returned v ∧ Rows.policyReadsSpec.post enc Tryz.prog Tryz.f6 false true false false W args v W' := by
  have hW' := hW
  obtain ⟨p, q, hA0, hV, rfl, hfz, hnd⟩ := hW
  have hA : DataW.TrodAll enc Tryz.prog W 0 (fun _ => true) true Tryz.f6.params.toList args.toList ds p := hA0
  rw [Tryz.params6] at hA hval
  obtain ⟨v0, vs0, d0, ds0, p0, q0, hargs, rfl, rfl, h0, r0⟩ := trodAll_cons hA
  obtain ⟨rfl, rfl, rfl⟩ := trodAll_nil r0
  obtain rfl : args = #[v0] := by cases args; simp_all
  obtain ⟨rfl, rfl⟩ := trodVars_none hV
  obtain ⟨s0, rfl, rfl, rfl, w0⟩ := Go.ChangeMaps.open_string Tryz.underlying9 (hval 0 9 v0 rfl rfl) h0
  clear hA0
  refine (walk s0 w0 W (env_of hL hsh)).mono fun e W' ⟨he, bel⟩ => ?_
  subst he
  exact ⟨_, rfl, _, _, _, [], _, [], hW', trodAll_mk1 (shut_bool Tryz.underlying4 _), (trodAll_cons_mk (Go.ChangeMaps.shut_string Tryz.underlying9 w0) trodAll_mk0), rfl, bel.frame _, fun h => by cases h⟩

set_option maxRecDepth 100000 in
theorem reads (os : Os) {H : Type} (enc : TypeId × Value → H) : ∃ places, DataW.whole enc Tryz.prog ((World.laidAll Tryz.prog os Rows.policySetsRow.laid).forCall (fun _ _ => 0) ⟨#[], #[.string ⟨#[]⟩], []⟩).memory Tryz.f6.params.toList Rows.policyReadsSpec.vars false (#[.string ⟨#[]⟩] : Array Value).toList 8 = some ([.lit (.string [])], [], places) :=
  ⟨[], by kernel_rfl⟩

set_option maxRecDepth 100000 in
theorem lifted (os : Os) (started : os.Started) (H : Type) (enc : TypeId × Value → H) (F : Stop.Interp) :
    ReturnsInHanded {} Tryz.checked os 6 .any ((OpenSpec.ofChange Rows.policyReadsSpec).preRow enc Tryz.prog Tryz.f6 Rows.policyReadsRow.domain false Rows.policyReadsRow.laid) (((OpenSpec.ofChange Rows.policyReadsSpec).at F).post enc Tryz.prog Tryz.f6 false true false false) := by
  obtain ⟨places, hx⟩ := reads os enc
  refine returnsInHanded_of_row (C := Tryz.checked) (s := OpenSpec.ofChange Rows.policyReadsSpec) own started (by kernel_rfl) Tryz.func6
    (witness_row_atRef (enc := enc) (C := Tryz.checked) false (World.laidAll Tryz.prog os Rows.policySetsRow.laid) #[.string ⟨#[]⟩] (World.laidAll_os _ _ _) (door_vars os _) (door_rest os _) (by kernel_rfl)
      (OpenSpec.preRow_of_cond 8 hx (by kernel_rfl) (fun k hk => by cases hk) (by kernel_rfl) (door_laid os _))) ?_
  intro W base args ds gs before hval hW _ _ _ hL hsh _
  exact contract H enc W base args ds gs before hval hW hL hsh

theorem said : Rows.PolicyReadsSaid :=
  OpenClaim.holds_of_cond 6 Tryz.f6 rfl rfl rfl rfl rfl rfl rfl ⟨rfl, rfl, rfl, rfl, rfl⟩ rfl rfl rfl rfl rfl (by kernel_rfl) Tryz.func6 (by kernel_rfl)
    (of_decide_eq_true (by kernel_rfl)) (by unfold Func.isWrapper; first | (rw [if_pos (by decide +kernel)]; kernel_rfl) | (rw [if_neg (by decide +kernel)]; exact ⟨rfl, rfl⟩))
    (fun os started H enc _ F => by rw [OpenClaim.pre_eq_preRow]; exact lifted os started H enc F)

theorem plain (f : FuncId) (fn : Func) (hf : Tryz.pinned.checked.prog.funcNamed "wakeman/wakemanlaw14.PolicyReads" = some f) (hfn : Tryz.pinned.checked.prog.funcs[f]? = some fn) :
    Rows.policyReadsCard.stood.looks = Tryz.pinned.checked.prog.looks [] ∧ ∀ (j : Nat) t, fn.params[j]? = some t → Tryz.pinned.checked.prog.wantsStandIn t = false := by
  obtain rfl : f = 6 := Option.some.inj ((show Tryz.prog.funcNamed "wakeman/wakemanlaw14.PolicyReads" = some 6 by kernel_rfl).symm.trans hf) |>.symm
  obtain rfl : fn = Tryz.f6 := (Option.some.inj (Tryz.func6.symm.trans hfn)).symm
  refine ⟨by kernel_rfl, fun j t ht => ?_⟩
  rw [Tryz.params6] at ht
  have hm : t ∈ [9] := by
    have := Array.mem_of_getElem? ht
    simpa using this
  have hall : ([9].all fun u => !Tryz.prog.wantsStandIn u) = true := by kernel_rfl
  exact (show Tryz.prog.wantsStandIn t = false by simpa using List.all_eq_true.1 hall t hm)

/-- The card. -/
theorem card : Rows.PolicyReadsCardSaid :=
  Claim7.holds_tied_plain_at .later [] _ _ _ _ said (fun _ h => by cases h) (by kernel_rfl) (fun _ h => by cases h) policyReads_row_tie rfl ⟨rfl, rfl⟩ (by kernel_rfl) rfl plain (by kernel_rfl)
end Go.Proofs.YtdpjcbijddgpgaaGreatDoor.lawPolicyReads
