/- The reference of chapter 14: Set. (printed by gen_qg.py) The reference of chapter 14: Parse. (printed by gen_qi.py) -/
import Derived.Test.YtdpjcbijddgpgaaGreatDoorQM1
import Derived.Test.YtdpjcbijddgpgaaGreatDoorPoM8
namespace Go.Proofs.YtdpjcbijddgpgaaGreatDoor
open Go.RowKit

set_option maxRecDepth 100000 in
set_option maxHeartbeats 3200000 in
theorem q14set0_any (p : Lx.PolV) (t s : ByteArray) (ht : t.data.toList = Lx.keyW 0) (hs : s.size ≤ 1000000) (w : World) (hgl : Tryz.prog.globals.size ≤ w.heap.size) :
    Calls Tryz.prog 15 #[p.val, .string t, .string s] w fun e w' => e = .returned (.tuple #[(Lx.setK 0 s p).1.val, .int .i64 (Lx.setK 0 s p).2]) ∧ Below w.heap.size w w' := by
  have e0 : (t.toList == [99, 97, 112]) = true := by rw [beq_iff_eq, Lib.toList_data, ht]; rfl
  clear ht
  obtain ⟨cap, pri, spl, dl, mis, keep, lt, lu, bf, bo, bp, rm, rb, rc, rj⟩ := p
  have H0 : Lx.intE s.data.toList 1 1000 = 0 → Lx.setK 0 s ⟨cap, pri, spl, dl, mis, keep, lt, lu, bf, bo, bp, rm, rb, rc, rj⟩ = (⟨Lx.intV s.data.toList 1 1000, pri, spl, dl, mis, keep, lt, lu, bf, bo, bp, rm, rb, rc, rj⟩, 0) := fun c => by unfold Lx.setK; rw [if_pos (show (Lx.rdK 0 s).2 = 0 from c)]; rfl
  have H1 : Lx.intE s.data.toList 1 1000 ≠ 0 → Lx.setK 0 s ⟨cap, pri, spl, dl, mis, keep, lt, lu, bf, bo, bp, rm, rb, rc, rj⟩ = (Lx.polZ, Lx.firstE [Lx.intE s.data.toList 1 1000]) := fun c => by unfold Lx.setK; rw [if_neg (show ¬ (Lx.rdK 0 s).2 = 0 from c)]; rfl
  have HN := Lib.hid (fun W => q14number_any s 1 1000 W (by omega))
  generalize Lx.intV s.data.toList 1 1000 = v at *
  generalize Lx.intE s.data.toList 1 1000 = x at *
  obtain ⟨R, hR⟩ : ∃ R, R = Lx.setK 0 s ⟨cap, pri, spl, dl, mis, keep, lt, lu, bf, bo, bp, rm, rb, rc, rj⟩ := ⟨_, rfl⟩
  rw [← hR] at H0 H1 ⊢
  have H0 := Lib.hid H0
  have H1 := Lib.hid H1
  clear hR
  unfold Lx.PolV.val
  dsimp only
  obtain ⟨r, hr⟩ : ∃ r, r = w.heap.size + 1 := ⟨_, rfl⟩
  obtain ⟨W1, hW1⟩ : ∃ W1, W1 = ((w.alloc (.cells #[.int .i64 cap, .int .i64 pri, .int .i64 spl, .int .i64 dl, .int .i64 mis, .int .i64 keep, .int .i64 lt, .int .i64 lu, .int .i64 bf, .int .i64 bo, .int .i64 bp, .int .i64 rm, .int .i64 rb, .int .i64 rc, .int .i64 rj] 29)).alloc (.cells #[.int .i64 0, .int .i64 0, .int .i64 0, .int .i64 0, .int .i64 0, .int .i64 0, .int .i64 0, .int .i64 0, .int .i64 0, .int .i64 0, .int .i64 0, .int .i64 0, .int .i64 0, .int .i64 0, .int .i64 0] 29)) := ⟨_, rfl⟩
  have b0 : Below w.heap.size w (w.alloc (.cells #[.int .i64 cap, .int .i64 pri, .int .i64 spl, .int .i64 dl, .int .i64 mis, .int .i64 keep, .int .i64 lt, .int .i64 lu, .int .i64 bf, .int .i64 bo, .int .i64 bp, .int .i64 rm, .int .i64 rb, .int .i64 rc, .int .i64 rj] 29)) := (Below.refl _ w).alloc (Nat.le_refl _) _
  have b1 : Below (w.alloc (.cells #[.int .i64 cap, .int .i64 pri, .int .i64 spl, .int .i64 dl, .int .i64 mis, .int .i64 keep, .int .i64 lt, .int .i64 lu, .int .i64 bf, .int .i64 bo, .int .i64 bp, .int .i64 rm, .int .i64 rb, .int .i64 rc, .int .i64 rj] 29)).heap.size (w.alloc (.cells #[.int .i64 cap, .int .i64 pri, .int .i64 spl, .int .i64 dl, .int .i64 mis, .int .i64 keep, .int .i64 lt, .int .i64 lu, .int .i64 bf, .int .i64 bo, .int .i64 bp, .int .i64 rm, .int .i64 rb, .int .i64 rc, .int .i64 rj] 29)) W1 := by rw [hW1]; exact (Below.refl _ _).alloc (Nat.le_refl _) _
  have S1 := Lib.hid (show Lx.PSt w.heap.size W1 W1 ⟨cap, pri, spl, dl, mis, keep, lt, lu, bf, bo, bp, rm, rb, rc, rj⟩ from (Lx.PSt.new w hgl ⟨cap, pri, spl, dl, mis, keep, lt, lu, bf, bo, bp, rm, rb, rc, rj⟩).low b1)
  have Z1 := Lib.hid (show Lx.PSt r W1 W1 Lx.polZ from by
    have := Lx.PSt.new (w.alloc (.cells #[.int .i64 cap, .int .i64 pri, .int .i64 spl, .int .i64 dl, .int .i64 mis, .int .i64 keep, .int .i64 lt, .int .i64 lu, .int .i64 bf, .int .i64 bo, .int .i64 bp, .int .i64 rm, .int .i64 rb, .int .i64 rc, .int .i64 rj] 29)) (Nat.le_trans hgl (by simp)) Lx.polZ
    rw [show (w.alloc (.cells #[.int .i64 cap, .int .i64 pri, .int .i64 spl, .int .i64 dl, .int .i64 mis, .int .i64 keep, .int .i64 lt, .int .i64 lu, .int .i64 bf, .int .i64 bo, .int .i64 bp, .int .i64 rm, .int .i64 rb, .int .i64 rc, .int .i64 rj] 29)).heap.size = w.heap.size + 1 by simp, ← hr] at this
    rw [hW1]; exact this)
  have B1 := Lib.hid (b0.trans (b1.mono b0.size))
  have Hr := Lib.hid (show w.heap.size < r from by omega)
  clear b0 b1
  go_enter Tryz.func15, Tryz.ntmps15
  go_upto_region 1 with (fail)
  rw [show ((w.alloc (.cells #[.int .i64 cap, .int .i64 pri, .int .i64 spl, .int .i64 dl, .int .i64 mis, .int .i64 keep, .int .i64 lt, .int .i64 lu, .int .i64 bf, .int .i64 bo, .int .i64 bp, .int .i64 rm, .int .i64 rb, .int .i64 rc, .int .i64 rj] 29)).alloc (.cells #[.int .i64 0, .int .i64 0, .int .i64 0, .int .i64 0, .int .i64 0, .int .i64 0, .int .i64 0, .int .i64 0, .int .i64 0, .int .i64 0, .int .i64 0, .int .i64 0, .int .i64 0, .int .i64 0, .int .i64 0] 29)) = W1 from hW1.symm, show w.heap.size + 1 = r from hr.symm]
  clear hW1 hr
  have a0 : W1.cell? ⟨w.heap.size, 0, none⟩ = some _ := S1.out.cell 0 _ rfl
  have ya0 : W1.frozen? ⟨w.heap.size, 0, none⟩ = false := S1.out.fz 0 (by omega)
  go_wp2_with fail
  refine (HN.out _).mono ?_
  rintro e w2 ⟨rfl, rfl⟩
  obtain ⟨W3, hW3⟩ : ∃ W3, W3 = (W1.setCell ⟨w.heap.size, 0, none⟩ (.int .i64 v)) := ⟨_, rfl⟩
  have T := Lib.hid (show Lx.PSt w.heap.size W1 W3 ⟨v, pri, spl, dl, mis, keep, lt, lu, bf, bo, bp, rm, rb, rc, rj⟩ from by rw [hW3]; exact (S1.out.set (q' := ⟨v, pri, spl, dl, mis, keep, lt, lu, bf, bo, bp, rm, rb, rc, rj⟩) (j := 0) (v := .int .i64 v) (by omega) rfl))
  have S3 := Lib.hid (show Lx.PSt w.heap.size W3 W3 ⟨v, pri, spl, dl, mis, keep, lt, lu, bf, bo, bp, rm, rb, rc, rj⟩ from ⟨T.out.size, T.out.gl, World.grownBy.refl _ _, T.out.cell, T.out.fz⟩)
  have Z3 := Lib.hid (Z1.out.beside T.out.gb (fun c => by have := Option.some.inj c; have := Hr.out; omega))
  have B3 := Lib.hid (B1.out.trans (T.out.toB.mono (Nat.le_refl _)))
  go_upto_region 22 with (fail)
  rw [show (W1.setCell ⟨w.heap.size, 0, none⟩ (.int .i64 v)) = W3 from hW3.symm]
  clear hW3 T S1 Z1 B1 a0 ya0
  go_wp2_with fail
  refine (q14worst1 x _).mono ?_
  rintro e w8 ⟨rfl, rfl⟩
  obtain ⟨W4, hW4⟩ : ∃ W4, W4 = W3.alloc (.cells #[.int .i64 x] 31) := ⟨_, rfl⟩
  rw [show W3.alloc (.cells #[.int .i64 x] 31) = W4 from hW4.symm]
  have c4 : Below W3.heap.size W3 W4 := by rw [hW4]; exact (Below.refl _ _).alloc (Nat.le_refl _) _
  have S4 := Lib.hid (S3.out.low c4)
  have Z4 := Lib.hid (Z3.out.low c4)
  have B4 := Lib.hid (B3.out.trans (c4.mono B3.out.size))
  clear hW4 c4 S3 Z3 B3
  by_cases hx : x = 0
  · have HR := Lib.hid (H0.out hx)
    rw [show Lx.firstE [x] = 0 from by rw [hx]; rfl]
    clear hx
    go_wp2_with (first | ((with_reducible show wpList _ _ _ _ _ _); refine' Lx.wpList_get _ rfl _ rfl w.heap.size rfl ?_ ?_; any_goals (with_reducible exact S4.out)) | ((with_reducible show wpList _ _ _ _ _ _); refine' Lx.wpList_put _ rfl _ _ rfl r rfl ⟨v, pri, spl, dl, mis, keep, lt, lu, bf, bo, bp, rm, rb, rc, rj⟩ rfl ?_ ?_; any_goals (with_reducible exact Z4.out)))
    obtain ⟨W9, hW9⟩ : ∃ W, W = Lx.putPol W4 r (⟨v, pri, spl, dl, mis, keep, lt, lu, bf, bo, bp, rm, rb, rc, rj⟩ : Lx.PolV) := ⟨_, rfl⟩
    have z9 := Z4.out.put (⟨v, pri, spl, dl, mis, keep, lt, lu, bf, bo, bp, rm, rb, rc, rj⟩ : Lx.PolV)
    rw [← hW9] at z9 ⊢
    have Z9 := Lib.hid z9
    clear hW9 z9
    have d0 := Z9.out.cell 0 _ rfl
    have d1 := Z9.out.cell 1 _ rfl
    have d2 := Z9.out.cell 2 _ rfl
    have d3 := Z9.out.cell 3 _ rfl
    have d4 := Z9.out.cell 4 _ rfl
    have d5 := Z9.out.cell 5 _ rfl
    have d6 := Z9.out.cell 6 _ rfl
    have d7 := Z9.out.cell 7 _ rfl
    have d8 := Z9.out.cell 8 _ rfl
    have d9 := Z9.out.cell 9 _ rfl
    have d10 := Z9.out.cell 10 _ rfl
    have d11 := Z9.out.cell 11 _ rfl
    have d12 := Z9.out.cell 12 _ rfl
    have d13 := Z9.out.cell 13 _ rfl
    have d14 := Z9.out.cell 14 _ rfl
    refine bodyPost_ret (v := .tuple #[.agg #[.int .i64 v, .int .i64 pri, .int .i64 spl, .int .i64 dl, .int .i64 mis, .int .i64 keep, .int .i64 lt, .int .i64 lu, .int .i64 bf, .int .i64 bo, .int .i64 bp, .int .i64 rm, .int .i64 rb, .int .i64 rc, .int .i64 rj], .int .i64 0]) ?_ rfl ⟨by rw [HR.out]; first | done | rfl, B4.out.trans (Z9.out.toB.mono (Nat.le_of_lt Hr.out))⟩
    simp [results, Tryz.results15, go_sem, d0, d1, d2, d3, d4, d5, d6, d7, d8, d9, d10, d11, d12, d13, d14]
  · have HR := Lib.hid (H1.out hx)
    have hE := Lx.firstE_ne hx
    generalize Lx.firstE [x] = E at *
    have hEb : (E != 0) = true := by rw [bne_iff_ne]; exact hE
    clear hx hE
    go_wp2_with ((with_reducible show wpList _ _ _ _ _ _); refine' Lx.wpList_put _ rfl _ _ rfl r rfl Lx.polZ rfl ?_ ?_; any_goals (with_reducible exact Z4.out))
    obtain ⟨W9, hW9⟩ : ∃ W, W = Lx.putPol W4 r Lx.polZ := ⟨_, rfl⟩
    have z9 := Z4.out.put Lx.polZ
    rw [← hW9] at z9 ⊢
    have Z9 := Lib.hid z9
    clear hW9 z9
    have d0 := Z9.out.cell 0 _ rfl
    have d1 := Z9.out.cell 1 _ rfl
    have d2 := Z9.out.cell 2 _ rfl
    have d3 := Z9.out.cell 3 _ rfl
    have d4 := Z9.out.cell 4 _ rfl
    have d5 := Z9.out.cell 5 _ rfl
    have d6 := Z9.out.cell 6 _ rfl
    have d7 := Z9.out.cell 7 _ rfl
    have d8 := Z9.out.cell 8 _ rfl
    have d9 := Z9.out.cell 9 _ rfl
    have d10 := Z9.out.cell 10 _ rfl
    have d11 := Z9.out.cell 11 _ rfl
    have d12 := Z9.out.cell 12 _ rfl
    have d13 := Z9.out.cell 13 _ rfl
    have d14 := Z9.out.cell 14 _ rfl
    refine bodyPost_ret (v := .tuple #[.agg #[.int .i64 0, .int .i64 0, .int .i64 0, .int .i64 0, .int .i64 0, .int .i64 0, .int .i64 0, .int .i64 0, .int .i64 0, .int .i64 0, .int .i64 0, .int .i64 0, .int .i64 0, .int .i64 0, .int .i64 0], .int .i64 E]) ?_ rfl ⟨by rw [HR.out]; first | done | rfl, B4.out.trans (Z9.out.toB.mono (Nat.le_of_lt Hr.out))⟩
    simp [results, Tryz.results15, go_sem, Lx.polZ, d0, d1, d2, d3, d4, d5, d6, d7, d8, d9, d10, d11, d12, d13, d14]
set_option maxRecDepth 100000 in
set_option maxHeartbeats 3200000 in
theorem q14set1_any (p : Lx.PolV) (t s : ByteArray) (ht : t.data.toList = Lx.keyW 1) (hs : s.size ≤ 1000000) (w : World) (hgl : Tryz.prog.globals.size ≤ w.heap.size) :
    Calls Tryz.prog 15 #[p.val, .string t, .string s] w fun e w' => e = .returned (.tuple #[(Lx.setK 1 s p).1.val, .int .i64 (Lx.setK 1 s p).2]) ∧ Below w.heap.size w w' := by
  have e0 : (t.toList == [99, 97, 112]) = false := by rw [beq_eq_false_iff_ne, Lib.toList_data, ht]; decide
  have e1 : (t.toList == [112, 114, 105, 111, 114, 105, 116, 121]) = true := by rw [beq_iff_eq, Lib.toList_data, ht]; rfl
  clear ht
  obtain ⟨cap, pri, spl, dl, mis, keep, lt, lu, bf, bo, bp, rm, rb, rc, rj⟩ := p
  have H0 : Lx.intE s.data.toList 0 100 = 0 → Lx.setK 1 s ⟨cap, pri, spl, dl, mis, keep, lt, lu, bf, bo, bp, rm, rb, rc, rj⟩ = (⟨cap, Lx.intV s.data.toList 0 100, spl, dl, mis, keep, lt, lu, bf, bo, bp, rm, rb, rc, rj⟩, 0) := fun c => by unfold Lx.setK; rw [if_pos (show (Lx.rdK 1 s).2 = 0 from c)]; rfl
  have H1 : Lx.intE s.data.toList 0 100 ≠ 0 → Lx.setK 1 s ⟨cap, pri, spl, dl, mis, keep, lt, lu, bf, bo, bp, rm, rb, rc, rj⟩ = (Lx.polZ, Lx.firstE [Lx.intE s.data.toList 0 100]) := fun c => by unfold Lx.setK; rw [if_neg (show ¬ (Lx.rdK 1 s).2 = 0 from c)]; rfl
  have HN := Lib.hid (fun W => q14number_any s 0 100 W (by omega))
  generalize Lx.intV s.data.toList 0 100 = v at *
  generalize Lx.intE s.data.toList 0 100 = x at *
  obtain ⟨R, hR⟩ : ∃ R, R = Lx.setK 1 s ⟨cap, pri, spl, dl, mis, keep, lt, lu, bf, bo, bp, rm, rb, rc, rj⟩ := ⟨_, rfl⟩
  rw [← hR] at H0 H1 ⊢
  have H0 := Lib.hid H0
  have H1 := Lib.hid H1
  clear hR
  unfold Lx.PolV.val
  dsimp only
  obtain ⟨r, hr⟩ : ∃ r, r = w.heap.size + 1 := ⟨_, rfl⟩
  obtain ⟨W1, hW1⟩ : ∃ W1, W1 = ((w.alloc (.cells #[.int .i64 cap, .int .i64 pri, .int .i64 spl, .int .i64 dl, .int .i64 mis, .int .i64 keep, .int .i64 lt, .int .i64 lu, .int .i64 bf, .int .i64 bo, .int .i64 bp, .int .i64 rm, .int .i64 rb, .int .i64 rc, .int .i64 rj] 29)).alloc (.cells #[.int .i64 0, .int .i64 0, .int .i64 0, .int .i64 0, .int .i64 0, .int .i64 0, .int .i64 0, .int .i64 0, .int .i64 0, .int .i64 0, .int .i64 0, .int .i64 0, .int .i64 0, .int .i64 0, .int .i64 0] 29)) := ⟨_, rfl⟩
  have b0 : Below w.heap.size w (w.alloc (.cells #[.int .i64 cap, .int .i64 pri, .int .i64 spl, .int .i64 dl, .int .i64 mis, .int .i64 keep, .int .i64 lt, .int .i64 lu, .int .i64 bf, .int .i64 bo, .int .i64 bp, .int .i64 rm, .int .i64 rb, .int .i64 rc, .int .i64 rj] 29)) := (Below.refl _ w).alloc (Nat.le_refl _) _
  have b1 : Below (w.alloc (.cells #[.int .i64 cap, .int .i64 pri, .int .i64 spl, .int .i64 dl, .int .i64 mis, .int .i64 keep, .int .i64 lt, .int .i64 lu, .int .i64 bf, .int .i64 bo, .int .i64 bp, .int .i64 rm, .int .i64 rb, .int .i64 rc, .int .i64 rj] 29)).heap.size (w.alloc (.cells #[.int .i64 cap, .int .i64 pri, .int .i64 spl, .int .i64 dl, .int .i64 mis, .int .i64 keep, .int .i64 lt, .int .i64 lu, .int .i64 bf, .int .i64 bo, .int .i64 bp, .int .i64 rm, .int .i64 rb, .int .i64 rc, .int .i64 rj] 29)) W1 := by rw [hW1]; exact (Below.refl _ _).alloc (Nat.le_refl _) _
  have S1 := Lib.hid (show Lx.PSt w.heap.size W1 W1 ⟨cap, pri, spl, dl, mis, keep, lt, lu, bf, bo, bp, rm, rb, rc, rj⟩ from (Lx.PSt.new w hgl ⟨cap, pri, spl, dl, mis, keep, lt, lu, bf, bo, bp, rm, rb, rc, rj⟩).low b1)
  have Z1 := Lib.hid (show Lx.PSt r W1 W1 Lx.polZ from by
    have := Lx.PSt.new (w.alloc (.cells #[.int .i64 cap, .int .i64 pri, .int .i64 spl, .int .i64 dl, .int .i64 mis, .int .i64 keep, .int .i64 lt, .int .i64 lu, .int .i64 bf, .int .i64 bo, .int .i64 bp, .int .i64 rm, .int .i64 rb, .int .i64 rc, .int .i64 rj] 29)) (Nat.le_trans hgl (by simp)) Lx.polZ
    rw [show (w.alloc (.cells #[.int .i64 cap, .int .i64 pri, .int .i64 spl, .int .i64 dl, .int .i64 mis, .int .i64 keep, .int .i64 lt, .int .i64 lu, .int .i64 bf, .int .i64 bo, .int .i64 bp, .int .i64 rm, .int .i64 rb, .int .i64 rc, .int .i64 rj] 29)).heap.size = w.heap.size + 1 by simp, ← hr] at this
    rw [hW1]; exact this)
  have B1 := Lib.hid (b0.trans (b1.mono b0.size))
  have Hr := Lib.hid (show w.heap.size < r from by omega)
  clear b0 b1
  go_enter Tryz.func15, Tryz.ntmps15
  go_upto_region 1 with (fail)
  rw [show ((w.alloc (.cells #[.int .i64 cap, .int .i64 pri, .int .i64 spl, .int .i64 dl, .int .i64 mis, .int .i64 keep, .int .i64 lt, .int .i64 lu, .int .i64 bf, .int .i64 bo, .int .i64 bp, .int .i64 rm, .int .i64 rb, .int .i64 rc, .int .i64 rj] 29)).alloc (.cells #[.int .i64 0, .int .i64 0, .int .i64 0, .int .i64 0, .int .i64 0, .int .i64 0, .int .i64 0, .int .i64 0, .int .i64 0, .int .i64 0, .int .i64 0, .int .i64 0, .int .i64 0, .int .i64 0, .int .i64 0] 29)) = W1 from hW1.symm, show w.heap.size + 1 = r from hr.symm]
  clear hW1 hr
  have a1 : W1.cell? ⟨w.heap.size, 1, none⟩ = some _ := S1.out.cell 1 _ rfl
  have ya1 : W1.frozen? ⟨w.heap.size, 1, none⟩ = false := S1.out.fz 1 (by omega)
  go_wp2_with fail
  refine (HN.out _).mono ?_
  rintro e w2 ⟨rfl, rfl⟩
  obtain ⟨W3, hW3⟩ : ∃ W3, W3 = (W1.setCell ⟨w.heap.size, 1, none⟩ (.int .i64 v)) := ⟨_, rfl⟩
  have T := Lib.hid (show Lx.PSt w.heap.size W1 W3 ⟨cap, v, spl, dl, mis, keep, lt, lu, bf, bo, bp, rm, rb, rc, rj⟩ from by rw [hW3]; exact (S1.out.set (q' := ⟨cap, v, spl, dl, mis, keep, lt, lu, bf, bo, bp, rm, rb, rc, rj⟩) (j := 1) (v := .int .i64 v) (by omega) rfl))
  have S3 := Lib.hid (show Lx.PSt w.heap.size W3 W3 ⟨cap, v, spl, dl, mis, keep, lt, lu, bf, bo, bp, rm, rb, rc, rj⟩ from ⟨T.out.size, T.out.gl, World.grownBy.refl _ _, T.out.cell, T.out.fz⟩)
  have Z3 := Lib.hid (Z1.out.beside T.out.gb (fun c => by have := Option.some.inj c; have := Hr.out; omega))
  have B3 := Lib.hid (B1.out.trans (T.out.toB.mono (Nat.le_refl _)))
  go_upto_region 22 with (fail)
  rw [show (W1.setCell ⟨w.heap.size, 1, none⟩ (.int .i64 v)) = W3 from hW3.symm]
  clear hW3 T S1 Z1 B1 a1 ya1
  go_wp2_with fail
  refine (q14worst1 x _).mono ?_
  rintro e w8 ⟨rfl, rfl⟩
  obtain ⟨W4, hW4⟩ : ∃ W4, W4 = W3.alloc (.cells #[.int .i64 x] 31) := ⟨_, rfl⟩
  rw [show W3.alloc (.cells #[.int .i64 x] 31) = W4 from hW4.symm]
  have c4 : Below W3.heap.size W3 W4 := by rw [hW4]; exact (Below.refl _ _).alloc (Nat.le_refl _) _
  have S4 := Lib.hid (S3.out.low c4)
  have Z4 := Lib.hid (Z3.out.low c4)
  have B4 := Lib.hid (B3.out.trans (c4.mono B3.out.size))
  clear hW4 c4 S3 Z3 B3
  by_cases hx : x = 0
  · have HR := Lib.hid (H0.out hx)
    rw [show Lx.firstE [x] = 0 from by rw [hx]; rfl]
    clear hx
    go_wp2_with (first | ((with_reducible show wpList _ _ _ _ _ _); refine' Lx.wpList_get _ rfl _ rfl w.heap.size rfl ?_ ?_; any_goals (with_reducible exact S4.out)) | ((with_reducible show wpList _ _ _ _ _ _); refine' Lx.wpList_put _ rfl _ _ rfl r rfl ⟨cap, v, spl, dl, mis, keep, lt, lu, bf, bo, bp, rm, rb, rc, rj⟩ rfl ?_ ?_; any_goals (with_reducible exact Z4.out)))
    obtain ⟨W9, hW9⟩ : ∃ W, W = Lx.putPol W4 r (⟨cap, v, spl, dl, mis, keep, lt, lu, bf, bo, bp, rm, rb, rc, rj⟩ : Lx.PolV) := ⟨_, rfl⟩
    have z9 := Z4.out.put (⟨cap, v, spl, dl, mis, keep, lt, lu, bf, bo, bp, rm, rb, rc, rj⟩ : Lx.PolV)
    rw [← hW9] at z9 ⊢
    have Z9 := Lib.hid z9
    clear hW9 z9
    have d0 := Z9.out.cell 0 _ rfl
    have d1 := Z9.out.cell 1 _ rfl
    have d2 := Z9.out.cell 2 _ rfl
    have d3 := Z9.out.cell 3 _ rfl
    have d4 := Z9.out.cell 4 _ rfl
    have d5 := Z9.out.cell 5 _ rfl
    have d6 := Z9.out.cell 6 _ rfl
    have d7 := Z9.out.cell 7 _ rfl
    have d8 := Z9.out.cell 8 _ rfl
    have d9 := Z9.out.cell 9 _ rfl
    have d10 := Z9.out.cell 10 _ rfl
    have d11 := Z9.out.cell 11 _ rfl
    have d12 := Z9.out.cell 12 _ rfl
    have d13 := Z9.out.cell 13 _ rfl
    have d14 := Z9.out.cell 14 _ rfl
    refine bodyPost_ret (v := .tuple #[.agg #[.int .i64 cap, .int .i64 v, .int .i64 spl, .int .i64 dl, .int .i64 mis, .int .i64 keep, .int .i64 lt, .int .i64 lu, .int .i64 bf, .int .i64 bo, .int .i64 bp, .int .i64 rm, .int .i64 rb, .int .i64 rc, .int .i64 rj], .int .i64 0]) ?_ rfl ⟨by rw [HR.out]; first | done | rfl, B4.out.trans (Z9.out.toB.mono (Nat.le_of_lt Hr.out))⟩
    simp [results, Tryz.results15, go_sem, d0, d1, d2, d3, d4, d5, d6, d7, d8, d9, d10, d11, d12, d13, d14]
  · have HR := Lib.hid (H1.out hx)
    have hE := Lx.firstE_ne hx
    generalize Lx.firstE [x] = E at *
    have hEb : (E != 0) = true := by rw [bne_iff_ne]; exact hE
    clear hx hE
    go_wp2_with ((with_reducible show wpList _ _ _ _ _ _); refine' Lx.wpList_put _ rfl _ _ rfl r rfl Lx.polZ rfl ?_ ?_; any_goals (with_reducible exact Z4.out))
    obtain ⟨W9, hW9⟩ : ∃ W, W = Lx.putPol W4 r Lx.polZ := ⟨_, rfl⟩
    have z9 := Z4.out.put Lx.polZ
    rw [← hW9] at z9 ⊢
    have Z9 := Lib.hid z9
    clear hW9 z9
    have d0 := Z9.out.cell 0 _ rfl
    have d1 := Z9.out.cell 1 _ rfl
    have d2 := Z9.out.cell 2 _ rfl
    have d3 := Z9.out.cell 3 _ rfl
    have d4 := Z9.out.cell 4 _ rfl
    have d5 := Z9.out.cell 5 _ rfl
    have d6 := Z9.out.cell 6 _ rfl
    have d7 := Z9.out.cell 7 _ rfl
    have d8 := Z9.out.cell 8 _ rfl
    have d9 := Z9.out.cell 9 _ rfl
    have d10 := Z9.out.cell 10 _ rfl
    have d11 := Z9.out.cell 11 _ rfl
    have d12 := Z9.out.cell 12 _ rfl
    have d13 := Z9.out.cell 13 _ rfl
    have d14 := Z9.out.cell 14 _ rfl
    refine bodyPost_ret (v := .tuple #[.agg #[.int .i64 0, .int .i64 0, .int .i64 0, .int .i64 0, .int .i64 0, .int .i64 0, .int .i64 0, .int .i64 0, .int .i64 0, .int .i64 0, .int .i64 0, .int .i64 0, .int .i64 0, .int .i64 0, .int .i64 0], .int .i64 E]) ?_ rfl ⟨by rw [HR.out]; first | done | rfl, B4.out.trans (Z9.out.toB.mono (Nat.le_of_lt Hr.out))⟩
    simp [results, Tryz.results15, go_sem, Lx.polZ, d0, d1, d2, d3, d4, d5, d6, d7, d8, d9, d10, d11, d12, d13, d14]
set_option maxRecDepth 100000 in
set_option maxHeartbeats 3200000 in
theorem q14set2_any (p : Lx.PolV) (t s : ByteArray) (ht : t.data.toList = Lx.keyW 2) (hs : s.size ≤ 1000000) (w : World) (hgl : Tryz.prog.globals.size ≤ w.heap.size) :
    Calls Tryz.prog 15 #[p.val, .string t, .string s] w fun e w' => e = .returned (.tuple #[(Lx.setK 2 s p).1.val, .int .i64 (Lx.setK 2 s p).2]) ∧ Below w.heap.size w w' := by
  have e0 : (t.toList == [99, 97, 112]) = false := by rw [beq_eq_false_iff_ne, Lib.toList_data, ht]; decide
  have e1 : (t.toList == [112, 114, 105, 111, 114, 105, 116, 121]) = false := by rw [beq_eq_false_iff_ne, Lib.toList_data, ht]; decide
  have e2 : (t.toList == [115, 112, 108, 97, 121]) = true := by rw [beq_iff_eq, Lib.toList_data, ht]; rfl
  clear ht
  obtain ⟨cap, pri, spl, dl, mis, keep, lt, lu, bf, bo, bp, rm, rb, rc, rj⟩ := p
  have H0 : Lx.parE s.data.toList = 0 → Lx.setK 2 s ⟨cap, pri, spl, dl, mis, keep, lt, lu, bf, bo, bp, rm, rb, rc, rj⟩ = (⟨cap, pri, Lx.parV s.data.toList, dl, mis, keep, lt, lu, bf, bo, bp, rm, rb, rc, rj⟩, 0) := fun c => by unfold Lx.setK; rw [if_pos (show (Lx.rdK 2 s).2 = 0 from c)]; rfl
  have H1 : Lx.parE s.data.toList ≠ 0 → Lx.setK 2 s ⟨cap, pri, spl, dl, mis, keep, lt, lu, bf, bo, bp, rm, rb, rc, rj⟩ = (Lx.polZ, Lx.firstE [Lx.parE s.data.toList]) := fun c => by unfold Lx.setK; rw [if_neg (show ¬ (Lx.rdK 2 s).2 = 0 from c)]; rfl
  have HN := Lib.hid (fun W => ref_parse_any s (by omega) W)
  generalize Lx.parV s.data.toList = v at *
  generalize Lx.parE s.data.toList = x at *
  obtain ⟨R, hR⟩ : ∃ R, R = Lx.setK 2 s ⟨cap, pri, spl, dl, mis, keep, lt, lu, bf, bo, bp, rm, rb, rc, rj⟩ := ⟨_, rfl⟩
  rw [← hR] at H0 H1 ⊢
  have H0 := Lib.hid H0
  have H1 := Lib.hid H1
  clear hR
  unfold Lx.PolV.val
  dsimp only
  obtain ⟨r, hr⟩ : ∃ r, r = w.heap.size + 1 := ⟨_, rfl⟩
  obtain ⟨W1, hW1⟩ : ∃ W1, W1 = ((w.alloc (.cells #[.int .i64 cap, .int .i64 pri, .int .i64 spl, .int .i64 dl, .int .i64 mis, .int .i64 keep, .int .i64 lt, .int .i64 lu, .int .i64 bf, .int .i64 bo, .int .i64 bp, .int .i64 rm, .int .i64 rb, .int .i64 rc, .int .i64 rj] 29)).alloc (.cells #[.int .i64 0, .int .i64 0, .int .i64 0, .int .i64 0, .int .i64 0, .int .i64 0, .int .i64 0, .int .i64 0, .int .i64 0, .int .i64 0, .int .i64 0, .int .i64 0, .int .i64 0, .int .i64 0, .int .i64 0] 29)) := ⟨_, rfl⟩
  have b0 : Below w.heap.size w (w.alloc (.cells #[.int .i64 cap, .int .i64 pri, .int .i64 spl, .int .i64 dl, .int .i64 mis, .int .i64 keep, .int .i64 lt, .int .i64 lu, .int .i64 bf, .int .i64 bo, .int .i64 bp, .int .i64 rm, .int .i64 rb, .int .i64 rc, .int .i64 rj] 29)) := (Below.refl _ w).alloc (Nat.le_refl _) _
  have b1 : Below (w.alloc (.cells #[.int .i64 cap, .int .i64 pri, .int .i64 spl, .int .i64 dl, .int .i64 mis, .int .i64 keep, .int .i64 lt, .int .i64 lu, .int .i64 bf, .int .i64 bo, .int .i64 bp, .int .i64 rm, .int .i64 rb, .int .i64 rc, .int .i64 rj] 29)).heap.size (w.alloc (.cells #[.int .i64 cap, .int .i64 pri, .int .i64 spl, .int .i64 dl, .int .i64 mis, .int .i64 keep, .int .i64 lt, .int .i64 lu, .int .i64 bf, .int .i64 bo, .int .i64 bp, .int .i64 rm, .int .i64 rb, .int .i64 rc, .int .i64 rj] 29)) W1 := by rw [hW1]; exact (Below.refl _ _).alloc (Nat.le_refl _) _
  have S1 := Lib.hid (show Lx.PSt w.heap.size W1 W1 ⟨cap, pri, spl, dl, mis, keep, lt, lu, bf, bo, bp, rm, rb, rc, rj⟩ from (Lx.PSt.new w hgl ⟨cap, pri, spl, dl, mis, keep, lt, lu, bf, bo, bp, rm, rb, rc, rj⟩).low b1)
  have Z1 := Lib.hid (show Lx.PSt r W1 W1 Lx.polZ from by
    have := Lx.PSt.new (w.alloc (.cells #[.int .i64 cap, .int .i64 pri, .int .i64 spl, .int .i64 dl, .int .i64 mis, .int .i64 keep, .int .i64 lt, .int .i64 lu, .int .i64 bf, .int .i64 bo, .int .i64 bp, .int .i64 rm, .int .i64 rb, .int .i64 rc, .int .i64 rj] 29)) (Nat.le_trans hgl (by simp)) Lx.polZ
    rw [show (w.alloc (.cells #[.int .i64 cap, .int .i64 pri, .int .i64 spl, .int .i64 dl, .int .i64 mis, .int .i64 keep, .int .i64 lt, .int .i64 lu, .int .i64 bf, .int .i64 bo, .int .i64 bp, .int .i64 rm, .int .i64 rb, .int .i64 rc, .int .i64 rj] 29)).heap.size = w.heap.size + 1 by simp, ← hr] at this
    rw [hW1]; exact this)
  have B1 := Lib.hid (b0.trans (b1.mono b0.size))
  have Hr := Lib.hid (show w.heap.size < r from by omega)
  clear b0 b1
  go_enter Tryz.func15, Tryz.ntmps15
  go_upto_region 1 with (fail)
  rw [show ((w.alloc (.cells #[.int .i64 cap, .int .i64 pri, .int .i64 spl, .int .i64 dl, .int .i64 mis, .int .i64 keep, .int .i64 lt, .int .i64 lu, .int .i64 bf, .int .i64 bo, .int .i64 bp, .int .i64 rm, .int .i64 rb, .int .i64 rc, .int .i64 rj] 29)).alloc (.cells #[.int .i64 0, .int .i64 0, .int .i64 0, .int .i64 0, .int .i64 0, .int .i64 0, .int .i64 0, .int .i64 0, .int .i64 0, .int .i64 0, .int .i64 0, .int .i64 0, .int .i64 0, .int .i64 0, .int .i64 0] 29)) = W1 from hW1.symm, show w.heap.size + 1 = r from hr.symm]
  clear hW1 hr
  go_wp2_with fail
  refine (HN.out _).mono ?_
  rintro e w2 ⟨rfl, c2⟩
  have S2 := Lib.hid (S1.out.low c2)
  have Z2 := Lib.hid (Z1.out.low c2)
  have B2 := Lib.hid (B1.out.trans (c2.mono B1.out.size))
  clear c2
  have a2 : w2.cell? ⟨w.heap.size, 2, none⟩ = some _ := S2.out.cell 2 _ rfl
  have ya2 : w2.frozen? ⟨w.heap.size, 2, none⟩ = false := S2.out.fz 2 (by omega)
  obtain ⟨W3, hW3⟩ : ∃ W3, W3 = (w2.setCell ⟨w.heap.size, 2, none⟩ (.int .i64 v)) := ⟨_, rfl⟩
  have T := Lib.hid (show Lx.PSt w.heap.size w2 W3 ⟨cap, pri, v, dl, mis, keep, lt, lu, bf, bo, bp, rm, rb, rc, rj⟩ from by rw [hW3]; exact (S2.out.set (q' := ⟨cap, pri, v, dl, mis, keep, lt, lu, bf, bo, bp, rm, rb, rc, rj⟩) (j := 2) (v := .int .i64 v) (by omega) rfl))
  have S3 := Lib.hid (show Lx.PSt w.heap.size W3 W3 ⟨cap, pri, v, dl, mis, keep, lt, lu, bf, bo, bp, rm, rb, rc, rj⟩ from ⟨T.out.size, T.out.gl, World.grownBy.refl _ _, T.out.cell, T.out.fz⟩)
  have Z3 := Lib.hid (Z2.out.beside T.out.gb (fun c => by have := Option.some.inj c; have := Hr.out; omega))
  have B3 := Lib.hid (B2.out.trans (T.out.toB.mono (Nat.le_refl _)))
  go_upto_region 22 with (fail)
  rw [show (w2.setCell ⟨w.heap.size, 2, none⟩ (.int .i64 v)) = W3 from hW3.symm]
  clear hW3 T S2 Z2 B2 a2 ya2
  go_wp2_with fail
  refine (q14worst1 x _).mono ?_
  rintro e w8 ⟨rfl, rfl⟩
  obtain ⟨W4, hW4⟩ : ∃ W4, W4 = W3.alloc (.cells #[.int .i64 x] 31) := ⟨_, rfl⟩
  rw [show W3.alloc (.cells #[.int .i64 x] 31) = W4 from hW4.symm]
  have c4 : Below W3.heap.size W3 W4 := by rw [hW4]; exact (Below.refl _ _).alloc (Nat.le_refl _) _
  have S4 := Lib.hid (S3.out.low c4)
  have Z4 := Lib.hid (Z3.out.low c4)
  have B4 := Lib.hid (B3.out.trans (c4.mono B3.out.size))
  clear hW4 c4 S3 Z3 B3
  by_cases hx : x = 0
  · have HR := Lib.hid (H0.out hx)
    rw [show Lx.firstE [x] = 0 from by rw [hx]; rfl]
    clear hx
    go_wp2_with (first | ((with_reducible show wpList _ _ _ _ _ _); refine' Lx.wpList_get _ rfl _ rfl w.heap.size rfl ?_ ?_; any_goals (with_reducible exact S4.out)) | ((with_reducible show wpList _ _ _ _ _ _); refine' Lx.wpList_put _ rfl _ _ rfl r rfl ⟨cap, pri, v, dl, mis, keep, lt, lu, bf, bo, bp, rm, rb, rc, rj⟩ rfl ?_ ?_; any_goals (with_reducible exact Z4.out)))
    obtain ⟨W9, hW9⟩ : ∃ W, W = Lx.putPol W4 r (⟨cap, pri, v, dl, mis, keep, lt, lu, bf, bo, bp, rm, rb, rc, rj⟩ : Lx.PolV) := ⟨_, rfl⟩
    have z9 := Z4.out.put (⟨cap, pri, v, dl, mis, keep, lt, lu, bf, bo, bp, rm, rb, rc, rj⟩ : Lx.PolV)
    rw [← hW9] at z9 ⊢
    have Z9 := Lib.hid z9
    clear hW9 z9
    have d0 := Z9.out.cell 0 _ rfl
    have d1 := Z9.out.cell 1 _ rfl
    have d2 := Z9.out.cell 2 _ rfl
    have d3 := Z9.out.cell 3 _ rfl
    have d4 := Z9.out.cell 4 _ rfl
    have d5 := Z9.out.cell 5 _ rfl
    have d6 := Z9.out.cell 6 _ rfl
    have d7 := Z9.out.cell 7 _ rfl
    have d8 := Z9.out.cell 8 _ rfl
    have d9 := Z9.out.cell 9 _ rfl
    have d10 := Z9.out.cell 10 _ rfl
    have d11 := Z9.out.cell 11 _ rfl
    have d12 := Z9.out.cell 12 _ rfl
    have d13 := Z9.out.cell 13 _ rfl
    have d14 := Z9.out.cell 14 _ rfl
    refine bodyPost_ret (v := .tuple #[.agg #[.int .i64 cap, .int .i64 pri, .int .i64 v, .int .i64 dl, .int .i64 mis, .int .i64 keep, .int .i64 lt, .int .i64 lu, .int .i64 bf, .int .i64 bo, .int .i64 bp, .int .i64 rm, .int .i64 rb, .int .i64 rc, .int .i64 rj], .int .i64 0]) ?_ rfl ⟨by rw [HR.out]; first | done | rfl, B4.out.trans (Z9.out.toB.mono (Nat.le_of_lt Hr.out))⟩
    simp [results, Tryz.results15, go_sem, d0, d1, d2, d3, d4, d5, d6, d7, d8, d9, d10, d11, d12, d13, d14]
  · have HR := Lib.hid (H1.out hx)
    have hE := Lx.firstE_ne hx
    generalize Lx.firstE [x] = E at *
    have hEb : (E != 0) = true := by rw [bne_iff_ne]; exact hE
    clear hx hE
    go_wp2_with ((with_reducible show wpList _ _ _ _ _ _); refine' Lx.wpList_put _ rfl _ _ rfl r rfl Lx.polZ rfl ?_ ?_; any_goals (with_reducible exact Z4.out))
    obtain ⟨W9, hW9⟩ : ∃ W, W = Lx.putPol W4 r Lx.polZ := ⟨_, rfl⟩
    have z9 := Z4.out.put Lx.polZ
    rw [← hW9] at z9 ⊢
    have Z9 := Lib.hid z9
    clear hW9 z9
    have d0 := Z9.out.cell 0 _ rfl
    have d1 := Z9.out.cell 1 _ rfl
    have d2 := Z9.out.cell 2 _ rfl
    have d3 := Z9.out.cell 3 _ rfl
    have d4 := Z9.out.cell 4 _ rfl
    have d5 := Z9.out.cell 5 _ rfl
    have d6 := Z9.out.cell 6 _ rfl
    have d7 := Z9.out.cell 7 _ rfl
    have d8 := Z9.out.cell 8 _ rfl
    have d9 := Z9.out.cell 9 _ rfl
    have d10 := Z9.out.cell 10 _ rfl
    have d11 := Z9.out.cell 11 _ rfl
    have d12 := Z9.out.cell 12 _ rfl
    have d13 := Z9.out.cell 13 _ rfl
    have d14 := Z9.out.cell 14 _ rfl
    refine bodyPost_ret (v := .tuple #[.agg #[.int .i64 0, .int .i64 0, .int .i64 0, .int .i64 0, .int .i64 0, .int .i64 0, .int .i64 0, .int .i64 0, .int .i64 0, .int .i64 0, .int .i64 0, .int .i64 0, .int .i64 0, .int .i64 0, .int .i64 0], .int .i64 E]) ?_ rfl ⟨by rw [HR.out]; first | done | rfl, B4.out.trans (Z9.out.toB.mono (Nat.le_of_lt Hr.out))⟩
    simp [results, Tryz.results15, go_sem, Lx.polZ, d0, d1, d2, d3, d4, d5, d6, d7, d8, d9, d10, d11, d12, d13, d14]
set_option maxRecDepth 100000 in
set_option maxHeartbeats 3200000 in
theorem q14set3_any (p : Lx.PolV) (t s : ByteArray) (ht : t.data.toList = Lx.keyW 3) (hs : s.size ≤ 1000000) (w : World) (hgl : Tryz.prog.globals.size ≤ w.heap.size) :
    Calls Tryz.prog 15 #[p.val, .string t, .string s] w fun e w' => e = .returned (.tuple #[(Lx.setK 3 s p).1.val, .int .i64 (Lx.setK 3 s p).2]) ∧ Below w.heap.size w w' := by
  have e0 : (t.toList == [99, 97, 112]) = false := by rw [beq_eq_false_iff_ne, Lib.toList_data, ht]; decide
  have e1 : (t.toList == [112, 114, 105, 111, 114, 105, 116, 121]) = false := by rw [beq_eq_false_iff_ne, Lib.toList_data, ht]; decide
  have e2 : (t.toList == [115, 112, 108, 97, 121]) = false := by rw [beq_eq_false_iff_ne, Lib.toList_data, ht]; decide
  have e3 : (t.toList == [100, 101, 97, 100, 108, 105, 110, 101]) = true := by rw [beq_iff_eq, Lib.toList_data, ht]; rfl
  clear ht
  obtain ⟨cap, pri, spl, dl, mis, keep, lt, lu, bf, bo, bp, rm, rb, rc, rj⟩ := p
  have H0 : Lx.parE s.data.toList = 0 → Lx.setK 3 s ⟨cap, pri, spl, dl, mis, keep, lt, lu, bf, bo, bp, rm, rb, rc, rj⟩ = (⟨cap, pri, spl, Lx.parV s.data.toList, mis, keep, lt, lu, bf, bo, bp, rm, rb, rc, rj⟩, 0) := fun c => by unfold Lx.setK; rw [if_pos (show (Lx.rdK 3 s).2 = 0 from c)]; rfl
  have H1 : Lx.parE s.data.toList ≠ 0 → Lx.setK 3 s ⟨cap, pri, spl, dl, mis, keep, lt, lu, bf, bo, bp, rm, rb, rc, rj⟩ = (Lx.polZ, Lx.firstE [Lx.parE s.data.toList]) := fun c => by unfold Lx.setK; rw [if_neg (show ¬ (Lx.rdK 3 s).2 = 0 from c)]; rfl
  have HN := Lib.hid (fun W => ref_parse_any s (by omega) W)
  generalize Lx.parV s.data.toList = v at *
  generalize Lx.parE s.data.toList = x at *
  obtain ⟨R, hR⟩ : ∃ R, R = Lx.setK 3 s ⟨cap, pri, spl, dl, mis, keep, lt, lu, bf, bo, bp, rm, rb, rc, rj⟩ := ⟨_, rfl⟩
  rw [← hR] at H0 H1 ⊢
  have H0 := Lib.hid H0
  have H1 := Lib.hid H1
  clear hR
  unfold Lx.PolV.val
  dsimp only
  obtain ⟨r, hr⟩ : ∃ r, r = w.heap.size + 1 := ⟨_, rfl⟩
  obtain ⟨W1, hW1⟩ : ∃ W1, W1 = ((w.alloc (.cells #[.int .i64 cap, .int .i64 pri, .int .i64 spl, .int .i64 dl, .int .i64 mis, .int .i64 keep, .int .i64 lt, .int .i64 lu, .int .i64 bf, .int .i64 bo, .int .i64 bp, .int .i64 rm, .int .i64 rb, .int .i64 rc, .int .i64 rj] 29)).alloc (.cells #[.int .i64 0, .int .i64 0, .int .i64 0, .int .i64 0, .int .i64 0, .int .i64 0, .int .i64 0, .int .i64 0, .int .i64 0, .int .i64 0, .int .i64 0, .int .i64 0, .int .i64 0, .int .i64 0, .int .i64 0] 29)) := ⟨_, rfl⟩
  have b0 : Below w.heap.size w (w.alloc (.cells #[.int .i64 cap, .int .i64 pri, .int .i64 spl, .int .i64 dl, .int .i64 mis, .int .i64 keep, .int .i64 lt, .int .i64 lu, .int .i64 bf, .int .i64 bo, .int .i64 bp, .int .i64 rm, .int .i64 rb, .int .i64 rc, .int .i64 rj] 29)) := (Below.refl _ w).alloc (Nat.le_refl _) _
  have b1 : Below (w.alloc (.cells #[.int .i64 cap, .int .i64 pri, .int .i64 spl, .int .i64 dl, .int .i64 mis, .int .i64 keep, .int .i64 lt, .int .i64 lu, .int .i64 bf, .int .i64 bo, .int .i64 bp, .int .i64 rm, .int .i64 rb, .int .i64 rc, .int .i64 rj] 29)).heap.size (w.alloc (.cells #[.int .i64 cap, .int .i64 pri, .int .i64 spl, .int .i64 dl, .int .i64 mis, .int .i64 keep, .int .i64 lt, .int .i64 lu, .int .i64 bf, .int .i64 bo, .int .i64 bp, .int .i64 rm, .int .i64 rb, .int .i64 rc, .int .i64 rj] 29)) W1 := by rw [hW1]; exact (Below.refl _ _).alloc (Nat.le_refl _) _
  have S1 := Lib.hid (show Lx.PSt w.heap.size W1 W1 ⟨cap, pri, spl, dl, mis, keep, lt, lu, bf, bo, bp, rm, rb, rc, rj⟩ from (Lx.PSt.new w hgl ⟨cap, pri, spl, dl, mis, keep, lt, lu, bf, bo, bp, rm, rb, rc, rj⟩).low b1)
  have Z1 := Lib.hid (show Lx.PSt r W1 W1 Lx.polZ from by
    have := Lx.PSt.new (w.alloc (.cells #[.int .i64 cap, .int .i64 pri, .int .i64 spl, .int .i64 dl, .int .i64 mis, .int .i64 keep, .int .i64 lt, .int .i64 lu, .int .i64 bf, .int .i64 bo, .int .i64 bp, .int .i64 rm, .int .i64 rb, .int .i64 rc, .int .i64 rj] 29)) (Nat.le_trans hgl (by simp)) Lx.polZ
    rw [show (w.alloc (.cells #[.int .i64 cap, .int .i64 pri, .int .i64 spl, .int .i64 dl, .int .i64 mis, .int .i64 keep, .int .i64 lt, .int .i64 lu, .int .i64 bf, .int .i64 bo, .int .i64 bp, .int .i64 rm, .int .i64 rb, .int .i64 rc, .int .i64 rj] 29)).heap.size = w.heap.size + 1 by simp, ← hr] at this
    rw [hW1]; exact this)
  have B1 := Lib.hid (b0.trans (b1.mono b0.size))
  have Hr := Lib.hid (show w.heap.size < r from by omega)
  clear b0 b1
  go_enter Tryz.func15, Tryz.ntmps15
  go_upto_region 1 with (fail)
  rw [show ((w.alloc (.cells #[.int .i64 cap, .int .i64 pri, .int .i64 spl, .int .i64 dl, .int .i64 mis, .int .i64 keep, .int .i64 lt, .int .i64 lu, .int .i64 bf, .int .i64 bo, .int .i64 bp, .int .i64 rm, .int .i64 rb, .int .i64 rc, .int .i64 rj] 29)).alloc (.cells #[.int .i64 0, .int .i64 0, .int .i64 0, .int .i64 0, .int .i64 0, .int .i64 0, .int .i64 0, .int .i64 0, .int .i64 0, .int .i64 0, .int .i64 0, .int .i64 0, .int .i64 0, .int .i64 0, .int .i64 0] 29)) = W1 from hW1.symm, show w.heap.size + 1 = r from hr.symm]
  clear hW1 hr
  go_wp2_with fail
  refine (HN.out _).mono ?_
  rintro e w2 ⟨rfl, c2⟩
  have S2 := Lib.hid (S1.out.low c2)
  have Z2 := Lib.hid (Z1.out.low c2)
  have B2 := Lib.hid (B1.out.trans (c2.mono B1.out.size))
  clear c2
  have a3 : w2.cell? ⟨w.heap.size, 3, none⟩ = some _ := S2.out.cell 3 _ rfl
  have ya3 : w2.frozen? ⟨w.heap.size, 3, none⟩ = false := S2.out.fz 3 (by omega)
  obtain ⟨W3, hW3⟩ : ∃ W3, W3 = (w2.setCell ⟨w.heap.size, 3, none⟩ (.int .i64 v)) := ⟨_, rfl⟩
  have T := Lib.hid (show Lx.PSt w.heap.size w2 W3 ⟨cap, pri, spl, v, mis, keep, lt, lu, bf, bo, bp, rm, rb, rc, rj⟩ from by rw [hW3]; exact (S2.out.set (q' := ⟨cap, pri, spl, v, mis, keep, lt, lu, bf, bo, bp, rm, rb, rc, rj⟩) (j := 3) (v := .int .i64 v) (by omega) rfl))
  have S3 := Lib.hid (show Lx.PSt w.heap.size W3 W3 ⟨cap, pri, spl, v, mis, keep, lt, lu, bf, bo, bp, rm, rb, rc, rj⟩ from ⟨T.out.size, T.out.gl, World.grownBy.refl _ _, T.out.cell, T.out.fz⟩)
  have Z3 := Lib.hid (Z2.out.beside T.out.gb (fun c => by have := Option.some.inj c; have := Hr.out; omega))
  have B3 := Lib.hid (B2.out.trans (T.out.toB.mono (Nat.le_refl _)))
  go_upto_region 22 with (fail)
  rw [show (w2.setCell ⟨w.heap.size, 3, none⟩ (.int .i64 v)) = W3 from hW3.symm]
  clear hW3 T S2 Z2 B2 a3 ya3
  go_wp2_with fail
  refine (q14worst1 x _).mono ?_
  rintro e w8 ⟨rfl, rfl⟩
  obtain ⟨W4, hW4⟩ : ∃ W4, W4 = W3.alloc (.cells #[.int .i64 x] 31) := ⟨_, rfl⟩
  rw [show W3.alloc (.cells #[.int .i64 x] 31) = W4 from hW4.symm]
  have c4 : Below W3.heap.size W3 W4 := by rw [hW4]; exact (Below.refl _ _).alloc (Nat.le_refl _) _
  have S4 := Lib.hid (S3.out.low c4)
  have Z4 := Lib.hid (Z3.out.low c4)
  have B4 := Lib.hid (B3.out.trans (c4.mono B3.out.size))
  clear hW4 c4 S3 Z3 B3
  by_cases hx : x = 0
  · have HR := Lib.hid (H0.out hx)
    rw [show Lx.firstE [x] = 0 from by rw [hx]; rfl]
    clear hx
    go_wp2_with (first | ((with_reducible show wpList _ _ _ _ _ _); refine' Lx.wpList_get _ rfl _ rfl w.heap.size rfl ?_ ?_; any_goals (with_reducible exact S4.out)) | ((with_reducible show wpList _ _ _ _ _ _); refine' Lx.wpList_put _ rfl _ _ rfl r rfl ⟨cap, pri, spl, v, mis, keep, lt, lu, bf, bo, bp, rm, rb, rc, rj⟩ rfl ?_ ?_; any_goals (with_reducible exact Z4.out)))
    obtain ⟨W9, hW9⟩ : ∃ W, W = Lx.putPol W4 r (⟨cap, pri, spl, v, mis, keep, lt, lu, bf, bo, bp, rm, rb, rc, rj⟩ : Lx.PolV) := ⟨_, rfl⟩
    have z9 := Z4.out.put (⟨cap, pri, spl, v, mis, keep, lt, lu, bf, bo, bp, rm, rb, rc, rj⟩ : Lx.PolV)
    rw [← hW9] at z9 ⊢
    have Z9 := Lib.hid z9
    clear hW9 z9
    have d0 := Z9.out.cell 0 _ rfl
    have d1 := Z9.out.cell 1 _ rfl
    have d2 := Z9.out.cell 2 _ rfl
    have d3 := Z9.out.cell 3 _ rfl
    have d4 := Z9.out.cell 4 _ rfl
    have d5 := Z9.out.cell 5 _ rfl
    have d6 := Z9.out.cell 6 _ rfl
    have d7 := Z9.out.cell 7 _ rfl
    have d8 := Z9.out.cell 8 _ rfl
    have d9 := Z9.out.cell 9 _ rfl
    have d10 := Z9.out.cell 10 _ rfl
    have d11 := Z9.out.cell 11 _ rfl
    have d12 := Z9.out.cell 12 _ rfl
    have d13 := Z9.out.cell 13 _ rfl
    have d14 := Z9.out.cell 14 _ rfl
    refine bodyPost_ret (v := .tuple #[.agg #[.int .i64 cap, .int .i64 pri, .int .i64 spl, .int .i64 v, .int .i64 mis, .int .i64 keep, .int .i64 lt, .int .i64 lu, .int .i64 bf, .int .i64 bo, .int .i64 bp, .int .i64 rm, .int .i64 rb, .int .i64 rc, .int .i64 rj], .int .i64 0]) ?_ rfl ⟨by rw [HR.out]; first | done | rfl, B4.out.trans (Z9.out.toB.mono (Nat.le_of_lt Hr.out))⟩
    simp [results, Tryz.results15, go_sem, d0, d1, d2, d3, d4, d5, d6, d7, d8, d9, d10, d11, d12, d13, d14]
  · have HR := Lib.hid (H1.out hx)
    have hE := Lx.firstE_ne hx
    generalize Lx.firstE [x] = E at *
    have hEb : (E != 0) = true := by rw [bne_iff_ne]; exact hE
    clear hx hE
    go_wp2_with ((with_reducible show wpList _ _ _ _ _ _); refine' Lx.wpList_put _ rfl _ _ rfl r rfl Lx.polZ rfl ?_ ?_; any_goals (with_reducible exact Z4.out))
    obtain ⟨W9, hW9⟩ : ∃ W, W = Lx.putPol W4 r Lx.polZ := ⟨_, rfl⟩
    have z9 := Z4.out.put Lx.polZ
    rw [← hW9] at z9 ⊢
    have Z9 := Lib.hid z9
    clear hW9 z9
    have d0 := Z9.out.cell 0 _ rfl
    have d1 := Z9.out.cell 1 _ rfl
    have d2 := Z9.out.cell 2 _ rfl
    have d3 := Z9.out.cell 3 _ rfl
    have d4 := Z9.out.cell 4 _ rfl
    have d5 := Z9.out.cell 5 _ rfl
    have d6 := Z9.out.cell 6 _ rfl
    have d7 := Z9.out.cell 7 _ rfl
    have d8 := Z9.out.cell 8 _ rfl
    have d9 := Z9.out.cell 9 _ rfl
    have d10 := Z9.out.cell 10 _ rfl
    have d11 := Z9.out.cell 11 _ rfl
    have d12 := Z9.out.cell 12 _ rfl
    have d13 := Z9.out.cell 13 _ rfl
    have d14 := Z9.out.cell 14 _ rfl
    refine bodyPost_ret (v := .tuple #[.agg #[.int .i64 0, .int .i64 0, .int .i64 0, .int .i64 0, .int .i64 0, .int .i64 0, .int .i64 0, .int .i64 0, .int .i64 0, .int .i64 0, .int .i64 0, .int .i64 0, .int .i64 0, .int .i64 0, .int .i64 0], .int .i64 E]) ?_ rfl ⟨by rw [HR.out]; first | done | rfl, B4.out.trans (Z9.out.toB.mono (Nat.le_of_lt Hr.out))⟩
    simp [results, Tryz.results15, go_sem, Lx.polZ, d0, d1, d2, d3, d4, d5, d6, d7, d8, d9, d10, d11, d12, d13, d14]
set_option maxRecDepth 100000 in
set_option maxHeartbeats 3200000 in
theorem q14set4_any (p : Lx.PolV) (t s : ByteArray) (ht : t.data.toList = Lx.keyW 4) (hs : s.size ≤ 1000000) (w : World) (hgl : Tryz.prog.globals.size ≤ w.heap.size) :
    Calls Tryz.prog 15 #[p.val, .string t, .string s] w fun e w' => e = .returned (.tuple #[(Lx.setK 4 s p).1.val, .int .i64 (Lx.setK 4 s p).2]) ∧ Below w.heap.size w w' := by
  have e0 : (t.toList == [99, 97, 112]) = false := by rw [beq_eq_false_iff_ne, Lib.toList_data, ht]; decide
  have e1 : (t.toList == [112, 114, 105, 111, 114, 105, 116, 121]) = false := by rw [beq_eq_false_iff_ne, Lib.toList_data, ht]; decide
  have e2 : (t.toList == [115, 112, 108, 97, 121]) = false := by rw [beq_eq_false_iff_ne, Lib.toList_data, ht]; decide
  have e3 : (t.toList == [100, 101, 97, 100, 108, 105, 110, 101]) = false := by rw [beq_eq_false_iff_ne, Lib.toList_data, ht]; decide
  have e4 : (t.toList == [109, 105, 115, 102, 105, 114, 101]) = true := by rw [beq_iff_eq, Lib.toList_data, ht]; rfl
  clear ht
  obtain ⟨cap, pri, spl, dl, mis, keep, lt, lu, bf, bo, bp, rm, rb, rc, rj⟩ := p
  have H0 : Lx.firstE [(Lx.rdMis s.data.toList).2] = 0 → Lx.setK 4 s ⟨cap, pri, spl, dl, mis, keep, lt, lu, bf, bo, bp, rm, rb, rc, rj⟩ = (⟨cap, pri, spl, dl, (Lx.rdMis s.data.toList).1.mis, (Lx.rdMis s.data.toList).1.keep, lt, lu, bf, bo, bp, rm, rb, rc, rj⟩, 0) := fun c => by
    have c2 : (Lx.rdK 4 s).2 = 0 := Lx.firstE_zero.1 c _ List.mem_cons_self
    unfold Lx.setK; rw [if_pos c2]; rfl
  have H1 : Lx.firstE [(Lx.rdMis s.data.toList).2] ≠ 0 → Lx.setK 4 s ⟨cap, pri, spl, dl, mis, keep, lt, lu, bf, bo, bp, rm, rb, rc, rj⟩ = (Lx.polZ, Lx.firstE [Lx.firstE [(Lx.rdMis s.data.toList).2]]) := fun c => by
    have c2 : ¬ (Lx.rdK 4 s).2 = 0 := fun e => c (by rw [show (Lx.rdMis s.data.toList).2 = 0 from e]; rfl)
    rw [Lx.firstE_one (Lx.firstE_three _)]; unfold Lx.setK; rw [if_neg c2]; rfl
  have HN := Lib.hid (fun W => q14misf_any s W hs)
  generalize (Lx.rdMis s.data.toList).1.mis = v at *
  generalize (Lx.rdMis s.data.toList).1.keep = v2 at *
  generalize Lx.firstE [(Lx.rdMis s.data.toList).2] = x at *
  obtain ⟨R, hR⟩ : ∃ R, R = Lx.setK 4 s ⟨cap, pri, spl, dl, mis, keep, lt, lu, bf, bo, bp, rm, rb, rc, rj⟩ := ⟨_, rfl⟩
  rw [← hR] at H0 H1 ⊢
  have H0 := Lib.hid H0
  have H1 := Lib.hid H1
  clear hR
  unfold Lx.PolV.val
  dsimp only
  obtain ⟨r, hr⟩ : ∃ r, r = w.heap.size + 1 := ⟨_, rfl⟩
  obtain ⟨W1, hW1⟩ : ∃ W1, W1 = ((w.alloc (.cells #[.int .i64 cap, .int .i64 pri, .int .i64 spl, .int .i64 dl, .int .i64 mis, .int .i64 keep, .int .i64 lt, .int .i64 lu, .int .i64 bf, .int .i64 bo, .int .i64 bp, .int .i64 rm, .int .i64 rb, .int .i64 rc, .int .i64 rj] 29)).alloc (.cells #[.int .i64 0, .int .i64 0, .int .i64 0, .int .i64 0, .int .i64 0, .int .i64 0, .int .i64 0, .int .i64 0, .int .i64 0, .int .i64 0, .int .i64 0, .int .i64 0, .int .i64 0, .int .i64 0, .int .i64 0] 29)) := ⟨_, rfl⟩
  have b0 : Below w.heap.size w (w.alloc (.cells #[.int .i64 cap, .int .i64 pri, .int .i64 spl, .int .i64 dl, .int .i64 mis, .int .i64 keep, .int .i64 lt, .int .i64 lu, .int .i64 bf, .int .i64 bo, .int .i64 bp, .int .i64 rm, .int .i64 rb, .int .i64 rc, .int .i64 rj] 29)) := (Below.refl _ w).alloc (Nat.le_refl _) _
  have b1 : Below (w.alloc (.cells #[.int .i64 cap, .int .i64 pri, .int .i64 spl, .int .i64 dl, .int .i64 mis, .int .i64 keep, .int .i64 lt, .int .i64 lu, .int .i64 bf, .int .i64 bo, .int .i64 bp, .int .i64 rm, .int .i64 rb, .int .i64 rc, .int .i64 rj] 29)).heap.size (w.alloc (.cells #[.int .i64 cap, .int .i64 pri, .int .i64 spl, .int .i64 dl, .int .i64 mis, .int .i64 keep, .int .i64 lt, .int .i64 lu, .int .i64 bf, .int .i64 bo, .int .i64 bp, .int .i64 rm, .int .i64 rb, .int .i64 rc, .int .i64 rj] 29)) W1 := by rw [hW1]; exact (Below.refl _ _).alloc (Nat.le_refl _) _
  have S1 := Lib.hid (show Lx.PSt w.heap.size W1 W1 ⟨cap, pri, spl, dl, mis, keep, lt, lu, bf, bo, bp, rm, rb, rc, rj⟩ from (Lx.PSt.new w hgl ⟨cap, pri, spl, dl, mis, keep, lt, lu, bf, bo, bp, rm, rb, rc, rj⟩).low b1)
  have Z1 := Lib.hid (show Lx.PSt r W1 W1 Lx.polZ from by
    have := Lx.PSt.new (w.alloc (.cells #[.int .i64 cap, .int .i64 pri, .int .i64 spl, .int .i64 dl, .int .i64 mis, .int .i64 keep, .int .i64 lt, .int .i64 lu, .int .i64 bf, .int .i64 bo, .int .i64 bp, .int .i64 rm, .int .i64 rb, .int .i64 rc, .int .i64 rj] 29)) (Nat.le_trans hgl (by simp)) Lx.polZ
    rw [show (w.alloc (.cells #[.int .i64 cap, .int .i64 pri, .int .i64 spl, .int .i64 dl, .int .i64 mis, .int .i64 keep, .int .i64 lt, .int .i64 lu, .int .i64 bf, .int .i64 bo, .int .i64 bp, .int .i64 rm, .int .i64 rb, .int .i64 rc, .int .i64 rj] 29)).heap.size = w.heap.size + 1 by simp, ← hr] at this
    rw [hW1]; exact this)
  have B1 := Lib.hid (b0.trans (b1.mono b0.size))
  have Hr := Lib.hid (show w.heap.size < r from by omega)
  clear b0 b1
  go_enter Tryz.func15, Tryz.ntmps15
  go_upto_region 1 with (fail)
  rw [show ((w.alloc (.cells #[.int .i64 cap, .int .i64 pri, .int .i64 spl, .int .i64 dl, .int .i64 mis, .int .i64 keep, .int .i64 lt, .int .i64 lu, .int .i64 bf, .int .i64 bo, .int .i64 bp, .int .i64 rm, .int .i64 rb, .int .i64 rc, .int .i64 rj] 29)).alloc (.cells #[.int .i64 0, .int .i64 0, .int .i64 0, .int .i64 0, .int .i64 0, .int .i64 0, .int .i64 0, .int .i64 0, .int .i64 0, .int .i64 0, .int .i64 0, .int .i64 0, .int .i64 0, .int .i64 0, .int .i64 0] 29)) = W1 from hW1.symm, show w.heap.size + 1 = r from hr.symm]
  clear hW1 hr
  go_wp2_with fail
  refine (HN.out _).mono ?_
  rintro e w2 ⟨rfl, c2⟩
  have S2 := Lib.hid (S1.out.low c2)
  have Z2 := Lib.hid (Z1.out.low c2)
  have B2 := Lib.hid (B1.out.trans (c2.mono B1.out.size))
  clear c2
  have a4 : w2.cell? ⟨w.heap.size, 4, none⟩ = some _ := S2.out.cell 4 _ rfl
  have a5 : w2.cell? ⟨w.heap.size, 5, none⟩ = some _ := S2.out.cell 5 _ rfl
  have ya4 : w2.frozen? ⟨w.heap.size, 4, none⟩ = false := S2.out.fz 4 (by omega)
  have ya5 : w2.frozen? ⟨w.heap.size, 5, none⟩ = false := S2.out.fz 5 (by omega)
  obtain ⟨W3, hW3⟩ : ∃ W3, W3 = ((w2.setCell ⟨w.heap.size, 4, none⟩ (.int .i64 v)).setCell ⟨w.heap.size, 5, none⟩ (.int .i64 v2)) := ⟨_, rfl⟩
  have T := Lib.hid (show Lx.PSt w.heap.size w2 W3 ⟨cap, pri, spl, dl, v, v2, lt, lu, bf, bo, bp, rm, rb, rc, rj⟩ from by rw [hW3]; exact ((S2.out.set (q' := ⟨cap, pri, spl, dl, v, keep, lt, lu, bf, bo, bp, rm, rb, rc, rj⟩) (j := 4) (v := .int .i64 v) (by omega) rfl).set (q' := ⟨cap, pri, spl, dl, v, v2, lt, lu, bf, bo, bp, rm, rb, rc, rj⟩) (j := 5) (v := .int .i64 v2) (by omega) rfl))
  have S3 := Lib.hid (show Lx.PSt w.heap.size W3 W3 ⟨cap, pri, spl, dl, v, v2, lt, lu, bf, bo, bp, rm, rb, rc, rj⟩ from ⟨T.out.size, T.out.gl, World.grownBy.refl _ _, T.out.cell, T.out.fz⟩)
  have Z3 := Lib.hid (Z2.out.beside T.out.gb (fun c => by have := Option.some.inj c; have := Hr.out; omega))
  have B3 := Lib.hid (B2.out.trans (T.out.toB.mono (Nat.le_refl _)))
  go_upto_region 22 with (fail)
  rw [show ((w2.setCell ⟨w.heap.size, 4, none⟩ (.int .i64 v)).setCell ⟨w.heap.size, 5, none⟩ (.int .i64 v2)) = W3 from hW3.symm]
  clear hW3 T S2 Z2 B2 a4 ya4 a5 ya5
  go_wp2_with fail
  refine (q14worst1 x _).mono ?_
  rintro e w8 ⟨rfl, rfl⟩
  obtain ⟨W4, hW4⟩ : ∃ W4, W4 = W3.alloc (.cells #[.int .i64 x] 31) := ⟨_, rfl⟩
  rw [show W3.alloc (.cells #[.int .i64 x] 31) = W4 from hW4.symm]
  have c4 : Below W3.heap.size W3 W4 := by rw [hW4]; exact (Below.refl _ _).alloc (Nat.le_refl _) _
  have S4 := Lib.hid (S3.out.low c4)
  have Z4 := Lib.hid (Z3.out.low c4)
  have B4 := Lib.hid (B3.out.trans (c4.mono B3.out.size))
  clear hW4 c4 S3 Z3 B3
  by_cases hx : x = 0
  · have HR := Lib.hid (H0.out hx)
    rw [show Lx.firstE [x] = 0 from by rw [hx]; rfl]
    clear hx
    go_wp2_with (first | ((with_reducible show wpList _ _ _ _ _ _); refine' Lx.wpList_get _ rfl _ rfl w.heap.size rfl ?_ ?_; any_goals (with_reducible exact S4.out)) | ((with_reducible show wpList _ _ _ _ _ _); refine' Lx.wpList_put _ rfl _ _ rfl r rfl ⟨cap, pri, spl, dl, v, v2, lt, lu, bf, bo, bp, rm, rb, rc, rj⟩ rfl ?_ ?_; any_goals (with_reducible exact Z4.out)))
    obtain ⟨W9, hW9⟩ : ∃ W, W = Lx.putPol W4 r (⟨cap, pri, spl, dl, v, v2, lt, lu, bf, bo, bp, rm, rb, rc, rj⟩ : Lx.PolV) := ⟨_, rfl⟩
    have z9 := Z4.out.put (⟨cap, pri, spl, dl, v, v2, lt, lu, bf, bo, bp, rm, rb, rc, rj⟩ : Lx.PolV)
    rw [← hW9] at z9 ⊢
    have Z9 := Lib.hid z9
    clear hW9 z9
    have d0 := Z9.out.cell 0 _ rfl
    have d1 := Z9.out.cell 1 _ rfl
    have d2 := Z9.out.cell 2 _ rfl
    have d3 := Z9.out.cell 3 _ rfl
    have d4 := Z9.out.cell 4 _ rfl
    have d5 := Z9.out.cell 5 _ rfl
    have d6 := Z9.out.cell 6 _ rfl
    have d7 := Z9.out.cell 7 _ rfl
    have d8 := Z9.out.cell 8 _ rfl
    have d9 := Z9.out.cell 9 _ rfl
    have d10 := Z9.out.cell 10 _ rfl
    have d11 := Z9.out.cell 11 _ rfl
    have d12 := Z9.out.cell 12 _ rfl
    have d13 := Z9.out.cell 13 _ rfl
    have d14 := Z9.out.cell 14 _ rfl
    refine bodyPost_ret (v := .tuple #[.agg #[.int .i64 cap, .int .i64 pri, .int .i64 spl, .int .i64 dl, .int .i64 v, .int .i64 v2, .int .i64 lt, .int .i64 lu, .int .i64 bf, .int .i64 bo, .int .i64 bp, .int .i64 rm, .int .i64 rb, .int .i64 rc, .int .i64 rj], .int .i64 0]) ?_ rfl ⟨by rw [HR.out]; first | done | rfl, B4.out.trans (Z9.out.toB.mono (Nat.le_of_lt Hr.out))⟩
    simp [results, Tryz.results15, go_sem, d0, d1, d2, d3, d4, d5, d6, d7, d8, d9, d10, d11, d12, d13, d14]
  · have HR := Lib.hid (H1.out hx)
    have hE := Lx.firstE_ne hx
    generalize Lx.firstE [x] = E at *
    have hEb : (E != 0) = true := by rw [bne_iff_ne]; exact hE
    clear hx hE
    go_wp2_with ((with_reducible show wpList _ _ _ _ _ _); refine' Lx.wpList_put _ rfl _ _ rfl r rfl Lx.polZ rfl ?_ ?_; any_goals (with_reducible exact Z4.out))
    obtain ⟨W9, hW9⟩ : ∃ W, W = Lx.putPol W4 r Lx.polZ := ⟨_, rfl⟩
    have z9 := Z4.out.put Lx.polZ
    rw [← hW9] at z9 ⊢
    have Z9 := Lib.hid z9
    clear hW9 z9
    have d0 := Z9.out.cell 0 _ rfl
    have d1 := Z9.out.cell 1 _ rfl
    have d2 := Z9.out.cell 2 _ rfl
    have d3 := Z9.out.cell 3 _ rfl
    have d4 := Z9.out.cell 4 _ rfl
    have d5 := Z9.out.cell 5 _ rfl
    have d6 := Z9.out.cell 6 _ rfl
    have d7 := Z9.out.cell 7 _ rfl
    have d8 := Z9.out.cell 8 _ rfl
    have d9 := Z9.out.cell 9 _ rfl
    have d10 := Z9.out.cell 10 _ rfl
    have d11 := Z9.out.cell 11 _ rfl
    have d12 := Z9.out.cell 12 _ rfl
    have d13 := Z9.out.cell 13 _ rfl
    have d14 := Z9.out.cell 14 _ rfl
    refine bodyPost_ret (v := .tuple #[.agg #[.int .i64 0, .int .i64 0, .int .i64 0, .int .i64 0, .int .i64 0, .int .i64 0, .int .i64 0, .int .i64 0, .int .i64 0, .int .i64 0, .int .i64 0, .int .i64 0, .int .i64 0, .int .i64 0, .int .i64 0], .int .i64 E]) ?_ rfl ⟨by rw [HR.out]; first | done | rfl, B4.out.trans (Z9.out.toB.mono (Nat.le_of_lt Hr.out))⟩
    simp [results, Tryz.results15, go_sem, Lx.polZ, d0, d1, d2, d3, d4, d5, d6, d7, d8, d9, d10, d11, d12, d13, d14]
set_option maxRecDepth 100000 in
set_option maxHeartbeats 3200000 in
theorem q14set5_any (p : Lx.PolV) (t s : ByteArray) (ht : t.data.toList = Lx.keyW 5) (hs : s.size ≤ 1000000) (w : World) (hgl : Tryz.prog.globals.size ≤ w.heap.size) :
    Calls Tryz.prog 15 #[p.val, .string t, .string s] w fun e w' => e = .returned (.tuple #[(Lx.setK 5 s p).1.val, .int .i64 (Lx.setK 5 s p).2]) ∧ Below w.heap.size w w' := by
  have e0 : (t.toList == [99, 97, 112]) = false := by rw [beq_eq_false_iff_ne, Lib.toList_data, ht]; decide
  have e1 : (t.toList == [112, 114, 105, 111, 114, 105, 116, 121]) = false := by rw [beq_eq_false_iff_ne, Lib.toList_data, ht]; decide
  have e2 : (t.toList == [115, 112, 108, 97, 121]) = false := by rw [beq_eq_false_iff_ne, Lib.toList_data, ht]; decide
  have e3 : (t.toList == [100, 101, 97, 100, 108, 105, 110, 101]) = false := by rw [beq_eq_false_iff_ne, Lib.toList_data, ht]; decide
  have e4 : (t.toList == [109, 105, 115, 102, 105, 114, 101]) = false := by rw [beq_eq_false_iff_ne, Lib.toList_data, ht]; decide
  have e5 : (t.toList == [108, 105, 109, 105, 116]) = true := by rw [beq_iff_eq, Lib.toList_data, ht]; rfl
  clear ht
  obtain ⟨cap, pri, spl, dl, mis, keep, lt, lu, bf, bo, bp, rm, rb, rc, rj⟩ := p
  have H0 : (if Lx.limE s = 0 then Lx.limErr (Lx.limT s) (Lx.limU s) else Lx.limE s) = 0 → Lx.setK 5 s ⟨cap, pri, spl, dl, mis, keep, lt, lu, bf, bo, bp, rm, rb, rc, rj⟩ = (⟨cap, pri, spl, dl, mis, keep, Lx.limT s, Lx.limU s, bf, bo, bp, rm, rb, rc, rj⟩, 0) := fun c => by
    have c2 : (Lx.rdK 5 s).2 = 0 := by
      show Lx.firstE [Lx.limE s, Lx.limErr (Lx.limT s) (Lx.limU s)] = 0
      rw [Lx.fst_two (Lx.limErr_two _ _)]
      split at c
      · rename_i e; rw [if_pos e]; exact c
      · rename_i e; exact absurd c e
    unfold Lx.setK; rw [if_pos c2]; rfl
  have H1 : (if Lx.limE s = 0 then Lx.limErr (Lx.limT s) (Lx.limU s) else Lx.limE s) ≠ 0 → Lx.setK 5 s ⟨cap, pri, spl, dl, mis, keep, lt, lu, bf, bo, bp, rm, rb, rc, rj⟩ = (Lx.polZ, Lx.firstE [if Lx.limE s = 0 then Lx.limErr (Lx.limT s) (Lx.limU s) else Lx.limE s]) := fun c => by
    have c3 : (Lx.rdK 5 s).2 = Lx.firstE [if Lx.limE s = 0 then Lx.limErr (Lx.limT s) (Lx.limU s) else Lx.limE s] := by
      show Lx.firstE [Lx.limE s, Lx.limErr (Lx.limT s) (Lx.limU s)] = _
      rw [Lx.fst_two (Lx.limErr_two _ _)]
      split
      · rw [Lx.firstE_one ((Lx.limErr_two _ _).elim .inl (fun e => .inr (.inr e)))]
      · rfl
    have c2 : ¬ (Lx.rdK 5 s).2 = 0 := by rw [c3]; exact Lx.firstE_ne c
    unfold Lx.setK; rw [if_neg c2, c3, Lx.firstE_one (Lx.firstE_three _)]
  have HN := Lib.hid (fun W => ref_limit_any s (by omega) W)
  have HL := Lib.hid (fun W => q14lim_any (Lx.limT s) (Lx.limU s) W)
  generalize Lx.limErr (Lx.limT s) (Lx.limU s) = le at *
  generalize Lx.limT s = v at *
  generalize Lx.limU s = v2 at *
  generalize Lx.limE s = x at *
  obtain ⟨R, hR⟩ : ∃ R, R = Lx.setK 5 s ⟨cap, pri, spl, dl, mis, keep, lt, lu, bf, bo, bp, rm, rb, rc, rj⟩ := ⟨_, rfl⟩
  rw [← hR] at H0 H1 ⊢
  have H0 := Lib.hid H0
  have H1 := Lib.hid H1
  clear hR
  unfold Lx.PolV.val
  dsimp only
  obtain ⟨r, hr⟩ : ∃ r, r = w.heap.size + 1 := ⟨_, rfl⟩
  obtain ⟨W1, hW1⟩ : ∃ W1, W1 = ((w.alloc (.cells #[.int .i64 cap, .int .i64 pri, .int .i64 spl, .int .i64 dl, .int .i64 mis, .int .i64 keep, .int .i64 lt, .int .i64 lu, .int .i64 bf, .int .i64 bo, .int .i64 bp, .int .i64 rm, .int .i64 rb, .int .i64 rc, .int .i64 rj] 29)).alloc (.cells #[.int .i64 0, .int .i64 0, .int .i64 0, .int .i64 0, .int .i64 0, .int .i64 0, .int .i64 0, .int .i64 0, .int .i64 0, .int .i64 0, .int .i64 0, .int .i64 0, .int .i64 0, .int .i64 0, .int .i64 0] 29)) := ⟨_, rfl⟩
  have b0 : Below w.heap.size w (w.alloc (.cells #[.int .i64 cap, .int .i64 pri, .int .i64 spl, .int .i64 dl, .int .i64 mis, .int .i64 keep, .int .i64 lt, .int .i64 lu, .int .i64 bf, .int .i64 bo, .int .i64 bp, .int .i64 rm, .int .i64 rb, .int .i64 rc, .int .i64 rj] 29)) := (Below.refl _ w).alloc (Nat.le_refl _) _
  have b1 : Below (w.alloc (.cells #[.int .i64 cap, .int .i64 pri, .int .i64 spl, .int .i64 dl, .int .i64 mis, .int .i64 keep, .int .i64 lt, .int .i64 lu, .int .i64 bf, .int .i64 bo, .int .i64 bp, .int .i64 rm, .int .i64 rb, .int .i64 rc, .int .i64 rj] 29)).heap.size (w.alloc (.cells #[.int .i64 cap, .int .i64 pri, .int .i64 spl, .int .i64 dl, .int .i64 mis, .int .i64 keep, .int .i64 lt, .int .i64 lu, .int .i64 bf, .int .i64 bo, .int .i64 bp, .int .i64 rm, .int .i64 rb, .int .i64 rc, .int .i64 rj] 29)) W1 := by rw [hW1]; exact (Below.refl _ _).alloc (Nat.le_refl _) _
  have S1 := Lib.hid (show Lx.PSt w.heap.size W1 W1 ⟨cap, pri, spl, dl, mis, keep, lt, lu, bf, bo, bp, rm, rb, rc, rj⟩ from (Lx.PSt.new w hgl ⟨cap, pri, spl, dl, mis, keep, lt, lu, bf, bo, bp, rm, rb, rc, rj⟩).low b1)
  have Z1 := Lib.hid (show Lx.PSt r W1 W1 Lx.polZ from by
    have := Lx.PSt.new (w.alloc (.cells #[.int .i64 cap, .int .i64 pri, .int .i64 spl, .int .i64 dl, .int .i64 mis, .int .i64 keep, .int .i64 lt, .int .i64 lu, .int .i64 bf, .int .i64 bo, .int .i64 bp, .int .i64 rm, .int .i64 rb, .int .i64 rc, .int .i64 rj] 29)) (Nat.le_trans hgl (by simp)) Lx.polZ
    rw [show (w.alloc (.cells #[.int .i64 cap, .int .i64 pri, .int .i64 spl, .int .i64 dl, .int .i64 mis, .int .i64 keep, .int .i64 lt, .int .i64 lu, .int .i64 bf, .int .i64 bo, .int .i64 bp, .int .i64 rm, .int .i64 rb, .int .i64 rc, .int .i64 rj] 29)).heap.size = w.heap.size + 1 by simp, ← hr] at this
    rw [hW1]; exact this)
  have B1 := Lib.hid (b0.trans (b1.mono b0.size))
  have Hr := Lib.hid (show w.heap.size < r from by omega)
  clear b0 b1
  go_enter Tryz.func15, Tryz.ntmps15
  go_upto_region 1 with (fail)
  rw [show ((w.alloc (.cells #[.int .i64 cap, .int .i64 pri, .int .i64 spl, .int .i64 dl, .int .i64 mis, .int .i64 keep, .int .i64 lt, .int .i64 lu, .int .i64 bf, .int .i64 bo, .int .i64 bp, .int .i64 rm, .int .i64 rb, .int .i64 rc, .int .i64 rj] 29)).alloc (.cells #[.int .i64 0, .int .i64 0, .int .i64 0, .int .i64 0, .int .i64 0, .int .i64 0, .int .i64 0, .int .i64 0, .int .i64 0, .int .i64 0, .int .i64 0, .int .i64 0, .int .i64 0, .int .i64 0, .int .i64 0] 29)) = W1 from hW1.symm, show w.heap.size + 1 = r from hr.symm]
  clear hW1 hr
  go_wp2_with fail
  refine (HN.out _).mono ?_
  rintro e w2 ⟨rfl, c2⟩
  have S2 := Lib.hid (S1.out.low c2)
  have Z2 := Lib.hid (Z1.out.low c2)
  have B2 := Lib.hid (B1.out.trans (c2.mono B1.out.size))
  clear c2
  have a6 : w2.cell? ⟨w.heap.size, 6, none⟩ = some _ := S2.out.cell 6 _ rfl
  have a7 : w2.cell? ⟨w.heap.size, 7, none⟩ = some _ := S2.out.cell 7 _ rfl
  have ya6 : w2.frozen? ⟨w.heap.size, 6, none⟩ = false := S2.out.fz 6 (by omega)
  have ya7 : w2.frozen? ⟨w.heap.size, 7, none⟩ = false := S2.out.fz 7 (by omega)
  obtain ⟨W3, hW3⟩ : ∃ W3, W3 = ((w2.setCell ⟨w.heap.size, 6, none⟩ (.int .i64 v)).setCell ⟨w.heap.size, 7, none⟩ (.int .i64 v2)) := ⟨_, rfl⟩
  have T := Lib.hid (show Lx.PSt w.heap.size w2 W3 ⟨cap, pri, spl, dl, mis, keep, v, v2, bf, bo, bp, rm, rb, rc, rj⟩ from by rw [hW3]; exact ((S2.out.set (q' := ⟨cap, pri, spl, dl, mis, keep, v, lu, bf, bo, bp, rm, rb, rc, rj⟩) (j := 6) (v := .int .i64 v) (by omega) rfl).set (q' := ⟨cap, pri, spl, dl, mis, keep, v, v2, bf, bo, bp, rm, rb, rc, rj⟩) (j := 7) (v := .int .i64 v2) (by omega) rfl))
  have S3 := Lib.hid (show Lx.PSt w.heap.size W3 W3 ⟨cap, pri, spl, dl, mis, keep, v, v2, bf, bo, bp, rm, rb, rc, rj⟩ from ⟨T.out.size, T.out.gl, World.grownBy.refl _ _, T.out.cell, T.out.fz⟩)
  have Z3 := Lib.hid (Z2.out.beside T.out.gb (fun c => by have := Option.some.inj c; have := Hr.out; omega))
  have B3 := Lib.hid (B2.out.trans (T.out.toB.mono (Nat.le_refl _)))
  go_upto_region 16 with (fail)
  rw [show ((w2.setCell ⟨w.heap.size, 6, none⟩ (.int .i64 v)).setCell ⟨w.heap.size, 7, none⟩ (.int .i64 v2)) = W3 from hW3.symm]
  clear hW3 T S2 Z2 B2 a6 ya6 a7 ya7
  by_cases hz : x = 0
  · have G0 := Lib.hid (fun c : le = 0 => H0.out (by rw [if_pos hz]; exact c))
    have G1 := Lib.hid (fun c : le ≠ 0 => H1.out (by rw [if_pos hz]; exact c))
    rw [if_pos hz] at G1
    clear H0 H1
    subst hz
    have a6 : W3.cell? ⟨w.heap.size, 6, none⟩ = some _ := S3.out.cell 6 _ rfl
    have a7 : W3.cell? ⟨w.heap.size, 7, none⟩ = some _ := S3.out.cell 7 _ rfl
    go_wp2_with fail
    refine (HL.out _).mono ?_
    rintro e w5 ⟨rfl, c5⟩
    have S5 := Lib.hid (S3.out.low c5)
    have Z5 := Lib.hid (Z3.out.low c5)
    have B5 := Lib.hid (B3.out.trans (c5.mono B3.out.size))
    clear c5 a6 a7 S3 Z3 B3
    go_wp2_with fail
    refine (q14worst1 le _).mono ?_
    rintro e w8 ⟨rfl, rfl⟩
    obtain ⟨W4, hW4⟩ : ∃ W4, W4 = w5.alloc (.cells #[.int .i64 le] 31) := ⟨_, rfl⟩
    rw [show w5.alloc (.cells #[.int .i64 le] 31) = W4 from hW4.symm]
    have c4 : Below w5.heap.size w5 W4 := by rw [hW4]; exact (Below.refl _ _).alloc (Nat.le_refl _) _
    have S4 := Lib.hid (S5.out.low c4)
    have Z4 := Lib.hid (Z5.out.low c4)
    have B4 := Lib.hid (B5.out.trans (c4.mono B5.out.size))
    clear hW4 c4 S5 Z5 B5
    by_cases hx : le = 0
    · have HR := Lib.hid (G0.out hx)
      rw [show Lx.firstE [le] = 0 from by rw [hx]; rfl]
      clear hx
      go_wp2_with (first | ((with_reducible show wpList _ _ _ _ _ _); refine' Lx.wpList_get _ rfl _ rfl w.heap.size rfl ?_ ?_; any_goals (with_reducible exact S4.out)) | ((with_reducible show wpList _ _ _ _ _ _); refine' Lx.wpList_put _ rfl _ _ rfl r rfl ⟨cap, pri, spl, dl, mis, keep, v, v2, bf, bo, bp, rm, rb, rc, rj⟩ rfl ?_ ?_; any_goals (with_reducible exact Z4.out)))
      obtain ⟨W9, hW9⟩ : ∃ W, W = Lx.putPol W4 r (⟨cap, pri, spl, dl, mis, keep, v, v2, bf, bo, bp, rm, rb, rc, rj⟩ : Lx.PolV) := ⟨_, rfl⟩
      have z9 := Z4.out.put (⟨cap, pri, spl, dl, mis, keep, v, v2, bf, bo, bp, rm, rb, rc, rj⟩ : Lx.PolV)
      rw [← hW9] at z9 ⊢
      have Z9 := Lib.hid z9
      clear hW9 z9
      have d0 := Z9.out.cell 0 _ rfl
      have d1 := Z9.out.cell 1 _ rfl
      have d2 := Z9.out.cell 2 _ rfl
      have d3 := Z9.out.cell 3 _ rfl
      have d4 := Z9.out.cell 4 _ rfl
      have d5 := Z9.out.cell 5 _ rfl
      have d6 := Z9.out.cell 6 _ rfl
      have d7 := Z9.out.cell 7 _ rfl
      have d8 := Z9.out.cell 8 _ rfl
      have d9 := Z9.out.cell 9 _ rfl
      have d10 := Z9.out.cell 10 _ rfl
      have d11 := Z9.out.cell 11 _ rfl
      have d12 := Z9.out.cell 12 _ rfl
      have d13 := Z9.out.cell 13 _ rfl
      have d14 := Z9.out.cell 14 _ rfl
      refine bodyPost_ret (v := .tuple #[.agg #[.int .i64 cap, .int .i64 pri, .int .i64 spl, .int .i64 dl, .int .i64 mis, .int .i64 keep, .int .i64 v, .int .i64 v2, .int .i64 bf, .int .i64 bo, .int .i64 bp, .int .i64 rm, .int .i64 rb, .int .i64 rc, .int .i64 rj], .int .i64 0]) ?_ rfl ⟨by rw [HR.out]; first | done | rfl, B4.out.trans (Z9.out.toB.mono (Nat.le_of_lt Hr.out))⟩
      simp [results, Tryz.results15, go_sem, d0, d1, d2, d3, d4, d5, d6, d7, d8, d9, d10, d11, d12, d13, d14]
    · have HR := Lib.hid (G1.out hx)
      have hE := Lx.firstE_ne hx
      generalize Lx.firstE [le] = E at *
      have hEb : (E != 0) = true := by rw [bne_iff_ne]; exact hE
      clear hx hE
      go_wp2_with ((with_reducible show wpList _ _ _ _ _ _); refine' Lx.wpList_put _ rfl _ _ rfl r rfl Lx.polZ rfl ?_ ?_; any_goals (with_reducible exact Z4.out))
      obtain ⟨W9, hW9⟩ : ∃ W, W = Lx.putPol W4 r Lx.polZ := ⟨_, rfl⟩
      have z9 := Z4.out.put Lx.polZ
      rw [← hW9] at z9 ⊢
      have Z9 := Lib.hid z9
      clear hW9 z9
      have d0 := Z9.out.cell 0 _ rfl
      have d1 := Z9.out.cell 1 _ rfl
      have d2 := Z9.out.cell 2 _ rfl
      have d3 := Z9.out.cell 3 _ rfl
      have d4 := Z9.out.cell 4 _ rfl
      have d5 := Z9.out.cell 5 _ rfl
      have d6 := Z9.out.cell 6 _ rfl
      have d7 := Z9.out.cell 7 _ rfl
      have d8 := Z9.out.cell 8 _ rfl
      have d9 := Z9.out.cell 9 _ rfl
      have d10 := Z9.out.cell 10 _ rfl
      have d11 := Z9.out.cell 11 _ rfl
      have d12 := Z9.out.cell 12 _ rfl
      have d13 := Z9.out.cell 13 _ rfl
      have d14 := Z9.out.cell 14 _ rfl
      refine bodyPost_ret (v := .tuple #[.agg #[.int .i64 0, .int .i64 0, .int .i64 0, .int .i64 0, .int .i64 0, .int .i64 0, .int .i64 0, .int .i64 0, .int .i64 0, .int .i64 0, .int .i64 0, .int .i64 0, .int .i64 0, .int .i64 0, .int .i64 0], .int .i64 E]) ?_ rfl ⟨by rw [HR.out]; first | done | rfl, B4.out.trans (Z9.out.toB.mono (Nat.le_of_lt Hr.out))⟩
      simp [results, Tryz.results15, go_sem, Lx.polZ, d0, d1, d2, d3, d4, d5, d6, d7, d8, d9, d10, d11, d12, d13, d14]
  have hzb : (x == 0) = false := by rw [beq_eq_false_iff_ne]; exact hz
  have G1 := Lib.hid (fun c : x ≠ 0 => H1.out (by rw [if_neg hz]; exact c))
  rw [if_neg hz] at G1
  have Hz := Lib.hid hz
  clear H0 H1 hz
  go_wp2_with fail
  refine (q14worst1 x _).mono ?_
  rintro e w8 ⟨rfl, rfl⟩
  obtain ⟨W4, hW4⟩ : ∃ W4, W4 = W3.alloc (.cells #[.int .i64 x] 31) := ⟨_, rfl⟩
  rw [show W3.alloc (.cells #[.int .i64 x] 31) = W4 from hW4.symm]
  have c4 : Below W3.heap.size W3 W4 := by rw [hW4]; exact (Below.refl _ _).alloc (Nat.le_refl _) _
  have S4 := Lib.hid (S3.out.low c4)
  have Z4 := Lib.hid (Z3.out.low c4)
  have B4 := Lib.hid (B3.out.trans (c4.mono B3.out.size))
  clear hW4 c4 S3 Z3 B3
  by_cases hx : x = 0
  · have HR := Lib.hid (show R = (⟨cap, pri, spl, dl, mis, keep, v, v2, bf, bo, bp, rm, rb, rc, rj⟩, 0) from absurd hx Hz.out)
    rw [show Lx.firstE [x] = 0 from by rw [hx]; rfl]
    clear hx
    go_wp2_with (first | ((with_reducible show wpList _ _ _ _ _ _); refine' Lx.wpList_get _ rfl _ rfl w.heap.size rfl ?_ ?_; any_goals (with_reducible exact S4.out)) | ((with_reducible show wpList _ _ _ _ _ _); refine' Lx.wpList_put _ rfl _ _ rfl r rfl ⟨cap, pri, spl, dl, mis, keep, v, v2, bf, bo, bp, rm, rb, rc, rj⟩ rfl ?_ ?_; any_goals (with_reducible exact Z4.out)))
    obtain ⟨W9, hW9⟩ : ∃ W, W = Lx.putPol W4 r (⟨cap, pri, spl, dl, mis, keep, v, v2, bf, bo, bp, rm, rb, rc, rj⟩ : Lx.PolV) := ⟨_, rfl⟩
    have z9 := Z4.out.put (⟨cap, pri, spl, dl, mis, keep, v, v2, bf, bo, bp, rm, rb, rc, rj⟩ : Lx.PolV)
    rw [← hW9] at z9 ⊢
    have Z9 := Lib.hid z9
    clear hW9 z9
    have d0 := Z9.out.cell 0 _ rfl
    have d1 := Z9.out.cell 1 _ rfl
    have d2 := Z9.out.cell 2 _ rfl
    have d3 := Z9.out.cell 3 _ rfl
    have d4 := Z9.out.cell 4 _ rfl
    have d5 := Z9.out.cell 5 _ rfl
    have d6 := Z9.out.cell 6 _ rfl
    have d7 := Z9.out.cell 7 _ rfl
    have d8 := Z9.out.cell 8 _ rfl
    have d9 := Z9.out.cell 9 _ rfl
    have d10 := Z9.out.cell 10 _ rfl
    have d11 := Z9.out.cell 11 _ rfl
    have d12 := Z9.out.cell 12 _ rfl
    have d13 := Z9.out.cell 13 _ rfl
    have d14 := Z9.out.cell 14 _ rfl
    refine bodyPost_ret (v := .tuple #[.agg #[.int .i64 cap, .int .i64 pri, .int .i64 spl, .int .i64 dl, .int .i64 mis, .int .i64 keep, .int .i64 v, .int .i64 v2, .int .i64 bf, .int .i64 bo, .int .i64 bp, .int .i64 rm, .int .i64 rb, .int .i64 rc, .int .i64 rj], .int .i64 0]) ?_ rfl ⟨by rw [HR.out]; first | done | rfl, B4.out.trans (Z9.out.toB.mono (Nat.le_of_lt Hr.out))⟩
    simp [results, Tryz.results15, go_sem, d0, d1, d2, d3, d4, d5, d6, d7, d8, d9, d10, d11, d12, d13, d14]
  · have HR := Lib.hid (G1.out hx)
    have hE := Lx.firstE_ne hx
    generalize Lx.firstE [x] = E at *
    have hEb : (E != 0) = true := by rw [bne_iff_ne]; exact hE
    clear hx hE
    go_wp2_with ((with_reducible show wpList _ _ _ _ _ _); refine' Lx.wpList_put _ rfl _ _ rfl r rfl Lx.polZ rfl ?_ ?_; any_goals (with_reducible exact Z4.out))
    obtain ⟨W9, hW9⟩ : ∃ W, W = Lx.putPol W4 r Lx.polZ := ⟨_, rfl⟩
    have z9 := Z4.out.put Lx.polZ
    rw [← hW9] at z9 ⊢
    have Z9 := Lib.hid z9
    clear hW9 z9
    have d0 := Z9.out.cell 0 _ rfl
    have d1 := Z9.out.cell 1 _ rfl
    have d2 := Z9.out.cell 2 _ rfl
    have d3 := Z9.out.cell 3 _ rfl
    have d4 := Z9.out.cell 4 _ rfl
    have d5 := Z9.out.cell 5 _ rfl
    have d6 := Z9.out.cell 6 _ rfl
    have d7 := Z9.out.cell 7 _ rfl
    have d8 := Z9.out.cell 8 _ rfl
    have d9 := Z9.out.cell 9 _ rfl
    have d10 := Z9.out.cell 10 _ rfl
    have d11 := Z9.out.cell 11 _ rfl
    have d12 := Z9.out.cell 12 _ rfl
    have d13 := Z9.out.cell 13 _ rfl
    have d14 := Z9.out.cell 14 _ rfl
    refine bodyPost_ret (v := .tuple #[.agg #[.int .i64 0, .int .i64 0, .int .i64 0, .int .i64 0, .int .i64 0, .int .i64 0, .int .i64 0, .int .i64 0, .int .i64 0, .int .i64 0, .int .i64 0, .int .i64 0, .int .i64 0, .int .i64 0, .int .i64 0], .int .i64 E]) ?_ rfl ⟨by rw [HR.out]; first | done | rfl, B4.out.trans (Z9.out.toB.mono (Nat.le_of_lt Hr.out))⟩
    simp [results, Tryz.results15, go_sem, Lx.polZ, d0, d1, d2, d3, d4, d5, d6, d7, d8, d9, d10, d11, d12, d13, d14]
set_option maxRecDepth 100000 in
set_option maxHeartbeats 3200000 in
theorem q14set6_any (p : Lx.PolV) (t s : ByteArray) (ht : t.data.toList = Lx.keyW 6) (hs : s.size ≤ 1000000) (w : World) (hgl : Tryz.prog.globals.size ≤ w.heap.size) :
    Calls Tryz.prog 15 #[p.val, .string t, .string s] w fun e w' => e = .returned (.tuple #[(Lx.setK 6 s p).1.val, .int .i64 (Lx.setK 6 s p).2]) ∧ Below w.heap.size w w' := by
  have e0 : (t.toList == [99, 97, 112]) = false := by rw [beq_eq_false_iff_ne, Lib.toList_data, ht]; decide
  have e1 : (t.toList == [112, 114, 105, 111, 114, 105, 116, 121]) = false := by rw [beq_eq_false_iff_ne, Lib.toList_data, ht]; decide
  have e2 : (t.toList == [115, 112, 108, 97, 121]) = false := by rw [beq_eq_false_iff_ne, Lib.toList_data, ht]; decide
  have e3 : (t.toList == [100, 101, 97, 100, 108, 105, 110, 101]) = false := by rw [beq_eq_false_iff_ne, Lib.toList_data, ht]; decide
  have e4 : (t.toList == [109, 105, 115, 102, 105, 114, 101]) = false := by rw [beq_eq_false_iff_ne, Lib.toList_data, ht]; decide
  have e5 : (t.toList == [108, 105, 109, 105, 116]) = false := by rw [beq_eq_false_iff_ne, Lib.toList_data, ht]; decide
  have e6 : (t.toList == [98, 114, 101, 97, 107, 101, 114]) = true := by rw [beq_iff_eq, Lib.toList_data, ht]; rfl
  clear ht
  obtain ⟨cap, pri, spl, dl, mis, keep, lt, lu, bf, bo, bp, rm, rb, rc, rj⟩ := p
  have H0 : (Lx.rdBr s).2 = 0 → Lx.setK 6 s ⟨cap, pri, spl, dl, mis, keep, lt, lu, bf, bo, bp, rm, rb, rc, rj⟩ = (⟨cap, pri, spl, dl, mis, keep, lt, lu, (Lx.rdBr s).1.bf, (Lx.rdBr s).1.bo, (Lx.rdBr s).1.bp, rm, rb, rc, rj⟩, 0) := fun c => by unfold Lx.setK; rw [if_pos (show (Lx.rdK 6 s).2 = 0 from c)]; rfl
  have H1 : (Lx.rdBr s).2 ≠ 0 → Lx.setK 6 s ⟨cap, pri, spl, dl, mis, keep, lt, lu, bf, bo, bp, rm, rb, rc, rj⟩ = (Lx.polZ, Lx.firstE [(Lx.rdBr s).2]) := fun c => by unfold Lx.setK; rw [if_neg (show ¬ (Lx.rdK 6 s).2 = 0 from c)]; rfl
  have HN := Lib.hid (fun W => q14brk_any s W hs)
  generalize (Lx.rdBr s).1.bf = v0 at *
  generalize (Lx.rdBr s).1.bo = v1 at *
  generalize (Lx.rdBr s).1.bp = v2 at *
  generalize (Lx.rdBr s).2 = x at *
  obtain ⟨R, hR⟩ : ∃ R, R = Lx.setK 6 s ⟨cap, pri, spl, dl, mis, keep, lt, lu, bf, bo, bp, rm, rb, rc, rj⟩ := ⟨_, rfl⟩
  rw [← hR] at H0 H1 ⊢
  have H0 := Lib.hid H0
  have H1 := Lib.hid H1
  clear hR
  unfold Lx.PolV.val
  dsimp only
  obtain ⟨r, hr⟩ : ∃ r, r = w.heap.size + 1 := ⟨_, rfl⟩
  obtain ⟨W1, hW1⟩ : ∃ W1, W1 = ((w.alloc (.cells #[.int .i64 cap, .int .i64 pri, .int .i64 spl, .int .i64 dl, .int .i64 mis, .int .i64 keep, .int .i64 lt, .int .i64 lu, .int .i64 bf, .int .i64 bo, .int .i64 bp, .int .i64 rm, .int .i64 rb, .int .i64 rc, .int .i64 rj] 29)).alloc (.cells #[.int .i64 0, .int .i64 0, .int .i64 0, .int .i64 0, .int .i64 0, .int .i64 0, .int .i64 0, .int .i64 0, .int .i64 0, .int .i64 0, .int .i64 0, .int .i64 0, .int .i64 0, .int .i64 0, .int .i64 0] 29)) := ⟨_, rfl⟩
  have b0 : Below w.heap.size w (w.alloc (.cells #[.int .i64 cap, .int .i64 pri, .int .i64 spl, .int .i64 dl, .int .i64 mis, .int .i64 keep, .int .i64 lt, .int .i64 lu, .int .i64 bf, .int .i64 bo, .int .i64 bp, .int .i64 rm, .int .i64 rb, .int .i64 rc, .int .i64 rj] 29)) := (Below.refl _ w).alloc (Nat.le_refl _) _
  have b1 : Below (w.alloc (.cells #[.int .i64 cap, .int .i64 pri, .int .i64 spl, .int .i64 dl, .int .i64 mis, .int .i64 keep, .int .i64 lt, .int .i64 lu, .int .i64 bf, .int .i64 bo, .int .i64 bp, .int .i64 rm, .int .i64 rb, .int .i64 rc, .int .i64 rj] 29)).heap.size (w.alloc (.cells #[.int .i64 cap, .int .i64 pri, .int .i64 spl, .int .i64 dl, .int .i64 mis, .int .i64 keep, .int .i64 lt, .int .i64 lu, .int .i64 bf, .int .i64 bo, .int .i64 bp, .int .i64 rm, .int .i64 rb, .int .i64 rc, .int .i64 rj] 29)) W1 := by rw [hW1]; exact (Below.refl _ _).alloc (Nat.le_refl _) _
  have S1 := Lib.hid (show Lx.PSt w.heap.size W1 W1 ⟨cap, pri, spl, dl, mis, keep, lt, lu, bf, bo, bp, rm, rb, rc, rj⟩ from (Lx.PSt.new w hgl ⟨cap, pri, spl, dl, mis, keep, lt, lu, bf, bo, bp, rm, rb, rc, rj⟩).low b1)
  have Z1 := Lib.hid (show Lx.PSt r W1 W1 Lx.polZ from by
    have := Lx.PSt.new (w.alloc (.cells #[.int .i64 cap, .int .i64 pri, .int .i64 spl, .int .i64 dl, .int .i64 mis, .int .i64 keep, .int .i64 lt, .int .i64 lu, .int .i64 bf, .int .i64 bo, .int .i64 bp, .int .i64 rm, .int .i64 rb, .int .i64 rc, .int .i64 rj] 29)) (Nat.le_trans hgl (by simp)) Lx.polZ
    rw [show (w.alloc (.cells #[.int .i64 cap, .int .i64 pri, .int .i64 spl, .int .i64 dl, .int .i64 mis, .int .i64 keep, .int .i64 lt, .int .i64 lu, .int .i64 bf, .int .i64 bo, .int .i64 bp, .int .i64 rm, .int .i64 rb, .int .i64 rc, .int .i64 rj] 29)).heap.size = w.heap.size + 1 by simp, ← hr] at this
    rw [hW1]; exact this)
  have B1 := Lib.hid (b0.trans (b1.mono b0.size))
  have Hr := Lib.hid (show w.heap.size < r from by omega)
  clear b0 b1
  go_enter Tryz.func15, Tryz.ntmps15
  go_upto_region 1 with (fail)
  rw [show ((w.alloc (.cells #[.int .i64 cap, .int .i64 pri, .int .i64 spl, .int .i64 dl, .int .i64 mis, .int .i64 keep, .int .i64 lt, .int .i64 lu, .int .i64 bf, .int .i64 bo, .int .i64 bp, .int .i64 rm, .int .i64 rb, .int .i64 rc, .int .i64 rj] 29)).alloc (.cells #[.int .i64 0, .int .i64 0, .int .i64 0, .int .i64 0, .int .i64 0, .int .i64 0, .int .i64 0, .int .i64 0, .int .i64 0, .int .i64 0, .int .i64 0, .int .i64 0, .int .i64 0, .int .i64 0, .int .i64 0] 29)) = W1 from hW1.symm, show w.heap.size + 1 = r from hr.symm]
  clear hW1 hr
  go_wp2_with fail
  refine (HN.out _).mono ?_
  rintro e w2 ⟨rfl, c2⟩
  have S2 := Lib.hid (S1.out.low c2)
  have Z2 := Lib.hid (Z1.out.low c2)
  have B2 := Lib.hid (B1.out.trans (c2.mono B1.out.size))
  clear c2
  have a8 : w2.cell? ⟨w.heap.size, 8, none⟩ = some _ := S2.out.cell 8 _ rfl
  have a9 : w2.cell? ⟨w.heap.size, 9, none⟩ = some _ := S2.out.cell 9 _ rfl
  have a10 : w2.cell? ⟨w.heap.size, 10, none⟩ = some _ := S2.out.cell 10 _ rfl
  have ya8 : w2.frozen? ⟨w.heap.size, 8, none⟩ = false := S2.out.fz 8 (by omega)
  have ya9 : w2.frozen? ⟨w.heap.size, 9, none⟩ = false := S2.out.fz 9 (by omega)
  have ya10 : w2.frozen? ⟨w.heap.size, 10, none⟩ = false := S2.out.fz 10 (by omega)
  obtain ⟨W3, hW3⟩ : ∃ W3, W3 = (((w2.setCell ⟨w.heap.size, 8, none⟩ (.int .i64 v0)).setCell ⟨w.heap.size, 9, none⟩ (.int .i64 v1)).setCell ⟨w.heap.size, 10, none⟩ (.int .i64 v2)) := ⟨_, rfl⟩
  have T := Lib.hid (show Lx.PSt w.heap.size w2 W3 ⟨cap, pri, spl, dl, mis, keep, lt, lu, v0, v1, v2, rm, rb, rc, rj⟩ from by rw [hW3]; exact (((S2.out.set (q' := ⟨cap, pri, spl, dl, mis, keep, lt, lu, v0, bo, bp, rm, rb, rc, rj⟩) (j := 8) (v := .int .i64 v0) (by omega) rfl).set (q' := ⟨cap, pri, spl, dl, mis, keep, lt, lu, v0, v1, bp, rm, rb, rc, rj⟩) (j := 9) (v := .int .i64 v1) (by omega) rfl).set (q' := ⟨cap, pri, spl, dl, mis, keep, lt, lu, v0, v1, v2, rm, rb, rc, rj⟩) (j := 10) (v := .int .i64 v2) (by omega) rfl))
  have S3 := Lib.hid (show Lx.PSt w.heap.size W3 W3 ⟨cap, pri, spl, dl, mis, keep, lt, lu, v0, v1, v2, rm, rb, rc, rj⟩ from ⟨T.out.size, T.out.gl, World.grownBy.refl _ _, T.out.cell, T.out.fz⟩)
  have Z3 := Lib.hid (Z2.out.beside T.out.gb (fun c => by have := Option.some.inj c; have := Hr.out; omega))
  have B3 := Lib.hid (B2.out.trans (T.out.toB.mono (Nat.le_refl _)))
  go_upto_region 22 with (fail)
  rw [show (((w2.setCell ⟨w.heap.size, 8, none⟩ (.int .i64 v0)).setCell ⟨w.heap.size, 9, none⟩ (.int .i64 v1)).setCell ⟨w.heap.size, 10, none⟩ (.int .i64 v2)) = W3 from hW3.symm]
  clear hW3 T S2 Z2 B2 a8 ya8 a9 ya9 a10 ya10
  go_wp2_with fail
  refine (q14worst1 x _).mono ?_
  rintro e w8 ⟨rfl, rfl⟩
  obtain ⟨W4, hW4⟩ : ∃ W4, W4 = W3.alloc (.cells #[.int .i64 x] 31) := ⟨_, rfl⟩
  rw [show W3.alloc (.cells #[.int .i64 x] 31) = W4 from hW4.symm]
  have c4 : Below W3.heap.size W3 W4 := by rw [hW4]; exact (Below.refl _ _).alloc (Nat.le_refl _) _
  have S4 := Lib.hid (S3.out.low c4)
  have Z4 := Lib.hid (Z3.out.low c4)
  have B4 := Lib.hid (B3.out.trans (c4.mono B3.out.size))
  clear hW4 c4 S3 Z3 B3
  by_cases hx : x = 0
  · have HR := Lib.hid (H0.out hx)
    rw [show Lx.firstE [x] = 0 from by rw [hx]; rfl]
    clear hx
    go_wp2_with (first | ((with_reducible show wpList _ _ _ _ _ _); refine' Lx.wpList_get _ rfl _ rfl w.heap.size rfl ?_ ?_; any_goals (with_reducible exact S4.out)) | ((with_reducible show wpList _ _ _ _ _ _); refine' Lx.wpList_put _ rfl _ _ rfl r rfl ⟨cap, pri, spl, dl, mis, keep, lt, lu, v0, v1, v2, rm, rb, rc, rj⟩ rfl ?_ ?_; any_goals (with_reducible exact Z4.out)))
    obtain ⟨W9, hW9⟩ : ∃ W, W = Lx.putPol W4 r (⟨cap, pri, spl, dl, mis, keep, lt, lu, v0, v1, v2, rm, rb, rc, rj⟩ : Lx.PolV) := ⟨_, rfl⟩
    have z9 := Z4.out.put (⟨cap, pri, spl, dl, mis, keep, lt, lu, v0, v1, v2, rm, rb, rc, rj⟩ : Lx.PolV)
    rw [← hW9] at z9 ⊢
    have Z9 := Lib.hid z9
    clear hW9 z9
    have d0 := Z9.out.cell 0 _ rfl
    have d1 := Z9.out.cell 1 _ rfl
    have d2 := Z9.out.cell 2 _ rfl
    have d3 := Z9.out.cell 3 _ rfl
    have d4 := Z9.out.cell 4 _ rfl
    have d5 := Z9.out.cell 5 _ rfl
    have d6 := Z9.out.cell 6 _ rfl
    have d7 := Z9.out.cell 7 _ rfl
    have d8 := Z9.out.cell 8 _ rfl
    have d9 := Z9.out.cell 9 _ rfl
    have d10 := Z9.out.cell 10 _ rfl
    have d11 := Z9.out.cell 11 _ rfl
    have d12 := Z9.out.cell 12 _ rfl
    have d13 := Z9.out.cell 13 _ rfl
    have d14 := Z9.out.cell 14 _ rfl
    refine bodyPost_ret (v := .tuple #[.agg #[.int .i64 cap, .int .i64 pri, .int .i64 spl, .int .i64 dl, .int .i64 mis, .int .i64 keep, .int .i64 lt, .int .i64 lu, .int .i64 v0, .int .i64 v1, .int .i64 v2, .int .i64 rm, .int .i64 rb, .int .i64 rc, .int .i64 rj], .int .i64 0]) ?_ rfl ⟨by rw [HR.out]; first | done | rfl, B4.out.trans (Z9.out.toB.mono (Nat.le_of_lt Hr.out))⟩
    simp [results, Tryz.results15, go_sem, d0, d1, d2, d3, d4, d5, d6, d7, d8, d9, d10, d11, d12, d13, d14]
  · have HR := Lib.hid (H1.out hx)
    have hE := Lx.firstE_ne hx
    generalize Lx.firstE [x] = E at *
    have hEb : (E != 0) = true := by rw [bne_iff_ne]; exact hE
    clear hx hE
    go_wp2_with ((with_reducible show wpList _ _ _ _ _ _); refine' Lx.wpList_put _ rfl _ _ rfl r rfl Lx.polZ rfl ?_ ?_; any_goals (with_reducible exact Z4.out))
    obtain ⟨W9, hW9⟩ : ∃ W, W = Lx.putPol W4 r Lx.polZ := ⟨_, rfl⟩
    have z9 := Z4.out.put Lx.polZ
    rw [← hW9] at z9 ⊢
    have Z9 := Lib.hid z9
    clear hW9 z9
    have d0 := Z9.out.cell 0 _ rfl
    have d1 := Z9.out.cell 1 _ rfl
    have d2 := Z9.out.cell 2 _ rfl
    have d3 := Z9.out.cell 3 _ rfl
    have d4 := Z9.out.cell 4 _ rfl
    have d5 := Z9.out.cell 5 _ rfl
    have d6 := Z9.out.cell 6 _ rfl
    have d7 := Z9.out.cell 7 _ rfl
    have d8 := Z9.out.cell 8 _ rfl
    have d9 := Z9.out.cell 9 _ rfl
    have d10 := Z9.out.cell 10 _ rfl
    have d11 := Z9.out.cell 11 _ rfl
    have d12 := Z9.out.cell 12 _ rfl
    have d13 := Z9.out.cell 13 _ rfl
    have d14 := Z9.out.cell 14 _ rfl
    refine bodyPost_ret (v := .tuple #[.agg #[.int .i64 0, .int .i64 0, .int .i64 0, .int .i64 0, .int .i64 0, .int .i64 0, .int .i64 0, .int .i64 0, .int .i64 0, .int .i64 0, .int .i64 0, .int .i64 0, .int .i64 0, .int .i64 0, .int .i64 0], .int .i64 E]) ?_ rfl ⟨by rw [HR.out]; first | done | rfl, B4.out.trans (Z9.out.toB.mono (Nat.le_of_lt Hr.out))⟩
    simp [results, Tryz.results15, go_sem, Lx.polZ, d0, d1, d2, d3, d4, d5, d6, d7, d8, d9, d10, d11, d12, d13, d14]
set_option maxRecDepth 100000 in
set_option maxHeartbeats 3200000 in
theorem q14set7_any (p : Lx.PolV) (t s : ByteArray) (ht : t.data.toList = Lx.keyW 7) (hs : s.size ≤ 1000000) (w : World) (hgl : Tryz.prog.globals.size ≤ w.heap.size) :
    Calls Tryz.prog 15 #[p.val, .string t, .string s] w fun e w' => e = .returned (.tuple #[(Lx.setK 7 s p).1.val, .int .i64 (Lx.setK 7 s p).2]) ∧ Below w.heap.size w w' := by
  have e0 : (t.toList == [99, 97, 112]) = false := by rw [beq_eq_false_iff_ne, Lib.toList_data, ht]; decide
  have e1 : (t.toList == [112, 114, 105, 111, 114, 105, 116, 121]) = false := by rw [beq_eq_false_iff_ne, Lib.toList_data, ht]; decide
  have e2 : (t.toList == [115, 112, 108, 97, 121]) = false := by rw [beq_eq_false_iff_ne, Lib.toList_data, ht]; decide
  have e3 : (t.toList == [100, 101, 97, 100, 108, 105, 110, 101]) = false := by rw [beq_eq_false_iff_ne, Lib.toList_data, ht]; decide
  have e4 : (t.toList == [109, 105, 115, 102, 105, 114, 101]) = false := by rw [beq_eq_false_iff_ne, Lib.toList_data, ht]; decide
  have e5 : (t.toList == [108, 105, 109, 105, 116]) = false := by rw [beq_eq_false_iff_ne, Lib.toList_data, ht]; decide
  have e6 : (t.toList == [98, 114, 101, 97, 107, 101, 114]) = false := by rw [beq_eq_false_iff_ne, Lib.toList_data, ht]; decide
  have e7 : (t.toList == [114, 101, 116, 114, 121]) = true := by rw [beq_iff_eq, Lib.toList_data, ht]; rfl
  clear ht
  obtain ⟨cap, pri, spl, dl, mis, keep, lt, lu, bf, bo, bp, rm, rb, rc, rj⟩ := p
  have H0 : (Lx.rdRe s).2 = 0 → Lx.setK 7 s ⟨cap, pri, spl, dl, mis, keep, lt, lu, bf, bo, bp, rm, rb, rc, rj⟩ = (⟨cap, pri, spl, dl, mis, keep, lt, lu, bf, bo, bp, (Lx.rdRe s).1.rm, (Lx.rdRe s).1.rb, (Lx.rdRe s).1.rc, (Lx.rdRe s).1.rj⟩, 0) := fun c => by unfold Lx.setK; rw [if_pos (show (Lx.rdK 7 s).2 = 0 from c)]; rfl
  have H1 : (Lx.rdRe s).2 ≠ 0 → Lx.setK 7 s ⟨cap, pri, spl, dl, mis, keep, lt, lu, bf, bo, bp, rm, rb, rc, rj⟩ = (Lx.polZ, Lx.firstE [(Lx.rdRe s).2]) := fun c => by unfold Lx.setK; rw [if_neg (show ¬ (Lx.rdK 7 s).2 = 0 from c)]; rfl
  have HN := Lib.hid (fun W => q14rtr_any s W hs)
  generalize (Lx.rdRe s).1.rm = v0 at *
  generalize (Lx.rdRe s).1.rb = v1 at *
  generalize (Lx.rdRe s).1.rc = v2 at *
  generalize (Lx.rdRe s).1.rj = v3 at *
  generalize (Lx.rdRe s).2 = x at *
  obtain ⟨R, hR⟩ : ∃ R, R = Lx.setK 7 s ⟨cap, pri, spl, dl, mis, keep, lt, lu, bf, bo, bp, rm, rb, rc, rj⟩ := ⟨_, rfl⟩
  rw [← hR] at H0 H1 ⊢
  have H0 := Lib.hid H0
  have H1 := Lib.hid H1
  clear hR
  unfold Lx.PolV.val
  dsimp only
  obtain ⟨r, hr⟩ : ∃ r, r = w.heap.size + 1 := ⟨_, rfl⟩
  obtain ⟨W1, hW1⟩ : ∃ W1, W1 = ((w.alloc (.cells #[.int .i64 cap, .int .i64 pri, .int .i64 spl, .int .i64 dl, .int .i64 mis, .int .i64 keep, .int .i64 lt, .int .i64 lu, .int .i64 bf, .int .i64 bo, .int .i64 bp, .int .i64 rm, .int .i64 rb, .int .i64 rc, .int .i64 rj] 29)).alloc (.cells #[.int .i64 0, .int .i64 0, .int .i64 0, .int .i64 0, .int .i64 0, .int .i64 0, .int .i64 0, .int .i64 0, .int .i64 0, .int .i64 0, .int .i64 0, .int .i64 0, .int .i64 0, .int .i64 0, .int .i64 0] 29)) := ⟨_, rfl⟩
  have b0 : Below w.heap.size w (w.alloc (.cells #[.int .i64 cap, .int .i64 pri, .int .i64 spl, .int .i64 dl, .int .i64 mis, .int .i64 keep, .int .i64 lt, .int .i64 lu, .int .i64 bf, .int .i64 bo, .int .i64 bp, .int .i64 rm, .int .i64 rb, .int .i64 rc, .int .i64 rj] 29)) := (Below.refl _ w).alloc (Nat.le_refl _) _
  have b1 : Below (w.alloc (.cells #[.int .i64 cap, .int .i64 pri, .int .i64 spl, .int .i64 dl, .int .i64 mis, .int .i64 keep, .int .i64 lt, .int .i64 lu, .int .i64 bf, .int .i64 bo, .int .i64 bp, .int .i64 rm, .int .i64 rb, .int .i64 rc, .int .i64 rj] 29)).heap.size (w.alloc (.cells #[.int .i64 cap, .int .i64 pri, .int .i64 spl, .int .i64 dl, .int .i64 mis, .int .i64 keep, .int .i64 lt, .int .i64 lu, .int .i64 bf, .int .i64 bo, .int .i64 bp, .int .i64 rm, .int .i64 rb, .int .i64 rc, .int .i64 rj] 29)) W1 := by rw [hW1]; exact (Below.refl _ _).alloc (Nat.le_refl _) _
  have S1 := Lib.hid (show Lx.PSt w.heap.size W1 W1 ⟨cap, pri, spl, dl, mis, keep, lt, lu, bf, bo, bp, rm, rb, rc, rj⟩ from (Lx.PSt.new w hgl ⟨cap, pri, spl, dl, mis, keep, lt, lu, bf, bo, bp, rm, rb, rc, rj⟩).low b1)
  have Z1 := Lib.hid (show Lx.PSt r W1 W1 Lx.polZ from by
    have := Lx.PSt.new (w.alloc (.cells #[.int .i64 cap, .int .i64 pri, .int .i64 spl, .int .i64 dl, .int .i64 mis, .int .i64 keep, .int .i64 lt, .int .i64 lu, .int .i64 bf, .int .i64 bo, .int .i64 bp, .int .i64 rm, .int .i64 rb, .int .i64 rc, .int .i64 rj] 29)) (Nat.le_trans hgl (by simp)) Lx.polZ
    rw [show (w.alloc (.cells #[.int .i64 cap, .int .i64 pri, .int .i64 spl, .int .i64 dl, .int .i64 mis, .int .i64 keep, .int .i64 lt, .int .i64 lu, .int .i64 bf, .int .i64 bo, .int .i64 bp, .int .i64 rm, .int .i64 rb, .int .i64 rc, .int .i64 rj] 29)).heap.size = w.heap.size + 1 by simp, ← hr] at this
    rw [hW1]; exact this)
  have B1 := Lib.hid (b0.trans (b1.mono b0.size))
  have Hr := Lib.hid (show w.heap.size < r from by omega)
  clear b0 b1
  go_enter Tryz.func15, Tryz.ntmps15
  go_upto_region 1 with (fail)
  rw [show ((w.alloc (.cells #[.int .i64 cap, .int .i64 pri, .int .i64 spl, .int .i64 dl, .int .i64 mis, .int .i64 keep, .int .i64 lt, .int .i64 lu, .int .i64 bf, .int .i64 bo, .int .i64 bp, .int .i64 rm, .int .i64 rb, .int .i64 rc, .int .i64 rj] 29)).alloc (.cells #[.int .i64 0, .int .i64 0, .int .i64 0, .int .i64 0, .int .i64 0, .int .i64 0, .int .i64 0, .int .i64 0, .int .i64 0, .int .i64 0, .int .i64 0, .int .i64 0, .int .i64 0, .int .i64 0, .int .i64 0] 29)) = W1 from hW1.symm, show w.heap.size + 1 = r from hr.symm]
  clear hW1 hr
  go_wp2_with fail
  refine (HN.out _).mono ?_
  rintro e w2 ⟨rfl, c2⟩
  have S2 := Lib.hid (S1.out.low c2)
  have Z2 := Lib.hid (Z1.out.low c2)
  have B2 := Lib.hid (B1.out.trans (c2.mono B1.out.size))
  clear c2
  have a11 : w2.cell? ⟨w.heap.size, 11, none⟩ = some _ := S2.out.cell 11 _ rfl
  have a12 : w2.cell? ⟨w.heap.size, 12, none⟩ = some _ := S2.out.cell 12 _ rfl
  have a13 : w2.cell? ⟨w.heap.size, 13, none⟩ = some _ := S2.out.cell 13 _ rfl
  have a14 : w2.cell? ⟨w.heap.size, 14, none⟩ = some _ := S2.out.cell 14 _ rfl
  have ya11 : w2.frozen? ⟨w.heap.size, 11, none⟩ = false := S2.out.fz 11 (by omega)
  have ya12 : w2.frozen? ⟨w.heap.size, 12, none⟩ = false := S2.out.fz 12 (by omega)
  have ya13 : w2.frozen? ⟨w.heap.size, 13, none⟩ = false := S2.out.fz 13 (by omega)
  have ya14 : w2.frozen? ⟨w.heap.size, 14, none⟩ = false := S2.out.fz 14 (by omega)
  obtain ⟨W3, hW3⟩ : ∃ W3, W3 = ((((w2.setCell ⟨w.heap.size, 11, none⟩ (.int .i64 v0)).setCell ⟨w.heap.size, 12, none⟩ (.int .i64 v1)).setCell ⟨w.heap.size, 13, none⟩ (.int .i64 v2)).setCell ⟨w.heap.size, 14, none⟩ (.int .i64 v3)) := ⟨_, rfl⟩
  have T := Lib.hid (show Lx.PSt w.heap.size w2 W3 ⟨cap, pri, spl, dl, mis, keep, lt, lu, bf, bo, bp, v0, v1, v2, v3⟩ from by rw [hW3]; exact ((((S2.out.set (q' := ⟨cap, pri, spl, dl, mis, keep, lt, lu, bf, bo, bp, v0, rb, rc, rj⟩) (j := 11) (v := .int .i64 v0) (by omega) rfl).set (q' := ⟨cap, pri, spl, dl, mis, keep, lt, lu, bf, bo, bp, v0, v1, rc, rj⟩) (j := 12) (v := .int .i64 v1) (by omega) rfl).set (q' := ⟨cap, pri, spl, dl, mis, keep, lt, lu, bf, bo, bp, v0, v1, v2, rj⟩) (j := 13) (v := .int .i64 v2) (by omega) rfl).set (q' := ⟨cap, pri, spl, dl, mis, keep, lt, lu, bf, bo, bp, v0, v1, v2, v3⟩) (j := 14) (v := .int .i64 v3) (by omega) rfl))
  have S3 := Lib.hid (show Lx.PSt w.heap.size W3 W3 ⟨cap, pri, spl, dl, mis, keep, lt, lu, bf, bo, bp, v0, v1, v2, v3⟩ from ⟨T.out.size, T.out.gl, World.grownBy.refl _ _, T.out.cell, T.out.fz⟩)
  have Z3 := Lib.hid (Z2.out.beside T.out.gb (fun c => by have := Option.some.inj c; have := Hr.out; omega))
  have B3 := Lib.hid (B2.out.trans (T.out.toB.mono (Nat.le_refl _)))
  go_upto_region 22 with (fail)
  rw [show ((((w2.setCell ⟨w.heap.size, 11, none⟩ (.int .i64 v0)).setCell ⟨w.heap.size, 12, none⟩ (.int .i64 v1)).setCell ⟨w.heap.size, 13, none⟩ (.int .i64 v2)).setCell ⟨w.heap.size, 14, none⟩ (.int .i64 v3)) = W3 from hW3.symm]
  clear hW3 T S2 Z2 B2 a11 ya11 a12 ya12 a13 ya13 a14 ya14
  go_wp2_with fail
  refine (q14worst1 x _).mono ?_
  rintro e w8 ⟨rfl, rfl⟩
  obtain ⟨W4, hW4⟩ : ∃ W4, W4 = W3.alloc (.cells #[.int .i64 x] 31) := ⟨_, rfl⟩
  rw [show W3.alloc (.cells #[.int .i64 x] 31) = W4 from hW4.symm]
  have c4 : Below W3.heap.size W3 W4 := by rw [hW4]; exact (Below.refl _ _).alloc (Nat.le_refl _) _
  have S4 := Lib.hid (S3.out.low c4)
  have Z4 := Lib.hid (Z3.out.low c4)
  have B4 := Lib.hid (B3.out.trans (c4.mono B3.out.size))
  clear hW4 c4 S3 Z3 B3
  by_cases hx : x = 0
  · have HR := Lib.hid (H0.out hx)
    rw [show Lx.firstE [x] = 0 from by rw [hx]; rfl]
    clear hx
    go_wp2_with (first | ((with_reducible show wpList _ _ _ _ _ _); refine' Lx.wpList_get _ rfl _ rfl w.heap.size rfl ?_ ?_; any_goals (with_reducible exact S4.out)) | ((with_reducible show wpList _ _ _ _ _ _); refine' Lx.wpList_put _ rfl _ _ rfl r rfl ⟨cap, pri, spl, dl, mis, keep, lt, lu, bf, bo, bp, v0, v1, v2, v3⟩ rfl ?_ ?_; any_goals (with_reducible exact Z4.out)))
    obtain ⟨W9, hW9⟩ : ∃ W, W = Lx.putPol W4 r (⟨cap, pri, spl, dl, mis, keep, lt, lu, bf, bo, bp, v0, v1, v2, v3⟩ : Lx.PolV) := ⟨_, rfl⟩
    have z9 := Z4.out.put (⟨cap, pri, spl, dl, mis, keep, lt, lu, bf, bo, bp, v0, v1, v2, v3⟩ : Lx.PolV)
    rw [← hW9] at z9 ⊢
    have Z9 := Lib.hid z9
    clear hW9 z9
    have d0 := Z9.out.cell 0 _ rfl
    have d1 := Z9.out.cell 1 _ rfl
    have d2 := Z9.out.cell 2 _ rfl
    have d3 := Z9.out.cell 3 _ rfl
    have d4 := Z9.out.cell 4 _ rfl
    have d5 := Z9.out.cell 5 _ rfl
    have d6 := Z9.out.cell 6 _ rfl
    have d7 := Z9.out.cell 7 _ rfl
    have d8 := Z9.out.cell 8 _ rfl
    have d9 := Z9.out.cell 9 _ rfl
    have d10 := Z9.out.cell 10 _ rfl
    have d11 := Z9.out.cell 11 _ rfl
    have d12 := Z9.out.cell 12 _ rfl
    have d13 := Z9.out.cell 13 _ rfl
    have d14 := Z9.out.cell 14 _ rfl
    refine bodyPost_ret (v := .tuple #[.agg #[.int .i64 cap, .int .i64 pri, .int .i64 spl, .int .i64 dl, .int .i64 mis, .int .i64 keep, .int .i64 lt, .int .i64 lu, .int .i64 bf, .int .i64 bo, .int .i64 bp, .int .i64 v0, .int .i64 v1, .int .i64 v2, .int .i64 v3], .int .i64 0]) ?_ rfl ⟨by rw [HR.out]; first | done | rfl, B4.out.trans (Z9.out.toB.mono (Nat.le_of_lt Hr.out))⟩
    simp [results, Tryz.results15, go_sem, d0, d1, d2, d3, d4, d5, d6, d7, d8, d9, d10, d11, d12, d13, d14]
  · have HR := Lib.hid (H1.out hx)
    have hE := Lx.firstE_ne hx
    generalize Lx.firstE [x] = E at *
    have hEb : (E != 0) = true := by rw [bne_iff_ne]; exact hE
    clear hx hE
    go_wp2_with ((with_reducible show wpList _ _ _ _ _ _); refine' Lx.wpList_put _ rfl _ _ rfl r rfl Lx.polZ rfl ?_ ?_; any_goals (with_reducible exact Z4.out))
    obtain ⟨W9, hW9⟩ : ∃ W, W = Lx.putPol W4 r Lx.polZ := ⟨_, rfl⟩
    have z9 := Z4.out.put Lx.polZ
    rw [← hW9] at z9 ⊢
    have Z9 := Lib.hid z9
    clear hW9 z9
    have d0 := Z9.out.cell 0 _ rfl
    have d1 := Z9.out.cell 1 _ rfl
    have d2 := Z9.out.cell 2 _ rfl
    have d3 := Z9.out.cell 3 _ rfl
    have d4 := Z9.out.cell 4 _ rfl
    have d5 := Z9.out.cell 5 _ rfl
    have d6 := Z9.out.cell 6 _ rfl
    have d7 := Z9.out.cell 7 _ rfl
    have d8 := Z9.out.cell 8 _ rfl
    have d9 := Z9.out.cell 9 _ rfl
    have d10 := Z9.out.cell 10 _ rfl
    have d11 := Z9.out.cell 11 _ rfl
    have d12 := Z9.out.cell 12 _ rfl
    have d13 := Z9.out.cell 13 _ rfl
    have d14 := Z9.out.cell 14 _ rfl
    refine bodyPost_ret (v := .tuple #[.agg #[.int .i64 0, .int .i64 0, .int .i64 0, .int .i64 0, .int .i64 0, .int .i64 0, .int .i64 0, .int .i64 0, .int .i64 0, .int .i64 0, .int .i64 0, .int .i64 0, .int .i64 0, .int .i64 0, .int .i64 0], .int .i64 E]) ?_ rfl ⟨by rw [HR.out]; first | done | rfl, B4.out.trans (Z9.out.toB.mono (Nat.le_of_lt Hr.out))⟩
    simp [results, Tryz.results15, go_sem, Lx.polZ, d0, d1, d2, d3, d4, d5, d6, d7, d8, d9, d10, d11, d12, d13, d14]
set_option maxRecDepth 100000 in
set_option maxHeartbeats 3200000 in
theorem q14set8_any (p : Lx.PolV) (t s : ByteArray) (ht : ∀ j : Nat, j < 8 → Lx.keyW j ≠ t.data.toList) (w : World) (hgl : Tryz.prog.globals.size ≤ w.heap.size) :
    Calls Tryz.prog 15 #[p.val, .string t, .string s] w fun e w' => e = .returned (.tuple #[Lx.polZ.val, .int .i64 15]) ∧ Below w.heap.size w w' := by
  have e0 : (t.toList == [99, 97, 112]) = false := by rw [beq_eq_false_iff_ne, Lib.toList_data]; exact fun c => ht 0 (by omega) c.symm
  have e1 : (t.toList == [112, 114, 105, 111, 114, 105, 116, 121]) = false := by rw [beq_eq_false_iff_ne, Lib.toList_data]; exact fun c => ht 1 (by omega) c.symm
  have e2 : (t.toList == [115, 112, 108, 97, 121]) = false := by rw [beq_eq_false_iff_ne, Lib.toList_data]; exact fun c => ht 2 (by omega) c.symm
  have e3 : (t.toList == [100, 101, 97, 100, 108, 105, 110, 101]) = false := by rw [beq_eq_false_iff_ne, Lib.toList_data]; exact fun c => ht 3 (by omega) c.symm
  have e4 : (t.toList == [109, 105, 115, 102, 105, 114, 101]) = false := by rw [beq_eq_false_iff_ne, Lib.toList_data]; exact fun c => ht 4 (by omega) c.symm
  have e5 : (t.toList == [108, 105, 109, 105, 116]) = false := by rw [beq_eq_false_iff_ne, Lib.toList_data]; exact fun c => ht 5 (by omega) c.symm
  have e6 : (t.toList == [98, 114, 101, 97, 107, 101, 114]) = false := by rw [beq_eq_false_iff_ne, Lib.toList_data]; exact fun c => ht 6 (by omega) c.symm
  have e7 : (t.toList == [114, 101, 116, 114, 121]) = false := by rw [beq_eq_false_iff_ne, Lib.toList_data]; exact fun c => ht 7 (by omega) c.symm
  clear ht
  obtain ⟨cap, pri, spl, dl, mis, keep, lt, lu, bf, bo, bp, rm, rb, rc, rj⟩ := p
  unfold Lx.PolV.val
  dsimp only
  obtain ⟨r, hr⟩ : ∃ r, r = w.heap.size + 1 := ⟨_, rfl⟩
  obtain ⟨W1, hW1⟩ : ∃ W1, W1 = ((w.alloc (.cells #[.int .i64 cap, .int .i64 pri, .int .i64 spl, .int .i64 dl, .int .i64 mis, .int .i64 keep, .int .i64 lt, .int .i64 lu, .int .i64 bf, .int .i64 bo, .int .i64 bp, .int .i64 rm, .int .i64 rb, .int .i64 rc, .int .i64 rj] 29)).alloc (.cells #[.int .i64 0, .int .i64 0, .int .i64 0, .int .i64 0, .int .i64 0, .int .i64 0, .int .i64 0, .int .i64 0, .int .i64 0, .int .i64 0, .int .i64 0, .int .i64 0, .int .i64 0, .int .i64 0, .int .i64 0] 29)) := ⟨_, rfl⟩
  have b0 : Below w.heap.size w (w.alloc (.cells #[.int .i64 cap, .int .i64 pri, .int .i64 spl, .int .i64 dl, .int .i64 mis, .int .i64 keep, .int .i64 lt, .int .i64 lu, .int .i64 bf, .int .i64 bo, .int .i64 bp, .int .i64 rm, .int .i64 rb, .int .i64 rc, .int .i64 rj] 29)) := (Below.refl _ w).alloc (Nat.le_refl _) _
  have b1 : Below (w.alloc (.cells #[.int .i64 cap, .int .i64 pri, .int .i64 spl, .int .i64 dl, .int .i64 mis, .int .i64 keep, .int .i64 lt, .int .i64 lu, .int .i64 bf, .int .i64 bo, .int .i64 bp, .int .i64 rm, .int .i64 rb, .int .i64 rc, .int .i64 rj] 29)).heap.size (w.alloc (.cells #[.int .i64 cap, .int .i64 pri, .int .i64 spl, .int .i64 dl, .int .i64 mis, .int .i64 keep, .int .i64 lt, .int .i64 lu, .int .i64 bf, .int .i64 bo, .int .i64 bp, .int .i64 rm, .int .i64 rb, .int .i64 rc, .int .i64 rj] 29)) W1 := by rw [hW1]; exact (Below.refl _ _).alloc (Nat.le_refl _) _
  have S1 := Lib.hid (show Lx.PSt w.heap.size W1 W1 ⟨cap, pri, spl, dl, mis, keep, lt, lu, bf, bo, bp, rm, rb, rc, rj⟩ from (Lx.PSt.new w hgl ⟨cap, pri, spl, dl, mis, keep, lt, lu, bf, bo, bp, rm, rb, rc, rj⟩).low b1)
  have Z1 := Lib.hid (show Lx.PSt r W1 W1 Lx.polZ from by
    have := Lx.PSt.new (w.alloc (.cells #[.int .i64 cap, .int .i64 pri, .int .i64 spl, .int .i64 dl, .int .i64 mis, .int .i64 keep, .int .i64 lt, .int .i64 lu, .int .i64 bf, .int .i64 bo, .int .i64 bp, .int .i64 rm, .int .i64 rb, .int .i64 rc, .int .i64 rj] 29)) (Nat.le_trans hgl (by simp)) Lx.polZ
    rw [show (w.alloc (.cells #[.int .i64 cap, .int .i64 pri, .int .i64 spl, .int .i64 dl, .int .i64 mis, .int .i64 keep, .int .i64 lt, .int .i64 lu, .int .i64 bf, .int .i64 bo, .int .i64 bp, .int .i64 rm, .int .i64 rb, .int .i64 rc, .int .i64 rj] 29)).heap.size = w.heap.size + 1 by simp, ← hr] at this
    rw [hW1]; exact this)
  have B1 := Lib.hid (b0.trans (b1.mono b0.size))
  have Hr := Lib.hid (show w.heap.size < r from by omega)
  clear b0 b1
  go_enter Tryz.func15, Tryz.ntmps15
  go_upto_region 1 with (fail)
  rw [show ((w.alloc (.cells #[.int .i64 cap, .int .i64 pri, .int .i64 spl, .int .i64 dl, .int .i64 mis, .int .i64 keep, .int .i64 lt, .int .i64 lu, .int .i64 bf, .int .i64 bo, .int .i64 bp, .int .i64 rm, .int .i64 rb, .int .i64 rc, .int .i64 rj] 29)).alloc (.cells #[.int .i64 0, .int .i64 0, .int .i64 0, .int .i64 0, .int .i64 0, .int .i64 0, .int .i64 0, .int .i64 0, .int .i64 0, .int .i64 0, .int .i64 0, .int .i64 0, .int .i64 0, .int .i64 0, .int .i64 0] 29)) = W1 from hW1.symm, show w.heap.size + 1 = r from hr.symm]
  clear hW1 hr
  go_wp2_with ((with_reducible show wpList _ _ _ _ _ _); refine' Lx.wpList_put _ rfl _ _ rfl r rfl Lx.polZ rfl ?_ ?_; any_goals (with_reducible exact Z1.out))
  obtain ⟨W9, hW9⟩ : ∃ W, W = Lx.putPol W1 r Lx.polZ := ⟨_, rfl⟩
  have z9 := Z1.out.put Lx.polZ
  rw [← hW9] at z9 ⊢
  have Z9 := Lib.hid z9
  clear hW9 z9
  have d0 := Z9.out.cell 0 _ rfl
  have d1 := Z9.out.cell 1 _ rfl
  have d2 := Z9.out.cell 2 _ rfl
  have d3 := Z9.out.cell 3 _ rfl
  have d4 := Z9.out.cell 4 _ rfl
  have d5 := Z9.out.cell 5 _ rfl
  have d6 := Z9.out.cell 6 _ rfl
  have d7 := Z9.out.cell 7 _ rfl
  have d8 := Z9.out.cell 8 _ rfl
  have d9 := Z9.out.cell 9 _ rfl
  have d10 := Z9.out.cell 10 _ rfl
  have d11 := Z9.out.cell 11 _ rfl
  have d12 := Z9.out.cell 12 _ rfl
  have d13 := Z9.out.cell 13 _ rfl
  have d14 := Z9.out.cell 14 _ rfl
  refine bodyPost_ret (v := .tuple #[.agg #[.int .i64 0, .int .i64 0, .int .i64 0, .int .i64 0, .int .i64 0, .int .i64 0, .int .i64 0, .int .i64 0, .int .i64 0, .int .i64 0, .int .i64 0, .int .i64 0, .int .i64 0, .int .i64 0, .int .i64 0], .int .i64 15]) ?_ rfl ⟨rfl, B1.out.trans (Z9.out.toB.mono (Nat.le_of_lt Hr.out))⟩
  simp [results, Tryz.results15, go_sem, Lx.polZ, d0, d1, d2, d3, d4, d5, d6, d7, d8, d9, d10, d11, d12, d13, d14]
theorem q14setp_any (p : Lx.PolV) (t s : ByteArray) (hs : s.size ≤ 1000000) (w : World) (hgl : Tryz.prog.globals.size ≤ w.heap.size) :
    Calls Tryz.prog 15 #[p.val, .string t, .string s] w fun e w' => e = .returned (.tuple #[(Lx.setPol p t s).1.val, .int .i64 (Lx.setPol p t s).2]) ∧ Below w.heap.size w w' := by
  by_cases h : Lx.keyIx t.data.toList < 8
  · have ht := Lx.keyIx_back h
    have e : Lx.setPol p t s = Lx.setK (Lx.keyIx t.data.toList) s p := by unfold Lx.setPol; rw [if_pos h]
    rw [e]
    generalize Lx.keyIx t.data.toList = k at *
    obtain rfl | rfl | rfl | rfl | rfl | rfl | rfl | rfl := Lx.cases8 h
    · exact q14set0_any p t s ht hs w hgl
    · exact q14set1_any p t s ht hs w hgl
    · exact q14set2_any p t s ht hs w hgl
    · exact q14set3_any p t s ht hs w hgl
    · exact q14set4_any p t s ht hs w hgl
    · exact q14set5_any p t s ht hs w hgl
    · exact q14set6_any p t s ht hs w hgl
    · exact q14set7_any p t s ht hs w hgl
  · have e : Lx.setPol p t s = (Lx.polZ, 15) := by unfold Lx.setPol; rw [if_neg h]
    rw [e]
    exact q14set8_any p t s (fun j hj c => h (by rw [← c, Lx.keyIx_key hj]; exact hj)) w hgl
end Go.Proofs.YtdpjcbijddgpgaaGreatDoor
namespace Go.Proofs.YtdpjcbijddgpgaaGreatDoor
open Go.RowKit

namespace Lx
/-- Which keys were had. -/
def HadQ (N : List ByteArray) (K : List Nat) : Prop := ∀ x : ByteArray, keyIx x.data.toList < 8 → (x ∈ N ↔ keyIx x.data.toList ∈ K)
theorem hadQ_nil : HadQ [] [] := fun x _ => by simp
theorem hadQ_snoc {N : List ByteArray} {K : List Nat} (h : HadQ N K) {x : ByteArray} (hx : keyIx x.data.toList < 8) : HadQ (N ++ [x]) (keyIx x.data.toList :: K) := by
  intro y hy
  rw [List.mem_append, List.mem_singleton, List.mem_cons, h y hy]
  have e : y = x ↔ keyIx y.data.toList = keyIx x.data.toList := by
    refine ⟨fun c => by rw [c], fun c => ?_⟩
    have h1 := keyIx_back hy
    have h2 := keyIx_back hx
    rw [c, ← h2] at h1
    exact ByteArray.ext (Array.toList_inj.1 h1)
  rw [e]
  exact Or.comm
/-- The state of the reference's Parse: its result's box g2, the policy's box g5, the row A of the words, the texts N that were had. -/
structure QSt (w wr : World) (g2 g5 A b : Nat) (L : List ByteArray) (q : PolV) (hv : Value) (N : List ByteArray) : Prop where
  bl : Below w.heap.size w wr
  z : PSt g2 wr wr polZ
  p : PSt g5 wr wr q
  row : ∀ (j : Nat) (x : ByteArray), L[j]? = some x → wr.cell? ⟨A, j, none⟩ = some (.string x)
  hd : wr.ownsRow b 9 1 hv N.length (N.map Value.string)
  lt : g2 < b ∧ g5 < b ∧ A < b ∧ b ≤ wr.heap.size
  ne : g2 ≠ g5 ∧ g5 ≠ A
  ge : w.heap.size ≤ g2 ∧ w.heap.size ≤ g5
theorem QSt.below {w wr w' : World} {g2 g5 A b : Nat} {L : List ByteArray} {q : PolV} {hv : Value} {N : List ByteArray} (h : QSt w wr g2 g5 A b L q hv N) (hb : Below wr.heap.size wr w') : QSt w w' g2 g5 A b L q hv N :=
  ⟨h.bl.trans (hb.mono h.bl.size), h.z.low hb, h.p.low hb, fun j x hj => (hb.cell (p := ⟨A, j, none⟩) (Nat.lt_of_lt_of_le h.lt.2.2.1 h.lt.2.2.2)).trans (h.row j x hj),
    h.hd.kept (below_gb hb) (Classical.em _), ⟨h.lt.1, h.lt.2.1, h.lt.2.2.1, Nat.le_trans h.lt.2.2.2 hb.size⟩, h.ne, h.ge⟩
theorem QSt.pol {w wr : World} {g2 g5 A b : Nat} {L : List ByteArray} {q : PolV} {hv : Value} {N : List ByteArray} (h : QSt w wr g2 g5 A b L q hv N) (q' : PolV) : QSt w (putPol wr g5 q') g2 g5 A b L q' hv N := by
  have S := h.p.put q'
  have hg := S.gb
  have hgt := h.lt
  refine ⟨h.bl.trans (S.toB.mono h.ge.2), h.z.beside hg (fun c => h.ne.1 (Option.some.inj c)), ⟨S.size, S.gl, World.grownBy.refl _ _, S.cell, S.fz⟩, fun j x hj => hg.cell (h.row j x hj) (fun c => h.ne.2 (Option.some.inj c).symm),
    h.hd.kept hg (.inr (fun c => ?_)), ⟨h.lt.1, h.lt.2.1, h.lt.2.2.1, Nat.le_trans h.lt.2.2.2 hg.size⟩, h.ne, h.ge⟩
  have := ownBase h.hd g5 c
  omega
theorem QSt.app {w wr w' : World} {g2 g5 A b : Nat} {L : List ByteArray} {q : PolV} {hv v' : Value} {N : List ByteArray} {x : ByteArray} (h : QSt w wr g2 g5 A b L q hv N)
    (ho : w'.ownsRow b 9 1 v' (N.length + 1) (N.map Value.string ++ [.string x])) (hg : (wr.alloc (.cells #[.string x] 9)).grownBy w' hv.ownBlock) : QSt w w' g2 g5 A b L q v' (N ++ [x]) := by
  have h1 := h.below ((Below.refl _ wr).alloc (Nat.le_refl _) (.cells #[.string x] 9))
  have hgt := h.lt
  have hne : ∀ g, g < b → some g ≠ hv.ownBlock := fun g hl c => by have := ownBase h.hd g c.symm; omega
  refine ⟨h1.bl.grown hg h1.bl.size (fun g hgb => by have := ownBase h.hd g hgb; have := h.ge; omega), h1.z.beside hg (hne g2 h.lt.1), h1.p.beside hg (hne g5 h.lt.2.1), fun j x hj => hg.cell (h1.row j x hj) (hne A h.lt.2.2.1), ?_, ⟨h.lt.1, h.lt.2.1, h.lt.2.2.1, Nat.le_trans h1.lt.2.2.2 hg.size⟩, h.ne, h.ge⟩
  rw [List.length_append, List.map_append]
  exact ho
end Lx
set_option maxRecDepth 100000 in
set_option maxHeartbeats 3200000 in
theorem q14parse_any (s : ByteArray) (hs : s.size ≤ 1000000000) (w : World) (hgl : Tryz.prog.globals.size ≤ w.heap.size) :
    Calls Tryz.prog 17 #[.string s] w fun e w' => e = .returned (.tuple #[(Lx.parP s).1.val, .int .i64 ((Lx.parP s).2.1 : Nat), .int .i64 (Lx.parP s).2.2]) ∧ Below w.heap.size w w' := by
  obtain ⟨i0, hi, hz0, hz1, hz2⟩ := info_parts infoS
  obtain ⟨W0, hW0⟩ : ∃ W0, W0 = w.alloc (.cells #[.int .i64 0, .int .i64 0, .int .i64 0, .int .i64 0, .int .i64 0, .int .i64 0, .int .i64 0, .int .i64 0, .int .i64 0, .int .i64 0, .int .i64 0, .int .i64 0, .int .i64 0, .int .i64 0, .int .i64 0] 29) := ⟨_, rfl⟩
  have b0 : Below w.heap.size w W0 := by rw [hW0]; exact (Below.refl _ w).alloc (Nat.le_refl _) _
  obtain ⟨g2, hg2⟩ : ∃ g2, g2 = w.heap.size := ⟨_, rfl⟩
  have z0 : Lx.PSt g2 W0 W0 Lx.polZ := by rw [hg2, hW0]; exact Lx.PSt.new w hgl Lx.polZ
  have hs0 : W0.heap.size = w.heap.size + 1 := by rw [hW0]; simp
  have hge2 : w.heap.size ≤ g2 := by omega
  have Hg2 := Lib.hid hg2
  clear hg2
  by_cases hbig : s.size > 65536
  · as_aux_lemma =>
      have hbi : (65536 : Int) < (s.size : Int) := by omega
      have hR := Lib.hid (show Lx.parP s = (Lx.polZ, 0, 11) from by unfold Lx.parP; rw [if_pos hbig])
      have Z0 := Lib.hid z0
      have B0 := Lib.hid b0
      clear hbig hs z0 b0 hs0
      go_enter Tryz.func17, Tryz.ntmps17
      go_upto_region 1 with (fail)
      rw [show w.alloc (.cells #[.int .i64 0, .int .i64 0, .int .i64 0, .int .i64 0, .int .i64 0, .int .i64 0, .int .i64 0, .int .i64 0, .int .i64 0, .int .i64 0, .int .i64 0, .int .i64 0, .int .i64 0, .int .i64 0, .int .i64 0] 29) = W0 from hW0.symm, ← Hg2.out]
      clear hW0
      go_wp2_with ((with_reducible show wpList _ _ _ _ _ _); refine' Lx.wpList_put _ rfl _ _ rfl g2 rfl Lx.polZ rfl ?_ ?_; any_goals (with_reducible exact Z0.out))
      have z9 := Z0.out.put Lx.polZ
      obtain ⟨W9, hW9⟩ : ∃ W, W = Lx.putPol W0 g2 Lx.polZ := ⟨_, rfl⟩
      rw [← hW9] at z9 ⊢
      clear hW9
      have d0 := z9.cell 0 _ rfl
      have d1 := z9.cell 1 _ rfl
      have d2 := z9.cell 2 _ rfl
      have d3 := z9.cell 3 _ rfl
      have d4 := z9.cell 4 _ rfl
      have d5 := z9.cell 5 _ rfl
      have d6 := z9.cell 6 _ rfl
      have d7 := z9.cell 7 _ rfl
      have d8 := z9.cell 8 _ rfl
      have d9 := z9.cell 9 _ rfl
      have d10 := z9.cell 10 _ rfl
      have d11 := z9.cell 11 _ rfl
      have d12 := z9.cell 12 _ rfl
      have d13 := z9.cell 13 _ rfl
      have d14 := z9.cell 14 _ rfl
      refine bodyPost_ret (v := .tuple #[.agg #[.int .i64 0, .int .i64 0, .int .i64 0, .int .i64 0, .int .i64 0, .int .i64 0, .int .i64 0, .int .i64 0, .int .i64 0, .int .i64 0, .int .i64 0, .int .i64 0, .int .i64 0, .int .i64 0, .int .i64 0], .int .i64 0, .int .i64 11]) ?_ rfl ⟨by rw [hR.out]; rfl, B0.out.trans (z9.toB.mono hge2)⟩
      simp [results, Tryz.results17, go_sem, Lx.polZ, d0, d1, d2, d3, d4, d5, d6, d7, d8, d9, d10, d11, d12, d13, d14]
  · have hbd : decide ((65536 : Int) < (s.size : Int)) = false := decide_eq_false (by omega)
    have hnb : ¬ ((65536 : Int) < (s.size : Int)) := by omega
    have hR := Lib.hid (show Lx.parP s = Lx.parL (Lx.wdsB s) Lx.polD [] 0 from by unfold Lx.parP; rw [if_neg hbig])
    have HD := Lib.hid (show ∀ W, Calls Tryz.prog 27 #[] W fun e w' => e = .returned (.agg #[.int .i64 1, .int .i64 50, .int .i64 0, .int .i64 3600, .int .i64 0, .int .i64 0, .int .i64 0, .int .i64 0, .int .i64 0, .int .i64 0, .int .i64 0, .int .i64 0, .int .i64 0, .int .i64 0, .int .i64 0]) ∧ Below W.heap.size W w' from fun W => q14default_any W)
    have HFF := Lib.hid (fun W => q14words_any s W (by omega))
    have HLs := Lib.hid (Lx.wdsB_len s)
    have HWs := Lib.hid (show ∀ j x, (Lx.wdsB s)[j]? = some x → x.size ≤ 65536 from fun j x h => Nat.le_trans (Lx.wdsB_size h) (by omega))
    have hss : s.size ≤ 65536 := by omega
    obtain ⟨R, hRR⟩ : ∃ R, R = Lx.parP s := ⟨_, rfl⟩
    rw [← hRR] at hR ⊢
    generalize Lx.wdsB s = L at *
    have Z0 := Lib.hid z0
    have B0 := Lib.hid b0
    clear hRR hs hbig z0 b0
    go_enter Tryz.func17, Tryz.ntmps17
    go_upto_region 1 with (fail)
    rw [show w.alloc (.cells #[.int .i64 0, .int .i64 0, .int .i64 0, .int .i64 0, .int .i64 0, .int .i64 0, .int .i64 0, .int .i64 0, .int .i64 0, .int .i64 0, .int .i64 0, .int .i64 0, .int .i64 0, .int .i64 0, .int .i64 0] 29) = W0 from hW0.symm, ← Hg2.out]
    clear hW0
    go_wp2_with fail
    refine (HD.out _).mono ?_
    rintro e w1 ⟨rfl, c1⟩
    go_wp2_with fail
    obtain ⟨g5, hg5⟩ : ∃ g5, g5 = w1.heap.size := ⟨_, rfl⟩
    obtain ⟨W2, hW2⟩ : ∃ W2, W2 = w1.alloc (.cells #[.int .i64 1, .int .i64 50, .int .i64 0, .int .i64 3600, .int .i64 0, .int .i64 0, .int .i64 0, .int .i64 0, .int .i64 0, .int .i64 0, .int .i64 0, .int .i64 0, .int .i64 0, .int .i64 0, .int .i64 0] 29) := ⟨_, rfl⟩
    rw [show w1.alloc (.cells #[.int .i64 1, .int .i64 50, .int .i64 0, .int .i64 3600, .int .i64 0, .int .i64 0, .int .i64 0, .int .i64 0, .int .i64 0, .int .i64 0, .int .i64 0, .int .i64 0, .int .i64 0, .int .i64 0, .int .i64 0] 29) = W2 from hW2.symm]
    refine (HFF.out W2).mono ?_
    rintro e w3 ⟨lv, rfl, hrow, c3⟩
    rw [← hg5]
    have b1 := B0.out.trans (c1.mono B0.out.size)
    have c2 : Below w1.heap.size w1 W2 := by rw [hW2]; exact (Below.refl _ _).alloc (Nat.le_refl _) _
    have p2 : Lx.PSt g5 W2 W2 Lx.polD := by rw [hg5, hW2]; exact Lx.PSt.new w1 (Nat.le_trans hgl b1.size) Lx.polD
    have hs2 : W2.heap.size = w1.heap.size + 1 := by rw [hW2]; simp
    have hs3 := c3.size
    have hs1 := c1.size
    have hsb1 := b1.size
    by_cases hL0 : L = []
    · as_aux_lemma =>
        subst hL0
        obtain ⟨ad, cp, rfl⟩ := Lx.ownSlice hrow
        have hRk : R = (Lx.polD, 0, 0) := hR.out
        have HE := Lib.hid hRk
        have P3 := Lib.hid (p2.low c3)
        have Z3 := Lib.hid (((Z0.out.low c1).low c2).low c3)
        have B3 := Lib.hid (b1.trans ((c2.mono hsb1).trans (c3.mono (by omega))))
        have hki : decide ((0 : Int) < (([] : List ByteArray).length : Int)) = false := rfl
        clear hR hRk hrow c1 c2 c3 b1 p2 hW2 Z0 HWs HLs HFF HD hg5 hs0 hs1 hs2 hs3 hsb1
        go_wp2_with fail
        go_loop [8] (fun i => i = .int .i64 0) (fun i => 1 - (intOf i).toNat)
        case atStart => rfl
        case round =>
          subst hrel
          go_wp2_with (first | ((with_reducible show wpList _ _ _ _ _ _); refine' Lx.wpList_get _ rfl _ rfl g5 rfl ?_ ?_; any_goals (with_reducible exact P3.out)) | ((with_reducible show wpList _ _ _ _ _ _); refine' Lx.wpList_put _ rfl _ _ rfl g2 rfl Lx.polD rfl ?_ ?_; any_goals (with_reducible exact Z3.out)))
          have z9 := Z3.out.put Lx.polD
          obtain ⟨W9, hW9⟩ : ∃ W, W = Lx.putPol w3 g2 Lx.polD := ⟨_, rfl⟩
          rw [← hW9] at z9 ⊢
          clear hW9
          have d0 := z9.cell 0 _ rfl
          have d1 := z9.cell 1 _ rfl
          have d2 := z9.cell 2 _ rfl
          have d3 := z9.cell 3 _ rfl
          have d4 := z9.cell 4 _ rfl
          have d5 := z9.cell 5 _ rfl
          have d6 := z9.cell 6 _ rfl
          have d7 := z9.cell 7 _ rfl
          have d8 := z9.cell 8 _ rfl
          have d9 := z9.cell 9 _ rfl
          have d10 := z9.cell 10 _ rfl
          have d11 := z9.cell 11 _ rfl
          have d12 := z9.cell 12 _ rfl
          have d13 := z9.cell 13 _ rfl
          have d14 := z9.cell 14 _ rfl
          refine bodyPost_ret (v := .tuple #[.agg #[.int .i64 1, .int .i64 50, .int .i64 0, .int .i64 3600, .int .i64 0, .int .i64 0, .int .i64 0, .int .i64 0, .int .i64 0, .int .i64 0, .int .i64 0, .int .i64 0, .int .i64 0, .int .i64 0, .int .i64 0], .int .i64 0, .int .i64 0]) ?_ rfl ⟨by rw [HE.out]; rfl, B3.out.trans (z9.toB.mono hge2)⟩
          simp [results, Tryz.results17, go_sem, Lx.polD, d0, d1, d2, d3, d4, d5, d6, d7, d8, d9, d10, d11, d12, d13, d14]
    · have hLp : 0 < L.length := List.length_pos_iff.2 hL0
      obtain ⟨A, cp, rfl, hA, _, hcell⟩ := Lx.ownCap hrow hLp
      have hA2 := Lx.ownBase hrow A rfl
      have hZ3 := ((Z0.out.low c1).low c2).low c3
      have hP3 := p2.low c3
      have hB3 := b1.trans ((c2.mono hsb1).trans (c3.mono (by omega)))
      have S3 := Lib.hid (show Lx.QSt w w3 g2 g5 A w3.heap.size L Lx.polD (.slice none 0 0) [] from ⟨hB3, hZ3, hP3, fun j x hj => hcell j _ (by rw [List.getElem?_map, hj]; rfl), World.ownsRow_nil _ _ _ _, ⟨hZ3.size, hP3.size, hA, Nat.le_refl _⟩, ⟨by have := Hg2.out; omega, by omega⟩, ⟨hge2, by omega⟩⟩)
      obtain ⟨b3, hb3⟩ : ∃ b, b = w3.heap.size := ⟨_, rfl⟩
      rw [← hb3] at S3
      clear hL0 hrow hcell hZ3 hP3 hB3 b1 c1 c2 c3 p2 hW2 hg5 hs0 hs1 hs2 hs3 hsb1 hA hA2 hb3 Z0 B0 HFF HD
      go_wp2_with fail
      go_loopw [7, 8] (fun hv i wr => ∃ (k : Nat) (q : Lx.PolV) (N : List ByteArray) (K : List Nat), k ≤ L.length ∧ i = .int .i64 k ∧ Lx.QSt w wr g2 g5 A b3 L q hv N ∧ Lx.HadQ N K ∧ N.length ≤ k ∧ R = Lx.parL (L.drop k) q K k) (fun _ i _ => L.length - (intOf i).toNat)
      case atStart => exact ⟨0, Lx.polD, [], [], Nat.zero_le _, rfl, S3.out, Lx.hadQ_nil, Nat.le_refl _, hR.out⟩
      case round =>
        obtain ⟨k, q, N, K, hk, rfl, S, hN, hNl, hRk⟩ := hrel
        obtain ⟨wo, rfl⟩ : ∃ wo : World, wo = wr := ⟨_, rfl⟩
        by_cases hlt : k < L.length
        · obtain ⟨x, hx⟩ : ∃ x, L[k]? = some x := ⟨_, List.getElem?_eq_getElem hlt⟩
          have hki : (k : Int) < (L.length : Int) := by omega
          have hLi : (L.length : Int) ≤ 65536 := by have := HLs.out; omega
          have hki6 : (k : Int) ≤ 65536 := by omega
          have hcx := S.row k x hx
          have hxs := HWs.out k x hx
          have hdrop : L.drop k = x :: L.drop (k + 1) := by
            rw [List.drop_eq_getElem_cons hlt]
            congr 1
            rw [List.getElem?_eq_getElem hlt] at hx
            exact Option.some.inj hx
          rw [hdrop] at hRk
          have HP := Lib.hid (ref_pair_any x wo (by omega))
          have HK := Lib.hid (fun W => q14key_any (Lx.pairK x) W)
          have hks := Lx.pairK_size x
          have hvs := Lx.pairV_size x
          have hE2 := Lx.pairE_two x
          have HRk := Lib.hid hRk
          have HS := Lib.hid S
          have HN := Lib.hid hN
          have HNl := Lib.hid hNl
          have Hlt := Lib.hid hlt
          have Hss := Lib.hid hss
          obtain ⟨n1, hn1⟩ : ∃ n1, n1 = Lx.pairK x := ⟨_, rfl⟩
          obtain ⟨v1, hv1⟩ : ∃ v1, v1 = Lx.pairV x := ⟨_, rfl⟩
          obtain ⟨e1, he1⟩ : ∃ e1, e1 = Lx.pairE x := ⟨_, rfl⟩
          have Hn1 := Lib.hid hn1
          have Hv1 := Lib.hid hv1
          have He1 := Lib.hid he1
          rw [← hn1, ← hv1, ← he1] at HP
          rw [← hn1] at HK hks
          rw [← hv1] at hvs
          rw [← he1] at hE2
          obtain ⟨ad, cq, rfl⟩ := Lx.ownSlice HS.out.hd
          clear hRk S hN hx hdrop hn1 hv1 he1
          have hdec : decide ((k : Int) < (L.length : Int)) = true := decide_eq_true hki
          go_wp2_with fail
          refine HP.out.mono ?_
          rintro e w4 ⟨rfl, n4, rfl⟩
          have S4 := Lib.hid (HS.out.below (below_drewN _ wo n4))
          obtain ⟨w4, hw4⟩ : ∃ W, W = wo.drewN n4 := ⟨_, rfl⟩
          rw [← hw4] at S4 ⊢
          clear hw4 HS hcx
          rcases hE2 with rfl | rfl
          · by_cases h8 : Lx.keyIx n1.data.toList < 8
            · rw [decide_eq_true h8] at HK
              go_wp2_with fail
              refine (HK.out _).mono ?_
              rintro e w5 ⟨rfl, c5⟩
              have S5 := Lib.hid (S4.out.below c5)
              clear c5 S4
              have H8 := Lib.hid h8
              clear h8
              have HNi := Lib.hid HNl.out
              obtain ⟨nl, hnl⟩ : ∃ nl, nl = N.length := ⟨_, rfl⟩
              have Hnl := Lib.hid hnl
              rw [← hnl]
              have hnlk : nl ≤ k := by rw [hnl]; exact HNl.out
              clear hnl
              go_wp2_with fail
              go_loop [12] (fun j => ∃ m : Nat, m ≤ nl ∧ j = .int .i64 m ∧ ∀ i : Nat, i < m → N[i]? ≠ some n1) (fun j => nl - (intOf j).toNat)
              case atStart => exact ⟨0, Nat.zero_le _, rfl, fun i hi => absurd hi (Nat.not_lt_zero _)⟩
              case round =>
                obtain ⟨m, hm, rfl, hno⟩ := hrel
                have HNo := Lib.hid hno
                clear hno
                by_cases hmt : m < nl
                · have hmi : (m : Int) < (nl : Int) := by omega
                  obtain ⟨y, hy⟩ : ∃ y, N[m]? = some y := ⟨_, List.getElem?_eq_getElem (by rw [← Hnl.out]; exact hmt)⟩
                  obtain ⟨gh, ch, hhv, _, _, hch⟩ := Lx.ownCap S5.out.hd (by rw [← Hnl.out]; omega)
                  injection hhv with hhv1 hhv2 hhv3
                  subst hhv1
                  have hcy := hch m (.string y) (by rw [List.getElem?_map, hy]; rfl)
                  have Hy := Lib.hid hy
                  clear hch hy hhv2 hhv3
                  by_cases hyn : y = n1
                  · as_aux_lemma =>
                      subst hyn
                      have e9 : (y.toList == y.toList) = true := by rw [beq_iff_eq]
                      have hmem : y ∈ N := List.mem_of_getElem? Hy.out
                      have HE := Lib.hid (show R = (Lx.polZ, k, 6) from by rw [HRk.out]; exact Lx.parL_have He1.out.symm (by rw [← Hn1.out]; exact H8.out) (by rw [← Hn1.out]; exact (HN.out y H8.out).1 hmem))
                      clear hmem
                      go_wp2_with ((with_reducible show wpList _ _ _ _ _ _); refine' Lx.wpList_put _ rfl _ _ rfl g2 rfl Lx.polZ rfl ?_ ?_; any_goals (with_reducible exact S5.out.z))
                      have z9 := S5.out.z.put Lx.polZ
                      have ge := S5.out.ge
                      have Bx := S5.out.bl
                      obtain ⟨W9, hW9⟩ : ∃ W, W = Lx.putPol w5 g2 Lx.polZ := ⟨_, rfl⟩
                      rw [← hW9] at z9 ⊢
                      clear hW9
                      have d0 := z9.cell 0 _ rfl
                      have d1 := z9.cell 1 _ rfl
                      have d2 := z9.cell 2 _ rfl
                      have d3 := z9.cell 3 _ rfl
                      have d4 := z9.cell 4 _ rfl
                      have d5 := z9.cell 5 _ rfl
                      have d6 := z9.cell 6 _ rfl
                      have d7 := z9.cell 7 _ rfl
                      have d8 := z9.cell 8 _ rfl
                      have d9 := z9.cell 9 _ rfl
                      have d10 := z9.cell 10 _ rfl
                      have d11 := z9.cell 11 _ rfl
                      have d12 := z9.cell 12 _ rfl
                      have d13 := z9.cell 13 _ rfl
                      have d14 := z9.cell 14 _ rfl
                      refine bodyPost_ret (v := .tuple #[.agg #[.int .i64 0, .int .i64 0, .int .i64 0, .int .i64 0, .int .i64 0, .int .i64 0, .int .i64 0, .int .i64 0, .int .i64 0, .int .i64 0, .int .i64 0, .int .i64 0, .int .i64 0, .int .i64 0, .int .i64 0], .int .i64 k, .int .i64 6]) ?_ rfl ⟨by rw [HE.out]; first | done | rfl, Bx.trans (z9.toB.mono ge.1)⟩
                      simp [results, Tryz.results17, go_sem, Lx.polZ, d0, d1, d2, d3, d4, d5, d6, d7, d8, d9, d10, d11, d12, d13, d14]
                  · have e9 : (y.toList == n1.toList) = false := by rw [beq_eq_false_iff_ne]; intro e; rw [Lib.toList_data, Lib.toList_data] at e; exact hyn (ByteArray.ext (Array.toList_inj.1 e))
                    have Hyn := Lib.hid hyn
                    clear hyn
                    go_wp2_with fail
                    go_round
                    case rel => exact ⟨m + 1, by omega, by go_num, fun i hi hx => by rcases Nat.lt_or_eq_of_le (Nat.le_of_lt_succ hi) with c | c; (exact HNo.out i c hx); (subst c; rw [Hy.out] at hx; cases hx; exact Hyn.out rfl)⟩
                    case measure => simp [intOf]; omega
                · obtain rfl : m = nl := by omega
                  have hmi : decide ((m : Int) < (m : Int)) = false := decide_eq_false (by omega)
                  have Hmem := Lib.hid (show ¬ Lx.keyIx (Lx.pairK x).data.toList ∈ K from fun c => by
                    rw [← Hn1.out] at c
                    obtain ⟨i, hi⟩ := List.mem_iff_getElem?.1 ((HN.out n1 H8.out).2 c)
                    exact HNo.out i (by rw [Hnl.out]; exact (List.getElem?_eq_some_iff.1 hi).1) hi)
                  obtain ⟨r, hr⟩ : ∃ r, r = Lx.setPol q n1 v1 := ⟨_, rfl⟩
                  have HSet := Lib.hid (fun (W : World) (h : Tryz.prog.globals.size ≤ W.heap.size) => q14setp_any q n1 v1 (by omega) W h)
                  have Hr := Lib.hid hr
                  rw [← hr] at HSet
                  obtain ⟨q2, e2⟩ := r
                  have Hgl2 := Lib.hid (Nat.le_trans hgl S5.out.bl.size)
                  have Hhd := Lib.hid (S5.out.hd)
                  rw [← Hnl.out] at Hhd
                  have hb5 := S5.out.lt.2.2.2
                  have hmk : (m : Int) ≤ 65536 := by omega
                  clear hr hmt
                  go_wp2_with (at_builtin; refine wpList_append_own _ rfl _ _ 47 rfl b3 9 i0 _ 1 16 Tryz.underlying47 hi hz0 hz1 hz2 rfl (by decide) _ _ _ rfl (Hhd.out.alloc _) ⟨w5.heap.size, 0, none⟩ 1 1 [.string n1] rfl rfl (Lx.cellNew w5 (.string n1) 9) (by simp [Value.oneCell']) (by unfold maxLen; omega) (by omega) (by simp; omega) ?_)
                  intro v' w6 hown6 hgrow _
                  have S6 := Lib.hid (S5.out.app (by rw [← Hnl.out]; exact hown6) (by rw [← Hnl.out]; exact hgrow))
                  clear hown6 hgrow
                  go_wp2_with ((with_reducible show wpList _ _ _ _ _ _); refine' Lx.wpList_get _ rfl _ rfl g5 rfl ?_ ?_; any_goals (with_reducible exact S6.out.p))
                  refine (HSet.out _ (Nat.le_trans hgl S6.out.bl.size)).mono ?_
                  rintro e w7 ⟨rfl, c7⟩
                  have S7 := Lib.hid (S6.out.below c7)
                  clear c7 S6
                  by_cases hx : e2 = 0
                  · as_aux_lemma =>
                      subst hx
                      have HR2 := Lib.hid (show R = Lx.parL (L.drop (k + 1)) q2 (Lx.keyIx n1.data.toList :: K) (k + 1) from by
                        rw [HRk.out, Lx.parL_good He1.out.symm (by rw [← Hn1.out]; exact H8.out) Hmem.out (by rw [← Hn1.out, ← Hv1.out, ← Hr.out]), ← Hn1.out, ← Hv1.out, ← Hr.out])
                      have S8 := Lib.hid (S7.out.pol q2)
                      go_wp2_with ((with_reducible show wpList _ _ _ _ _ _); refine' Lx.wpList_put _ rfl _ _ rfl g5 rfl q2 rfl ?_ ?_; any_goals (with_reducible exact S7.out.p))
                      go_roundw
                      case rel => exact ⟨k + 1, q2, N ++ [n1], _, by have := Hlt.out; omega, by go_num, S8.out, Lx.hadQ_snoc HN.out H8.out, by rw [List.length_append, ← Hnl.out]; exact Nat.succ_le_succ hnlk, HR2.out⟩
                      case measure => simp [intOf]; have := Hlt.out; omega
                  · as_aux_lemma =>
                      have HE := Lib.hid (show R = (Lx.polZ, k, e2) from by
                        rw [HRk.out, Lx.parL_bad He1.out.symm (by rw [← Hn1.out]; exact H8.out) Hmem.out (by rw [← Hn1.out, ← Hv1.out, ← Hr.out]; exact hx), ← Hn1.out, ← Hv1.out, ← Hr.out])
                      have hxb : (e2 != 0) = true := by rw [bne_iff_ne]; exact hx
                      have S8 := Lib.hid (S7.out.pol q2)
                      clear hx
                      go_wp2_with (first | ((with_reducible show wpList _ _ _ _ _ _); refine' Lx.wpList_put _ rfl _ _ rfl g5 rfl q2 rfl ?_ ?_; any_goals (with_reducible exact S7.out.p)) | ((with_reducible show wpList _ _ _ _ _ _); refine' Lx.wpList_put _ rfl _ _ rfl g2 rfl Lx.polZ rfl ?_ ?_; any_goals (with_reducible exact S8.out.z)))
                      have z9 := S8.out.z.put Lx.polZ
                      have ge := S8.out.ge
                      have Bx := S8.out.bl
                      obtain ⟨W9, hW9⟩ : ∃ W, W = Lx.putPol (Lx.putPol w7 g5 q2) g2 Lx.polZ := ⟨_, rfl⟩
                      rw [← hW9] at z9 ⊢
                      clear hW9
                      have d0 := z9.cell 0 _ rfl
                      have d1 := z9.cell 1 _ rfl
                      have d2 := z9.cell 2 _ rfl
                      have d3 := z9.cell 3 _ rfl
                      have d4 := z9.cell 4 _ rfl
                      have d5 := z9.cell 5 _ rfl
                      have d6 := z9.cell 6 _ rfl
                      have d7 := z9.cell 7 _ rfl
                      have d8 := z9.cell 8 _ rfl
                      have d9 := z9.cell 9 _ rfl
                      have d10 := z9.cell 10 _ rfl
                      have d11 := z9.cell 11 _ rfl
                      have d12 := z9.cell 12 _ rfl
                      have d13 := z9.cell 13 _ rfl
                      have d14 := z9.cell 14 _ rfl
                      refine bodyPost_ret (v := .tuple #[.agg #[.int .i64 0, .int .i64 0, .int .i64 0, .int .i64 0, .int .i64 0, .int .i64 0, .int .i64 0, .int .i64 0, .int .i64 0, .int .i64 0, .int .i64 0, .int .i64 0, .int .i64 0, .int .i64 0, .int .i64 0], .int .i64 k, .int .i64 e2]) ?_ rfl ⟨by rw [HE.out]; first | done | rfl, Bx.trans (z9.toB.mono ge.1)⟩
                      simp [results, Tryz.results17, go_sem, Lx.polZ, d0, d1, d2, d3, d4, d5, d6, d7, d8, d9, d10, d11, d12, d13, d14]
            · as_aux_lemma =>
                rw [decide_eq_false h8] at HK
                have HE := Lib.hid (show R = (Lx.polZ, k, 15) from by rw [HRk.out]; exact Lx.parL_name He1.out.symm (by rw [← Hn1.out]; have := Lx.keyIx_le n1.data.toList; omega))
                clear h8
                go_wp2_with fail
                refine (HK.out _).mono ?_
                rintro e w5 ⟨rfl, c5⟩
                have S5 := Lib.hid (S4.out.below c5)
                clear c5 S4
                go_wp2_with ((with_reducible show wpList _ _ _ _ _ _); refine' Lx.wpList_put _ rfl _ _ rfl g2 rfl Lx.polZ rfl ?_ ?_; any_goals (with_reducible exact S5.out.z))
                have z9 := S5.out.z.put Lx.polZ
                have ge := S5.out.ge
                have Bx := S5.out.bl
                obtain ⟨W9, hW9⟩ : ∃ W, W = Lx.putPol w5 g2 Lx.polZ := ⟨_, rfl⟩
                rw [← hW9] at z9 ⊢
                clear hW9
                have d0 := z9.cell 0 _ rfl
                have d1 := z9.cell 1 _ rfl
                have d2 := z9.cell 2 _ rfl
                have d3 := z9.cell 3 _ rfl
                have d4 := z9.cell 4 _ rfl
                have d5 := z9.cell 5 _ rfl
                have d6 := z9.cell 6 _ rfl
                have d7 := z9.cell 7 _ rfl
                have d8 := z9.cell 8 _ rfl
                have d9 := z9.cell 9 _ rfl
                have d10 := z9.cell 10 _ rfl
                have d11 := z9.cell 11 _ rfl
                have d12 := z9.cell 12 _ rfl
                have d13 := z9.cell 13 _ rfl
                have d14 := z9.cell 14 _ rfl
                refine bodyPost_ret (v := .tuple #[.agg #[.int .i64 0, .int .i64 0, .int .i64 0, .int .i64 0, .int .i64 0, .int .i64 0, .int .i64 0, .int .i64 0, .int .i64 0, .int .i64 0, .int .i64 0, .int .i64 0, .int .i64 0, .int .i64 0, .int .i64 0], .int .i64 k, .int .i64 15]) ?_ rfl ⟨by rw [HE.out]; first | done | rfl, Bx.trans (z9.toB.mono ge.1)⟩
                simp [results, Tryz.results17, go_sem, Lx.polZ, d0, d1, d2, d3, d4, d5, d6, d7, d8, d9, d10, d11, d12, d13, d14]
          · as_aux_lemma =>
              have HE := Lib.hid (show R = (Lx.polZ, k, 10) from by rw [HRk.out]; exact Lx.parL_form (by rw [← He1.out]; decide))
              go_wp2_with ((with_reducible show wpList _ _ _ _ _ _); refine' Lx.wpList_put _ rfl _ _ rfl g2 rfl Lx.polZ rfl ?_ ?_; any_goals (with_reducible exact S4.out.z))
              have z9 := S4.out.z.put Lx.polZ
              have ge := S4.out.ge
              have Bx := S4.out.bl
              obtain ⟨W9, hW9⟩ : ∃ W, W = Lx.putPol w4 g2 Lx.polZ := ⟨_, rfl⟩
              rw [← hW9] at z9 ⊢
              clear hW9
              have d0 := z9.cell 0 _ rfl
              have d1 := z9.cell 1 _ rfl
              have d2 := z9.cell 2 _ rfl
              have d3 := z9.cell 3 _ rfl
              have d4 := z9.cell 4 _ rfl
              have d5 := z9.cell 5 _ rfl
              have d6 := z9.cell 6 _ rfl
              have d7 := z9.cell 7 _ rfl
              have d8 := z9.cell 8 _ rfl
              have d9 := z9.cell 9 _ rfl
              have d10 := z9.cell 10 _ rfl
              have d11 := z9.cell 11 _ rfl
              have d12 := z9.cell 12 _ rfl
              have d13 := z9.cell 13 _ rfl
              have d14 := z9.cell 14 _ rfl
              refine bodyPost_ret (v := .tuple #[.agg #[.int .i64 0, .int .i64 0, .int .i64 0, .int .i64 0, .int .i64 0, .int .i64 0, .int .i64 0, .int .i64 0, .int .i64 0, .int .i64 0, .int .i64 0, .int .i64 0, .int .i64 0, .int .i64 0, .int .i64 0], .int .i64 k, .int .i64 10]) ?_ rfl ⟨by rw [HE.out]; first | done | rfl, Bx.trans (z9.toB.mono ge.1)⟩
              simp [results, Tryz.results17, go_sem, Lx.polZ, d0, d1, d2, d3, d4, d5, d6, d7, d8, d9, d10, d11, d12, d13, d14]
        · as_aux_lemma =>
            obtain rfl : k = L.length := by omega
            have hki : decide ((L.length : Int) < (L.length : Int)) = false := decide_eq_false (by omega)
            have hRk2 : R = (q, 0, 0) := by rw [hRk, List.drop_length]; rfl
            have HE := Lib.hid hRk2
            have HS := Lib.hid S
            clear hRk hRk2 S hN hNl
            go_wp2_with (first | ((with_reducible show wpList _ _ _ _ _ _); refine' Lx.wpList_get _ rfl _ rfl g5 rfl ?_ ?_; any_goals (with_reducible exact HS.out.p)) | ((with_reducible show wpList _ _ _ _ _ _); refine' Lx.wpList_put _ rfl _ _ rfl g2 rfl q rfl ?_ ?_; any_goals (with_reducible exact HS.out.z)))
            have z9 := HS.out.z.put q
            have ge := HS.out.ge
            have Bx := HS.out.bl
            obtain ⟨W9, hW9⟩ : ∃ W, W = Lx.putPol wo g2 q := ⟨_, rfl⟩
            rw [← hW9] at z9 ⊢
            clear hW9
            have d0 := z9.cell 0 _ rfl
            have d1 := z9.cell 1 _ rfl
            have d2 := z9.cell 2 _ rfl
            have d3 := z9.cell 3 _ rfl
            have d4 := z9.cell 4 _ rfl
            have d5 := z9.cell 5 _ rfl
            have d6 := z9.cell 6 _ rfl
            have d7 := z9.cell 7 _ rfl
            have d8 := z9.cell 8 _ rfl
            have d9 := z9.cell 9 _ rfl
            have d10 := z9.cell 10 _ rfl
            have d11 := z9.cell 11 _ rfl
            have d12 := z9.cell 12 _ rfl
            have d13 := z9.cell 13 _ rfl
            have d14 := z9.cell 14 _ rfl
            refine bodyPost_ret (v := .tuple #[q.val, .int .i64 0, .int .i64 0]) ?_ rfl ⟨by rw [HE.out]; rfl, Bx.trans (z9.toB.mono ge.1)⟩
            unfold Lx.PolV.val
            simp [results, Tryz.results17, go_sem, d0, d1, d2, d3, d4, d5, d6, d7, d8, d9, d10, d11, d12, d13, d14]
end Go.Proofs.YtdpjcbijddgpgaaGreatDoor
