/- The walk of op.Parse. -/
import Derived.Test.YtnnkamfpcodnnaaGreatDoorOpP
namespace Go.Proofs.YtnnkamfpcodnnaaGreatDoor
open Go.RowKit
open Go.Maps (Keyed)

def ParseK (o : Lx.OpV) (g : Bool) (w : World) (e : Ending) (w' : World) : Prop := e = .returned (.tuple #[(if g then o else Lx.opZ).val, .int .i64 (if g then 0 else 10)]) ∧ Below w.heap.size w w'
theorem parseK_no (o : Lx.OpV) (w w' : World) (hb : Below w.heap.size w w') : ParseK o false w (.returned (.tuple #[.agg #[.int .i64 0, .int .i64 0, .int .i64 0, .int .i64 0, .bool false, .string ⟨#[]⟩], .int .i64 10])) w' := ⟨rfl, hb⟩
def CutIs (s A B : ByteArray) (f : Bool) : Prop := ∀ W, Env W → Calls Tryz.prog 31 #[.string s, .string ⟨#[32]⟩] W fun e w' => e = .returned (.tuple #[.string A, .string B, .bool f]) ∧ Below W.heap.size W w'
set_option maxRecDepth 100000 in
set_option maxHeartbeats 1600000 in
theorem parse_1 (s A B : ByteArray) (f : Bool) (w : World) (env : Env w) (o : Lx.OpV) (bb : Bool) (hj : o.job.size ≤ maxLen) (hA : A.data.toList = Lx.word 1) (hcut0 : CutIs s A B f)
    (hrd : ∀ W, Env W → Calls Tryz.prog 42 #[.string B] W (ReadIs o bb W)) :
    Calls Tryz.prog 19 #[.string s] w (ParseK o (bb && decide (Lx.opErr o = 0)) w) := by
  have hcut := Lib.hid hcut0
  have HRD := Lib.hid hrd
  obtain ⟨ok, od, ot, or, oo, oj⟩ := o
  have HCK := Lib.hid (fun W => check_any ⟨ok, od, ot, or, oo, oj⟩ W hj)
  unfold CheckIs at HCK
  generalize Lx.opErr ⟨ok, od, ot, or, oo, oj⟩ = x at HCK ⊢
  unfold Lx.OpV.val at HCK
  unfold ReadIs Lx.OpV.val at HRD
  simp only at HCK HRD
  clear hj
  have hkey : keyOf Tryz.prog 9 (.string A) = some (Lx.kw 1) := by
    rw [Go.WideMaps.keyOf_string_mk Tryz.underlying9 (by rw [Lib.size_eq, hA]; unfold maxLen; decide), hA]; rfl
  clear hcut0 hrd hA
  have be0 : Below w.heap.size w (w.alloc (.cells #[.int .i64 0, .int .i64 0, .int .i64 0, .int .i64 0, .bool false, .string ⟨#[]⟩] 40)) := (Below.refl _ w).alloc (Nat.le_refl _) _
  go_enter Tryz.func19, Tryz.ntmps19
  go_wp2_with fail
  refine (hcut.out _ (env.below be0)).mono ?_
  rintro e w1 ⟨rfl, hb1⟩
  go_wp2_with fail
  refine (forms_any _).mono ?_
  rintro e w2 ⟨b, b4, b5, b6, rfl, hown, k4, k5, k6, l4, l5, l6, hb2⟩
  have hba := hb1.trans (hb2.mono hb1.size)
  obtain ⟨v, ps, hrun, hv⟩ := hown.look_ok lawS Tryz.underlying61 (zeroF _) (Lx.fR_mk (k := 0) (by omega) (by omega)) hkey
  rw [Lx.fD_has (by omega) (by omega)] at hrun
  rw [Lx.fD_at (by omega) (by omega)] at hv
  obtain ⟨j, hj6, hvj, hy⟩ := Lx.fR_inv (by omega) hv
  have hjk : j = 1 := by
    have h1 := congrArg Prod.fst hy
    unfold Lx.kd at h1
    have h2 := (Lit.int.inj (DataW.lit.inj h1)).2
    omega
  subst hjk
  have hvv : v = .agg #[.int .i64 1, .func (.func 41) #[] #[], .func (.func 42) #[] #[]] := hvj
  subst hvv
  have c0 := Lx.boxCell hba 0 _ rfl
  have f0 := Lx.boxFree hba 0
  have c1 := Lx.boxCell hba 1 _ rfl
  have f1 := Lx.boxFree hba 1
  have c2 := Lx.boxCell hba 2 _ rfl
  have f2 := Lx.boxFree hba 2
  have c3 := Lx.boxCell hba 3 _ rfl
  have f3 := Lx.boxFree hba 3
  have c4 := Lx.boxCell hba 4 _ rfl
  have f4 := Lx.boxFree hba 4
  have c5 := Lx.boxCell hba 5 _ rfl
  have f5 := Lx.boxFree hba 5
  have hl2 := Lx.boxLt hba
  have be2 := Lx.boxBelow hba
  clear hba hb1 hb2 hown hv hvj hy be0 hj6
  go_wp2_with fail
  refine (HRD.out _ (env.below (be2.alloc be2.size (.cells #[.int .i64 1, .func (.func 41) #[] #[], .func (.func 42) #[] #[]] 66)))).mono ?_
  rintro e w4 ⟨rfl, hb4⟩
  have hb5 := (be2.alloc be2.size (.cells #[.int .i64 1, .func (.func 41) #[] #[], .func (.func 42) #[] #[]] 66)).trans (hb4.mono (be2.alloc be2.size (.cells #[.int .i64 1, .func (.func 41) #[] #[], .func (.func 42) #[] #[]] 66)).size)
  have g0 := (hb4.cell (p := ⟨w.heap.size, 0, none⟩) (by rw [World.size_alloc]; exact Nat.lt_succ_of_lt hl2)).trans ((World.cell?_alloc_past _ w.heap.size 0 hl2).trans c0)
  have e0 := (hb4.frozen (p := ⟨w.heap.size, 0, none⟩) (by rw [World.size_alloc]; exact Nat.lt_succ_of_lt hl2)).trans ((World.frozen?_alloc_past _ w.heap.size 0 hl2).trans f0)
  have g1 := (hb4.cell (p := ⟨w.heap.size, 1, none⟩) (by rw [World.size_alloc]; exact Nat.lt_succ_of_lt hl2)).trans ((World.cell?_alloc_past _ w.heap.size 1 hl2).trans c1)
  have e1 := (hb4.frozen (p := ⟨w.heap.size, 1, none⟩) (by rw [World.size_alloc]; exact Nat.lt_succ_of_lt hl2)).trans ((World.frozen?_alloc_past _ w.heap.size 1 hl2).trans f1)
  have g2 := (hb4.cell (p := ⟨w.heap.size, 2, none⟩) (by rw [World.size_alloc]; exact Nat.lt_succ_of_lt hl2)).trans ((World.cell?_alloc_past _ w.heap.size 2 hl2).trans c2)
  have e2 := (hb4.frozen (p := ⟨w.heap.size, 2, none⟩) (by rw [World.size_alloc]; exact Nat.lt_succ_of_lt hl2)).trans ((World.frozen?_alloc_past _ w.heap.size 2 hl2).trans f2)
  have g3 := (hb4.cell (p := ⟨w.heap.size, 3, none⟩) (by rw [World.size_alloc]; exact Nat.lt_succ_of_lt hl2)).trans ((World.cell?_alloc_past _ w.heap.size 3 hl2).trans c3)
  have e3 := (hb4.frozen (p := ⟨w.heap.size, 3, none⟩) (by rw [World.size_alloc]; exact Nat.lt_succ_of_lt hl2)).trans ((World.frozen?_alloc_past _ w.heap.size 3 hl2).trans f3)
  have g4 := (hb4.cell (p := ⟨w.heap.size, 4, none⟩) (by rw [World.size_alloc]; exact Nat.lt_succ_of_lt hl2)).trans ((World.cell?_alloc_past _ w.heap.size 4 hl2).trans c4)
  have e4 := (hb4.frozen (p := ⟨w.heap.size, 4, none⟩) (by rw [World.size_alloc]; exact Nat.lt_succ_of_lt hl2)).trans ((World.frozen?_alloc_past _ w.heap.size 4 hl2).trans f4)
  have g5 := (hb4.cell (p := ⟨w.heap.size, 5, none⟩) (by rw [World.size_alloc]; exact Nat.lt_succ_of_lt hl2)).trans ((World.cell?_alloc_past _ w.heap.size 5 hl2).trans c5)
  have e5 := (hb4.frozen (p := ⟨w.heap.size, 5, none⟩) (by rw [World.size_alloc]; exact Nat.lt_succ_of_lt hl2)).trans ((World.frozen?_alloc_past _ w.heap.size 5 hl2).trans f5)
  have hl4 : w.heap.size < w4.heap.size := Nat.lt_of_lt_of_le hl2 (Nat.le_trans (by rw [World.size_alloc]; omega) hb4.size)
  clear c0 c1 c2 c3 c4 c5 f0 f1 f2 f3 f4 f5 hrun k4 k5 k6 l4 l5 l6 hb4 be2 hl2
  have hb7 := hb5.alloc hb5.size (.cells #[.int .i64 ok, .int .i64 od, .int .i64 ot, .int .i64 or, .bool oo, .string oj] 40)
  cases bb
  · go_wp2_with fail
    refine bodyPost_ret (v := .tuple #[.agg #[.int .i64 0, .int .i64 0, .int .i64 0, .int .i64 0, .bool false, .string ⟨#[]⟩], .int .i64 10]) (by simp [results, Tryz.results19, go_sem, g0, g1, g2, g3, g4, g5, hl4]) rfl ?_
    exact ⟨rfl, ((((((hb5.setCell (Nat.le_refl _) _).setCell (Nat.le_refl _) _).setCell (Nat.le_refl _) _).setCell (Nat.le_refl _) _).setCell (Nat.le_refl _) _).setCell (Nat.le_refl _) _).alloc ((((((hb5.setCell (Nat.le_refl _) _).setCell (Nat.le_refl _) _).setCell (Nat.le_refl _) _).setCell (Nat.le_refl _) _).setCell (Nat.le_refl _) _).setCell (Nat.le_refl _) _).size _⟩
  · go_wp2_with fail
    refine (HCK.out _).mono ?_
    rintro e w5 ⟨rfl, hb6⟩
    have hb8 := hb7.trans (hb6.mono hb7.size)
    have p0 := (hb6.cell (p := ⟨w.heap.size, 0, none⟩) (by rw [World.size_alloc]; exact Nat.lt_succ_of_lt hl4)).trans ((World.cell?_alloc_past _ w.heap.size 0 hl4).trans g0)
    have q0 := (hb6.frozen (p := ⟨w.heap.size, 0, none⟩) (by rw [World.size_alloc]; exact Nat.lt_succ_of_lt hl4)).trans ((World.frozen?_alloc_past _ w.heap.size 0 hl4).trans e0)
    have r0 := Lx.boxCell hb6 0 _ rfl
    have p1 := (hb6.cell (p := ⟨w.heap.size, 1, none⟩) (by rw [World.size_alloc]; exact Nat.lt_succ_of_lt hl4)).trans ((World.cell?_alloc_past _ w.heap.size 1 hl4).trans g1)
    have q1 := (hb6.frozen (p := ⟨w.heap.size, 1, none⟩) (by rw [World.size_alloc]; exact Nat.lt_succ_of_lt hl4)).trans ((World.frozen?_alloc_past _ w.heap.size 1 hl4).trans e1)
    have r1 := Lx.boxCell hb6 1 _ rfl
    have p2 := (hb6.cell (p := ⟨w.heap.size, 2, none⟩) (by rw [World.size_alloc]; exact Nat.lt_succ_of_lt hl4)).trans ((World.cell?_alloc_past _ w.heap.size 2 hl4).trans g2)
    have q2 := (hb6.frozen (p := ⟨w.heap.size, 2, none⟩) (by rw [World.size_alloc]; exact Nat.lt_succ_of_lt hl4)).trans ((World.frozen?_alloc_past _ w.heap.size 2 hl4).trans e2)
    have r2 := Lx.boxCell hb6 2 _ rfl
    have p3 := (hb6.cell (p := ⟨w.heap.size, 3, none⟩) (by rw [World.size_alloc]; exact Nat.lt_succ_of_lt hl4)).trans ((World.cell?_alloc_past _ w.heap.size 3 hl4).trans g3)
    have q3 := (hb6.frozen (p := ⟨w.heap.size, 3, none⟩) (by rw [World.size_alloc]; exact Nat.lt_succ_of_lt hl4)).trans ((World.frozen?_alloc_past _ w.heap.size 3 hl4).trans e3)
    have r3 := Lx.boxCell hb6 3 _ rfl
    have p4 := (hb6.cell (p := ⟨w.heap.size, 4, none⟩) (by rw [World.size_alloc]; exact Nat.lt_succ_of_lt hl4)).trans ((World.cell?_alloc_past _ w.heap.size 4 hl4).trans g4)
    have q4 := (hb6.frozen (p := ⟨w.heap.size, 4, none⟩) (by rw [World.size_alloc]; exact Nat.lt_succ_of_lt hl4)).trans ((World.frozen?_alloc_past _ w.heap.size 4 hl4).trans e4)
    have r4 := Lx.boxCell hb6 4 _ rfl
    have p5 := (hb6.cell (p := ⟨w.heap.size, 5, none⟩) (by rw [World.size_alloc]; exact Nat.lt_succ_of_lt hl4)).trans ((World.cell?_alloc_past _ w.heap.size 5 hl4).trans g5)
    have q5 := (hb6.frozen (p := ⟨w.heap.size, 5, none⟩) (by rw [World.size_alloc]; exact Nat.lt_succ_of_lt hl4)).trans ((World.frozen?_alloc_past _ w.heap.size 5 hl4).trans e5)
    have r5 := Lx.boxCell hb6 5 _ rfl
    have hl5 : w.heap.size < w5.heap.size := Nat.lt_of_lt_of_le hl4 (Nat.le_trans (by rw [World.size_alloc]; omega) hb6.size)
    clear g0 g1 g2 g3 g4 g5 e0 e1 e2 e3 e4 e5 hb6
    by_cases hx : x = 0
    · have he : (x != 0) = false := by rw [bne_eq_false_iff_eq]; exact hx
      have hd : decide (x = 0) = true := decide_eq_true hx
      have Hd := Lib.hid hd
      clear hx hd
      go_wp2_with fail
      refine bodyPost_ret (v := .tuple #[.agg #[.int .i64 ok, .int .i64 od, .int .i64 ot, .int .i64 or, .bool oo, .string oj], .int .i64 0]) (by simp [results, Tryz.results19, go_sem, p0, p1, p2, p3, p4, p5]) rfl ?_
      exact ⟨by rw [Hd.out]; rfl, (((((hb8.setCell (Nat.le_refl _) _).setCell (Nat.le_refl _) _).setCell (Nat.le_refl _) _).setCell (Nat.le_refl _) _).setCell (Nat.le_refl _) _).setCell (Nat.le_refl _) _⟩
    · have he : (x != 0) = true := by rw [bne_iff_ne]; exact hx
      have hd : decide (x = 0) = false := decide_eq_false hx
      have Hd := Lib.hid hd
      clear hx hd
      go_wp2_with fail
      refine bodyPost_ret (v := .tuple #[.agg #[.int .i64 0, .int .i64 0, .int .i64 0, .int .i64 0, .bool false, .string ⟨#[]⟩], .int .i64 10]) (by simp [results, Tryz.results19, go_sem, p0, p1, p2, p3, p4, p5]) rfl ?_
      exact ⟨by rw [Hd.out]; rfl, (((((hb8.setCell (Nat.le_refl _) _).setCell (Nat.le_refl _) _).setCell (Nat.le_refl _) _).setCell (Nat.le_refl _) _).setCell (Nat.le_refl _) _).setCell (Nat.le_refl _) _⟩
set_option maxRecDepth 100000 in
set_option maxHeartbeats 1600000 in
theorem parse_2 (s A B : ByteArray) (f : Bool) (w : World) (env : Env w) (o : Lx.OpV) (bb : Bool) (hj : o.job.size ≤ maxLen) (hA : A.data.toList = Lx.word 2) (hcut0 : CutIs s A B f)
    (hrd : ∀ W, Env W → Calls Tryz.prog 44 #[.string B] W (ReadIs o bb W)) :
    Calls Tryz.prog 19 #[.string s] w (ParseK o (bb && decide (Lx.opErr o = 0)) w) := by
  have hcut := Lib.hid hcut0
  have HRD := Lib.hid hrd
  obtain ⟨ok, od, ot, or, oo, oj⟩ := o
  have HCK := Lib.hid (fun W => check_any ⟨ok, od, ot, or, oo, oj⟩ W hj)
  unfold CheckIs at HCK
  generalize Lx.opErr ⟨ok, od, ot, or, oo, oj⟩ = x at HCK ⊢
  unfold Lx.OpV.val at HCK
  unfold ReadIs Lx.OpV.val at HRD
  simp only at HCK HRD
  clear hj
  have hkey : keyOf Tryz.prog 9 (.string A) = some (Lx.kw 2) := by
    rw [Go.WideMaps.keyOf_string_mk Tryz.underlying9 (by rw [Lib.size_eq, hA]; unfold maxLen; decide), hA]; rfl
  clear hcut0 hrd hA
  have be0 : Below w.heap.size w (w.alloc (.cells #[.int .i64 0, .int .i64 0, .int .i64 0, .int .i64 0, .bool false, .string ⟨#[]⟩] 40)) := (Below.refl _ w).alloc (Nat.le_refl _) _
  go_enter Tryz.func19, Tryz.ntmps19
  go_wp2_with fail
  refine (hcut.out _ (env.below be0)).mono ?_
  rintro e w1 ⟨rfl, hb1⟩
  go_wp2_with fail
  refine (forms_any _).mono ?_
  rintro e w2 ⟨b, b4, b5, b6, rfl, hown, k4, k5, k6, l4, l5, l6, hb2⟩
  have hba := hb1.trans (hb2.mono hb1.size)
  obtain ⟨v, ps, hrun, hv⟩ := hown.look_ok lawS Tryz.underlying61 (zeroF _) (Lx.fR_mk (k := 0) (by omega) (by omega)) hkey
  rw [Lx.fD_has (by omega) (by omega)] at hrun
  rw [Lx.fD_at (by omega) (by omega)] at hv
  obtain ⟨j, hj6, hvj, hy⟩ := Lx.fR_inv (by omega) hv
  have hjk : j = 2 := by
    have h1 := congrArg Prod.fst hy
    unfold Lx.kd at h1
    have h2 := (Lit.int.inj (DataW.lit.inj h1)).2
    omega
  subst hjk
  have hvv : v = .agg #[.int .i64 2, .func (.func 43) #[] #[], .func (.func 44) #[] #[]] := hvj
  subst hvv
  have c0 := Lx.boxCell hba 0 _ rfl
  have f0 := Lx.boxFree hba 0
  have c1 := Lx.boxCell hba 1 _ rfl
  have f1 := Lx.boxFree hba 1
  have c2 := Lx.boxCell hba 2 _ rfl
  have f2 := Lx.boxFree hba 2
  have c3 := Lx.boxCell hba 3 _ rfl
  have f3 := Lx.boxFree hba 3
  have c4 := Lx.boxCell hba 4 _ rfl
  have f4 := Lx.boxFree hba 4
  have c5 := Lx.boxCell hba 5 _ rfl
  have f5 := Lx.boxFree hba 5
  have hl2 := Lx.boxLt hba
  have be2 := Lx.boxBelow hba
  clear hba hb1 hb2 hown hv hvj hy be0 hj6
  go_wp2_with fail
  refine (HRD.out _ (env.below (be2.alloc be2.size (.cells #[.int .i64 2, .func (.func 43) #[] #[], .func (.func 44) #[] #[]] 66)))).mono ?_
  rintro e w4 ⟨rfl, hb4⟩
  have hb5 := (be2.alloc be2.size (.cells #[.int .i64 2, .func (.func 43) #[] #[], .func (.func 44) #[] #[]] 66)).trans (hb4.mono (be2.alloc be2.size (.cells #[.int .i64 2, .func (.func 43) #[] #[], .func (.func 44) #[] #[]] 66)).size)
  have g0 := (hb4.cell (p := ⟨w.heap.size, 0, none⟩) (by rw [World.size_alloc]; exact Nat.lt_succ_of_lt hl2)).trans ((World.cell?_alloc_past _ w.heap.size 0 hl2).trans c0)
  have e0 := (hb4.frozen (p := ⟨w.heap.size, 0, none⟩) (by rw [World.size_alloc]; exact Nat.lt_succ_of_lt hl2)).trans ((World.frozen?_alloc_past _ w.heap.size 0 hl2).trans f0)
  have g1 := (hb4.cell (p := ⟨w.heap.size, 1, none⟩) (by rw [World.size_alloc]; exact Nat.lt_succ_of_lt hl2)).trans ((World.cell?_alloc_past _ w.heap.size 1 hl2).trans c1)
  have e1 := (hb4.frozen (p := ⟨w.heap.size, 1, none⟩) (by rw [World.size_alloc]; exact Nat.lt_succ_of_lt hl2)).trans ((World.frozen?_alloc_past _ w.heap.size 1 hl2).trans f1)
  have g2 := (hb4.cell (p := ⟨w.heap.size, 2, none⟩) (by rw [World.size_alloc]; exact Nat.lt_succ_of_lt hl2)).trans ((World.cell?_alloc_past _ w.heap.size 2 hl2).trans c2)
  have e2 := (hb4.frozen (p := ⟨w.heap.size, 2, none⟩) (by rw [World.size_alloc]; exact Nat.lt_succ_of_lt hl2)).trans ((World.frozen?_alloc_past _ w.heap.size 2 hl2).trans f2)
  have g3 := (hb4.cell (p := ⟨w.heap.size, 3, none⟩) (by rw [World.size_alloc]; exact Nat.lt_succ_of_lt hl2)).trans ((World.cell?_alloc_past _ w.heap.size 3 hl2).trans c3)
  have e3 := (hb4.frozen (p := ⟨w.heap.size, 3, none⟩) (by rw [World.size_alloc]; exact Nat.lt_succ_of_lt hl2)).trans ((World.frozen?_alloc_past _ w.heap.size 3 hl2).trans f3)
  have g4 := (hb4.cell (p := ⟨w.heap.size, 4, none⟩) (by rw [World.size_alloc]; exact Nat.lt_succ_of_lt hl2)).trans ((World.cell?_alloc_past _ w.heap.size 4 hl2).trans c4)
  have e4 := (hb4.frozen (p := ⟨w.heap.size, 4, none⟩) (by rw [World.size_alloc]; exact Nat.lt_succ_of_lt hl2)).trans ((World.frozen?_alloc_past _ w.heap.size 4 hl2).trans f4)
  have g5 := (hb4.cell (p := ⟨w.heap.size, 5, none⟩) (by rw [World.size_alloc]; exact Nat.lt_succ_of_lt hl2)).trans ((World.cell?_alloc_past _ w.heap.size 5 hl2).trans c5)
  have e5 := (hb4.frozen (p := ⟨w.heap.size, 5, none⟩) (by rw [World.size_alloc]; exact Nat.lt_succ_of_lt hl2)).trans ((World.frozen?_alloc_past _ w.heap.size 5 hl2).trans f5)
  have hl4 : w.heap.size < w4.heap.size := Nat.lt_of_lt_of_le hl2 (Nat.le_trans (by rw [World.size_alloc]; omega) hb4.size)
  clear c0 c1 c2 c3 c4 c5 f0 f1 f2 f3 f4 f5 hrun k4 k5 k6 l4 l5 l6 hb4 be2 hl2
  have hb7 := hb5.alloc hb5.size (.cells #[.int .i64 ok, .int .i64 od, .int .i64 ot, .int .i64 or, .bool oo, .string oj] 40)
  cases bb
  · go_wp2_with fail
    refine bodyPost_ret (v := .tuple #[.agg #[.int .i64 0, .int .i64 0, .int .i64 0, .int .i64 0, .bool false, .string ⟨#[]⟩], .int .i64 10]) (by simp [results, Tryz.results19, go_sem, g0, g1, g2, g3, g4, g5, hl4]) rfl ?_
    exact ⟨rfl, ((((((hb5.setCell (Nat.le_refl _) _).setCell (Nat.le_refl _) _).setCell (Nat.le_refl _) _).setCell (Nat.le_refl _) _).setCell (Nat.le_refl _) _).setCell (Nat.le_refl _) _).alloc ((((((hb5.setCell (Nat.le_refl _) _).setCell (Nat.le_refl _) _).setCell (Nat.le_refl _) _).setCell (Nat.le_refl _) _).setCell (Nat.le_refl _) _).setCell (Nat.le_refl _) _).size _⟩
  · go_wp2_with fail
    refine (HCK.out _).mono ?_
    rintro e w5 ⟨rfl, hb6⟩
    have hb8 := hb7.trans (hb6.mono hb7.size)
    have p0 := (hb6.cell (p := ⟨w.heap.size, 0, none⟩) (by rw [World.size_alloc]; exact Nat.lt_succ_of_lt hl4)).trans ((World.cell?_alloc_past _ w.heap.size 0 hl4).trans g0)
    have q0 := (hb6.frozen (p := ⟨w.heap.size, 0, none⟩) (by rw [World.size_alloc]; exact Nat.lt_succ_of_lt hl4)).trans ((World.frozen?_alloc_past _ w.heap.size 0 hl4).trans e0)
    have r0 := Lx.boxCell hb6 0 _ rfl
    have p1 := (hb6.cell (p := ⟨w.heap.size, 1, none⟩) (by rw [World.size_alloc]; exact Nat.lt_succ_of_lt hl4)).trans ((World.cell?_alloc_past _ w.heap.size 1 hl4).trans g1)
    have q1 := (hb6.frozen (p := ⟨w.heap.size, 1, none⟩) (by rw [World.size_alloc]; exact Nat.lt_succ_of_lt hl4)).trans ((World.frozen?_alloc_past _ w.heap.size 1 hl4).trans e1)
    have r1 := Lx.boxCell hb6 1 _ rfl
    have p2 := (hb6.cell (p := ⟨w.heap.size, 2, none⟩) (by rw [World.size_alloc]; exact Nat.lt_succ_of_lt hl4)).trans ((World.cell?_alloc_past _ w.heap.size 2 hl4).trans g2)
    have q2 := (hb6.frozen (p := ⟨w.heap.size, 2, none⟩) (by rw [World.size_alloc]; exact Nat.lt_succ_of_lt hl4)).trans ((World.frozen?_alloc_past _ w.heap.size 2 hl4).trans e2)
    have r2 := Lx.boxCell hb6 2 _ rfl
    have p3 := (hb6.cell (p := ⟨w.heap.size, 3, none⟩) (by rw [World.size_alloc]; exact Nat.lt_succ_of_lt hl4)).trans ((World.cell?_alloc_past _ w.heap.size 3 hl4).trans g3)
    have q3 := (hb6.frozen (p := ⟨w.heap.size, 3, none⟩) (by rw [World.size_alloc]; exact Nat.lt_succ_of_lt hl4)).trans ((World.frozen?_alloc_past _ w.heap.size 3 hl4).trans e3)
    have r3 := Lx.boxCell hb6 3 _ rfl
    have p4 := (hb6.cell (p := ⟨w.heap.size, 4, none⟩) (by rw [World.size_alloc]; exact Nat.lt_succ_of_lt hl4)).trans ((World.cell?_alloc_past _ w.heap.size 4 hl4).trans g4)
    have q4 := (hb6.frozen (p := ⟨w.heap.size, 4, none⟩) (by rw [World.size_alloc]; exact Nat.lt_succ_of_lt hl4)).trans ((World.frozen?_alloc_past _ w.heap.size 4 hl4).trans e4)
    have r4 := Lx.boxCell hb6 4 _ rfl
    have p5 := (hb6.cell (p := ⟨w.heap.size, 5, none⟩) (by rw [World.size_alloc]; exact Nat.lt_succ_of_lt hl4)).trans ((World.cell?_alloc_past _ w.heap.size 5 hl4).trans g5)
    have q5 := (hb6.frozen (p := ⟨w.heap.size, 5, none⟩) (by rw [World.size_alloc]; exact Nat.lt_succ_of_lt hl4)).trans ((World.frozen?_alloc_past _ w.heap.size 5 hl4).trans e5)
    have r5 := Lx.boxCell hb6 5 _ rfl
    have hl5 : w.heap.size < w5.heap.size := Nat.lt_of_lt_of_le hl4 (Nat.le_trans (by rw [World.size_alloc]; omega) hb6.size)
    clear g0 g1 g2 g3 g4 g5 e0 e1 e2 e3 e4 e5 hb6
    by_cases hx : x = 0
    · have he : (x != 0) = false := by rw [bne_eq_false_iff_eq]; exact hx
      have hd : decide (x = 0) = true := decide_eq_true hx
      have Hd := Lib.hid hd
      clear hx hd
      go_wp2_with fail
      refine bodyPost_ret (v := .tuple #[.agg #[.int .i64 ok, .int .i64 od, .int .i64 ot, .int .i64 or, .bool oo, .string oj], .int .i64 0]) (by simp [results, Tryz.results19, go_sem, p0, p1, p2, p3, p4, p5]) rfl ?_
      exact ⟨by rw [Hd.out]; rfl, (((((hb8.setCell (Nat.le_refl _) _).setCell (Nat.le_refl _) _).setCell (Nat.le_refl _) _).setCell (Nat.le_refl _) _).setCell (Nat.le_refl _) _).setCell (Nat.le_refl _) _⟩
    · have he : (x != 0) = true := by rw [bne_iff_ne]; exact hx
      have hd : decide (x = 0) = false := decide_eq_false hx
      have Hd := Lib.hid hd
      clear hx hd
      go_wp2_with fail
      refine bodyPost_ret (v := .tuple #[.agg #[.int .i64 0, .int .i64 0, .int .i64 0, .int .i64 0, .bool false, .string ⟨#[]⟩], .int .i64 10]) (by simp [results, Tryz.results19, go_sem, p0, p1, p2, p3, p4, p5]) rfl ?_
      exact ⟨by rw [Hd.out]; rfl, (((((hb8.setCell (Nat.le_refl _) _).setCell (Nat.le_refl _) _).setCell (Nat.le_refl _) _).setCell (Nat.le_refl _) _).setCell (Nat.le_refl _) _).setCell (Nat.le_refl _) _⟩
set_option maxRecDepth 100000 in
set_option maxHeartbeats 1600000 in
theorem parse_3 (s A B : ByteArray) (f : Bool) (w : World) (env : Env w) (o : Lx.OpV) (bb : Bool) (hj : o.job.size ≤ maxLen) (hA : A.data.toList = Lx.word 3) (hcut0 : CutIs s A B f)
    (hrd : ∀ W, Env W → Calls Tryz.prog 46 #[.string B] W (ReadIs o bb W)) :
    Calls Tryz.prog 19 #[.string s] w (ParseK o (bb && decide (Lx.opErr o = 0)) w) := by
  have hcut := Lib.hid hcut0
  have HRD := Lib.hid hrd
  obtain ⟨ok, od, ot, or, oo, oj⟩ := o
  have HCK := Lib.hid (fun W => check_any ⟨ok, od, ot, or, oo, oj⟩ W hj)
  unfold CheckIs at HCK
  generalize Lx.opErr ⟨ok, od, ot, or, oo, oj⟩ = x at HCK ⊢
  unfold Lx.OpV.val at HCK
  unfold ReadIs Lx.OpV.val at HRD
  simp only at HCK HRD
  clear hj
  have hkey : keyOf Tryz.prog 9 (.string A) = some (Lx.kw 3) := by
    rw [Go.WideMaps.keyOf_string_mk Tryz.underlying9 (by rw [Lib.size_eq, hA]; unfold maxLen; decide), hA]; rfl
  clear hcut0 hrd hA
  have be0 : Below w.heap.size w (w.alloc (.cells #[.int .i64 0, .int .i64 0, .int .i64 0, .int .i64 0, .bool false, .string ⟨#[]⟩] 40)) := (Below.refl _ w).alloc (Nat.le_refl _) _
  go_enter Tryz.func19, Tryz.ntmps19
  go_wp2_with fail
  refine (hcut.out _ (env.below be0)).mono ?_
  rintro e w1 ⟨rfl, hb1⟩
  go_wp2_with fail
  refine (forms_any _).mono ?_
  rintro e w2 ⟨b, b4, b5, b6, rfl, hown, k4, k5, k6, l4, l5, l6, hb2⟩
  have hba := hb1.trans (hb2.mono hb1.size)
  obtain ⟨v, ps, hrun, hv⟩ := hown.look_ok lawS Tryz.underlying61 (zeroF _) (Lx.fR_mk (k := 0) (by omega) (by omega)) hkey
  rw [Lx.fD_has (by omega) (by omega)] at hrun
  rw [Lx.fD_at (by omega) (by omega)] at hv
  obtain ⟨j, hj6, hvj, hy⟩ := Lx.fR_inv (by omega) hv
  have hjk : j = 3 := by
    have h1 := congrArg Prod.fst hy
    unfold Lx.kd at h1
    have h2 := (Lit.int.inj (DataW.lit.inj h1)).2
    omega
  subst hjk
  have hvv : v = .agg #[.int .i64 3, .func (.func 45) #[] #[], .func (.func 46) #[] #[]] := hvj
  subst hvv
  have c0 := Lx.boxCell hba 0 _ rfl
  have f0 := Lx.boxFree hba 0
  have c1 := Lx.boxCell hba 1 _ rfl
  have f1 := Lx.boxFree hba 1
  have c2 := Lx.boxCell hba 2 _ rfl
  have f2 := Lx.boxFree hba 2
  have c3 := Lx.boxCell hba 3 _ rfl
  have f3 := Lx.boxFree hba 3
  have c4 := Lx.boxCell hba 4 _ rfl
  have f4 := Lx.boxFree hba 4
  have c5 := Lx.boxCell hba 5 _ rfl
  have f5 := Lx.boxFree hba 5
  have hl2 := Lx.boxLt hba
  have be2 := Lx.boxBelow hba
  clear hba hb1 hb2 hown hv hvj hy be0 hj6
  go_wp2_with fail
  refine (HRD.out _ (env.below (be2.alloc be2.size (.cells #[.int .i64 3, .func (.func 45) #[] #[], .func (.func 46) #[] #[]] 66)))).mono ?_
  rintro e w4 ⟨rfl, hb4⟩
  have hb5 := (be2.alloc be2.size (.cells #[.int .i64 3, .func (.func 45) #[] #[], .func (.func 46) #[] #[]] 66)).trans (hb4.mono (be2.alloc be2.size (.cells #[.int .i64 3, .func (.func 45) #[] #[], .func (.func 46) #[] #[]] 66)).size)
  have g0 := (hb4.cell (p := ⟨w.heap.size, 0, none⟩) (by rw [World.size_alloc]; exact Nat.lt_succ_of_lt hl2)).trans ((World.cell?_alloc_past _ w.heap.size 0 hl2).trans c0)
  have e0 := (hb4.frozen (p := ⟨w.heap.size, 0, none⟩) (by rw [World.size_alloc]; exact Nat.lt_succ_of_lt hl2)).trans ((World.frozen?_alloc_past _ w.heap.size 0 hl2).trans f0)
  have g1 := (hb4.cell (p := ⟨w.heap.size, 1, none⟩) (by rw [World.size_alloc]; exact Nat.lt_succ_of_lt hl2)).trans ((World.cell?_alloc_past _ w.heap.size 1 hl2).trans c1)
  have e1 := (hb4.frozen (p := ⟨w.heap.size, 1, none⟩) (by rw [World.size_alloc]; exact Nat.lt_succ_of_lt hl2)).trans ((World.frozen?_alloc_past _ w.heap.size 1 hl2).trans f1)
  have g2 := (hb4.cell (p := ⟨w.heap.size, 2, none⟩) (by rw [World.size_alloc]; exact Nat.lt_succ_of_lt hl2)).trans ((World.cell?_alloc_past _ w.heap.size 2 hl2).trans c2)
  have e2 := (hb4.frozen (p := ⟨w.heap.size, 2, none⟩) (by rw [World.size_alloc]; exact Nat.lt_succ_of_lt hl2)).trans ((World.frozen?_alloc_past _ w.heap.size 2 hl2).trans f2)
  have g3 := (hb4.cell (p := ⟨w.heap.size, 3, none⟩) (by rw [World.size_alloc]; exact Nat.lt_succ_of_lt hl2)).trans ((World.cell?_alloc_past _ w.heap.size 3 hl2).trans c3)
  have e3 := (hb4.frozen (p := ⟨w.heap.size, 3, none⟩) (by rw [World.size_alloc]; exact Nat.lt_succ_of_lt hl2)).trans ((World.frozen?_alloc_past _ w.heap.size 3 hl2).trans f3)
  have g4 := (hb4.cell (p := ⟨w.heap.size, 4, none⟩) (by rw [World.size_alloc]; exact Nat.lt_succ_of_lt hl2)).trans ((World.cell?_alloc_past _ w.heap.size 4 hl2).trans c4)
  have e4 := (hb4.frozen (p := ⟨w.heap.size, 4, none⟩) (by rw [World.size_alloc]; exact Nat.lt_succ_of_lt hl2)).trans ((World.frozen?_alloc_past _ w.heap.size 4 hl2).trans f4)
  have g5 := (hb4.cell (p := ⟨w.heap.size, 5, none⟩) (by rw [World.size_alloc]; exact Nat.lt_succ_of_lt hl2)).trans ((World.cell?_alloc_past _ w.heap.size 5 hl2).trans c5)
  have e5 := (hb4.frozen (p := ⟨w.heap.size, 5, none⟩) (by rw [World.size_alloc]; exact Nat.lt_succ_of_lt hl2)).trans ((World.frozen?_alloc_past _ w.heap.size 5 hl2).trans f5)
  have hl4 : w.heap.size < w4.heap.size := Nat.lt_of_lt_of_le hl2 (Nat.le_trans (by rw [World.size_alloc]; omega) hb4.size)
  clear c0 c1 c2 c3 c4 c5 f0 f1 f2 f3 f4 f5 hrun k4 k5 k6 l4 l5 l6 hb4 be2 hl2
  have hb7 := hb5.alloc hb5.size (.cells #[.int .i64 ok, .int .i64 od, .int .i64 ot, .int .i64 or, .bool oo, .string oj] 40)
  cases bb
  · go_wp2_with fail
    refine bodyPost_ret (v := .tuple #[.agg #[.int .i64 0, .int .i64 0, .int .i64 0, .int .i64 0, .bool false, .string ⟨#[]⟩], .int .i64 10]) (by simp [results, Tryz.results19, go_sem, g0, g1, g2, g3, g4, g5, hl4]) rfl ?_
    exact ⟨rfl, ((((((hb5.setCell (Nat.le_refl _) _).setCell (Nat.le_refl _) _).setCell (Nat.le_refl _) _).setCell (Nat.le_refl _) _).setCell (Nat.le_refl _) _).setCell (Nat.le_refl _) _).alloc ((((((hb5.setCell (Nat.le_refl _) _).setCell (Nat.le_refl _) _).setCell (Nat.le_refl _) _).setCell (Nat.le_refl _) _).setCell (Nat.le_refl _) _).setCell (Nat.le_refl _) _).size _⟩
  · go_wp2_with fail
    refine (HCK.out _).mono ?_
    rintro e w5 ⟨rfl, hb6⟩
    have hb8 := hb7.trans (hb6.mono hb7.size)
    have p0 := (hb6.cell (p := ⟨w.heap.size, 0, none⟩) (by rw [World.size_alloc]; exact Nat.lt_succ_of_lt hl4)).trans ((World.cell?_alloc_past _ w.heap.size 0 hl4).trans g0)
    have q0 := (hb6.frozen (p := ⟨w.heap.size, 0, none⟩) (by rw [World.size_alloc]; exact Nat.lt_succ_of_lt hl4)).trans ((World.frozen?_alloc_past _ w.heap.size 0 hl4).trans e0)
    have r0 := Lx.boxCell hb6 0 _ rfl
    have p1 := (hb6.cell (p := ⟨w.heap.size, 1, none⟩) (by rw [World.size_alloc]; exact Nat.lt_succ_of_lt hl4)).trans ((World.cell?_alloc_past _ w.heap.size 1 hl4).trans g1)
    have q1 := (hb6.frozen (p := ⟨w.heap.size, 1, none⟩) (by rw [World.size_alloc]; exact Nat.lt_succ_of_lt hl4)).trans ((World.frozen?_alloc_past _ w.heap.size 1 hl4).trans e1)
    have r1 := Lx.boxCell hb6 1 _ rfl
    have p2 := (hb6.cell (p := ⟨w.heap.size, 2, none⟩) (by rw [World.size_alloc]; exact Nat.lt_succ_of_lt hl4)).trans ((World.cell?_alloc_past _ w.heap.size 2 hl4).trans g2)
    have q2 := (hb6.frozen (p := ⟨w.heap.size, 2, none⟩) (by rw [World.size_alloc]; exact Nat.lt_succ_of_lt hl4)).trans ((World.frozen?_alloc_past _ w.heap.size 2 hl4).trans e2)
    have r2 := Lx.boxCell hb6 2 _ rfl
    have p3 := (hb6.cell (p := ⟨w.heap.size, 3, none⟩) (by rw [World.size_alloc]; exact Nat.lt_succ_of_lt hl4)).trans ((World.cell?_alloc_past _ w.heap.size 3 hl4).trans g3)
    have q3 := (hb6.frozen (p := ⟨w.heap.size, 3, none⟩) (by rw [World.size_alloc]; exact Nat.lt_succ_of_lt hl4)).trans ((World.frozen?_alloc_past _ w.heap.size 3 hl4).trans e3)
    have r3 := Lx.boxCell hb6 3 _ rfl
    have p4 := (hb6.cell (p := ⟨w.heap.size, 4, none⟩) (by rw [World.size_alloc]; exact Nat.lt_succ_of_lt hl4)).trans ((World.cell?_alloc_past _ w.heap.size 4 hl4).trans g4)
    have q4 := (hb6.frozen (p := ⟨w.heap.size, 4, none⟩) (by rw [World.size_alloc]; exact Nat.lt_succ_of_lt hl4)).trans ((World.frozen?_alloc_past _ w.heap.size 4 hl4).trans e4)
    have r4 := Lx.boxCell hb6 4 _ rfl
    have p5 := (hb6.cell (p := ⟨w.heap.size, 5, none⟩) (by rw [World.size_alloc]; exact Nat.lt_succ_of_lt hl4)).trans ((World.cell?_alloc_past _ w.heap.size 5 hl4).trans g5)
    have q5 := (hb6.frozen (p := ⟨w.heap.size, 5, none⟩) (by rw [World.size_alloc]; exact Nat.lt_succ_of_lt hl4)).trans ((World.frozen?_alloc_past _ w.heap.size 5 hl4).trans e5)
    have r5 := Lx.boxCell hb6 5 _ rfl
    have hl5 : w.heap.size < w5.heap.size := Nat.lt_of_lt_of_le hl4 (Nat.le_trans (by rw [World.size_alloc]; omega) hb6.size)
    clear g0 g1 g2 g3 g4 g5 e0 e1 e2 e3 e4 e5 hb6
    by_cases hx : x = 0
    · have he : (x != 0) = false := by rw [bne_eq_false_iff_eq]; exact hx
      have hd : decide (x = 0) = true := decide_eq_true hx
      have Hd := Lib.hid hd
      clear hx hd
      go_wp2_with fail
      refine bodyPost_ret (v := .tuple #[.agg #[.int .i64 ok, .int .i64 od, .int .i64 ot, .int .i64 or, .bool oo, .string oj], .int .i64 0]) (by simp [results, Tryz.results19, go_sem, p0, p1, p2, p3, p4, p5]) rfl ?_
      exact ⟨by rw [Hd.out]; rfl, (((((hb8.setCell (Nat.le_refl _) _).setCell (Nat.le_refl _) _).setCell (Nat.le_refl _) _).setCell (Nat.le_refl _) _).setCell (Nat.le_refl _) _).setCell (Nat.le_refl _) _⟩
    · have he : (x != 0) = true := by rw [bne_iff_ne]; exact hx
      have hd : decide (x = 0) = false := decide_eq_false hx
      have Hd := Lib.hid hd
      clear hx hd
      go_wp2_with fail
      refine bodyPost_ret (v := .tuple #[.agg #[.int .i64 0, .int .i64 0, .int .i64 0, .int .i64 0, .bool false, .string ⟨#[]⟩], .int .i64 10]) (by simp [results, Tryz.results19, go_sem, p0, p1, p2, p3, p4, p5]) rfl ?_
      exact ⟨by rw [Hd.out]; rfl, (((((hb8.setCell (Nat.le_refl _) _).setCell (Nat.le_refl _) _).setCell (Nat.le_refl _) _).setCell (Nat.le_refl _) _).setCell (Nat.le_refl _) _).setCell (Nat.le_refl _) _⟩
set_option maxRecDepth 100000 in
set_option maxHeartbeats 1600000 in
theorem parse_4 (s A B : ByteArray) (f : Bool) (w : World) (env : Env w) (o : Lx.OpV) (bb : Bool) (hj : o.job.size ≤ maxLen) (hA : A.data.toList = Lx.word 4) (hcut0 : CutIs s A B f)
    (hrd : ∀ W b, W.cell? ⟨b, 0, none⟩ = some (.int .i64 4) → b < W.heap.size → Calls Tryz.prog 62 #[.string B, .pointer (some ⟨b, 0, none⟩)] W (ReadIs o bb W)) :
    Calls Tryz.prog 19 #[.string s] w (ParseK o (bb && decide (Lx.opErr o = 0)) w) := by
  have hcut := Lib.hid hcut0
  have HRD := Lib.hid hrd
  obtain ⟨ok, od, ot, or, oo, oj⟩ := o
  have HCK := Lib.hid (fun W => check_any ⟨ok, od, ot, or, oo, oj⟩ W hj)
  unfold CheckIs at HCK
  generalize Lx.opErr ⟨ok, od, ot, or, oo, oj⟩ = x at HCK ⊢
  unfold Lx.OpV.val at HCK
  unfold ReadIs Lx.OpV.val at HRD
  simp only at HCK HRD
  clear hj
  have hkey : keyOf Tryz.prog 9 (.string A) = some (Lx.kw 4) := by
    rw [Go.WideMaps.keyOf_string_mk Tryz.underlying9 (by rw [Lib.size_eq, hA]; unfold maxLen; decide), hA]; rfl
  clear hcut0 hrd hA
  have be0 : Below w.heap.size w (w.alloc (.cells #[.int .i64 0, .int .i64 0, .int .i64 0, .int .i64 0, .bool false, .string ⟨#[]⟩] 40)) := (Below.refl _ w).alloc (Nat.le_refl _) _
  go_enter Tryz.func19, Tryz.ntmps19
  go_wp2_with fail
  refine (hcut.out _ (env.below be0)).mono ?_
  rintro e w1 ⟨rfl, hb1⟩
  go_wp2_with fail
  refine (forms_any _).mono ?_
  rintro e w2 ⟨b, b4, b5, b6, rfl, hown, k4, k5, k6, l4, l5, l6, hb2⟩
  have hba := hb1.trans (hb2.mono hb1.size)
  obtain ⟨v, ps, hrun, hv⟩ := hown.look_ok lawS Tryz.underlying61 (zeroF _) (Lx.fR_mk (k := 0) (by omega) (by omega)) hkey
  rw [Lx.fD_has (by omega) (by omega)] at hrun
  rw [Lx.fD_at (by omega) (by omega)] at hv
  obtain ⟨j, hj6, hvj, hy⟩ := Lx.fR_inv (by omega) hv
  have hjk : j = 4 := by
    have h1 := congrArg Prod.fst hy
    unfold Lx.kd at h1
    have h2 := (Lit.int.inj (DataW.lit.inj h1)).2
    omega
  subst hjk
  have hvv : v = .agg #[.int .i64 4, .func (.func 61) #[] #[], .func (.func 62) #[] #[.pointer (some ⟨b4, 0, none⟩)]] := hvj
  subst hvv
  have c0 := Lx.boxCell hba 0 _ rfl
  have f0 := Lx.boxFree hba 0
  have c1 := Lx.boxCell hba 1 _ rfl
  have f1 := Lx.boxFree hba 1
  have c2 := Lx.boxCell hba 2 _ rfl
  have f2 := Lx.boxFree hba 2
  have c3 := Lx.boxCell hba 3 _ rfl
  have f3 := Lx.boxFree hba 3
  have c4 := Lx.boxCell hba 4 _ rfl
  have f4 := Lx.boxFree hba 4
  have c5 := Lx.boxCell hba 5 _ rfl
  have f5 := Lx.boxFree hba 5
  have hl2 := Lx.boxLt hba
  have be2 := Lx.boxBelow hba
  clear hba hb1 hb2 hown hv hvj hy be0 hj6
  go_wp2_with fail
  refine (HRD.out _ b4 ((World.cell?_alloc_past _ b4 0 l4).trans k4) (by rw [World.size_alloc]; omega)).mono ?_
  rintro e w4 ⟨rfl, hb4⟩
  have hb5 := (be2.alloc be2.size (.cells #[.int .i64 4, .func (.func 61) #[] #[], .func (.func 62) #[] #[.pointer (some ⟨b4, 0, none⟩)]] 66)).trans (hb4.mono (be2.alloc be2.size (.cells #[.int .i64 4, .func (.func 61) #[] #[], .func (.func 62) #[] #[.pointer (some ⟨b4, 0, none⟩)]] 66)).size)
  have g0 := (hb4.cell (p := ⟨w.heap.size, 0, none⟩) (by rw [World.size_alloc]; exact Nat.lt_succ_of_lt hl2)).trans ((World.cell?_alloc_past _ w.heap.size 0 hl2).trans c0)
  have e0 := (hb4.frozen (p := ⟨w.heap.size, 0, none⟩) (by rw [World.size_alloc]; exact Nat.lt_succ_of_lt hl2)).trans ((World.frozen?_alloc_past _ w.heap.size 0 hl2).trans f0)
  have g1 := (hb4.cell (p := ⟨w.heap.size, 1, none⟩) (by rw [World.size_alloc]; exact Nat.lt_succ_of_lt hl2)).trans ((World.cell?_alloc_past _ w.heap.size 1 hl2).trans c1)
  have e1 := (hb4.frozen (p := ⟨w.heap.size, 1, none⟩) (by rw [World.size_alloc]; exact Nat.lt_succ_of_lt hl2)).trans ((World.frozen?_alloc_past _ w.heap.size 1 hl2).trans f1)
  have g2 := (hb4.cell (p := ⟨w.heap.size, 2, none⟩) (by rw [World.size_alloc]; exact Nat.lt_succ_of_lt hl2)).trans ((World.cell?_alloc_past _ w.heap.size 2 hl2).trans c2)
  have e2 := (hb4.frozen (p := ⟨w.heap.size, 2, none⟩) (by rw [World.size_alloc]; exact Nat.lt_succ_of_lt hl2)).trans ((World.frozen?_alloc_past _ w.heap.size 2 hl2).trans f2)
  have g3 := (hb4.cell (p := ⟨w.heap.size, 3, none⟩) (by rw [World.size_alloc]; exact Nat.lt_succ_of_lt hl2)).trans ((World.cell?_alloc_past _ w.heap.size 3 hl2).trans c3)
  have e3 := (hb4.frozen (p := ⟨w.heap.size, 3, none⟩) (by rw [World.size_alloc]; exact Nat.lt_succ_of_lt hl2)).trans ((World.frozen?_alloc_past _ w.heap.size 3 hl2).trans f3)
  have g4 := (hb4.cell (p := ⟨w.heap.size, 4, none⟩) (by rw [World.size_alloc]; exact Nat.lt_succ_of_lt hl2)).trans ((World.cell?_alloc_past _ w.heap.size 4 hl2).trans c4)
  have e4 := (hb4.frozen (p := ⟨w.heap.size, 4, none⟩) (by rw [World.size_alloc]; exact Nat.lt_succ_of_lt hl2)).trans ((World.frozen?_alloc_past _ w.heap.size 4 hl2).trans f4)
  have g5 := (hb4.cell (p := ⟨w.heap.size, 5, none⟩) (by rw [World.size_alloc]; exact Nat.lt_succ_of_lt hl2)).trans ((World.cell?_alloc_past _ w.heap.size 5 hl2).trans c5)
  have e5 := (hb4.frozen (p := ⟨w.heap.size, 5, none⟩) (by rw [World.size_alloc]; exact Nat.lt_succ_of_lt hl2)).trans ((World.frozen?_alloc_past _ w.heap.size 5 hl2).trans f5)
  have hl4 : w.heap.size < w4.heap.size := Nat.lt_of_lt_of_le hl2 (Nat.le_trans (by rw [World.size_alloc]; omega) hb4.size)
  clear c0 c1 c2 c3 c4 c5 f0 f1 f2 f3 f4 f5 hrun k4 k5 k6 l4 l5 l6 hb4 be2 hl2
  have hb7 := hb5.alloc hb5.size (.cells #[.int .i64 ok, .int .i64 od, .int .i64 ot, .int .i64 or, .bool oo, .string oj] 40)
  cases bb
  · go_wp2_with fail
    refine bodyPost_ret (v := .tuple #[.agg #[.int .i64 0, .int .i64 0, .int .i64 0, .int .i64 0, .bool false, .string ⟨#[]⟩], .int .i64 10]) (by simp [results, Tryz.results19, go_sem, g0, g1, g2, g3, g4, g5, hl4]) rfl ?_
    exact ⟨rfl, ((((((hb5.setCell (Nat.le_refl _) _).setCell (Nat.le_refl _) _).setCell (Nat.le_refl _) _).setCell (Nat.le_refl _) _).setCell (Nat.le_refl _) _).setCell (Nat.le_refl _) _).alloc ((((((hb5.setCell (Nat.le_refl _) _).setCell (Nat.le_refl _) _).setCell (Nat.le_refl _) _).setCell (Nat.le_refl _) _).setCell (Nat.le_refl _) _).setCell (Nat.le_refl _) _).size _⟩
  · go_wp2_with fail
    refine (HCK.out _).mono ?_
    rintro e w5 ⟨rfl, hb6⟩
    have hb8 := hb7.trans (hb6.mono hb7.size)
    have p0 := (hb6.cell (p := ⟨w.heap.size, 0, none⟩) (by rw [World.size_alloc]; exact Nat.lt_succ_of_lt hl4)).trans ((World.cell?_alloc_past _ w.heap.size 0 hl4).trans g0)
    have q0 := (hb6.frozen (p := ⟨w.heap.size, 0, none⟩) (by rw [World.size_alloc]; exact Nat.lt_succ_of_lt hl4)).trans ((World.frozen?_alloc_past _ w.heap.size 0 hl4).trans e0)
    have r0 := Lx.boxCell hb6 0 _ rfl
    have p1 := (hb6.cell (p := ⟨w.heap.size, 1, none⟩) (by rw [World.size_alloc]; exact Nat.lt_succ_of_lt hl4)).trans ((World.cell?_alloc_past _ w.heap.size 1 hl4).trans g1)
    have q1 := (hb6.frozen (p := ⟨w.heap.size, 1, none⟩) (by rw [World.size_alloc]; exact Nat.lt_succ_of_lt hl4)).trans ((World.frozen?_alloc_past _ w.heap.size 1 hl4).trans e1)
    have r1 := Lx.boxCell hb6 1 _ rfl
    have p2 := (hb6.cell (p := ⟨w.heap.size, 2, none⟩) (by rw [World.size_alloc]; exact Nat.lt_succ_of_lt hl4)).trans ((World.cell?_alloc_past _ w.heap.size 2 hl4).trans g2)
    have q2 := (hb6.frozen (p := ⟨w.heap.size, 2, none⟩) (by rw [World.size_alloc]; exact Nat.lt_succ_of_lt hl4)).trans ((World.frozen?_alloc_past _ w.heap.size 2 hl4).trans e2)
    have r2 := Lx.boxCell hb6 2 _ rfl
    have p3 := (hb6.cell (p := ⟨w.heap.size, 3, none⟩) (by rw [World.size_alloc]; exact Nat.lt_succ_of_lt hl4)).trans ((World.cell?_alloc_past _ w.heap.size 3 hl4).trans g3)
    have q3 := (hb6.frozen (p := ⟨w.heap.size, 3, none⟩) (by rw [World.size_alloc]; exact Nat.lt_succ_of_lt hl4)).trans ((World.frozen?_alloc_past _ w.heap.size 3 hl4).trans e3)
    have r3 := Lx.boxCell hb6 3 _ rfl
    have p4 := (hb6.cell (p := ⟨w.heap.size, 4, none⟩) (by rw [World.size_alloc]; exact Nat.lt_succ_of_lt hl4)).trans ((World.cell?_alloc_past _ w.heap.size 4 hl4).trans g4)
    have q4 := (hb6.frozen (p := ⟨w.heap.size, 4, none⟩) (by rw [World.size_alloc]; exact Nat.lt_succ_of_lt hl4)).trans ((World.frozen?_alloc_past _ w.heap.size 4 hl4).trans e4)
    have r4 := Lx.boxCell hb6 4 _ rfl
    have p5 := (hb6.cell (p := ⟨w.heap.size, 5, none⟩) (by rw [World.size_alloc]; exact Nat.lt_succ_of_lt hl4)).trans ((World.cell?_alloc_past _ w.heap.size 5 hl4).trans g5)
    have q5 := (hb6.frozen (p := ⟨w.heap.size, 5, none⟩) (by rw [World.size_alloc]; exact Nat.lt_succ_of_lt hl4)).trans ((World.frozen?_alloc_past _ w.heap.size 5 hl4).trans e5)
    have r5 := Lx.boxCell hb6 5 _ rfl
    have hl5 : w.heap.size < w5.heap.size := Nat.lt_of_lt_of_le hl4 (Nat.le_trans (by rw [World.size_alloc]; omega) hb6.size)
    clear g0 g1 g2 g3 g4 g5 e0 e1 e2 e3 e4 e5 hb6
    by_cases hx : x = 0
    · have he : (x != 0) = false := by rw [bne_eq_false_iff_eq]; exact hx
      have hd : decide (x = 0) = true := decide_eq_true hx
      have Hd := Lib.hid hd
      clear hx hd
      go_wp2_with fail
      refine bodyPost_ret (v := .tuple #[.agg #[.int .i64 ok, .int .i64 od, .int .i64 ot, .int .i64 or, .bool oo, .string oj], .int .i64 0]) (by simp [results, Tryz.results19, go_sem, p0, p1, p2, p3, p4, p5]) rfl ?_
      exact ⟨by rw [Hd.out]; rfl, (((((hb8.setCell (Nat.le_refl _) _).setCell (Nat.le_refl _) _).setCell (Nat.le_refl _) _).setCell (Nat.le_refl _) _).setCell (Nat.le_refl _) _).setCell (Nat.le_refl _) _⟩
    · have he : (x != 0) = true := by rw [bne_iff_ne]; exact hx
      have hd : decide (x = 0) = false := decide_eq_false hx
      have Hd := Lib.hid hd
      clear hx hd
      go_wp2_with fail
      refine bodyPost_ret (v := .tuple #[.agg #[.int .i64 0, .int .i64 0, .int .i64 0, .int .i64 0, .bool false, .string ⟨#[]⟩], .int .i64 10]) (by simp [results, Tryz.results19, go_sem, p0, p1, p2, p3, p4, p5]) rfl ?_
      exact ⟨by rw [Hd.out]; rfl, (((((hb8.setCell (Nat.le_refl _) _).setCell (Nat.le_refl _) _).setCell (Nat.le_refl _) _).setCell (Nat.le_refl _) _).setCell (Nat.le_refl _) _).setCell (Nat.le_refl _) _⟩
set_option maxRecDepth 100000 in
set_option maxHeartbeats 1600000 in
theorem parse_5 (s A B : ByteArray) (f : Bool) (w : World) (env : Env w) (o : Lx.OpV) (bb : Bool) (hj : o.job.size ≤ maxLen) (hA : A.data.toList = Lx.word 5) (hcut0 : CutIs s A B f)
    (hrd : ∀ W b, W.cell? ⟨b, 0, none⟩ = some (.int .i64 5) → b < W.heap.size → Calls Tryz.prog 62 #[.string B, .pointer (some ⟨b, 0, none⟩)] W (ReadIs o bb W)) :
    Calls Tryz.prog 19 #[.string s] w (ParseK o (bb && decide (Lx.opErr o = 0)) w) := by
  have hcut := Lib.hid hcut0
  have HRD := Lib.hid hrd
  obtain ⟨ok, od, ot, or, oo, oj⟩ := o
  have HCK := Lib.hid (fun W => check_any ⟨ok, od, ot, or, oo, oj⟩ W hj)
  unfold CheckIs at HCK
  generalize Lx.opErr ⟨ok, od, ot, or, oo, oj⟩ = x at HCK ⊢
  unfold Lx.OpV.val at HCK
  unfold ReadIs Lx.OpV.val at HRD
  simp only at HCK HRD
  clear hj
  have hkey : keyOf Tryz.prog 9 (.string A) = some (Lx.kw 5) := by
    rw [Go.WideMaps.keyOf_string_mk Tryz.underlying9 (by rw [Lib.size_eq, hA]; unfold maxLen; decide), hA]; rfl
  clear hcut0 hrd hA
  have be0 : Below w.heap.size w (w.alloc (.cells #[.int .i64 0, .int .i64 0, .int .i64 0, .int .i64 0, .bool false, .string ⟨#[]⟩] 40)) := (Below.refl _ w).alloc (Nat.le_refl _) _
  go_enter Tryz.func19, Tryz.ntmps19
  go_wp2_with fail
  refine (hcut.out _ (env.below be0)).mono ?_
  rintro e w1 ⟨rfl, hb1⟩
  go_wp2_with fail
  refine (forms_any _).mono ?_
  rintro e w2 ⟨b, b4, b5, b6, rfl, hown, k4, k5, k6, l4, l5, l6, hb2⟩
  have hba := hb1.trans (hb2.mono hb1.size)
  obtain ⟨v, ps, hrun, hv⟩ := hown.look_ok lawS Tryz.underlying61 (zeroF _) (Lx.fR_mk (k := 0) (by omega) (by omega)) hkey
  rw [Lx.fD_has (by omega) (by omega)] at hrun
  rw [Lx.fD_at (by omega) (by omega)] at hv
  obtain ⟨j, hj6, hvj, hy⟩ := Lx.fR_inv (by omega) hv
  have hjk : j = 5 := by
    have h1 := congrArg Prod.fst hy
    unfold Lx.kd at h1
    have h2 := (Lit.int.inj (DataW.lit.inj h1)).2
    omega
  subst hjk
  have hvv : v = .agg #[.int .i64 5, .func (.func 61) #[] #[], .func (.func 62) #[] #[.pointer (some ⟨b5, 0, none⟩)]] := hvj
  subst hvv
  have c0 := Lx.boxCell hba 0 _ rfl
  have f0 := Lx.boxFree hba 0
  have c1 := Lx.boxCell hba 1 _ rfl
  have f1 := Lx.boxFree hba 1
  have c2 := Lx.boxCell hba 2 _ rfl
  have f2 := Lx.boxFree hba 2
  have c3 := Lx.boxCell hba 3 _ rfl
  have f3 := Lx.boxFree hba 3
  have c4 := Lx.boxCell hba 4 _ rfl
  have f4 := Lx.boxFree hba 4
  have c5 := Lx.boxCell hba 5 _ rfl
  have f5 := Lx.boxFree hba 5
  have hl2 := Lx.boxLt hba
  have be2 := Lx.boxBelow hba
  clear hba hb1 hb2 hown hv hvj hy be0 hj6
  go_wp2_with fail
  refine (HRD.out _ b5 ((World.cell?_alloc_past _ b5 0 l5).trans k5) (by rw [World.size_alloc]; omega)).mono ?_
  rintro e w4 ⟨rfl, hb4⟩
  have hb5 := (be2.alloc be2.size (.cells #[.int .i64 5, .func (.func 61) #[] #[], .func (.func 62) #[] #[.pointer (some ⟨b5, 0, none⟩)]] 66)).trans (hb4.mono (be2.alloc be2.size (.cells #[.int .i64 5, .func (.func 61) #[] #[], .func (.func 62) #[] #[.pointer (some ⟨b5, 0, none⟩)]] 66)).size)
  have g0 := (hb4.cell (p := ⟨w.heap.size, 0, none⟩) (by rw [World.size_alloc]; exact Nat.lt_succ_of_lt hl2)).trans ((World.cell?_alloc_past _ w.heap.size 0 hl2).trans c0)
  have e0 := (hb4.frozen (p := ⟨w.heap.size, 0, none⟩) (by rw [World.size_alloc]; exact Nat.lt_succ_of_lt hl2)).trans ((World.frozen?_alloc_past _ w.heap.size 0 hl2).trans f0)
  have g1 := (hb4.cell (p := ⟨w.heap.size, 1, none⟩) (by rw [World.size_alloc]; exact Nat.lt_succ_of_lt hl2)).trans ((World.cell?_alloc_past _ w.heap.size 1 hl2).trans c1)
  have e1 := (hb4.frozen (p := ⟨w.heap.size, 1, none⟩) (by rw [World.size_alloc]; exact Nat.lt_succ_of_lt hl2)).trans ((World.frozen?_alloc_past _ w.heap.size 1 hl2).trans f1)
  have g2 := (hb4.cell (p := ⟨w.heap.size, 2, none⟩) (by rw [World.size_alloc]; exact Nat.lt_succ_of_lt hl2)).trans ((World.cell?_alloc_past _ w.heap.size 2 hl2).trans c2)
  have e2 := (hb4.frozen (p := ⟨w.heap.size, 2, none⟩) (by rw [World.size_alloc]; exact Nat.lt_succ_of_lt hl2)).trans ((World.frozen?_alloc_past _ w.heap.size 2 hl2).trans f2)
  have g3 := (hb4.cell (p := ⟨w.heap.size, 3, none⟩) (by rw [World.size_alloc]; exact Nat.lt_succ_of_lt hl2)).trans ((World.cell?_alloc_past _ w.heap.size 3 hl2).trans c3)
  have e3 := (hb4.frozen (p := ⟨w.heap.size, 3, none⟩) (by rw [World.size_alloc]; exact Nat.lt_succ_of_lt hl2)).trans ((World.frozen?_alloc_past _ w.heap.size 3 hl2).trans f3)
  have g4 := (hb4.cell (p := ⟨w.heap.size, 4, none⟩) (by rw [World.size_alloc]; exact Nat.lt_succ_of_lt hl2)).trans ((World.cell?_alloc_past _ w.heap.size 4 hl2).trans c4)
  have e4 := (hb4.frozen (p := ⟨w.heap.size, 4, none⟩) (by rw [World.size_alloc]; exact Nat.lt_succ_of_lt hl2)).trans ((World.frozen?_alloc_past _ w.heap.size 4 hl2).trans f4)
  have g5 := (hb4.cell (p := ⟨w.heap.size, 5, none⟩) (by rw [World.size_alloc]; exact Nat.lt_succ_of_lt hl2)).trans ((World.cell?_alloc_past _ w.heap.size 5 hl2).trans c5)
  have e5 := (hb4.frozen (p := ⟨w.heap.size, 5, none⟩) (by rw [World.size_alloc]; exact Nat.lt_succ_of_lt hl2)).trans ((World.frozen?_alloc_past _ w.heap.size 5 hl2).trans f5)
  have hl4 : w.heap.size < w4.heap.size := Nat.lt_of_lt_of_le hl2 (Nat.le_trans (by rw [World.size_alloc]; omega) hb4.size)
  clear c0 c1 c2 c3 c4 c5 f0 f1 f2 f3 f4 f5 hrun k4 k5 k6 l4 l5 l6 hb4 be2 hl2
  have hb7 := hb5.alloc hb5.size (.cells #[.int .i64 ok, .int .i64 od, .int .i64 ot, .int .i64 or, .bool oo, .string oj] 40)
  cases bb
  · go_wp2_with fail
    refine bodyPost_ret (v := .tuple #[.agg #[.int .i64 0, .int .i64 0, .int .i64 0, .int .i64 0, .bool false, .string ⟨#[]⟩], .int .i64 10]) (by simp [results, Tryz.results19, go_sem, g0, g1, g2, g3, g4, g5, hl4]) rfl ?_
    exact ⟨rfl, ((((((hb5.setCell (Nat.le_refl _) _).setCell (Nat.le_refl _) _).setCell (Nat.le_refl _) _).setCell (Nat.le_refl _) _).setCell (Nat.le_refl _) _).setCell (Nat.le_refl _) _).alloc ((((((hb5.setCell (Nat.le_refl _) _).setCell (Nat.le_refl _) _).setCell (Nat.le_refl _) _).setCell (Nat.le_refl _) _).setCell (Nat.le_refl _) _).setCell (Nat.le_refl _) _).size _⟩
  · go_wp2_with fail
    refine (HCK.out _).mono ?_
    rintro e w5 ⟨rfl, hb6⟩
    have hb8 := hb7.trans (hb6.mono hb7.size)
    have p0 := (hb6.cell (p := ⟨w.heap.size, 0, none⟩) (by rw [World.size_alloc]; exact Nat.lt_succ_of_lt hl4)).trans ((World.cell?_alloc_past _ w.heap.size 0 hl4).trans g0)
    have q0 := (hb6.frozen (p := ⟨w.heap.size, 0, none⟩) (by rw [World.size_alloc]; exact Nat.lt_succ_of_lt hl4)).trans ((World.frozen?_alloc_past _ w.heap.size 0 hl4).trans e0)
    have r0 := Lx.boxCell hb6 0 _ rfl
    have p1 := (hb6.cell (p := ⟨w.heap.size, 1, none⟩) (by rw [World.size_alloc]; exact Nat.lt_succ_of_lt hl4)).trans ((World.cell?_alloc_past _ w.heap.size 1 hl4).trans g1)
    have q1 := (hb6.frozen (p := ⟨w.heap.size, 1, none⟩) (by rw [World.size_alloc]; exact Nat.lt_succ_of_lt hl4)).trans ((World.frozen?_alloc_past _ w.heap.size 1 hl4).trans e1)
    have r1 := Lx.boxCell hb6 1 _ rfl
    have p2 := (hb6.cell (p := ⟨w.heap.size, 2, none⟩) (by rw [World.size_alloc]; exact Nat.lt_succ_of_lt hl4)).trans ((World.cell?_alloc_past _ w.heap.size 2 hl4).trans g2)
    have q2 := (hb6.frozen (p := ⟨w.heap.size, 2, none⟩) (by rw [World.size_alloc]; exact Nat.lt_succ_of_lt hl4)).trans ((World.frozen?_alloc_past _ w.heap.size 2 hl4).trans e2)
    have r2 := Lx.boxCell hb6 2 _ rfl
    have p3 := (hb6.cell (p := ⟨w.heap.size, 3, none⟩) (by rw [World.size_alloc]; exact Nat.lt_succ_of_lt hl4)).trans ((World.cell?_alloc_past _ w.heap.size 3 hl4).trans g3)
    have q3 := (hb6.frozen (p := ⟨w.heap.size, 3, none⟩) (by rw [World.size_alloc]; exact Nat.lt_succ_of_lt hl4)).trans ((World.frozen?_alloc_past _ w.heap.size 3 hl4).trans e3)
    have r3 := Lx.boxCell hb6 3 _ rfl
    have p4 := (hb6.cell (p := ⟨w.heap.size, 4, none⟩) (by rw [World.size_alloc]; exact Nat.lt_succ_of_lt hl4)).trans ((World.cell?_alloc_past _ w.heap.size 4 hl4).trans g4)
    have q4 := (hb6.frozen (p := ⟨w.heap.size, 4, none⟩) (by rw [World.size_alloc]; exact Nat.lt_succ_of_lt hl4)).trans ((World.frozen?_alloc_past _ w.heap.size 4 hl4).trans e4)
    have r4 := Lx.boxCell hb6 4 _ rfl
    have p5 := (hb6.cell (p := ⟨w.heap.size, 5, none⟩) (by rw [World.size_alloc]; exact Nat.lt_succ_of_lt hl4)).trans ((World.cell?_alloc_past _ w.heap.size 5 hl4).trans g5)
    have q5 := (hb6.frozen (p := ⟨w.heap.size, 5, none⟩) (by rw [World.size_alloc]; exact Nat.lt_succ_of_lt hl4)).trans ((World.frozen?_alloc_past _ w.heap.size 5 hl4).trans e5)
    have r5 := Lx.boxCell hb6 5 _ rfl
    have hl5 : w.heap.size < w5.heap.size := Nat.lt_of_lt_of_le hl4 (Nat.le_trans (by rw [World.size_alloc]; omega) hb6.size)
    clear g0 g1 g2 g3 g4 g5 e0 e1 e2 e3 e4 e5 hb6
    by_cases hx : x = 0
    · have he : (x != 0) = false := by rw [bne_eq_false_iff_eq]; exact hx
      have hd : decide (x = 0) = true := decide_eq_true hx
      have Hd := Lib.hid hd
      clear hx hd
      go_wp2_with fail
      refine bodyPost_ret (v := .tuple #[.agg #[.int .i64 ok, .int .i64 od, .int .i64 ot, .int .i64 or, .bool oo, .string oj], .int .i64 0]) (by simp [results, Tryz.results19, go_sem, p0, p1, p2, p3, p4, p5]) rfl ?_
      exact ⟨by rw [Hd.out]; rfl, (((((hb8.setCell (Nat.le_refl _) _).setCell (Nat.le_refl _) _).setCell (Nat.le_refl _) _).setCell (Nat.le_refl _) _).setCell (Nat.le_refl _) _).setCell (Nat.le_refl _) _⟩
    · have he : (x != 0) = true := by rw [bne_iff_ne]; exact hx
      have hd : decide (x = 0) = false := decide_eq_false hx
      have Hd := Lib.hid hd
      clear hx hd
      go_wp2_with fail
      refine bodyPost_ret (v := .tuple #[.agg #[.int .i64 0, .int .i64 0, .int .i64 0, .int .i64 0, .bool false, .string ⟨#[]⟩], .int .i64 10]) (by simp [results, Tryz.results19, go_sem, p0, p1, p2, p3, p4, p5]) rfl ?_
      exact ⟨by rw [Hd.out]; rfl, (((((hb8.setCell (Nat.le_refl _) _).setCell (Nat.le_refl _) _).setCell (Nat.le_refl _) _).setCell (Nat.le_refl _) _).setCell (Nat.le_refl _) _).setCell (Nat.le_refl _) _⟩
set_option maxRecDepth 100000 in
set_option maxHeartbeats 1600000 in
theorem parse_6 (s A B : ByteArray) (f : Bool) (w : World) (env : Env w) (o : Lx.OpV) (bb : Bool) (hj : o.job.size ≤ maxLen) (hA : A.data.toList = Lx.word 6) (hcut0 : CutIs s A B f)
    (hrd : ∀ W b, W.cell? ⟨b, 0, none⟩ = some (.int .i64 6) → b < W.heap.size → Calls Tryz.prog 62 #[.string B, .pointer (some ⟨b, 0, none⟩)] W (ReadIs o bb W)) :
    Calls Tryz.prog 19 #[.string s] w (ParseK o (bb && decide (Lx.opErr o = 0)) w) := by
  have hcut := Lib.hid hcut0
  have HRD := Lib.hid hrd
  obtain ⟨ok, od, ot, or, oo, oj⟩ := o
  have HCK := Lib.hid (fun W => check_any ⟨ok, od, ot, or, oo, oj⟩ W hj)
  unfold CheckIs at HCK
  generalize Lx.opErr ⟨ok, od, ot, or, oo, oj⟩ = x at HCK ⊢
  unfold Lx.OpV.val at HCK
  unfold ReadIs Lx.OpV.val at HRD
  simp only at HCK HRD
  clear hj
  have hkey : keyOf Tryz.prog 9 (.string A) = some (Lx.kw 6) := by
    rw [Go.WideMaps.keyOf_string_mk Tryz.underlying9 (by rw [Lib.size_eq, hA]; unfold maxLen; decide), hA]; rfl
  clear hcut0 hrd hA
  have be0 : Below w.heap.size w (w.alloc (.cells #[.int .i64 0, .int .i64 0, .int .i64 0, .int .i64 0, .bool false, .string ⟨#[]⟩] 40)) := (Below.refl _ w).alloc (Nat.le_refl _) _
  go_enter Tryz.func19, Tryz.ntmps19
  go_wp2_with fail
  refine (hcut.out _ (env.below be0)).mono ?_
  rintro e w1 ⟨rfl, hb1⟩
  go_wp2_with fail
  refine (forms_any _).mono ?_
  rintro e w2 ⟨b, b4, b5, b6, rfl, hown, k4, k5, k6, l4, l5, l6, hb2⟩
  have hba := hb1.trans (hb2.mono hb1.size)
  obtain ⟨v, ps, hrun, hv⟩ := hown.look_ok lawS Tryz.underlying61 (zeroF _) (Lx.fR_mk (k := 0) (by omega) (by omega)) hkey
  rw [Lx.fD_has (by omega) (by omega)] at hrun
  rw [Lx.fD_at (by omega) (by omega)] at hv
  obtain ⟨j, hj6, hvj, hy⟩ := Lx.fR_inv (by omega) hv
  have hjk : j = 6 := by
    have h1 := congrArg Prod.fst hy
    unfold Lx.kd at h1
    have h2 := (Lit.int.inj (DataW.lit.inj h1)).2
    omega
  subst hjk
  have hvv : v = .agg #[.int .i64 6, .func (.func 61) #[] #[], .func (.func 62) #[] #[.pointer (some ⟨b6, 0, none⟩)]] := hvj
  subst hvv
  have c0 := Lx.boxCell hba 0 _ rfl
  have f0 := Lx.boxFree hba 0
  have c1 := Lx.boxCell hba 1 _ rfl
  have f1 := Lx.boxFree hba 1
  have c2 := Lx.boxCell hba 2 _ rfl
  have f2 := Lx.boxFree hba 2
  have c3 := Lx.boxCell hba 3 _ rfl
  have f3 := Lx.boxFree hba 3
  have c4 := Lx.boxCell hba 4 _ rfl
  have f4 := Lx.boxFree hba 4
  have c5 := Lx.boxCell hba 5 _ rfl
  have f5 := Lx.boxFree hba 5
  have hl2 := Lx.boxLt hba
  have be2 := Lx.boxBelow hba
  clear hba hb1 hb2 hown hv hvj hy be0 hj6
  go_wp2_with fail
  refine (HRD.out _ b6 ((World.cell?_alloc_past _ b6 0 l6).trans k6) (by rw [World.size_alloc]; omega)).mono ?_
  rintro e w4 ⟨rfl, hb4⟩
  have hb5 := (be2.alloc be2.size (.cells #[.int .i64 6, .func (.func 61) #[] #[], .func (.func 62) #[] #[.pointer (some ⟨b6, 0, none⟩)]] 66)).trans (hb4.mono (be2.alloc be2.size (.cells #[.int .i64 6, .func (.func 61) #[] #[], .func (.func 62) #[] #[.pointer (some ⟨b6, 0, none⟩)]] 66)).size)
  have g0 := (hb4.cell (p := ⟨w.heap.size, 0, none⟩) (by rw [World.size_alloc]; exact Nat.lt_succ_of_lt hl2)).trans ((World.cell?_alloc_past _ w.heap.size 0 hl2).trans c0)
  have e0 := (hb4.frozen (p := ⟨w.heap.size, 0, none⟩) (by rw [World.size_alloc]; exact Nat.lt_succ_of_lt hl2)).trans ((World.frozen?_alloc_past _ w.heap.size 0 hl2).trans f0)
  have g1 := (hb4.cell (p := ⟨w.heap.size, 1, none⟩) (by rw [World.size_alloc]; exact Nat.lt_succ_of_lt hl2)).trans ((World.cell?_alloc_past _ w.heap.size 1 hl2).trans c1)
  have e1 := (hb4.frozen (p := ⟨w.heap.size, 1, none⟩) (by rw [World.size_alloc]; exact Nat.lt_succ_of_lt hl2)).trans ((World.frozen?_alloc_past _ w.heap.size 1 hl2).trans f1)
  have g2 := (hb4.cell (p := ⟨w.heap.size, 2, none⟩) (by rw [World.size_alloc]; exact Nat.lt_succ_of_lt hl2)).trans ((World.cell?_alloc_past _ w.heap.size 2 hl2).trans c2)
  have e2 := (hb4.frozen (p := ⟨w.heap.size, 2, none⟩) (by rw [World.size_alloc]; exact Nat.lt_succ_of_lt hl2)).trans ((World.frozen?_alloc_past _ w.heap.size 2 hl2).trans f2)
  have g3 := (hb4.cell (p := ⟨w.heap.size, 3, none⟩) (by rw [World.size_alloc]; exact Nat.lt_succ_of_lt hl2)).trans ((World.cell?_alloc_past _ w.heap.size 3 hl2).trans c3)
  have e3 := (hb4.frozen (p := ⟨w.heap.size, 3, none⟩) (by rw [World.size_alloc]; exact Nat.lt_succ_of_lt hl2)).trans ((World.frozen?_alloc_past _ w.heap.size 3 hl2).trans f3)
  have g4 := (hb4.cell (p := ⟨w.heap.size, 4, none⟩) (by rw [World.size_alloc]; exact Nat.lt_succ_of_lt hl2)).trans ((World.cell?_alloc_past _ w.heap.size 4 hl2).trans c4)
  have e4 := (hb4.frozen (p := ⟨w.heap.size, 4, none⟩) (by rw [World.size_alloc]; exact Nat.lt_succ_of_lt hl2)).trans ((World.frozen?_alloc_past _ w.heap.size 4 hl2).trans f4)
  have g5 := (hb4.cell (p := ⟨w.heap.size, 5, none⟩) (by rw [World.size_alloc]; exact Nat.lt_succ_of_lt hl2)).trans ((World.cell?_alloc_past _ w.heap.size 5 hl2).trans c5)
  have e5 := (hb4.frozen (p := ⟨w.heap.size, 5, none⟩) (by rw [World.size_alloc]; exact Nat.lt_succ_of_lt hl2)).trans ((World.frozen?_alloc_past _ w.heap.size 5 hl2).trans f5)
  have hl4 : w.heap.size < w4.heap.size := Nat.lt_of_lt_of_le hl2 (Nat.le_trans (by rw [World.size_alloc]; omega) hb4.size)
  clear c0 c1 c2 c3 c4 c5 f0 f1 f2 f3 f4 f5 hrun k4 k5 k6 l4 l5 l6 hb4 be2 hl2
  have hb7 := hb5.alloc hb5.size (.cells #[.int .i64 ok, .int .i64 od, .int .i64 ot, .int .i64 or, .bool oo, .string oj] 40)
  cases bb
  · go_wp2_with fail
    refine bodyPost_ret (v := .tuple #[.agg #[.int .i64 0, .int .i64 0, .int .i64 0, .int .i64 0, .bool false, .string ⟨#[]⟩], .int .i64 10]) (by simp [results, Tryz.results19, go_sem, g0, g1, g2, g3, g4, g5, hl4]) rfl ?_
    exact ⟨rfl, ((((((hb5.setCell (Nat.le_refl _) _).setCell (Nat.le_refl _) _).setCell (Nat.le_refl _) _).setCell (Nat.le_refl _) _).setCell (Nat.le_refl _) _).setCell (Nat.le_refl _) _).alloc ((((((hb5.setCell (Nat.le_refl _) _).setCell (Nat.le_refl _) _).setCell (Nat.le_refl _) _).setCell (Nat.le_refl _) _).setCell (Nat.le_refl _) _).setCell (Nat.le_refl _) _).size _⟩
  · go_wp2_with fail
    refine (HCK.out _).mono ?_
    rintro e w5 ⟨rfl, hb6⟩
    have hb8 := hb7.trans (hb6.mono hb7.size)
    have p0 := (hb6.cell (p := ⟨w.heap.size, 0, none⟩) (by rw [World.size_alloc]; exact Nat.lt_succ_of_lt hl4)).trans ((World.cell?_alloc_past _ w.heap.size 0 hl4).trans g0)
    have q0 := (hb6.frozen (p := ⟨w.heap.size, 0, none⟩) (by rw [World.size_alloc]; exact Nat.lt_succ_of_lt hl4)).trans ((World.frozen?_alloc_past _ w.heap.size 0 hl4).trans e0)
    have r0 := Lx.boxCell hb6 0 _ rfl
    have p1 := (hb6.cell (p := ⟨w.heap.size, 1, none⟩) (by rw [World.size_alloc]; exact Nat.lt_succ_of_lt hl4)).trans ((World.cell?_alloc_past _ w.heap.size 1 hl4).trans g1)
    have q1 := (hb6.frozen (p := ⟨w.heap.size, 1, none⟩) (by rw [World.size_alloc]; exact Nat.lt_succ_of_lt hl4)).trans ((World.frozen?_alloc_past _ w.heap.size 1 hl4).trans e1)
    have r1 := Lx.boxCell hb6 1 _ rfl
    have p2 := (hb6.cell (p := ⟨w.heap.size, 2, none⟩) (by rw [World.size_alloc]; exact Nat.lt_succ_of_lt hl4)).trans ((World.cell?_alloc_past _ w.heap.size 2 hl4).trans g2)
    have q2 := (hb6.frozen (p := ⟨w.heap.size, 2, none⟩) (by rw [World.size_alloc]; exact Nat.lt_succ_of_lt hl4)).trans ((World.frozen?_alloc_past _ w.heap.size 2 hl4).trans e2)
    have r2 := Lx.boxCell hb6 2 _ rfl
    have p3 := (hb6.cell (p := ⟨w.heap.size, 3, none⟩) (by rw [World.size_alloc]; exact Nat.lt_succ_of_lt hl4)).trans ((World.cell?_alloc_past _ w.heap.size 3 hl4).trans g3)
    have q3 := (hb6.frozen (p := ⟨w.heap.size, 3, none⟩) (by rw [World.size_alloc]; exact Nat.lt_succ_of_lt hl4)).trans ((World.frozen?_alloc_past _ w.heap.size 3 hl4).trans e3)
    have r3 := Lx.boxCell hb6 3 _ rfl
    have p4 := (hb6.cell (p := ⟨w.heap.size, 4, none⟩) (by rw [World.size_alloc]; exact Nat.lt_succ_of_lt hl4)).trans ((World.cell?_alloc_past _ w.heap.size 4 hl4).trans g4)
    have q4 := (hb6.frozen (p := ⟨w.heap.size, 4, none⟩) (by rw [World.size_alloc]; exact Nat.lt_succ_of_lt hl4)).trans ((World.frozen?_alloc_past _ w.heap.size 4 hl4).trans e4)
    have r4 := Lx.boxCell hb6 4 _ rfl
    have p5 := (hb6.cell (p := ⟨w.heap.size, 5, none⟩) (by rw [World.size_alloc]; exact Nat.lt_succ_of_lt hl4)).trans ((World.cell?_alloc_past _ w.heap.size 5 hl4).trans g5)
    have q5 := (hb6.frozen (p := ⟨w.heap.size, 5, none⟩) (by rw [World.size_alloc]; exact Nat.lt_succ_of_lt hl4)).trans ((World.frozen?_alloc_past _ w.heap.size 5 hl4).trans e5)
    have r5 := Lx.boxCell hb6 5 _ rfl
    have hl5 : w.heap.size < w5.heap.size := Nat.lt_of_lt_of_le hl4 (Nat.le_trans (by rw [World.size_alloc]; omega) hb6.size)
    clear g0 g1 g2 g3 g4 g5 e0 e1 e2 e3 e4 e5 hb6
    by_cases hx : x = 0
    · have he : (x != 0) = false := by rw [bne_eq_false_iff_eq]; exact hx
      have hd : decide (x = 0) = true := decide_eq_true hx
      have Hd := Lib.hid hd
      clear hx hd
      go_wp2_with fail
      refine bodyPost_ret (v := .tuple #[.agg #[.int .i64 ok, .int .i64 od, .int .i64 ot, .int .i64 or, .bool oo, .string oj], .int .i64 0]) (by simp [results, Tryz.results19, go_sem, p0, p1, p2, p3, p4, p5]) rfl ?_
      exact ⟨by rw [Hd.out]; rfl, (((((hb8.setCell (Nat.le_refl _) _).setCell (Nat.le_refl _) _).setCell (Nat.le_refl _) _).setCell (Nat.le_refl _) _).setCell (Nat.le_refl _) _).setCell (Nat.le_refl _) _⟩
    · have he : (x != 0) = true := by rw [bne_iff_ne]; exact hx
      have hd : decide (x = 0) = false := decide_eq_false hx
      have Hd := Lib.hid hd
      clear hx hd
      go_wp2_with fail
      refine bodyPost_ret (v := .tuple #[.agg #[.int .i64 0, .int .i64 0, .int .i64 0, .int .i64 0, .bool false, .string ⟨#[]⟩], .int .i64 10]) (by simp [results, Tryz.results19, go_sem, p0, p1, p2, p3, p4, p5]) rfl ?_
      exact ⟨by rw [Hd.out]; rfl, (((((hb8.setCell (Nat.le_refl _) _).setCell (Nat.le_refl _) _).setCell (Nat.le_refl _) _).setCell (Nat.le_refl _) _).setCell (Nat.le_refl _) _).setCell (Nat.le_refl _) _⟩
set_option maxRecDepth 100000 in
set_option maxHeartbeats 1600000 in
theorem parse_none (s A B : ByteArray) (f : Bool) (w : World) (env : Env w) (hA : ∀ k : Int, 1 ≤ k → k ≤ 6 → A.data.toList ≠ Lx.word k) (hAs : A.size ≤ maxLen) (hcut0 : CutIs s A B f) :
    Calls Tryz.prog 19 #[.string s] w (ParseK Lx.opZ false w) := by
  have hcut := Lib.hid hcut0
  have hkey : keyOf Tryz.prog 9 (.string A) = some (.string A.data.toList) := Go.WideMaps.keyOf_string_mk Tryz.underlying9 hAs
  have hnot := Lib.hid (Lx.fD_not hA)
  clear hcut0 hA hAs
  have be0 : Below w.heap.size w (w.alloc (.cells #[.int .i64 0, .int .i64 0, .int .i64 0, .int .i64 0, .bool false, .string ⟨#[]⟩] 40)) := (Below.refl _ w).alloc (Nat.le_refl _) _
  go_enter Tryz.func19, Tryz.ntmps19
  go_wp2_with fail
  refine (hcut.out _ (env.below be0)).mono ?_
  rintro e w1 ⟨rfl, hb1⟩
  go_wp2_with fail
  refine (forms_any _).mono ?_
  rintro e w2 ⟨b, b4, b5, b6, rfl, hown, k4, k5, k6, l4, l5, l6, hb2⟩
  have hba := hb1.trans (hb2.mono hb1.size)
  obtain ⟨v, ps, hrun, hv⟩ := hown.look_ok lawS Tryz.underlying61 (zeroF _) (Lx.fR_mk (k := 0) (by omega) (by omega)) hkey
  rw [hnot.out] at hrun
  rw [Go.Maps.atKey_of_not_has hnot.out] at hv
  obtain ⟨j, hj6, hvj, hy⟩ := Lx.fR_inv (by omega) hv
  have hjk : j = 0 := by
    have h1 := congrArg Prod.fst hy
    have h2 := (Lit.int.inj (DataW.lit.inj h1)).2
    omega
  subst hjk
  have hvv : v = .agg #[.int .i64 0, .nilFunc, .nilFunc] := hvj
  subst hvv
  have c0 := Lx.boxCell hba 0 _ rfl
  have f0 := Lx.boxFree hba 0
  have c1 := Lx.boxCell hba 1 _ rfl
  have f1 := Lx.boxFree hba 1
  have c2 := Lx.boxCell hba 2 _ rfl
  have f2 := Lx.boxFree hba 2
  have c3 := Lx.boxCell hba 3 _ rfl
  have f3 := Lx.boxFree hba 3
  have c4 := Lx.boxCell hba 4 _ rfl
  have f4 := Lx.boxFree hba 4
  have c5 := Lx.boxCell hba 5 _ rfl
  have f5 := Lx.boxFree hba 5
  have hl2 := Lx.boxLt hba
  have be2 := Lx.boxBelow hba
  clear hba hb1 hb2 hown hv hvj hy be0 hj6 k4 k5 k6 l4 l5 l6
  go_wp2_with fail
  refine bodyPost_ret (v := .tuple #[.agg #[.int .i64 0, .int .i64 0, .int .i64 0, .int .i64 0, .bool false, .string ⟨#[]⟩], .int .i64 10]) (by simp [results, Tryz.results19, go_sem, c0, c1, c2, c3, c4, c5, hl2]) rfl ?_
  exact ⟨rfl, ((((((be2.setCell (Nat.le_refl _) _).setCell (Nat.le_refl _) _).setCell (Nat.le_refl _) _).setCell (Nat.le_refl _) _).setCell (Nat.le_refl _) _).setCell (Nat.le_refl _) _).alloc ((((((be2.setCell (Nat.le_refl _) _).setCell (Nat.le_refl _) _).setCell (Nat.le_refl _) _).setCell (Nat.le_refl _) _).setCell (Nat.le_refl _) _).setCell (Nat.le_refl _) _).size _⟩
namespace Lx
theorem restW_ne {o : OpV} (h : opErr o = 0) : restW o ≠ [] := by
  unfold restW
  rcases opErr_zero h with ⟨k, a, b, ho⟩ | ⟨k, a, b, ho⟩ | ⟨k, a, ho⟩ | ⟨k, a, ho⟩
  · rw [if_pos k]; exact it_ne _
  · rw [if_neg (by omega), if_pos k]; intro e; have := congrArg List.length e; revert this; show ¬ (19 = 0); omega
  · rw [if_neg (by omega), if_neg (by omega), if_pos k]; intro e; exact it_ne _ (List.append_eq_nil_iff.1 e).1
  · rw [if_neg (by omega), if_neg (by omega), if_neg (by omega)]
    intro e
    have := (name_len a).2
    rw [Lib.size_eq, e] at this
    simp at this
def Rd (k : Int) (B : ByteArray) (o : OpV) (bb : Bool) : Prop := o.job.size ≤ maxLen ∧ ((bb && decide (opErr o = 0)) = true → ReadsOp (word k ++ 32 :: B.data.toList) o 0) ∧ ((bb && decide (opErr o = 0)) = false → ReadsOp (word k ++ 32 :: B.data.toList) opZ 10)
theorem Rd.empty {k : Int} {B : ByteArray} {o : OpV} {bb : Bool} (h : Rd k B o bb) (hk : 1 ≤ k ∧ k ≤ 6) (hB : B.data.toList = []) : (bb && decide (opErr o = 0)) = false := by
  cases hg : (bb && decide (opErr o = 0))
  · rfl
  · exfalso
    rcases h.2.1 hg with ⟨_, hp, _⟩ | ⟨e, _⟩
    · have := (reads_word hk rfl hp).2
      rw [hB] at this
      exact restW_ne hp.1 this
    · omega
theorem nil_small : (⟨#[]⟩ : ByteArray).size ≤ maxLen := by unfold maxLen; decide
end Lx
theorem rd_tick (B : ByteArray) (hB : B.size ≤ 140737488355328) : ∃ o bb, Lx.Rd 1 B o bb ∧ ∀ W, Env W → Calls Tryz.prog 42 #[.string B] W (ReadIs o bb W) := by
  refine ⟨_, _, ⟨Lx.nil_small, ?_, ?_⟩, fun W E => read_tick B W E hB⟩
  · intro hg
    rw [Bool.and_eq_true, decide_eq_true_iff] at hg
    by_cases h : Lx.numErr B.data.toList = 0 ∧ 1 ≤ Lx.numRes B.data.toList ∧ Lx.numRes B.data.toList ≤ 100000
    · rw [(Lx.int_good h).1]; exact Lx.reads_tick_ok rfl h
    · exfalso
      by_cases h10 : Lx.numErr B.data.toList = 10
      · have := (Lx.int_form (lo := 1) (hi := 100000) h10).2; omega
      · have := (Lx.int_bad h10 h).2; omega
  · intro hg
    refine Lx.reads_tick_no rfl (fun h => ?_)
    rw [(Lx.int_good h).1, (Lx.int_good h).2, Lx.opErr_tick h.2.1 h.2.2] at hg
    revert hg; decide
theorem rd_jump (B : ByteArray) : ∃ o bb, Lx.Rd 2 B o bb ∧ ∀ W, Env W → Calls Tryz.prog 44 #[.string B] W (ReadIs o bb W) := by
  by_cases T : ∃ t, 0 ≤ t ∧ t ≤ 253402300799 ∧ B.data.toList = Lx.tmText t
  · obtain ⟨t, h0, h1, ht⟩ := T
    refine ⟨⟨2, 0, t, 0, false, ⟨#[]⟩⟩, true, ⟨Lx.nil_small, ?_, ?_⟩, fun W _ => (read_jump B W).mono ?_⟩
    · intro _; exact Lx.reads_jump_ok (e := 0) rfl (.inl ⟨rfl, h0, h1, ht⟩) rfl
    · intro hg; rw [Lx.opErr_jump h0 h1] at hg; exact absurd hg (by decide)
    · rintro e w' ⟨v, x, hti, rfl, hb⟩
      rcases hti with ⟨rfl, a, b, c⟩ | ⟨_, _, c⟩
      · rw [ht] at c
        have := Lx.tmText_inj h0 h1 a b c
        subst this
        exact ⟨rfl, hb⟩
      · exact absurd ht (c t h0 h1)
  · have hno : ∀ t, 0 ≤ t → t ≤ 253402300799 → B.data.toList ≠ Lx.tmText t := fun t a b c => T ⟨t, a, b, c⟩
    refine ⟨⟨2, 0, 0, 0, false, ⟨#[]⟩⟩, false, ⟨Lx.nil_small, ?_, ?_⟩, fun W _ => (read_jump B W).mono ?_⟩
    · intro hg; cases hg
    · intro _; exact Lx.reads_jump_no (e := 1) (v := 0) rfl (.inr ⟨by omega, rfl, hno⟩) (by omega)
    · rintro e w' ⟨v, x, hti, rfl, hb⟩
      rcases hti with ⟨rfl, a, b, c⟩ | ⟨hx, rfl, c⟩
      · exact absurd c (hno v a b)
      · rw [decide_eq_false hx]; exact ⟨rfl, hb⟩
theorem rd_finish (B : ByteArray) (hB : B.size ≤ 140737488355328) : ∃ o bb, Lx.Rd 3 B o bb ∧ ∀ W, Env W → Calls Tryz.prog 46 #[.string B] W (ReadIs o bb W) := by
  rcases Lx.cut_bytes B 32 with ⟨a, b, h32, hs, hc⟩ | ⟨h32, hc⟩
  · have hsz : a.size ≤ 140737488355328 := by
      rw [Lib.size_eq] at hB ⊢
      rw [hs, List.length_append] at hB; omega
    refine ⟨_, _, ⟨Lx.nil_small, ?_, ?_⟩, fun W E => read_finish B a b true W E hsz (fun W' E' => cut_yes B a b W' E' hB hc)⟩
    · intro hg
      unfold FinOk at hg
      rw [Bool.and_eq_true, Bool.and_eq_true, decide_eq_true_iff, Bool.or_eq_true, decide_eq_true_iff, decide_eq_true_iff] at hg
      obtain ⟨⟨hx, he⟩, _⟩ := hg
      have h : Lx.numErr a.data.toList = 0 ∧ 1 ≤ Lx.numRes a.data.toList ∧ Lx.numRes a.data.toList ≤ 9223372036854775807 := by
        by_cases h : Lx.numErr a.data.toList = 0 ∧ 1 ≤ Lx.numRes a.data.toList ∧ Lx.numRes a.data.toList ≤ 9223372036854775807
        · exact h
        · exfalso
          by_cases h10 : Lx.numErr a.data.toList = 10
          · have := (Lx.int_form (lo := 1) (hi := 9223372036854775807) h10).2; omega
          · have := (Lx.int_bad h10 h).2; omega
      rw [(Lx.int_good h).1, hs]
      rcases he with he | he
      · rw [decide_eq_true he, he]
        exact Lx.reads_finish_ok true rfl ⟨h.1, h.2.1⟩ h.2.2
      · have hne : ¬ b.data.toList = [111, 107] := by rw [he]; decide
        rw [decide_eq_false hne, he]
        exact Lx.reads_finish_ok false rfl ⟨h.1, h.2.1⟩ h.2.2
    · intro hg
      refine Lx.reads_finish_no rfl (fun run b' hr hrest h => ?_)
      rw [hs, Lx.endW_eq] at hrest
      obtain ⟨e1, e2⟩ := Lx.split_sp h32 hr hrest
      subst e1
      have hb := (Lx.num_bd a.data.toList).2
      have hgood := Lx.int_good (l := a.data.toList) (lo := 1) (hi := 9223372036854775807) ⟨h.1, h.2, hb⟩
      unfold FinOk at hg
      rw [hgood.1, hgood.2, Lx.opErr_finish _ h.2] at hg
      cases b'
      · rw [e2] at hg; revert hg; decide
      · rw [e2] at hg; revert hg; decide
  · refine ⟨_, _, ⟨Lx.nil_small, ?_, ?_⟩, fun W E => read_finish B B ⟨#[]⟩ false W E hB (fun W' E' => cut_no B W' E' hB hc)⟩
    · intro hg
      exfalso
      unfold FinOk at hg
      rw [Bool.and_eq_true, Bool.and_eq_true, Bool.or_eq_true, decide_eq_true_iff, decide_eq_true_iff] at hg
      rcases hg.1.2 with h | h <;> cases h
    · intro _
      refine Lx.reads_finish_no rfl (fun run b' hr hrest h => h32 ?_)
      rw [hrest, Lx.endW_eq]
      exact List.mem_append_right _ List.mem_cons_self
theorem rd_named (k : Int) (hk : k = 4 ∨ k = 5 ∨ k = 6) (B : ByteArray) (hB : B.size ≤ 140737488355328) : Lx.Rd k B ⟨k, 0, 0, 0, false, B⟩ true := by
  refine ⟨by unfold maxLen; simp only; omega, ?_, ?_⟩
  · intro hg
    rw [Bool.true_and, decide_eq_true_iff] at hg
    cases hn : Lx.isName B
    · rw [Lx.opErr_noname hk hn] at hg; omega
    · exact Lx.reads_name_ok hk rfl hn
  · intro hg
    rw [Bool.true_and, decide_eq_false_iff_not] at hg
    cases hn : Lx.isName B
    · exact Lx.reads_name_no hk rfl hn
    · exact absurd (Lx.opErr_name hk hn) hg
/-- What Parse gives. -/
def ParseIs (s : ByteArray) (w : World) (e : Ending) (w' : World) : Prop := ∃ o x, e = .returned (.tuple #[o.val, .int .i64 x]) ∧ Lx.ReadsOp s.data.toList o x ∧ Below w.heap.size w w'
theorem parse_word (s A B : ByteArray) (f : Bool) (w : World) (env : Env w) (hB : B.size ≤ 140737488355328) (k : Int) (hk : 1 ≤ k ∧ k ≤ 6) (hA : A.data.toList = Lx.word k) (hcut : CutIs s A B f) :
    ∃ o bb, Lx.Rd k B o bb ∧ Calls Tryz.prog 19 #[.string s] w (ParseK o (bb && decide (Lx.opErr o = 0)) w) := by
  have : k = 1 ∨ k = 2 ∨ k = 3 ∨ k = 4 ∨ k = 5 ∨ k = 6 := by omega
  rcases this with rfl | rfl | rfl | rfl | rfl | rfl
  · obtain ⟨o, bb, hr, hc⟩ := rd_tick B hB
    exact ⟨o, bb, hr, parse_1 s A B f w env o bb hr.1 hA hcut hc⟩
  · obtain ⟨o, bb, hr, hc⟩ := rd_jump B
    exact ⟨o, bb, hr, parse_2 s A B f w env o bb hr.1 hA hcut hc⟩
  · obtain ⟨o, bb, hr, hc⟩ := rd_finish B hB
    exact ⟨o, bb, hr, parse_3 s A B f w env o bb hr.1 hA hcut hc⟩
  · have hr := rd_named 4 (by omega) B hB
    exact ⟨_, _, hr, parse_4 s A B f w env _ true hr.1 hA hcut (fun W b hc hl => read_named B 4 b W hc hl)⟩
  · have hr := rd_named 5 (by omega) B hB
    exact ⟨_, _, hr, parse_5 s A B f w env _ true hr.1 hA hcut (fun W b hc hl => read_named B 5 b W hc hl)⟩
  · have hr := rd_named 6 (by omega) B hB
    exact ⟨_, _, hr, parse_6 s A B f w env _ true hr.1 hA hcut (fun W b hc hl => read_named B 6 b W hc hl)⟩
theorem op_parse (s : ByteArray) (w : World) (env : Env w) (hs : s.size ≤ 140737488355328) :
    Calls Tryz.prog 19 #[.string s] w (ParseIs s w) := by
  rcases Lx.cut_bytes s 32 with ⟨A, B, h32, hsp, hc⟩ | ⟨h32, hc⟩
  · have hcut : CutIs s A B true := fun W E => cut_yes s A B W E hs hc
    have hl : A.size ≤ 140737488355328 ∧ B.size ≤ 140737488355328 := by
      rw [Lib.size_eq] at hs ⊢
      rw [Lib.size_eq]
      rw [hsp, List.length_append, List.length_cons] at hs; omega
    by_cases hw : ∃ k : Int, 1 ≤ k ∧ k ≤ 6 ∧ A.data.toList = Lx.word k
    · obtain ⟨k, k1, k2, hA⟩ := hw
      obtain ⟨o, bb, hr, hP⟩ := parse_word s A B true w env hl.2 k ⟨k1, k2⟩ hA hcut
      refine hP.mono ?_
      rintro e w' ⟨rfl, hb⟩
      rw [hA] at hsp
      cases hg : (bb && decide (Lx.opErr o = 0))
      · exact ⟨_, _, rfl, by rw [hsp]; exact hr.2.2 hg, hb⟩
      · exact ⟨_, _, rfl, by rw [hsp]; exact hr.2.1 hg, hb⟩
    · have hn : ∀ k : Int, 1 ≤ k → k ≤ 6 → A.data.toList ≠ Lx.word k := fun k a b c => hw ⟨k, a, b, c⟩
      refine (parse_none s A B true w env hn (by unfold maxLen; omega) hcut).mono ?_
      rintro e w' ⟨rfl, hb⟩
      exact ⟨_, _, rfl, Lx.reads_noword hsp h32 hn, hb⟩
  · have hcut : CutIs s s ⟨#[]⟩ false := fun W E => cut_no s W E hs hc
    by_cases hw : ∃ k : Int, 1 ≤ k ∧ k ≤ 6 ∧ s.data.toList = Lx.word k
    · obtain ⟨k, k1, k2, hA⟩ := hw
      obtain ⟨o, bb, hr, hP⟩ := parse_word s s ⟨#[]⟩ false w env (by decide) k ⟨k1, k2⟩ hA hcut
      rw [hr.empty ⟨k1, k2⟩ rfl] at hP
      refine hP.mono ?_
      rintro e w' ⟨rfl, hb⟩
      exact ⟨_, _, rfl, Lx.reads_nosp h32, hb⟩
    · refine (parse_none s s ⟨#[]⟩ false w env (fun k a b c => hw ⟨k, a, b, c⟩) (by unfold maxLen; omega) hcut).mono ?_
      rintro e w' ⟨rfl, hb⟩
      exact ⟨_, _, rfl, Lx.reads_nosp h32, hb⟩
end Go.Proofs.YtnnkamfpcodnnaaGreatDoor
