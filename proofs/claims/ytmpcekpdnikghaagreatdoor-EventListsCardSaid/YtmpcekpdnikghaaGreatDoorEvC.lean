/- The walk of event.Check. -/
import Derived.Test.YtmpcekpdnikghaaGreatDoorEvA
import Derived.Test.YtmpcekpdnikghaaGreatDoorEnv
namespace Go.Proofs.YtmpcekpdnikghaaGreatDoor
open Go.RowKit

def EvCheckIs (x : Int) (w : World) (e : Ending) (w' : World) : Prop := e = .returned (.int .i64 x) ∧ Below w.heap.size w w'
theorem evcheck_out (k t j d a r y n : Int) (w : World) (h : k < 1 ∨ 8 < k) :
    Calls Tryz.prog 42 #[.agg #[.int .i64 k, .int .i64 t, .int .i64 j, .int .i64 d, .int .i64 a, .int .i64 r, .int .i64 y, .int .i64 n]] w (EvCheckIs 2 w) := by
  have hba : Below w.heap.size w (w.alloc (.cells #[.int .i64 k, .int .i64 t, .int .i64 j, .int .i64 d, .int .i64 a, .int .i64 r, .int .i64 y, .int .i64 n] 26)) := (Below.refl _ w).alloc (Nat.le_refl _) _
  have BO := Lib.hid (Lx.EvBox.new w k t j d a r y n 26)
  rcases h with h | h
  · have e1 : decide (k < 1) = true := decide_eq_true h
    go_enter Tryz.func42, Tryz.ntmps42
    go_wp2_with fail
    refine (kinds_any _).mono ?_
    rintro e w1 ⟨g, rfl, hg, hk, hb⟩
    obtain ⟨q0, -, -, -, -, -, -, -⟩ := (BO.out.below hb).eight
    go_wp2_with fail
    go_ret
    exact ⟨rfl, hba.trans (hb.mono hba.size)⟩
  · have e0 : decide (k < 1) = false := decide_eq_false (by omega)
    have e1 : decide (9 ≤ k) = true := decide_eq_true (by omega)
    go_enter Tryz.func42, Tryz.ntmps42
    go_wp2_with fail
    refine (kinds_any _).mono ?_
    rintro e w1 ⟨g, rfl, hg, hk, hb⟩
    obtain ⟨q0, -, -, -, -, -, -, -⟩ := (BO.out.below hb).eight
    go_wp2_with fail
    go_ret
    exact ⟨rfl, hba.trans (hb.mono hba.size)⟩
set_option maxRecDepth 100000 in
set_option maxHeartbeats 1600000 in
theorem evcheck_tm (q : Nat) (t j d a r y n : Int) (w : World) (h1 : 1 ≤ q) (h2 : q < 9) (hh : Lx.timeV t = false ∨ (Lx.useB q 2 = true ∧ Lx.timeV d = false)) :
    Calls Tryz.prog 42 #[.agg #[.int .i64 q, .int .i64 t, .int .i64 j, .int .i64 d, .int .i64 a, .int .i64 r, .int .i64 y, .int .i64 n]] w (EvCheckIs (Lx.evErr ⟨q, t, j, d, a, r, y, n⟩) w) := by
  have hba : Below w.heap.size w (w.alloc (.cells #[.int .i64 q, .int .i64 t, .int .i64 j, .int .i64 d, .int .i64 a, .int .i64 r, .int .i64 y, .int .i64 n] 26)) := (Below.refl _ w).alloc (Nat.le_refl _) _
  have BO := Lib.hid (Lx.EvBox.new w q t j d a r y n 26)
  have e0 : decide ((q : Int) < 1) = false := decide_eq_false (by omega)
  have e1 : decide (9 ≤ (q : Int)) = false := decide_eq_false (by omega)
  have hq : (q : Int) < 9 := by omega
  obtain ⟨u1, u2, u4, u8, u16⟩ := Lx.use_all h1 h2
  have HX := Lib.hid (show ∀ b1 b2 b3 b4 b5 b6 : Bool, Lx.inV (Lx.useB q 1) j 0 63 = b1 → Lx.inV (Lx.useB q 2) d 0 t = b2 → Lx.inV (Lx.useB q 2) a (Lx.aMin q) 21 = b3 → Lx.inV (Lx.useB q 4) r 1 9223372036854775807 = b4 → Lx.inV (Lx.useB q 8) n (t + 1) 4611686018427387904 = b5 → Lx.inV (Lx.useB q 16) y 1 (Lx.yMax q) = b6 → Lx.timeV t = true → (Lx.useB q 2 = true → Lx.timeV d = true) → (if (b1 && (b2 && (b3 && (b4 && (b5 && b6))))) = true then (0 : Int) else 2) = Lx.evErr ⟨q, t, j, d, a, r, y, n⟩ from by
    intro b1 b2 b3 b4 b5 b6 i1 i2 i3 i4 i5 i6 ht hd
    unfold Lx.evErr Lx.fitB
    simp only
    have hc : ¬ (Lx.timeV t = false ∨ (Lx.useB q 2 = true ∧ Lx.timeV d = false)) := by
      rintro (h | ⟨h, h'⟩)
      · rw [ht] at h; cases h
      · rw [hd h] at h'; cases h'
    rw [if_neg (show ¬ ((q : Int) < 1 ∨ 8 < (q : Int)) by omega), ← u1, ← u2, ← u4, ← u8, ← u16, i1, i2, i3, i4, i5, i6, if_neg hc])
  have HT := Lib.hid (show Lx.timeV t = false ∨ (Lx.useB q 2 = true ∧ Lx.timeV d = false) → 14 = Lx.evErr ⟨q, t, j, d, a, r, y, n⟩ from by
    intro h
    unfold Lx.evErr
    simp only
    rw [if_neg (by omega), ← u2, if_pos h])
  generalize Lx.evErr ⟨q, t, j, d, a, r, y, n⟩ = x at *
  clear u1 u2 u4 u8 u16
  go_enter Tryz.func42, Tryz.ntmps42
  go_wp2_with fail
  refine (kinds_any _).mono ?_
  rintro e w1 ⟨g, rfl, hg, hk, hb⟩
  obtain ⟨c0, c1, c2⟩ := hk.2 q h2
  have BO1 := Lib.hid (BO.out.below hb)
  have hb1 := hba.trans (hb.mono hba.size)
  have hbk := hb1.alloc hb1.size (.cells #[.string ⟨(Lx.evWord q).toArray⟩, .int .i64 (Lx.usesN q), .int .i64 (Lx.yMax q)] 69)
  have BO2 := BO1.out.below ((Below.refl _ w1).alloc (Nat.le_refl _) (.cells #[.string ⟨(Lx.evWord q).toArray⟩, .int .i64 (Lx.usesN q), .int .i64 (Lx.yMax q)] 69))
  have n1 : (w1.alloc (.cells #[.string ⟨(Lx.evWord q).toArray⟩, .int .i64 (Lx.usesN q), .int .i64 (Lx.yMax q)] 69)).cell? ⟨w1.heap.size, 1, none⟩ = some (.int .i64 (Lx.usesN q)) := by simp
  have n2 : (w1.alloc (.cells #[.string ⟨(Lx.evWord q).toArray⟩, .int .i64 (Lx.usesN q), .int .i64 (Lx.yMax q)] 69)).cell? ⟨w1.heap.size, 2, none⟩ = some (.int .i64 (Lx.yMax q)) := by simp
  obtain ⟨q0, -, -, -, -, -, -, -⟩ := BO1.out.eight
  obtain ⟨p0, p1, p2, p3, p4, p5, p6, p7⟩ := BO2.eight
  have N1 := Lib.hid n1
  have HB := Lib.hid hbk
  clear hk hb hb1 hba BO hbk BO1 BO2 hg
  go_wp2_with fail
  refine (valid_any t _).mono ?_
  rintro e w2 ⟨rfl, rfl⟩
  by_cases ht : Lx.timeV t = false
  · have HTT := Lib.hid (HT.out (.inl ht))
    go_wp2_with fail
    go_ret
    exact ⟨Lx.ret_int HTT.out, HB.out⟩
  have ht' : Lx.timeV t = true := by simpa using ht
  have hd := hh.resolve_left ht
  have HTT := Lib.hid (HT.out hh)
  clear ht hh
  go_wp2_with fail
  clear ht'
  refine (uses_any q 2 _ _ N1.out).mono ?_
  rintro e w2 ⟨rfl, rfl⟩
  obtain ⟨hu, hd⟩ := hd
  go_wp2_with fail
  refine (valid_any d _).mono ?_
  rintro e w2 ⟨rfl, rfl⟩
  go_wp2_with fail
  go_ret
  exact ⟨Lx.ret_int HTT.out, HB.out⟩
set_option maxRecDepth 100000 in
set_option maxHeartbeats 1600000 in
theorem evcheck_fit00 (q : Nat) (t j d a r y n : Int) (w : World) (h1 : 1 ≤ q) (h2 : q < 9) (ht : Lx.timeV t = true) (hu : Lx.useB q 2 = false) (hd : Lx.useB q 2 = true → Lx.timeV d = true) (h4 :  (q : Int) = 4) :
    Calls Tryz.prog 42 #[.agg #[.int .i64 q, .int .i64 t, .int .i64 j, .int .i64 d, .int .i64 a, .int .i64 r, .int .i64 y, .int .i64 n]] w (EvCheckIs (Lx.evErr ⟨q, t, j, d, a, r, y, n⟩) w) := by
  have HTV := Lib.hid ht
  have HD := Lib.hid hd
  have hu0 := Lib.hid hu
  have H4 := Lib.hid h4
  clear ht hd hu h4
  have hba : Below w.heap.size w (w.alloc (.cells #[.int .i64 q, .int .i64 t, .int .i64 j, .int .i64 d, .int .i64 a, .int .i64 r, .int .i64 y, .int .i64 n] 26)) := (Below.refl _ w).alloc (Nat.le_refl _) _
  have BO := Lib.hid (Lx.EvBox.new w q t j d a r y n 26)
  have e0 : decide ((q : Int) < 1) = false := decide_eq_false (by omega)
  have e1 : decide (9 ≤ (q : Int)) = false := decide_eq_false (by omega)
  have hq : (q : Int) < 9 := by omega
  obtain ⟨u1, u2, u4, u8, u16⟩ := Lx.use_all h1 h2
  have HX := Lib.hid (show ∀ b1 b2 b3 b4 b5 b6 : Bool, Lx.inV (Lx.useB q 1) j 0 63 = b1 → Lx.inV (Lx.useB q 2) d 0 t = b2 → Lx.inV (Lx.useB q 2) a (Lx.aMin q) 21 = b3 → Lx.inV (Lx.useB q 4) r 1 9223372036854775807 = b4 → Lx.inV (Lx.useB q 8) n (t + 1) 4611686018427387904 = b5 → Lx.inV (Lx.useB q 16) y 1 (Lx.yMax q) = b6 → Lx.timeV t = true → (Lx.useB q 2 = true → Lx.timeV d = true) → (if (b1 && (b2 && (b3 && (b4 && (b5 && b6))))) = true then (0 : Int) else 2) = Lx.evErr ⟨q, t, j, d, a, r, y, n⟩ from by
    intro b1 b2 b3 b4 b5 b6 i1 i2 i3 i4 i5 i6 ht hd
    unfold Lx.evErr Lx.fitB
    simp only
    have hc : ¬ (Lx.timeV t = false ∨ (Lx.useB q 2 = true ∧ Lx.timeV d = false)) := by
      rintro (h | ⟨h, h'⟩)
      · rw [ht] at h; cases h
      · rw [hd h] at h'; cases h'
    rw [if_neg (show ¬ ((q : Int) < 1 ∨ 8 < (q : Int)) by omega), ← u1, ← u2, ← u4, ← u8, ← u16, i1, i2, i3, i4, i5, i6, if_neg hc])
  have HT := Lib.hid (show Lx.timeV t = false ∨ (Lx.useB q 2 = true ∧ Lx.timeV d = false) → 14 = Lx.evErr ⟨q, t, j, d, a, r, y, n⟩ from by
    intro h
    unfold Lx.evErr
    simp only
    rw [if_neg (by omega), ← u2, if_pos h])
  generalize Lx.evErr ⟨q, t, j, d, a, r, y, n⟩ = x at *
  clear u1 u2 u4 u8 u16
  go_enter Tryz.func42, Tryz.ntmps42
  go_wp2_with fail
  refine (kinds_any _).mono ?_
  rintro e w1 ⟨g, rfl, hg, hk, hb⟩
  obtain ⟨c0, c1, c2⟩ := hk.2 q h2
  have BO1 := Lib.hid (BO.out.below hb)
  have hb1 := hba.trans (hb.mono hba.size)
  have hbk := hb1.alloc hb1.size (.cells #[.string ⟨(Lx.evWord q).toArray⟩, .int .i64 (Lx.usesN q), .int .i64 (Lx.yMax q)] 69)
  have BO2 := BO1.out.below ((Below.refl _ w1).alloc (Nat.le_refl _) (.cells #[.string ⟨(Lx.evWord q).toArray⟩, .int .i64 (Lx.usesN q), .int .i64 (Lx.yMax q)] 69))
  have n1 : (w1.alloc (.cells #[.string ⟨(Lx.evWord q).toArray⟩, .int .i64 (Lx.usesN q), .int .i64 (Lx.yMax q)] 69)).cell? ⟨w1.heap.size, 1, none⟩ = some (.int .i64 (Lx.usesN q)) := by simp
  have n2 : (w1.alloc (.cells #[.string ⟨(Lx.evWord q).toArray⟩, .int .i64 (Lx.usesN q), .int .i64 (Lx.yMax q)] 69)).cell? ⟨w1.heap.size, 2, none⟩ = some (.int .i64 (Lx.yMax q)) := by simp
  obtain ⟨q0, -, -, -, -, -, -, -⟩ := BO1.out.eight
  obtain ⟨p0, p1, p2, p3, p4, p5, p6, p7⟩ := BO2.eight
  have N1 := Lib.hid n1
  have HB := Lib.hid hbk
  clear hk hb hb1 hba BO hbk BO1 BO2 hg
  go_wp2_with fail
  refine (valid_any t _).mono ?_
  rintro e w2 ⟨rfl, rfl⟩
  have ht' := HTV.out
  go_wp2_with fail
  clear ht'
  refine (uses_any q 2 _ _ N1.out).mono ?_
  rintro e w2 ⟨rfl, rfl⟩
  have hu := hu0.out
  clear HT
  have h4 := H4.out
  have HF := Lib.hid (show Lx.aMin q = 2 from by unfold Lx.aMin; rw [if_pos h4])
  have e4 : ((q : Int) == 4) = true := beq_iff_eq.2 h4
  clear h4
  go_wp2_with fail
  clear hu
  go_wp2_with fail
  have ht0 := (of_decide_eq_true HTV.out : 0 ≤ t ∧ t ≤ 253402300799).1
  have ht1 := (of_decide_eq_true HTV.out : 0 ≤ t ∧ t ≤ 253402300799).2
  clear hu0
  obtain ⟨W, hW⟩ : ∃ W, W = w1.alloc (.cells #[.string ⟨(Lx.evWord q).toArray⟩, .int .i64 (Lx.usesN q), .int .i64 (Lx.yMax q)] 69) := ⟨_, rfl⟩
  rw [← hW] at N1 HB p0 p1 p2 p3 p4 p5 p6 p7 n1 n2 ⊢
  clear hW q0 c0 c1 c2 e0 e1 e4 h1 h2
  have U1 := Lib.hid (fun (m : Nat) => uses_any q 1 w1.heap.size (W.drewN m) N1.out)
  have U2 := Lib.hid (fun (m : Nat) => uses_any q 2 w1.heap.size (W.drewN m) N1.out)
  have U4 := Lib.hid (fun (m : Nat) => uses_any q 4 w1.heap.size (W.drewN m) N1.out)
  have U8 := Lib.hid (fun (m : Nat) => uses_any q 8 w1.heap.size (W.drewN m) N1.out)
  have U16 := Lib.hid (fun (m : Nat) => uses_any q 16 w1.heap.size (W.drewN m) N1.out)
  generalize Lx.useB q 1 = B1 at *
  generalize Lx.useB q 2 = B2 at *
  generalize Lx.useB q 4 = B4 at *
  generalize Lx.useB q 8 = B8 at *
  generalize Lx.useB q 16 = B16 at *
  cases i1 : Lx.inV B1 j 0 63
  · have I1 := Lib.hid i1
    have G1 := Lib.hid (show ∀ m : Nat, Calls Tryz.prog 60 #[.bool B1, .int .i64 j, .int .i64 0, .int .i64 63] (W.drewN m) (fun e w' => e = .returned (.bool false) ∧ w' = W.drewN m) from fun m => by have := in_any B1 j 0 63 (W.drewN m); rw [i1] at this; exact this)
    clear i1
    go_quiet ((first | (go_at_call 58; with_reducible refine (U1.out _).mono ?_; (rintro e w ⟨rfl, rfl⟩; exact ⟨rfl, _, rfl⟩)) | (go_at_call 60; with_reducible refine (G1.out _).mono ?_; (rintro e w ⟨rfl, rfl⟩; exact ⟨rfl, _, rfl⟩))))
    go_wp2_with fail
    go_ret
    exact ⟨Lx.ret_int (HX.out false _ _ _ _ _ I1.out rfl rfl rfl rfl rfl HTV.out HD.out), HB.out.trans (below_drewN _ _ _)⟩
  · have I1 := Lib.hid i1
    have G1 := Lib.hid (show ∀ m : Nat, Calls Tryz.prog 60 #[.bool B1, .int .i64 j, .int .i64 0, .int .i64 63] (W.drewN m) (fun e w' => e = .returned (.bool true) ∧ w' = W.drewN m) from fun m => by have := in_any B1 j 0 63 (W.drewN m); rw [i1] at this; exact this)
    clear i1
    cases i2 : Lx.inV B2 d 0 t
    · have I2 := Lib.hid i2
      have G2 := Lib.hid (show ∀ m : Nat, Calls Tryz.prog 60 #[.bool B2, .int .i64 d, .int .i64 0, .int .i64 t] (W.drewN m) (fun e w' => e = .returned (.bool false) ∧ w' = W.drewN m) from fun m => by have := in_any B2 d 0 t (W.drewN m); rw [i2] at this; exact this)
      clear i2
      go_quiet ((first | (go_at_call 58; with_reducible refine (U1.out _).mono ?_; (rintro e w ⟨rfl, rfl⟩; exact ⟨rfl, _, rfl⟩)) | (go_at_call 58; with_reducible refine (U2.out _).mono ?_; (rintro e w ⟨rfl, rfl⟩; exact ⟨rfl, _, rfl⟩)) | (go_at_call 60; with_reducible refine (G1.out _).mono ?_; (rintro e w ⟨rfl, rfl⟩; exact ⟨rfl, _, rfl⟩)) | (go_at_call 60; with_reducible refine (G2.out _).mono ?_; (rintro e w ⟨rfl, rfl⟩; exact ⟨rfl, _, rfl⟩))))
      go_wp2_with fail
      go_ret
      exact ⟨Lx.ret_int (HX.out true false _ _ _ _ I1.out I2.out rfl rfl rfl rfl HTV.out HD.out), HB.out.trans (below_drewN _ _ _)⟩
    · have I2 := Lib.hid i2
      have G2 := Lib.hid (show ∀ m : Nat, Calls Tryz.prog 60 #[.bool B2, .int .i64 d, .int .i64 0, .int .i64 t] (W.drewN m) (fun e w' => e = .returned (.bool true) ∧ w' = W.drewN m) from fun m => by have := in_any B2 d 0 t (W.drewN m); rw [i2] at this; exact this)
      clear i2
      cases i3 : Lx.inV B2 a 2 21
      · have I3 := Lib.hid i3
        have G3 := Lib.hid (show ∀ m : Nat, Calls Tryz.prog 60 #[.bool B2, .int .i64 a, .int .i64 2, .int .i64 21] (W.drewN m) (fun e w' => e = .returned (.bool false) ∧ w' = W.drewN m) from fun m => by have := in_any B2 a 2 21 (W.drewN m); rw [i3] at this; exact this)
        clear i3
        go_quiet ((first | (go_at_call 58; with_reducible refine (U1.out _).mono ?_; (rintro e w ⟨rfl, rfl⟩; exact ⟨rfl, _, rfl⟩)) | (go_at_call 58; with_reducible refine (U2.out _).mono ?_; (rintro e w ⟨rfl, rfl⟩; exact ⟨rfl, _, rfl⟩)) | (go_at_call 60; with_reducible refine (G1.out _).mono ?_; (rintro e w ⟨rfl, rfl⟩; exact ⟨rfl, _, rfl⟩)) | (go_at_call 60; with_reducible refine (G2.out _).mono ?_; (rintro e w ⟨rfl, rfl⟩; exact ⟨rfl, _, rfl⟩)) | (go_at_call 60; with_reducible refine (G3.out _).mono ?_; (rintro e w ⟨rfl, rfl⟩; exact ⟨rfl, _, rfl⟩))))
        go_wp2_with fail
        go_ret
        exact ⟨Lx.ret_int (HX.out true true false _ _ _ I1.out I2.out (by rw [HF.out]; exact I3.out) rfl rfl rfl HTV.out HD.out), HB.out.trans (below_drewN _ _ _)⟩
      · have I3 := Lib.hid i3
        have G3 := Lib.hid (show ∀ m : Nat, Calls Tryz.prog 60 #[.bool B2, .int .i64 a, .int .i64 2, .int .i64 21] (W.drewN m) (fun e w' => e = .returned (.bool true) ∧ w' = W.drewN m) from fun m => by have := in_any B2 a 2 21 (W.drewN m); rw [i3] at this; exact this)
        clear i3
        cases i4 : Lx.inV B4 r 1 9223372036854775807
        · have I4 := Lib.hid i4
          have G4 := Lib.hid (show ∀ m : Nat, Calls Tryz.prog 60 #[.bool B4, .int .i64 r, .int .i64 1, .int .i64 9223372036854775807] (W.drewN m) (fun e w' => e = .returned (.bool false) ∧ w' = W.drewN m) from fun m => by have := in_any B4 r 1 9223372036854775807 (W.drewN m); rw [i4] at this; exact this)
          clear i4
          go_quiet ((first | (go_at_call 58; with_reducible refine (U1.out _).mono ?_; (rintro e w ⟨rfl, rfl⟩; exact ⟨rfl, _, rfl⟩)) | (go_at_call 58; with_reducible refine (U2.out _).mono ?_; (rintro e w ⟨rfl, rfl⟩; exact ⟨rfl, _, rfl⟩)) | (go_at_call 58; with_reducible refine (U4.out _).mono ?_; (rintro e w ⟨rfl, rfl⟩; exact ⟨rfl, _, rfl⟩)) | (go_at_call 60; with_reducible refine (G1.out _).mono ?_; (rintro e w ⟨rfl, rfl⟩; exact ⟨rfl, _, rfl⟩)) | (go_at_call 60; with_reducible refine (G2.out _).mono ?_; (rintro e w ⟨rfl, rfl⟩; exact ⟨rfl, _, rfl⟩)) | (go_at_call 60; with_reducible refine (G3.out _).mono ?_; (rintro e w ⟨rfl, rfl⟩; exact ⟨rfl, _, rfl⟩)) | (go_at_call 60; with_reducible refine (G4.out _).mono ?_; (rintro e w ⟨rfl, rfl⟩; exact ⟨rfl, _, rfl⟩))))
          go_wp2_with fail
          go_ret
          exact ⟨Lx.ret_int (HX.out true true true false _ _ I1.out I2.out (by rw [HF.out]; exact I3.out) I4.out rfl rfl HTV.out HD.out), HB.out.trans (below_drewN _ _ _)⟩
        · have I4 := Lib.hid i4
          have G4 := Lib.hid (show ∀ m : Nat, Calls Tryz.prog 60 #[.bool B4, .int .i64 r, .int .i64 1, .int .i64 9223372036854775807] (W.drewN m) (fun e w' => e = .returned (.bool true) ∧ w' = W.drewN m) from fun m => by have := in_any B4 r 1 9223372036854775807 (W.drewN m); rw [i4] at this; exact this)
          clear i4
          cases i5 : Lx.inV B8 n (t + 1) 4611686018427387904
          · have I5 := Lib.hid i5
            have G5 := Lib.hid (show ∀ m : Nat, Calls Tryz.prog 60 #[.bool B8, .int .i64 n, .int .i64 (t + 1), .int .i64 4611686018427387904] (W.drewN m) (fun e w' => e = .returned (.bool false) ∧ w' = W.drewN m) from fun m => by have := in_any B8 n (t + 1) 4611686018427387904 (W.drewN m); rw [i5] at this; exact this)
            clear i5
            go_quiet ((first | (go_at_call 58; with_reducible refine (U1.out _).mono ?_; (rintro e w ⟨rfl, rfl⟩; exact ⟨rfl, _, rfl⟩)) | (go_at_call 58; with_reducible refine (U2.out _).mono ?_; (rintro e w ⟨rfl, rfl⟩; exact ⟨rfl, _, rfl⟩)) | (go_at_call 58; with_reducible refine (U4.out _).mono ?_; (rintro e w ⟨rfl, rfl⟩; exact ⟨rfl, _, rfl⟩)) | (go_at_call 58; with_reducible refine (U8.out _).mono ?_; (rintro e w ⟨rfl, rfl⟩; exact ⟨rfl, _, rfl⟩)) | (go_at_call 60; with_reducible refine (G1.out _).mono ?_; (rintro e w ⟨rfl, rfl⟩; exact ⟨rfl, _, rfl⟩)) | (go_at_call 60; with_reducible refine (G2.out _).mono ?_; (rintro e w ⟨rfl, rfl⟩; exact ⟨rfl, _, rfl⟩)) | (go_at_call 60; with_reducible refine (G3.out _).mono ?_; (rintro e w ⟨rfl, rfl⟩; exact ⟨rfl, _, rfl⟩)) | (go_at_call 60; with_reducible refine (G4.out _).mono ?_; (rintro e w ⟨rfl, rfl⟩; exact ⟨rfl, _, rfl⟩)) | (go_at_call 60; with_reducible refine (G5.out _).mono ?_; (rintro e w ⟨rfl, rfl⟩; exact ⟨rfl, _, rfl⟩))))
            go_wp2_with fail
            go_ret
            exact ⟨Lx.ret_int (HX.out true true true true false _ I1.out I2.out (by rw [HF.out]; exact I3.out) I4.out I5.out rfl HTV.out HD.out), HB.out.trans (below_drewN _ _ _)⟩
          · have I5 := Lib.hid i5
            have G5 := Lib.hid (show ∀ m : Nat, Calls Tryz.prog 60 #[.bool B8, .int .i64 n, .int .i64 (t + 1), .int .i64 4611686018427387904] (W.drewN m) (fun e w' => e = .returned (.bool true) ∧ w' = W.drewN m) from fun m => by have := in_any B8 n (t + 1) 4611686018427387904 (W.drewN m); rw [i5] at this; exact this)
            clear i5
            cases i6 : Lx.inV B16 y 1 (Lx.yMax q)
            · have I6 := Lib.hid i6
              have G6 := Lib.hid (show ∀ m : Nat, Calls Tryz.prog 60 #[.bool B16, .int .i64 y, .int .i64 1, .int .i64 (Lx.yMax q)] (W.drewN m) (fun e w' => e = .returned (.bool false) ∧ w' = W.drewN m) from fun m => by have := in_any B16 y 1 (Lx.yMax q) (W.drewN m); rw [i6] at this; exact this)
              clear i6
              go_quiet ((first | (go_at_call 58; with_reducible refine (U1.out _).mono ?_; (rintro e w ⟨rfl, rfl⟩; exact ⟨rfl, _, rfl⟩)) | (go_at_call 58; with_reducible refine (U2.out _).mono ?_; (rintro e w ⟨rfl, rfl⟩; exact ⟨rfl, _, rfl⟩)) | (go_at_call 58; with_reducible refine (U4.out _).mono ?_; (rintro e w ⟨rfl, rfl⟩; exact ⟨rfl, _, rfl⟩)) | (go_at_call 58; with_reducible refine (U8.out _).mono ?_; (rintro e w ⟨rfl, rfl⟩; exact ⟨rfl, _, rfl⟩)) | (go_at_call 58; with_reducible refine (U16.out _).mono ?_; (rintro e w ⟨rfl, rfl⟩; exact ⟨rfl, _, rfl⟩)) | (go_at_call 60; with_reducible refine (G1.out _).mono ?_; (rintro e w ⟨rfl, rfl⟩; exact ⟨rfl, _, rfl⟩)) | (go_at_call 60; with_reducible refine (G2.out _).mono ?_; (rintro e w ⟨rfl, rfl⟩; exact ⟨rfl, _, rfl⟩)) | (go_at_call 60; with_reducible refine (G3.out _).mono ?_; (rintro e w ⟨rfl, rfl⟩; exact ⟨rfl, _, rfl⟩)) | (go_at_call 60; with_reducible refine (G4.out _).mono ?_; (rintro e w ⟨rfl, rfl⟩; exact ⟨rfl, _, rfl⟩)) | (go_at_call 60; with_reducible refine (G5.out _).mono ?_; (rintro e w ⟨rfl, rfl⟩; exact ⟨rfl, _, rfl⟩)) | (go_at_call 60; with_reducible refine (G6.out _).mono ?_; (rintro e w ⟨rfl, rfl⟩; exact ⟨rfl, _, rfl⟩))))
              go_wp2_with fail
              go_ret
              exact ⟨Lx.ret_int (HX.out true true true true true false I1.out I2.out (by rw [HF.out]; exact I3.out) I4.out I5.out I6.out HTV.out HD.out), HB.out.trans (below_drewN _ _ _)⟩
            · have I6 := Lib.hid i6
              have G6 := Lib.hid (show ∀ m : Nat, Calls Tryz.prog 60 #[.bool B16, .int .i64 y, .int .i64 1, .int .i64 (Lx.yMax q)] (W.drewN m) (fun e w' => e = .returned (.bool true) ∧ w' = W.drewN m) from fun m => by have := in_any B16 y 1 (Lx.yMax q) (W.drewN m); rw [i6] at this; exact this)
              clear i6
              go_quiet ((first | (go_at_call 58; with_reducible refine (U1.out _).mono ?_; (rintro e w ⟨rfl, rfl⟩; exact ⟨rfl, _, rfl⟩)) | (go_at_call 58; with_reducible refine (U2.out _).mono ?_; (rintro e w ⟨rfl, rfl⟩; exact ⟨rfl, _, rfl⟩)) | (go_at_call 58; with_reducible refine (U4.out _).mono ?_; (rintro e w ⟨rfl, rfl⟩; exact ⟨rfl, _, rfl⟩)) | (go_at_call 58; with_reducible refine (U8.out _).mono ?_; (rintro e w ⟨rfl, rfl⟩; exact ⟨rfl, _, rfl⟩)) | (go_at_call 58; with_reducible refine (U16.out _).mono ?_; (rintro e w ⟨rfl, rfl⟩; exact ⟨rfl, _, rfl⟩)) | (go_at_call 60; with_reducible refine (G1.out _).mono ?_; (rintro e w ⟨rfl, rfl⟩; exact ⟨rfl, _, rfl⟩)) | (go_at_call 60; with_reducible refine (G2.out _).mono ?_; (rintro e w ⟨rfl, rfl⟩; exact ⟨rfl, _, rfl⟩)) | (go_at_call 60; with_reducible refine (G3.out _).mono ?_; (rintro e w ⟨rfl, rfl⟩; exact ⟨rfl, _, rfl⟩)) | (go_at_call 60; with_reducible refine (G4.out _).mono ?_; (rintro e w ⟨rfl, rfl⟩; exact ⟨rfl, _, rfl⟩)) | (go_at_call 60; with_reducible refine (G5.out _).mono ?_; (rintro e w ⟨rfl, rfl⟩; exact ⟨rfl, _, rfl⟩)) | (go_at_call 60; with_reducible refine (G6.out _).mono ?_; (rintro e w ⟨rfl, rfl⟩; exact ⟨rfl, _, rfl⟩))))
              go_wp2_with fail
              go_ret
              exact ⟨Lx.ret_int (HX.out true true true true true true I1.out I2.out (by rw [HF.out]; exact I3.out) I4.out I5.out I6.out HTV.out HD.out), HB.out.trans (below_drewN _ _ _)⟩
set_option maxRecDepth 100000 in
set_option maxHeartbeats 1600000 in
theorem evcheck_fit01 (q : Nat) (t j d a r y n : Int) (w : World) (h1 : 1 ≤ q) (h2 : q < 9) (ht : Lx.timeV t = true) (hu : Lx.useB q 2 = false) (hd : Lx.useB q 2 = true → Lx.timeV d = true) (h4 : ¬ (q : Int) = 4) :
    Calls Tryz.prog 42 #[.agg #[.int .i64 q, .int .i64 t, .int .i64 j, .int .i64 d, .int .i64 a, .int .i64 r, .int .i64 y, .int .i64 n]] w (EvCheckIs (Lx.evErr ⟨q, t, j, d, a, r, y, n⟩) w) := by
  have HTV := Lib.hid ht
  have HD := Lib.hid hd
  have hu0 := Lib.hid hu
  have H4 := Lib.hid h4
  clear ht hd hu h4
  have hba : Below w.heap.size w (w.alloc (.cells #[.int .i64 q, .int .i64 t, .int .i64 j, .int .i64 d, .int .i64 a, .int .i64 r, .int .i64 y, .int .i64 n] 26)) := (Below.refl _ w).alloc (Nat.le_refl _) _
  have BO := Lib.hid (Lx.EvBox.new w q t j d a r y n 26)
  have e0 : decide ((q : Int) < 1) = false := decide_eq_false (by omega)
  have e1 : decide (9 ≤ (q : Int)) = false := decide_eq_false (by omega)
  have hq : (q : Int) < 9 := by omega
  obtain ⟨u1, u2, u4, u8, u16⟩ := Lx.use_all h1 h2
  have HX := Lib.hid (show ∀ b1 b2 b3 b4 b5 b6 : Bool, Lx.inV (Lx.useB q 1) j 0 63 = b1 → Lx.inV (Lx.useB q 2) d 0 t = b2 → Lx.inV (Lx.useB q 2) a (Lx.aMin q) 21 = b3 → Lx.inV (Lx.useB q 4) r 1 9223372036854775807 = b4 → Lx.inV (Lx.useB q 8) n (t + 1) 4611686018427387904 = b5 → Lx.inV (Lx.useB q 16) y 1 (Lx.yMax q) = b6 → Lx.timeV t = true → (Lx.useB q 2 = true → Lx.timeV d = true) → (if (b1 && (b2 && (b3 && (b4 && (b5 && b6))))) = true then (0 : Int) else 2) = Lx.evErr ⟨q, t, j, d, a, r, y, n⟩ from by
    intro b1 b2 b3 b4 b5 b6 i1 i2 i3 i4 i5 i6 ht hd
    unfold Lx.evErr Lx.fitB
    simp only
    have hc : ¬ (Lx.timeV t = false ∨ (Lx.useB q 2 = true ∧ Lx.timeV d = false)) := by
      rintro (h | ⟨h, h'⟩)
      · rw [ht] at h; cases h
      · rw [hd h] at h'; cases h'
    rw [if_neg (show ¬ ((q : Int) < 1 ∨ 8 < (q : Int)) by omega), ← u1, ← u2, ← u4, ← u8, ← u16, i1, i2, i3, i4, i5, i6, if_neg hc])
  have HT := Lib.hid (show Lx.timeV t = false ∨ (Lx.useB q 2 = true ∧ Lx.timeV d = false) → 14 = Lx.evErr ⟨q, t, j, d, a, r, y, n⟩ from by
    intro h
    unfold Lx.evErr
    simp only
    rw [if_neg (by omega), ← u2, if_pos h])
  generalize Lx.evErr ⟨q, t, j, d, a, r, y, n⟩ = x at *
  clear u1 u2 u4 u8 u16
  go_enter Tryz.func42, Tryz.ntmps42
  go_wp2_with fail
  refine (kinds_any _).mono ?_
  rintro e w1 ⟨g, rfl, hg, hk, hb⟩
  obtain ⟨c0, c1, c2⟩ := hk.2 q h2
  have BO1 := Lib.hid (BO.out.below hb)
  have hb1 := hba.trans (hb.mono hba.size)
  have hbk := hb1.alloc hb1.size (.cells #[.string ⟨(Lx.evWord q).toArray⟩, .int .i64 (Lx.usesN q), .int .i64 (Lx.yMax q)] 69)
  have BO2 := BO1.out.below ((Below.refl _ w1).alloc (Nat.le_refl _) (.cells #[.string ⟨(Lx.evWord q).toArray⟩, .int .i64 (Lx.usesN q), .int .i64 (Lx.yMax q)] 69))
  have n1 : (w1.alloc (.cells #[.string ⟨(Lx.evWord q).toArray⟩, .int .i64 (Lx.usesN q), .int .i64 (Lx.yMax q)] 69)).cell? ⟨w1.heap.size, 1, none⟩ = some (.int .i64 (Lx.usesN q)) := by simp
  have n2 : (w1.alloc (.cells #[.string ⟨(Lx.evWord q).toArray⟩, .int .i64 (Lx.usesN q), .int .i64 (Lx.yMax q)] 69)).cell? ⟨w1.heap.size, 2, none⟩ = some (.int .i64 (Lx.yMax q)) := by simp
  obtain ⟨q0, -, -, -, -, -, -, -⟩ := BO1.out.eight
  obtain ⟨p0, p1, p2, p3, p4, p5, p6, p7⟩ := BO2.eight
  have N1 := Lib.hid n1
  have HB := Lib.hid hbk
  clear hk hb hb1 hba BO hbk BO1 BO2 hg
  go_wp2_with fail
  refine (valid_any t _).mono ?_
  rintro e w2 ⟨rfl, rfl⟩
  have ht' := HTV.out
  go_wp2_with fail
  clear ht'
  refine (uses_any q 2 _ _ N1.out).mono ?_
  rintro e w2 ⟨rfl, rfl⟩
  have hu := hu0.out
  clear HT
  have h4 := H4.out
  have HF := Lib.hid (show Lx.aMin q = 1 from by unfold Lx.aMin; rw [if_neg h4])
  have e4 : ((q : Int) == 4) = false := by rw [beq_eq_false_iff_ne]; exact h4
  clear h4
  go_wp2_with fail
  clear hu
  go_wp2_with fail
  have ht0 := (of_decide_eq_true HTV.out : 0 ≤ t ∧ t ≤ 253402300799).1
  have ht1 := (of_decide_eq_true HTV.out : 0 ≤ t ∧ t ≤ 253402300799).2
  clear hu0
  obtain ⟨W, hW⟩ : ∃ W, W = w1.alloc (.cells #[.string ⟨(Lx.evWord q).toArray⟩, .int .i64 (Lx.usesN q), .int .i64 (Lx.yMax q)] 69) := ⟨_, rfl⟩
  rw [← hW] at N1 HB p0 p1 p2 p3 p4 p5 p6 p7 n1 n2 ⊢
  clear hW q0 c0 c1 c2 e0 e1 e4 h1 h2
  have U1 := Lib.hid (fun (m : Nat) => uses_any q 1 w1.heap.size (W.drewN m) N1.out)
  have U2 := Lib.hid (fun (m : Nat) => uses_any q 2 w1.heap.size (W.drewN m) N1.out)
  have U4 := Lib.hid (fun (m : Nat) => uses_any q 4 w1.heap.size (W.drewN m) N1.out)
  have U8 := Lib.hid (fun (m : Nat) => uses_any q 8 w1.heap.size (W.drewN m) N1.out)
  have U16 := Lib.hid (fun (m : Nat) => uses_any q 16 w1.heap.size (W.drewN m) N1.out)
  generalize Lx.useB q 1 = B1 at *
  generalize Lx.useB q 2 = B2 at *
  generalize Lx.useB q 4 = B4 at *
  generalize Lx.useB q 8 = B8 at *
  generalize Lx.useB q 16 = B16 at *
  cases i1 : Lx.inV B1 j 0 63
  · have I1 := Lib.hid i1
    have G1 := Lib.hid (show ∀ m : Nat, Calls Tryz.prog 60 #[.bool B1, .int .i64 j, .int .i64 0, .int .i64 63] (W.drewN m) (fun e w' => e = .returned (.bool false) ∧ w' = W.drewN m) from fun m => by have := in_any B1 j 0 63 (W.drewN m); rw [i1] at this; exact this)
    clear i1
    go_quiet ((first | (go_at_call 58; with_reducible refine (U1.out _).mono ?_; (rintro e w ⟨rfl, rfl⟩; exact ⟨rfl, _, rfl⟩)) | (go_at_call 60; with_reducible refine (G1.out _).mono ?_; (rintro e w ⟨rfl, rfl⟩; exact ⟨rfl, _, rfl⟩))))
    go_wp2_with fail
    go_ret
    exact ⟨Lx.ret_int (HX.out false _ _ _ _ _ I1.out rfl rfl rfl rfl rfl HTV.out HD.out), HB.out.trans (below_drewN _ _ _)⟩
  · have I1 := Lib.hid i1
    have G1 := Lib.hid (show ∀ m : Nat, Calls Tryz.prog 60 #[.bool B1, .int .i64 j, .int .i64 0, .int .i64 63] (W.drewN m) (fun e w' => e = .returned (.bool true) ∧ w' = W.drewN m) from fun m => by have := in_any B1 j 0 63 (W.drewN m); rw [i1] at this; exact this)
    clear i1
    cases i2 : Lx.inV B2 d 0 t
    · have I2 := Lib.hid i2
      have G2 := Lib.hid (show ∀ m : Nat, Calls Tryz.prog 60 #[.bool B2, .int .i64 d, .int .i64 0, .int .i64 t] (W.drewN m) (fun e w' => e = .returned (.bool false) ∧ w' = W.drewN m) from fun m => by have := in_any B2 d 0 t (W.drewN m); rw [i2] at this; exact this)
      clear i2
      go_quiet ((first | (go_at_call 58; with_reducible refine (U1.out _).mono ?_; (rintro e w ⟨rfl, rfl⟩; exact ⟨rfl, _, rfl⟩)) | (go_at_call 58; with_reducible refine (U2.out _).mono ?_; (rintro e w ⟨rfl, rfl⟩; exact ⟨rfl, _, rfl⟩)) | (go_at_call 60; with_reducible refine (G1.out _).mono ?_; (rintro e w ⟨rfl, rfl⟩; exact ⟨rfl, _, rfl⟩)) | (go_at_call 60; with_reducible refine (G2.out _).mono ?_; (rintro e w ⟨rfl, rfl⟩; exact ⟨rfl, _, rfl⟩))))
      go_wp2_with fail
      go_ret
      exact ⟨Lx.ret_int (HX.out true false _ _ _ _ I1.out I2.out rfl rfl rfl rfl HTV.out HD.out), HB.out.trans (below_drewN _ _ _)⟩
    · have I2 := Lib.hid i2
      have G2 := Lib.hid (show ∀ m : Nat, Calls Tryz.prog 60 #[.bool B2, .int .i64 d, .int .i64 0, .int .i64 t] (W.drewN m) (fun e w' => e = .returned (.bool true) ∧ w' = W.drewN m) from fun m => by have := in_any B2 d 0 t (W.drewN m); rw [i2] at this; exact this)
      clear i2
      cases i3 : Lx.inV B2 a 1 21
      · have I3 := Lib.hid i3
        have G3 := Lib.hid (show ∀ m : Nat, Calls Tryz.prog 60 #[.bool B2, .int .i64 a, .int .i64 1, .int .i64 21] (W.drewN m) (fun e w' => e = .returned (.bool false) ∧ w' = W.drewN m) from fun m => by have := in_any B2 a 1 21 (W.drewN m); rw [i3] at this; exact this)
        clear i3
        go_quiet ((first | (go_at_call 58; with_reducible refine (U1.out _).mono ?_; (rintro e w ⟨rfl, rfl⟩; exact ⟨rfl, _, rfl⟩)) | (go_at_call 58; with_reducible refine (U2.out _).mono ?_; (rintro e w ⟨rfl, rfl⟩; exact ⟨rfl, _, rfl⟩)) | (go_at_call 60; with_reducible refine (G1.out _).mono ?_; (rintro e w ⟨rfl, rfl⟩; exact ⟨rfl, _, rfl⟩)) | (go_at_call 60; with_reducible refine (G2.out _).mono ?_; (rintro e w ⟨rfl, rfl⟩; exact ⟨rfl, _, rfl⟩)) | (go_at_call 60; with_reducible refine (G3.out _).mono ?_; (rintro e w ⟨rfl, rfl⟩; exact ⟨rfl, _, rfl⟩))))
        go_wp2_with fail
        go_ret
        exact ⟨Lx.ret_int (HX.out true true false _ _ _ I1.out I2.out (by rw [HF.out]; exact I3.out) rfl rfl rfl HTV.out HD.out), HB.out.trans (below_drewN _ _ _)⟩
      · have I3 := Lib.hid i3
        have G3 := Lib.hid (show ∀ m : Nat, Calls Tryz.prog 60 #[.bool B2, .int .i64 a, .int .i64 1, .int .i64 21] (W.drewN m) (fun e w' => e = .returned (.bool true) ∧ w' = W.drewN m) from fun m => by have := in_any B2 a 1 21 (W.drewN m); rw [i3] at this; exact this)
        clear i3
        cases i4 : Lx.inV B4 r 1 9223372036854775807
        · have I4 := Lib.hid i4
          have G4 := Lib.hid (show ∀ m : Nat, Calls Tryz.prog 60 #[.bool B4, .int .i64 r, .int .i64 1, .int .i64 9223372036854775807] (W.drewN m) (fun e w' => e = .returned (.bool false) ∧ w' = W.drewN m) from fun m => by have := in_any B4 r 1 9223372036854775807 (W.drewN m); rw [i4] at this; exact this)
          clear i4
          go_quiet ((first | (go_at_call 58; with_reducible refine (U1.out _).mono ?_; (rintro e w ⟨rfl, rfl⟩; exact ⟨rfl, _, rfl⟩)) | (go_at_call 58; with_reducible refine (U2.out _).mono ?_; (rintro e w ⟨rfl, rfl⟩; exact ⟨rfl, _, rfl⟩)) | (go_at_call 58; with_reducible refine (U4.out _).mono ?_; (rintro e w ⟨rfl, rfl⟩; exact ⟨rfl, _, rfl⟩)) | (go_at_call 60; with_reducible refine (G1.out _).mono ?_; (rintro e w ⟨rfl, rfl⟩; exact ⟨rfl, _, rfl⟩)) | (go_at_call 60; with_reducible refine (G2.out _).mono ?_; (rintro e w ⟨rfl, rfl⟩; exact ⟨rfl, _, rfl⟩)) | (go_at_call 60; with_reducible refine (G3.out _).mono ?_; (rintro e w ⟨rfl, rfl⟩; exact ⟨rfl, _, rfl⟩)) | (go_at_call 60; with_reducible refine (G4.out _).mono ?_; (rintro e w ⟨rfl, rfl⟩; exact ⟨rfl, _, rfl⟩))))
          go_wp2_with fail
          go_ret
          exact ⟨Lx.ret_int (HX.out true true true false _ _ I1.out I2.out (by rw [HF.out]; exact I3.out) I4.out rfl rfl HTV.out HD.out), HB.out.trans (below_drewN _ _ _)⟩
        · have I4 := Lib.hid i4
          have G4 := Lib.hid (show ∀ m : Nat, Calls Tryz.prog 60 #[.bool B4, .int .i64 r, .int .i64 1, .int .i64 9223372036854775807] (W.drewN m) (fun e w' => e = .returned (.bool true) ∧ w' = W.drewN m) from fun m => by have := in_any B4 r 1 9223372036854775807 (W.drewN m); rw [i4] at this; exact this)
          clear i4
          cases i5 : Lx.inV B8 n (t + 1) 4611686018427387904
          · have I5 := Lib.hid i5
            have G5 := Lib.hid (show ∀ m : Nat, Calls Tryz.prog 60 #[.bool B8, .int .i64 n, .int .i64 (t + 1), .int .i64 4611686018427387904] (W.drewN m) (fun e w' => e = .returned (.bool false) ∧ w' = W.drewN m) from fun m => by have := in_any B8 n (t + 1) 4611686018427387904 (W.drewN m); rw [i5] at this; exact this)
            clear i5
            go_quiet ((first | (go_at_call 58; with_reducible refine (U1.out _).mono ?_; (rintro e w ⟨rfl, rfl⟩; exact ⟨rfl, _, rfl⟩)) | (go_at_call 58; with_reducible refine (U2.out _).mono ?_; (rintro e w ⟨rfl, rfl⟩; exact ⟨rfl, _, rfl⟩)) | (go_at_call 58; with_reducible refine (U4.out _).mono ?_; (rintro e w ⟨rfl, rfl⟩; exact ⟨rfl, _, rfl⟩)) | (go_at_call 58; with_reducible refine (U8.out _).mono ?_; (rintro e w ⟨rfl, rfl⟩; exact ⟨rfl, _, rfl⟩)) | (go_at_call 60; with_reducible refine (G1.out _).mono ?_; (rintro e w ⟨rfl, rfl⟩; exact ⟨rfl, _, rfl⟩)) | (go_at_call 60; with_reducible refine (G2.out _).mono ?_; (rintro e w ⟨rfl, rfl⟩; exact ⟨rfl, _, rfl⟩)) | (go_at_call 60; with_reducible refine (G3.out _).mono ?_; (rintro e w ⟨rfl, rfl⟩; exact ⟨rfl, _, rfl⟩)) | (go_at_call 60; with_reducible refine (G4.out _).mono ?_; (rintro e w ⟨rfl, rfl⟩; exact ⟨rfl, _, rfl⟩)) | (go_at_call 60; with_reducible refine (G5.out _).mono ?_; (rintro e w ⟨rfl, rfl⟩; exact ⟨rfl, _, rfl⟩))))
            go_wp2_with fail
            go_ret
            exact ⟨Lx.ret_int (HX.out true true true true false _ I1.out I2.out (by rw [HF.out]; exact I3.out) I4.out I5.out rfl HTV.out HD.out), HB.out.trans (below_drewN _ _ _)⟩
          · have I5 := Lib.hid i5
            have G5 := Lib.hid (show ∀ m : Nat, Calls Tryz.prog 60 #[.bool B8, .int .i64 n, .int .i64 (t + 1), .int .i64 4611686018427387904] (W.drewN m) (fun e w' => e = .returned (.bool true) ∧ w' = W.drewN m) from fun m => by have := in_any B8 n (t + 1) 4611686018427387904 (W.drewN m); rw [i5] at this; exact this)
            clear i5
            cases i6 : Lx.inV B16 y 1 (Lx.yMax q)
            · have I6 := Lib.hid i6
              have G6 := Lib.hid (show ∀ m : Nat, Calls Tryz.prog 60 #[.bool B16, .int .i64 y, .int .i64 1, .int .i64 (Lx.yMax q)] (W.drewN m) (fun e w' => e = .returned (.bool false) ∧ w' = W.drewN m) from fun m => by have := in_any B16 y 1 (Lx.yMax q) (W.drewN m); rw [i6] at this; exact this)
              clear i6
              go_quiet ((first | (go_at_call 58; with_reducible refine (U1.out _).mono ?_; (rintro e w ⟨rfl, rfl⟩; exact ⟨rfl, _, rfl⟩)) | (go_at_call 58; with_reducible refine (U2.out _).mono ?_; (rintro e w ⟨rfl, rfl⟩; exact ⟨rfl, _, rfl⟩)) | (go_at_call 58; with_reducible refine (U4.out _).mono ?_; (rintro e w ⟨rfl, rfl⟩; exact ⟨rfl, _, rfl⟩)) | (go_at_call 58; with_reducible refine (U8.out _).mono ?_; (rintro e w ⟨rfl, rfl⟩; exact ⟨rfl, _, rfl⟩)) | (go_at_call 58; with_reducible refine (U16.out _).mono ?_; (rintro e w ⟨rfl, rfl⟩; exact ⟨rfl, _, rfl⟩)) | (go_at_call 60; with_reducible refine (G1.out _).mono ?_; (rintro e w ⟨rfl, rfl⟩; exact ⟨rfl, _, rfl⟩)) | (go_at_call 60; with_reducible refine (G2.out _).mono ?_; (rintro e w ⟨rfl, rfl⟩; exact ⟨rfl, _, rfl⟩)) | (go_at_call 60; with_reducible refine (G3.out _).mono ?_; (rintro e w ⟨rfl, rfl⟩; exact ⟨rfl, _, rfl⟩)) | (go_at_call 60; with_reducible refine (G4.out _).mono ?_; (rintro e w ⟨rfl, rfl⟩; exact ⟨rfl, _, rfl⟩)) | (go_at_call 60; with_reducible refine (G5.out _).mono ?_; (rintro e w ⟨rfl, rfl⟩; exact ⟨rfl, _, rfl⟩)) | (go_at_call 60; with_reducible refine (G6.out _).mono ?_; (rintro e w ⟨rfl, rfl⟩; exact ⟨rfl, _, rfl⟩))))
              go_wp2_with fail
              go_ret
              exact ⟨Lx.ret_int (HX.out true true true true true false I1.out I2.out (by rw [HF.out]; exact I3.out) I4.out I5.out I6.out HTV.out HD.out), HB.out.trans (below_drewN _ _ _)⟩
            · have I6 := Lib.hid i6
              have G6 := Lib.hid (show ∀ m : Nat, Calls Tryz.prog 60 #[.bool B16, .int .i64 y, .int .i64 1, .int .i64 (Lx.yMax q)] (W.drewN m) (fun e w' => e = .returned (.bool true) ∧ w' = W.drewN m) from fun m => by have := in_any B16 y 1 (Lx.yMax q) (W.drewN m); rw [i6] at this; exact this)
              clear i6
              go_quiet ((first | (go_at_call 58; with_reducible refine (U1.out _).mono ?_; (rintro e w ⟨rfl, rfl⟩; exact ⟨rfl, _, rfl⟩)) | (go_at_call 58; with_reducible refine (U2.out _).mono ?_; (rintro e w ⟨rfl, rfl⟩; exact ⟨rfl, _, rfl⟩)) | (go_at_call 58; with_reducible refine (U4.out _).mono ?_; (rintro e w ⟨rfl, rfl⟩; exact ⟨rfl, _, rfl⟩)) | (go_at_call 58; with_reducible refine (U8.out _).mono ?_; (rintro e w ⟨rfl, rfl⟩; exact ⟨rfl, _, rfl⟩)) | (go_at_call 58; with_reducible refine (U16.out _).mono ?_; (rintro e w ⟨rfl, rfl⟩; exact ⟨rfl, _, rfl⟩)) | (go_at_call 60; with_reducible refine (G1.out _).mono ?_; (rintro e w ⟨rfl, rfl⟩; exact ⟨rfl, _, rfl⟩)) | (go_at_call 60; with_reducible refine (G2.out _).mono ?_; (rintro e w ⟨rfl, rfl⟩; exact ⟨rfl, _, rfl⟩)) | (go_at_call 60; with_reducible refine (G3.out _).mono ?_; (rintro e w ⟨rfl, rfl⟩; exact ⟨rfl, _, rfl⟩)) | (go_at_call 60; with_reducible refine (G4.out _).mono ?_; (rintro e w ⟨rfl, rfl⟩; exact ⟨rfl, _, rfl⟩)) | (go_at_call 60; with_reducible refine (G5.out _).mono ?_; (rintro e w ⟨rfl, rfl⟩; exact ⟨rfl, _, rfl⟩)) | (go_at_call 60; with_reducible refine (G6.out _).mono ?_; (rintro e w ⟨rfl, rfl⟩; exact ⟨rfl, _, rfl⟩))))
              go_wp2_with fail
              go_ret
              exact ⟨Lx.ret_int (HX.out true true true true true true I1.out I2.out (by rw [HF.out]; exact I3.out) I4.out I5.out I6.out HTV.out HD.out), HB.out.trans (below_drewN _ _ _)⟩
set_option maxRecDepth 100000 in
set_option maxHeartbeats 1600000 in
theorem evcheck_fit10 (q : Nat) (t j d a r y n : Int) (w : World) (h1 : 1 ≤ q) (h2 : q < 9) (ht : Lx.timeV t = true) (hu : Lx.useB q 2 = true) (hd : Lx.useB q 2 = true → Lx.timeV d = true) (h4 :  (q : Int) = 4) :
    Calls Tryz.prog 42 #[.agg #[.int .i64 q, .int .i64 t, .int .i64 j, .int .i64 d, .int .i64 a, .int .i64 r, .int .i64 y, .int .i64 n]] w (EvCheckIs (Lx.evErr ⟨q, t, j, d, a, r, y, n⟩) w) := by
  have HTV := Lib.hid ht
  have HD := Lib.hid hd
  have hu0 := Lib.hid hu
  have H4 := Lib.hid h4
  clear ht hd hu h4
  have hba : Below w.heap.size w (w.alloc (.cells #[.int .i64 q, .int .i64 t, .int .i64 j, .int .i64 d, .int .i64 a, .int .i64 r, .int .i64 y, .int .i64 n] 26)) := (Below.refl _ w).alloc (Nat.le_refl _) _
  have BO := Lib.hid (Lx.EvBox.new w q t j d a r y n 26)
  have e0 : decide ((q : Int) < 1) = false := decide_eq_false (by omega)
  have e1 : decide (9 ≤ (q : Int)) = false := decide_eq_false (by omega)
  have hq : (q : Int) < 9 := by omega
  obtain ⟨u1, u2, u4, u8, u16⟩ := Lx.use_all h1 h2
  have HX := Lib.hid (show ∀ b1 b2 b3 b4 b5 b6 : Bool, Lx.inV (Lx.useB q 1) j 0 63 = b1 → Lx.inV (Lx.useB q 2) d 0 t = b2 → Lx.inV (Lx.useB q 2) a (Lx.aMin q) 21 = b3 → Lx.inV (Lx.useB q 4) r 1 9223372036854775807 = b4 → Lx.inV (Lx.useB q 8) n (t + 1) 4611686018427387904 = b5 → Lx.inV (Lx.useB q 16) y 1 (Lx.yMax q) = b6 → Lx.timeV t = true → (Lx.useB q 2 = true → Lx.timeV d = true) → (if (b1 && (b2 && (b3 && (b4 && (b5 && b6))))) = true then (0 : Int) else 2) = Lx.evErr ⟨q, t, j, d, a, r, y, n⟩ from by
    intro b1 b2 b3 b4 b5 b6 i1 i2 i3 i4 i5 i6 ht hd
    unfold Lx.evErr Lx.fitB
    simp only
    have hc : ¬ (Lx.timeV t = false ∨ (Lx.useB q 2 = true ∧ Lx.timeV d = false)) := by
      rintro (h | ⟨h, h'⟩)
      · rw [ht] at h; cases h
      · rw [hd h] at h'; cases h'
    rw [if_neg (show ¬ ((q : Int) < 1 ∨ 8 < (q : Int)) by omega), ← u1, ← u2, ← u4, ← u8, ← u16, i1, i2, i3, i4, i5, i6, if_neg hc])
  have HT := Lib.hid (show Lx.timeV t = false ∨ (Lx.useB q 2 = true ∧ Lx.timeV d = false) → 14 = Lx.evErr ⟨q, t, j, d, a, r, y, n⟩ from by
    intro h
    unfold Lx.evErr
    simp only
    rw [if_neg (by omega), ← u2, if_pos h])
  generalize Lx.evErr ⟨q, t, j, d, a, r, y, n⟩ = x at *
  clear u1 u2 u4 u8 u16
  go_enter Tryz.func42, Tryz.ntmps42
  go_wp2_with fail
  refine (kinds_any _).mono ?_
  rintro e w1 ⟨g, rfl, hg, hk, hb⟩
  obtain ⟨c0, c1, c2⟩ := hk.2 q h2
  have BO1 := Lib.hid (BO.out.below hb)
  have hb1 := hba.trans (hb.mono hba.size)
  have hbk := hb1.alloc hb1.size (.cells #[.string ⟨(Lx.evWord q).toArray⟩, .int .i64 (Lx.usesN q), .int .i64 (Lx.yMax q)] 69)
  have BO2 := BO1.out.below ((Below.refl _ w1).alloc (Nat.le_refl _) (.cells #[.string ⟨(Lx.evWord q).toArray⟩, .int .i64 (Lx.usesN q), .int .i64 (Lx.yMax q)] 69))
  have n1 : (w1.alloc (.cells #[.string ⟨(Lx.evWord q).toArray⟩, .int .i64 (Lx.usesN q), .int .i64 (Lx.yMax q)] 69)).cell? ⟨w1.heap.size, 1, none⟩ = some (.int .i64 (Lx.usesN q)) := by simp
  have n2 : (w1.alloc (.cells #[.string ⟨(Lx.evWord q).toArray⟩, .int .i64 (Lx.usesN q), .int .i64 (Lx.yMax q)] 69)).cell? ⟨w1.heap.size, 2, none⟩ = some (.int .i64 (Lx.yMax q)) := by simp
  obtain ⟨q0, -, -, -, -, -, -, -⟩ := BO1.out.eight
  obtain ⟨p0, p1, p2, p3, p4, p5, p6, p7⟩ := BO2.eight
  have N1 := Lib.hid n1
  have HB := Lib.hid hbk
  clear hk hb hb1 hba BO hbk BO1 BO2 hg
  go_wp2_with fail
  refine (valid_any t _).mono ?_
  rintro e w2 ⟨rfl, rfl⟩
  have ht' := HTV.out
  go_wp2_with fail
  clear ht'
  refine (uses_any q 2 _ _ N1.out).mono ?_
  rintro e w2 ⟨rfl, rfl⟩
  have hu := hu0.out
  clear HT
  have h4 := H4.out
  have HF := Lib.hid (show Lx.aMin q = 2 from by unfold Lx.aMin; rw [if_pos h4])
  have e4 : ((q : Int) == 4) = true := beq_iff_eq.2 h4
  clear h4
  go_wp2_with fail
  refine (valid_any d _).mono ?_
  rintro e w2 ⟨rfl, rfl⟩
  have hv := HD.out hu
  go_wp2_with fail
  clear hv
  clear hu
  go_wp2_with fail
  have ht0 := (of_decide_eq_true HTV.out : 0 ≤ t ∧ t ≤ 253402300799).1
  have ht1 := (of_decide_eq_true HTV.out : 0 ≤ t ∧ t ≤ 253402300799).2
  clear hu0
  obtain ⟨W, hW⟩ : ∃ W, W = w1.alloc (.cells #[.string ⟨(Lx.evWord q).toArray⟩, .int .i64 (Lx.usesN q), .int .i64 (Lx.yMax q)] 69) := ⟨_, rfl⟩
  rw [← hW] at N1 HB p0 p1 p2 p3 p4 p5 p6 p7 n1 n2 ⊢
  clear hW q0 c0 c1 c2 e0 e1 e4 h1 h2
  have U1 := Lib.hid (fun (m : Nat) => uses_any q 1 w1.heap.size (W.drewN m) N1.out)
  have U2 := Lib.hid (fun (m : Nat) => uses_any q 2 w1.heap.size (W.drewN m) N1.out)
  have U4 := Lib.hid (fun (m : Nat) => uses_any q 4 w1.heap.size (W.drewN m) N1.out)
  have U8 := Lib.hid (fun (m : Nat) => uses_any q 8 w1.heap.size (W.drewN m) N1.out)
  have U16 := Lib.hid (fun (m : Nat) => uses_any q 16 w1.heap.size (W.drewN m) N1.out)
  generalize Lx.useB q 1 = B1 at *
  generalize Lx.useB q 2 = B2 at *
  generalize Lx.useB q 4 = B4 at *
  generalize Lx.useB q 8 = B8 at *
  generalize Lx.useB q 16 = B16 at *
  cases i1 : Lx.inV B1 j 0 63
  · have I1 := Lib.hid i1
    have G1 := Lib.hid (show ∀ m : Nat, Calls Tryz.prog 60 #[.bool B1, .int .i64 j, .int .i64 0, .int .i64 63] (W.drewN m) (fun e w' => e = .returned (.bool false) ∧ w' = W.drewN m) from fun m => by have := in_any B1 j 0 63 (W.drewN m); rw [i1] at this; exact this)
    clear i1
    go_quiet ((first | (go_at_call 58; with_reducible refine (U1.out _).mono ?_; (rintro e w ⟨rfl, rfl⟩; exact ⟨rfl, _, rfl⟩)) | (go_at_call 60; with_reducible refine (G1.out _).mono ?_; (rintro e w ⟨rfl, rfl⟩; exact ⟨rfl, _, rfl⟩))))
    go_wp2_with fail
    go_ret
    exact ⟨Lx.ret_int (HX.out false _ _ _ _ _ I1.out rfl rfl rfl rfl rfl HTV.out HD.out), HB.out.trans (below_drewN _ _ _)⟩
  · have I1 := Lib.hid i1
    have G1 := Lib.hid (show ∀ m : Nat, Calls Tryz.prog 60 #[.bool B1, .int .i64 j, .int .i64 0, .int .i64 63] (W.drewN m) (fun e w' => e = .returned (.bool true) ∧ w' = W.drewN m) from fun m => by have := in_any B1 j 0 63 (W.drewN m); rw [i1] at this; exact this)
    clear i1
    cases i2 : Lx.inV B2 d 0 t
    · have I2 := Lib.hid i2
      have G2 := Lib.hid (show ∀ m : Nat, Calls Tryz.prog 60 #[.bool B2, .int .i64 d, .int .i64 0, .int .i64 t] (W.drewN m) (fun e w' => e = .returned (.bool false) ∧ w' = W.drewN m) from fun m => by have := in_any B2 d 0 t (W.drewN m); rw [i2] at this; exact this)
      clear i2
      go_quiet ((first | (go_at_call 58; with_reducible refine (U1.out _).mono ?_; (rintro e w ⟨rfl, rfl⟩; exact ⟨rfl, _, rfl⟩)) | (go_at_call 58; with_reducible refine (U2.out _).mono ?_; (rintro e w ⟨rfl, rfl⟩; exact ⟨rfl, _, rfl⟩)) | (go_at_call 60; with_reducible refine (G1.out _).mono ?_; (rintro e w ⟨rfl, rfl⟩; exact ⟨rfl, _, rfl⟩)) | (go_at_call 60; with_reducible refine (G2.out _).mono ?_; (rintro e w ⟨rfl, rfl⟩; exact ⟨rfl, _, rfl⟩))))
      go_wp2_with fail
      go_ret
      exact ⟨Lx.ret_int (HX.out true false _ _ _ _ I1.out I2.out rfl rfl rfl rfl HTV.out HD.out), HB.out.trans (below_drewN _ _ _)⟩
    · have I2 := Lib.hid i2
      have G2 := Lib.hid (show ∀ m : Nat, Calls Tryz.prog 60 #[.bool B2, .int .i64 d, .int .i64 0, .int .i64 t] (W.drewN m) (fun e w' => e = .returned (.bool true) ∧ w' = W.drewN m) from fun m => by have := in_any B2 d 0 t (W.drewN m); rw [i2] at this; exact this)
      clear i2
      cases i3 : Lx.inV B2 a 2 21
      · have I3 := Lib.hid i3
        have G3 := Lib.hid (show ∀ m : Nat, Calls Tryz.prog 60 #[.bool B2, .int .i64 a, .int .i64 2, .int .i64 21] (W.drewN m) (fun e w' => e = .returned (.bool false) ∧ w' = W.drewN m) from fun m => by have := in_any B2 a 2 21 (W.drewN m); rw [i3] at this; exact this)
        clear i3
        go_quiet ((first | (go_at_call 58; with_reducible refine (U1.out _).mono ?_; (rintro e w ⟨rfl, rfl⟩; exact ⟨rfl, _, rfl⟩)) | (go_at_call 58; with_reducible refine (U2.out _).mono ?_; (rintro e w ⟨rfl, rfl⟩; exact ⟨rfl, _, rfl⟩)) | (go_at_call 60; with_reducible refine (G1.out _).mono ?_; (rintro e w ⟨rfl, rfl⟩; exact ⟨rfl, _, rfl⟩)) | (go_at_call 60; with_reducible refine (G2.out _).mono ?_; (rintro e w ⟨rfl, rfl⟩; exact ⟨rfl, _, rfl⟩)) | (go_at_call 60; with_reducible refine (G3.out _).mono ?_; (rintro e w ⟨rfl, rfl⟩; exact ⟨rfl, _, rfl⟩))))
        go_wp2_with fail
        go_ret
        exact ⟨Lx.ret_int (HX.out true true false _ _ _ I1.out I2.out (by rw [HF.out]; exact I3.out) rfl rfl rfl HTV.out HD.out), HB.out.trans (below_drewN _ _ _)⟩
      · have I3 := Lib.hid i3
        have G3 := Lib.hid (show ∀ m : Nat, Calls Tryz.prog 60 #[.bool B2, .int .i64 a, .int .i64 2, .int .i64 21] (W.drewN m) (fun e w' => e = .returned (.bool true) ∧ w' = W.drewN m) from fun m => by have := in_any B2 a 2 21 (W.drewN m); rw [i3] at this; exact this)
        clear i3
        cases i4 : Lx.inV B4 r 1 9223372036854775807
        · have I4 := Lib.hid i4
          have G4 := Lib.hid (show ∀ m : Nat, Calls Tryz.prog 60 #[.bool B4, .int .i64 r, .int .i64 1, .int .i64 9223372036854775807] (W.drewN m) (fun e w' => e = .returned (.bool false) ∧ w' = W.drewN m) from fun m => by have := in_any B4 r 1 9223372036854775807 (W.drewN m); rw [i4] at this; exact this)
          clear i4
          go_quiet ((first | (go_at_call 58; with_reducible refine (U1.out _).mono ?_; (rintro e w ⟨rfl, rfl⟩; exact ⟨rfl, _, rfl⟩)) | (go_at_call 58; with_reducible refine (U2.out _).mono ?_; (rintro e w ⟨rfl, rfl⟩; exact ⟨rfl, _, rfl⟩)) | (go_at_call 58; with_reducible refine (U4.out _).mono ?_; (rintro e w ⟨rfl, rfl⟩; exact ⟨rfl, _, rfl⟩)) | (go_at_call 60; with_reducible refine (G1.out _).mono ?_; (rintro e w ⟨rfl, rfl⟩; exact ⟨rfl, _, rfl⟩)) | (go_at_call 60; with_reducible refine (G2.out _).mono ?_; (rintro e w ⟨rfl, rfl⟩; exact ⟨rfl, _, rfl⟩)) | (go_at_call 60; with_reducible refine (G3.out _).mono ?_; (rintro e w ⟨rfl, rfl⟩; exact ⟨rfl, _, rfl⟩)) | (go_at_call 60; with_reducible refine (G4.out _).mono ?_; (rintro e w ⟨rfl, rfl⟩; exact ⟨rfl, _, rfl⟩))))
          go_wp2_with fail
          go_ret
          exact ⟨Lx.ret_int (HX.out true true true false _ _ I1.out I2.out (by rw [HF.out]; exact I3.out) I4.out rfl rfl HTV.out HD.out), HB.out.trans (below_drewN _ _ _)⟩
        · have I4 := Lib.hid i4
          have G4 := Lib.hid (show ∀ m : Nat, Calls Tryz.prog 60 #[.bool B4, .int .i64 r, .int .i64 1, .int .i64 9223372036854775807] (W.drewN m) (fun e w' => e = .returned (.bool true) ∧ w' = W.drewN m) from fun m => by have := in_any B4 r 1 9223372036854775807 (W.drewN m); rw [i4] at this; exact this)
          clear i4
          cases i5 : Lx.inV B8 n (t + 1) 4611686018427387904
          · have I5 := Lib.hid i5
            have G5 := Lib.hid (show ∀ m : Nat, Calls Tryz.prog 60 #[.bool B8, .int .i64 n, .int .i64 (t + 1), .int .i64 4611686018427387904] (W.drewN m) (fun e w' => e = .returned (.bool false) ∧ w' = W.drewN m) from fun m => by have := in_any B8 n (t + 1) 4611686018427387904 (W.drewN m); rw [i5] at this; exact this)
            clear i5
            go_quiet ((first | (go_at_call 58; with_reducible refine (U1.out _).mono ?_; (rintro e w ⟨rfl, rfl⟩; exact ⟨rfl, _, rfl⟩)) | (go_at_call 58; with_reducible refine (U2.out _).mono ?_; (rintro e w ⟨rfl, rfl⟩; exact ⟨rfl, _, rfl⟩)) | (go_at_call 58; with_reducible refine (U4.out _).mono ?_; (rintro e w ⟨rfl, rfl⟩; exact ⟨rfl, _, rfl⟩)) | (go_at_call 58; with_reducible refine (U8.out _).mono ?_; (rintro e w ⟨rfl, rfl⟩; exact ⟨rfl, _, rfl⟩)) | (go_at_call 60; with_reducible refine (G1.out _).mono ?_; (rintro e w ⟨rfl, rfl⟩; exact ⟨rfl, _, rfl⟩)) | (go_at_call 60; with_reducible refine (G2.out _).mono ?_; (rintro e w ⟨rfl, rfl⟩; exact ⟨rfl, _, rfl⟩)) | (go_at_call 60; with_reducible refine (G3.out _).mono ?_; (rintro e w ⟨rfl, rfl⟩; exact ⟨rfl, _, rfl⟩)) | (go_at_call 60; with_reducible refine (G4.out _).mono ?_; (rintro e w ⟨rfl, rfl⟩; exact ⟨rfl, _, rfl⟩)) | (go_at_call 60; with_reducible refine (G5.out _).mono ?_; (rintro e w ⟨rfl, rfl⟩; exact ⟨rfl, _, rfl⟩))))
            go_wp2_with fail
            go_ret
            exact ⟨Lx.ret_int (HX.out true true true true false _ I1.out I2.out (by rw [HF.out]; exact I3.out) I4.out I5.out rfl HTV.out HD.out), HB.out.trans (below_drewN _ _ _)⟩
          · have I5 := Lib.hid i5
            have G5 := Lib.hid (show ∀ m : Nat, Calls Tryz.prog 60 #[.bool B8, .int .i64 n, .int .i64 (t + 1), .int .i64 4611686018427387904] (W.drewN m) (fun e w' => e = .returned (.bool true) ∧ w' = W.drewN m) from fun m => by have := in_any B8 n (t + 1) 4611686018427387904 (W.drewN m); rw [i5] at this; exact this)
            clear i5
            cases i6 : Lx.inV B16 y 1 (Lx.yMax q)
            · have I6 := Lib.hid i6
              have G6 := Lib.hid (show ∀ m : Nat, Calls Tryz.prog 60 #[.bool B16, .int .i64 y, .int .i64 1, .int .i64 (Lx.yMax q)] (W.drewN m) (fun e w' => e = .returned (.bool false) ∧ w' = W.drewN m) from fun m => by have := in_any B16 y 1 (Lx.yMax q) (W.drewN m); rw [i6] at this; exact this)
              clear i6
              go_quiet ((first | (go_at_call 58; with_reducible refine (U1.out _).mono ?_; (rintro e w ⟨rfl, rfl⟩; exact ⟨rfl, _, rfl⟩)) | (go_at_call 58; with_reducible refine (U2.out _).mono ?_; (rintro e w ⟨rfl, rfl⟩; exact ⟨rfl, _, rfl⟩)) | (go_at_call 58; with_reducible refine (U4.out _).mono ?_; (rintro e w ⟨rfl, rfl⟩; exact ⟨rfl, _, rfl⟩)) | (go_at_call 58; with_reducible refine (U8.out _).mono ?_; (rintro e w ⟨rfl, rfl⟩; exact ⟨rfl, _, rfl⟩)) | (go_at_call 58; with_reducible refine (U16.out _).mono ?_; (rintro e w ⟨rfl, rfl⟩; exact ⟨rfl, _, rfl⟩)) | (go_at_call 60; with_reducible refine (G1.out _).mono ?_; (rintro e w ⟨rfl, rfl⟩; exact ⟨rfl, _, rfl⟩)) | (go_at_call 60; with_reducible refine (G2.out _).mono ?_; (rintro e w ⟨rfl, rfl⟩; exact ⟨rfl, _, rfl⟩)) | (go_at_call 60; with_reducible refine (G3.out _).mono ?_; (rintro e w ⟨rfl, rfl⟩; exact ⟨rfl, _, rfl⟩)) | (go_at_call 60; with_reducible refine (G4.out _).mono ?_; (rintro e w ⟨rfl, rfl⟩; exact ⟨rfl, _, rfl⟩)) | (go_at_call 60; with_reducible refine (G5.out _).mono ?_; (rintro e w ⟨rfl, rfl⟩; exact ⟨rfl, _, rfl⟩)) | (go_at_call 60; with_reducible refine (G6.out _).mono ?_; (rintro e w ⟨rfl, rfl⟩; exact ⟨rfl, _, rfl⟩))))
              go_wp2_with fail
              go_ret
              exact ⟨Lx.ret_int (HX.out true true true true true false I1.out I2.out (by rw [HF.out]; exact I3.out) I4.out I5.out I6.out HTV.out HD.out), HB.out.trans (below_drewN _ _ _)⟩
            · have I6 := Lib.hid i6
              have G6 := Lib.hid (show ∀ m : Nat, Calls Tryz.prog 60 #[.bool B16, .int .i64 y, .int .i64 1, .int .i64 (Lx.yMax q)] (W.drewN m) (fun e w' => e = .returned (.bool true) ∧ w' = W.drewN m) from fun m => by have := in_any B16 y 1 (Lx.yMax q) (W.drewN m); rw [i6] at this; exact this)
              clear i6
              go_quiet ((first | (go_at_call 58; with_reducible refine (U1.out _).mono ?_; (rintro e w ⟨rfl, rfl⟩; exact ⟨rfl, _, rfl⟩)) | (go_at_call 58; with_reducible refine (U2.out _).mono ?_; (rintro e w ⟨rfl, rfl⟩; exact ⟨rfl, _, rfl⟩)) | (go_at_call 58; with_reducible refine (U4.out _).mono ?_; (rintro e w ⟨rfl, rfl⟩; exact ⟨rfl, _, rfl⟩)) | (go_at_call 58; with_reducible refine (U8.out _).mono ?_; (rintro e w ⟨rfl, rfl⟩; exact ⟨rfl, _, rfl⟩)) | (go_at_call 58; with_reducible refine (U16.out _).mono ?_; (rintro e w ⟨rfl, rfl⟩; exact ⟨rfl, _, rfl⟩)) | (go_at_call 60; with_reducible refine (G1.out _).mono ?_; (rintro e w ⟨rfl, rfl⟩; exact ⟨rfl, _, rfl⟩)) | (go_at_call 60; with_reducible refine (G2.out _).mono ?_; (rintro e w ⟨rfl, rfl⟩; exact ⟨rfl, _, rfl⟩)) | (go_at_call 60; with_reducible refine (G3.out _).mono ?_; (rintro e w ⟨rfl, rfl⟩; exact ⟨rfl, _, rfl⟩)) | (go_at_call 60; with_reducible refine (G4.out _).mono ?_; (rintro e w ⟨rfl, rfl⟩; exact ⟨rfl, _, rfl⟩)) | (go_at_call 60; with_reducible refine (G5.out _).mono ?_; (rintro e w ⟨rfl, rfl⟩; exact ⟨rfl, _, rfl⟩)) | (go_at_call 60; with_reducible refine (G6.out _).mono ?_; (rintro e w ⟨rfl, rfl⟩; exact ⟨rfl, _, rfl⟩))))
              go_wp2_with fail
              go_ret
              exact ⟨Lx.ret_int (HX.out true true true true true true I1.out I2.out (by rw [HF.out]; exact I3.out) I4.out I5.out I6.out HTV.out HD.out), HB.out.trans (below_drewN _ _ _)⟩
set_option maxRecDepth 100000 in
set_option maxHeartbeats 1600000 in
theorem evcheck_fit11 (q : Nat) (t j d a r y n : Int) (w : World) (h1 : 1 ≤ q) (h2 : q < 9) (ht : Lx.timeV t = true) (hu : Lx.useB q 2 = true) (hd : Lx.useB q 2 = true → Lx.timeV d = true) (h4 : ¬ (q : Int) = 4) :
    Calls Tryz.prog 42 #[.agg #[.int .i64 q, .int .i64 t, .int .i64 j, .int .i64 d, .int .i64 a, .int .i64 r, .int .i64 y, .int .i64 n]] w (EvCheckIs (Lx.evErr ⟨q, t, j, d, a, r, y, n⟩) w) := by
  have HTV := Lib.hid ht
  have HD := Lib.hid hd
  have hu0 := Lib.hid hu
  have H4 := Lib.hid h4
  clear ht hd hu h4
  have hba : Below w.heap.size w (w.alloc (.cells #[.int .i64 q, .int .i64 t, .int .i64 j, .int .i64 d, .int .i64 a, .int .i64 r, .int .i64 y, .int .i64 n] 26)) := (Below.refl _ w).alloc (Nat.le_refl _) _
  have BO := Lib.hid (Lx.EvBox.new w q t j d a r y n 26)
  have e0 : decide ((q : Int) < 1) = false := decide_eq_false (by omega)
  have e1 : decide (9 ≤ (q : Int)) = false := decide_eq_false (by omega)
  have hq : (q : Int) < 9 := by omega
  obtain ⟨u1, u2, u4, u8, u16⟩ := Lx.use_all h1 h2
  have HX := Lib.hid (show ∀ b1 b2 b3 b4 b5 b6 : Bool, Lx.inV (Lx.useB q 1) j 0 63 = b1 → Lx.inV (Lx.useB q 2) d 0 t = b2 → Lx.inV (Lx.useB q 2) a (Lx.aMin q) 21 = b3 → Lx.inV (Lx.useB q 4) r 1 9223372036854775807 = b4 → Lx.inV (Lx.useB q 8) n (t + 1) 4611686018427387904 = b5 → Lx.inV (Lx.useB q 16) y 1 (Lx.yMax q) = b6 → Lx.timeV t = true → (Lx.useB q 2 = true → Lx.timeV d = true) → (if (b1 && (b2 && (b3 && (b4 && (b5 && b6))))) = true then (0 : Int) else 2) = Lx.evErr ⟨q, t, j, d, a, r, y, n⟩ from by
    intro b1 b2 b3 b4 b5 b6 i1 i2 i3 i4 i5 i6 ht hd
    unfold Lx.evErr Lx.fitB
    simp only
    have hc : ¬ (Lx.timeV t = false ∨ (Lx.useB q 2 = true ∧ Lx.timeV d = false)) := by
      rintro (h | ⟨h, h'⟩)
      · rw [ht] at h; cases h
      · rw [hd h] at h'; cases h'
    rw [if_neg (show ¬ ((q : Int) < 1 ∨ 8 < (q : Int)) by omega), ← u1, ← u2, ← u4, ← u8, ← u16, i1, i2, i3, i4, i5, i6, if_neg hc])
  have HT := Lib.hid (show Lx.timeV t = false ∨ (Lx.useB q 2 = true ∧ Lx.timeV d = false) → 14 = Lx.evErr ⟨q, t, j, d, a, r, y, n⟩ from by
    intro h
    unfold Lx.evErr
    simp only
    rw [if_neg (by omega), ← u2, if_pos h])
  generalize Lx.evErr ⟨q, t, j, d, a, r, y, n⟩ = x at *
  clear u1 u2 u4 u8 u16
  go_enter Tryz.func42, Tryz.ntmps42
  go_wp2_with fail
  refine (kinds_any _).mono ?_
  rintro e w1 ⟨g, rfl, hg, hk, hb⟩
  obtain ⟨c0, c1, c2⟩ := hk.2 q h2
  have BO1 := Lib.hid (BO.out.below hb)
  have hb1 := hba.trans (hb.mono hba.size)
  have hbk := hb1.alloc hb1.size (.cells #[.string ⟨(Lx.evWord q).toArray⟩, .int .i64 (Lx.usesN q), .int .i64 (Lx.yMax q)] 69)
  have BO2 := BO1.out.below ((Below.refl _ w1).alloc (Nat.le_refl _) (.cells #[.string ⟨(Lx.evWord q).toArray⟩, .int .i64 (Lx.usesN q), .int .i64 (Lx.yMax q)] 69))
  have n1 : (w1.alloc (.cells #[.string ⟨(Lx.evWord q).toArray⟩, .int .i64 (Lx.usesN q), .int .i64 (Lx.yMax q)] 69)).cell? ⟨w1.heap.size, 1, none⟩ = some (.int .i64 (Lx.usesN q)) := by simp
  have n2 : (w1.alloc (.cells #[.string ⟨(Lx.evWord q).toArray⟩, .int .i64 (Lx.usesN q), .int .i64 (Lx.yMax q)] 69)).cell? ⟨w1.heap.size, 2, none⟩ = some (.int .i64 (Lx.yMax q)) := by simp
  obtain ⟨q0, -, -, -, -, -, -, -⟩ := BO1.out.eight
  obtain ⟨p0, p1, p2, p3, p4, p5, p6, p7⟩ := BO2.eight
  have N1 := Lib.hid n1
  have HB := Lib.hid hbk
  clear hk hb hb1 hba BO hbk BO1 BO2 hg
  go_wp2_with fail
  refine (valid_any t _).mono ?_
  rintro e w2 ⟨rfl, rfl⟩
  have ht' := HTV.out
  go_wp2_with fail
  clear ht'
  refine (uses_any q 2 _ _ N1.out).mono ?_
  rintro e w2 ⟨rfl, rfl⟩
  have hu := hu0.out
  clear HT
  have h4 := H4.out
  have HF := Lib.hid (show Lx.aMin q = 1 from by unfold Lx.aMin; rw [if_neg h4])
  have e4 : ((q : Int) == 4) = false := by rw [beq_eq_false_iff_ne]; exact h4
  clear h4
  go_wp2_with fail
  refine (valid_any d _).mono ?_
  rintro e w2 ⟨rfl, rfl⟩
  have hv := HD.out hu
  go_wp2_with fail
  clear hv
  clear hu
  go_wp2_with fail
  have ht0 := (of_decide_eq_true HTV.out : 0 ≤ t ∧ t ≤ 253402300799).1
  have ht1 := (of_decide_eq_true HTV.out : 0 ≤ t ∧ t ≤ 253402300799).2
  clear hu0
  obtain ⟨W, hW⟩ : ∃ W, W = w1.alloc (.cells #[.string ⟨(Lx.evWord q).toArray⟩, .int .i64 (Lx.usesN q), .int .i64 (Lx.yMax q)] 69) := ⟨_, rfl⟩
  rw [← hW] at N1 HB p0 p1 p2 p3 p4 p5 p6 p7 n1 n2 ⊢
  clear hW q0 c0 c1 c2 e0 e1 e4 h1 h2
  have U1 := Lib.hid (fun (m : Nat) => uses_any q 1 w1.heap.size (W.drewN m) N1.out)
  have U2 := Lib.hid (fun (m : Nat) => uses_any q 2 w1.heap.size (W.drewN m) N1.out)
  have U4 := Lib.hid (fun (m : Nat) => uses_any q 4 w1.heap.size (W.drewN m) N1.out)
  have U8 := Lib.hid (fun (m : Nat) => uses_any q 8 w1.heap.size (W.drewN m) N1.out)
  have U16 := Lib.hid (fun (m : Nat) => uses_any q 16 w1.heap.size (W.drewN m) N1.out)
  generalize Lx.useB q 1 = B1 at *
  generalize Lx.useB q 2 = B2 at *
  generalize Lx.useB q 4 = B4 at *
  generalize Lx.useB q 8 = B8 at *
  generalize Lx.useB q 16 = B16 at *
  cases i1 : Lx.inV B1 j 0 63
  · have I1 := Lib.hid i1
    have G1 := Lib.hid (show ∀ m : Nat, Calls Tryz.prog 60 #[.bool B1, .int .i64 j, .int .i64 0, .int .i64 63] (W.drewN m) (fun e w' => e = .returned (.bool false) ∧ w' = W.drewN m) from fun m => by have := in_any B1 j 0 63 (W.drewN m); rw [i1] at this; exact this)
    clear i1
    go_quiet ((first | (go_at_call 58; with_reducible refine (U1.out _).mono ?_; (rintro e w ⟨rfl, rfl⟩; exact ⟨rfl, _, rfl⟩)) | (go_at_call 60; with_reducible refine (G1.out _).mono ?_; (rintro e w ⟨rfl, rfl⟩; exact ⟨rfl, _, rfl⟩))))
    go_wp2_with fail
    go_ret
    exact ⟨Lx.ret_int (HX.out false _ _ _ _ _ I1.out rfl rfl rfl rfl rfl HTV.out HD.out), HB.out.trans (below_drewN _ _ _)⟩
  · have I1 := Lib.hid i1
    have G1 := Lib.hid (show ∀ m : Nat, Calls Tryz.prog 60 #[.bool B1, .int .i64 j, .int .i64 0, .int .i64 63] (W.drewN m) (fun e w' => e = .returned (.bool true) ∧ w' = W.drewN m) from fun m => by have := in_any B1 j 0 63 (W.drewN m); rw [i1] at this; exact this)
    clear i1
    cases i2 : Lx.inV B2 d 0 t
    · have I2 := Lib.hid i2
      have G2 := Lib.hid (show ∀ m : Nat, Calls Tryz.prog 60 #[.bool B2, .int .i64 d, .int .i64 0, .int .i64 t] (W.drewN m) (fun e w' => e = .returned (.bool false) ∧ w' = W.drewN m) from fun m => by have := in_any B2 d 0 t (W.drewN m); rw [i2] at this; exact this)
      clear i2
      go_quiet ((first | (go_at_call 58; with_reducible refine (U1.out _).mono ?_; (rintro e w ⟨rfl, rfl⟩; exact ⟨rfl, _, rfl⟩)) | (go_at_call 58; with_reducible refine (U2.out _).mono ?_; (rintro e w ⟨rfl, rfl⟩; exact ⟨rfl, _, rfl⟩)) | (go_at_call 60; with_reducible refine (G1.out _).mono ?_; (rintro e w ⟨rfl, rfl⟩; exact ⟨rfl, _, rfl⟩)) | (go_at_call 60; with_reducible refine (G2.out _).mono ?_; (rintro e w ⟨rfl, rfl⟩; exact ⟨rfl, _, rfl⟩))))
      go_wp2_with fail
      go_ret
      exact ⟨Lx.ret_int (HX.out true false _ _ _ _ I1.out I2.out rfl rfl rfl rfl HTV.out HD.out), HB.out.trans (below_drewN _ _ _)⟩
    · have I2 := Lib.hid i2
      have G2 := Lib.hid (show ∀ m : Nat, Calls Tryz.prog 60 #[.bool B2, .int .i64 d, .int .i64 0, .int .i64 t] (W.drewN m) (fun e w' => e = .returned (.bool true) ∧ w' = W.drewN m) from fun m => by have := in_any B2 d 0 t (W.drewN m); rw [i2] at this; exact this)
      clear i2
      cases i3 : Lx.inV B2 a 1 21
      · have I3 := Lib.hid i3
        have G3 := Lib.hid (show ∀ m : Nat, Calls Tryz.prog 60 #[.bool B2, .int .i64 a, .int .i64 1, .int .i64 21] (W.drewN m) (fun e w' => e = .returned (.bool false) ∧ w' = W.drewN m) from fun m => by have := in_any B2 a 1 21 (W.drewN m); rw [i3] at this; exact this)
        clear i3
        go_quiet ((first | (go_at_call 58; with_reducible refine (U1.out _).mono ?_; (rintro e w ⟨rfl, rfl⟩; exact ⟨rfl, _, rfl⟩)) | (go_at_call 58; with_reducible refine (U2.out _).mono ?_; (rintro e w ⟨rfl, rfl⟩; exact ⟨rfl, _, rfl⟩)) | (go_at_call 60; with_reducible refine (G1.out _).mono ?_; (rintro e w ⟨rfl, rfl⟩; exact ⟨rfl, _, rfl⟩)) | (go_at_call 60; with_reducible refine (G2.out _).mono ?_; (rintro e w ⟨rfl, rfl⟩; exact ⟨rfl, _, rfl⟩)) | (go_at_call 60; with_reducible refine (G3.out _).mono ?_; (rintro e w ⟨rfl, rfl⟩; exact ⟨rfl, _, rfl⟩))))
        go_wp2_with fail
        go_ret
        exact ⟨Lx.ret_int (HX.out true true false _ _ _ I1.out I2.out (by rw [HF.out]; exact I3.out) rfl rfl rfl HTV.out HD.out), HB.out.trans (below_drewN _ _ _)⟩
      · have I3 := Lib.hid i3
        have G3 := Lib.hid (show ∀ m : Nat, Calls Tryz.prog 60 #[.bool B2, .int .i64 a, .int .i64 1, .int .i64 21] (W.drewN m) (fun e w' => e = .returned (.bool true) ∧ w' = W.drewN m) from fun m => by have := in_any B2 a 1 21 (W.drewN m); rw [i3] at this; exact this)
        clear i3
        cases i4 : Lx.inV B4 r 1 9223372036854775807
        · have I4 := Lib.hid i4
          have G4 := Lib.hid (show ∀ m : Nat, Calls Tryz.prog 60 #[.bool B4, .int .i64 r, .int .i64 1, .int .i64 9223372036854775807] (W.drewN m) (fun e w' => e = .returned (.bool false) ∧ w' = W.drewN m) from fun m => by have := in_any B4 r 1 9223372036854775807 (W.drewN m); rw [i4] at this; exact this)
          clear i4
          go_quiet ((first | (go_at_call 58; with_reducible refine (U1.out _).mono ?_; (rintro e w ⟨rfl, rfl⟩; exact ⟨rfl, _, rfl⟩)) | (go_at_call 58; with_reducible refine (U2.out _).mono ?_; (rintro e w ⟨rfl, rfl⟩; exact ⟨rfl, _, rfl⟩)) | (go_at_call 58; with_reducible refine (U4.out _).mono ?_; (rintro e w ⟨rfl, rfl⟩; exact ⟨rfl, _, rfl⟩)) | (go_at_call 60; with_reducible refine (G1.out _).mono ?_; (rintro e w ⟨rfl, rfl⟩; exact ⟨rfl, _, rfl⟩)) | (go_at_call 60; with_reducible refine (G2.out _).mono ?_; (rintro e w ⟨rfl, rfl⟩; exact ⟨rfl, _, rfl⟩)) | (go_at_call 60; with_reducible refine (G3.out _).mono ?_; (rintro e w ⟨rfl, rfl⟩; exact ⟨rfl, _, rfl⟩)) | (go_at_call 60; with_reducible refine (G4.out _).mono ?_; (rintro e w ⟨rfl, rfl⟩; exact ⟨rfl, _, rfl⟩))))
          go_wp2_with fail
          go_ret
          exact ⟨Lx.ret_int (HX.out true true true false _ _ I1.out I2.out (by rw [HF.out]; exact I3.out) I4.out rfl rfl HTV.out HD.out), HB.out.trans (below_drewN _ _ _)⟩
        · have I4 := Lib.hid i4
          have G4 := Lib.hid (show ∀ m : Nat, Calls Tryz.prog 60 #[.bool B4, .int .i64 r, .int .i64 1, .int .i64 9223372036854775807] (W.drewN m) (fun e w' => e = .returned (.bool true) ∧ w' = W.drewN m) from fun m => by have := in_any B4 r 1 9223372036854775807 (W.drewN m); rw [i4] at this; exact this)
          clear i4
          cases i5 : Lx.inV B8 n (t + 1) 4611686018427387904
          · have I5 := Lib.hid i5
            have G5 := Lib.hid (show ∀ m : Nat, Calls Tryz.prog 60 #[.bool B8, .int .i64 n, .int .i64 (t + 1), .int .i64 4611686018427387904] (W.drewN m) (fun e w' => e = .returned (.bool false) ∧ w' = W.drewN m) from fun m => by have := in_any B8 n (t + 1) 4611686018427387904 (W.drewN m); rw [i5] at this; exact this)
            clear i5
            go_quiet ((first | (go_at_call 58; with_reducible refine (U1.out _).mono ?_; (rintro e w ⟨rfl, rfl⟩; exact ⟨rfl, _, rfl⟩)) | (go_at_call 58; with_reducible refine (U2.out _).mono ?_; (rintro e w ⟨rfl, rfl⟩; exact ⟨rfl, _, rfl⟩)) | (go_at_call 58; with_reducible refine (U4.out _).mono ?_; (rintro e w ⟨rfl, rfl⟩; exact ⟨rfl, _, rfl⟩)) | (go_at_call 58; with_reducible refine (U8.out _).mono ?_; (rintro e w ⟨rfl, rfl⟩; exact ⟨rfl, _, rfl⟩)) | (go_at_call 60; with_reducible refine (G1.out _).mono ?_; (rintro e w ⟨rfl, rfl⟩; exact ⟨rfl, _, rfl⟩)) | (go_at_call 60; with_reducible refine (G2.out _).mono ?_; (rintro e w ⟨rfl, rfl⟩; exact ⟨rfl, _, rfl⟩)) | (go_at_call 60; with_reducible refine (G3.out _).mono ?_; (rintro e w ⟨rfl, rfl⟩; exact ⟨rfl, _, rfl⟩)) | (go_at_call 60; with_reducible refine (G4.out _).mono ?_; (rintro e w ⟨rfl, rfl⟩; exact ⟨rfl, _, rfl⟩)) | (go_at_call 60; with_reducible refine (G5.out _).mono ?_; (rintro e w ⟨rfl, rfl⟩; exact ⟨rfl, _, rfl⟩))))
            go_wp2_with fail
            go_ret
            exact ⟨Lx.ret_int (HX.out true true true true false _ I1.out I2.out (by rw [HF.out]; exact I3.out) I4.out I5.out rfl HTV.out HD.out), HB.out.trans (below_drewN _ _ _)⟩
          · have I5 := Lib.hid i5
            have G5 := Lib.hid (show ∀ m : Nat, Calls Tryz.prog 60 #[.bool B8, .int .i64 n, .int .i64 (t + 1), .int .i64 4611686018427387904] (W.drewN m) (fun e w' => e = .returned (.bool true) ∧ w' = W.drewN m) from fun m => by have := in_any B8 n (t + 1) 4611686018427387904 (W.drewN m); rw [i5] at this; exact this)
            clear i5
            cases i6 : Lx.inV B16 y 1 (Lx.yMax q)
            · have I6 := Lib.hid i6
              have G6 := Lib.hid (show ∀ m : Nat, Calls Tryz.prog 60 #[.bool B16, .int .i64 y, .int .i64 1, .int .i64 (Lx.yMax q)] (W.drewN m) (fun e w' => e = .returned (.bool false) ∧ w' = W.drewN m) from fun m => by have := in_any B16 y 1 (Lx.yMax q) (W.drewN m); rw [i6] at this; exact this)
              clear i6
              go_quiet ((first | (go_at_call 58; with_reducible refine (U1.out _).mono ?_; (rintro e w ⟨rfl, rfl⟩; exact ⟨rfl, _, rfl⟩)) | (go_at_call 58; with_reducible refine (U2.out _).mono ?_; (rintro e w ⟨rfl, rfl⟩; exact ⟨rfl, _, rfl⟩)) | (go_at_call 58; with_reducible refine (U4.out _).mono ?_; (rintro e w ⟨rfl, rfl⟩; exact ⟨rfl, _, rfl⟩)) | (go_at_call 58; with_reducible refine (U8.out _).mono ?_; (rintro e w ⟨rfl, rfl⟩; exact ⟨rfl, _, rfl⟩)) | (go_at_call 58; with_reducible refine (U16.out _).mono ?_; (rintro e w ⟨rfl, rfl⟩; exact ⟨rfl, _, rfl⟩)) | (go_at_call 60; with_reducible refine (G1.out _).mono ?_; (rintro e w ⟨rfl, rfl⟩; exact ⟨rfl, _, rfl⟩)) | (go_at_call 60; with_reducible refine (G2.out _).mono ?_; (rintro e w ⟨rfl, rfl⟩; exact ⟨rfl, _, rfl⟩)) | (go_at_call 60; with_reducible refine (G3.out _).mono ?_; (rintro e w ⟨rfl, rfl⟩; exact ⟨rfl, _, rfl⟩)) | (go_at_call 60; with_reducible refine (G4.out _).mono ?_; (rintro e w ⟨rfl, rfl⟩; exact ⟨rfl, _, rfl⟩)) | (go_at_call 60; with_reducible refine (G5.out _).mono ?_; (rintro e w ⟨rfl, rfl⟩; exact ⟨rfl, _, rfl⟩)) | (go_at_call 60; with_reducible refine (G6.out _).mono ?_; (rintro e w ⟨rfl, rfl⟩; exact ⟨rfl, _, rfl⟩))))
              go_wp2_with fail
              go_ret
              exact ⟨Lx.ret_int (HX.out true true true true true false I1.out I2.out (by rw [HF.out]; exact I3.out) I4.out I5.out I6.out HTV.out HD.out), HB.out.trans (below_drewN _ _ _)⟩
            · have I6 := Lib.hid i6
              have G6 := Lib.hid (show ∀ m : Nat, Calls Tryz.prog 60 #[.bool B16, .int .i64 y, .int .i64 1, .int .i64 (Lx.yMax q)] (W.drewN m) (fun e w' => e = .returned (.bool true) ∧ w' = W.drewN m) from fun m => by have := in_any B16 y 1 (Lx.yMax q) (W.drewN m); rw [i6] at this; exact this)
              clear i6
              go_quiet ((first | (go_at_call 58; with_reducible refine (U1.out _).mono ?_; (rintro e w ⟨rfl, rfl⟩; exact ⟨rfl, _, rfl⟩)) | (go_at_call 58; with_reducible refine (U2.out _).mono ?_; (rintro e w ⟨rfl, rfl⟩; exact ⟨rfl, _, rfl⟩)) | (go_at_call 58; with_reducible refine (U4.out _).mono ?_; (rintro e w ⟨rfl, rfl⟩; exact ⟨rfl, _, rfl⟩)) | (go_at_call 58; with_reducible refine (U8.out _).mono ?_; (rintro e w ⟨rfl, rfl⟩; exact ⟨rfl, _, rfl⟩)) | (go_at_call 58; with_reducible refine (U16.out _).mono ?_; (rintro e w ⟨rfl, rfl⟩; exact ⟨rfl, _, rfl⟩)) | (go_at_call 60; with_reducible refine (G1.out _).mono ?_; (rintro e w ⟨rfl, rfl⟩; exact ⟨rfl, _, rfl⟩)) | (go_at_call 60; with_reducible refine (G2.out _).mono ?_; (rintro e w ⟨rfl, rfl⟩; exact ⟨rfl, _, rfl⟩)) | (go_at_call 60; with_reducible refine (G3.out _).mono ?_; (rintro e w ⟨rfl, rfl⟩; exact ⟨rfl, _, rfl⟩)) | (go_at_call 60; with_reducible refine (G4.out _).mono ?_; (rintro e w ⟨rfl, rfl⟩; exact ⟨rfl, _, rfl⟩)) | (go_at_call 60; with_reducible refine (G5.out _).mono ?_; (rintro e w ⟨rfl, rfl⟩; exact ⟨rfl, _, rfl⟩)) | (go_at_call 60; with_reducible refine (G6.out _).mono ?_; (rintro e w ⟨rfl, rfl⟩; exact ⟨rfl, _, rfl⟩))))
              go_wp2_with fail
              go_ret
              exact ⟨Lx.ret_int (HX.out true true true true true true I1.out I2.out (by rw [HF.out]; exact I3.out) I4.out I5.out I6.out HTV.out HD.out), HB.out.trans (below_drewN _ _ _)⟩
theorem evcheck_any (o : Lx.EvV) (w : World) : Calls Tryz.prog 42 #[o.val] w (EvCheckIs (Lx.evErr o) w) := by
  obtain ⟨k, t, j, d, a, r, y, n⟩ := o
  by_cases h : k < 1 ∨ 8 < k
  · rw [show Lx.evErr ⟨k, t, j, d, a, r, y, n⟩ = 2 from by unfold Lx.evErr; rw [if_pos h]]
    exact evcheck_out k t j d a r y n w h
  obtain ⟨q, rfl⟩ : ∃ q : Nat, k = q := ⟨k.toNat, by omega⟩
  have h1 : 1 ≤ q := by omega
  have h2 : q < 9 := by omega
  by_cases hh : Lx.timeV t = false ∨ (Lx.useB q 2 = true ∧ Lx.timeV d = false)
  · exact evcheck_tm q t j d a r y n w h1 h2 hh
  have ht : Lx.timeV t = true := by
    cases hv : Lx.timeV t
    · exact absurd (.inl hv) hh
    · rfl
  have hd : Lx.useB q 2 = true → Lx.timeV d = true := fun h => by
    cases hv : Lx.timeV d
    · exact absurd (.inr ⟨h, hv⟩) hh
    · rfl
  cases hu : Lx.useB q 2 <;> by_cases h4 : (q : Int) = 4
  · exact evcheck_fit00 q t j d a r y n w h1 h2 ht hu hd h4
  · exact evcheck_fit01 q t j d a r y n w h1 h2 ht hu hd h4
  · exact evcheck_fit10 q t j d a r y n w h1 h2 ht hu hd h4
  · exact evcheck_fit11 q t j d a r y n w h1 h2 ht hu hd h4
end Go.Proofs.YtmpcekpdnikghaaGreatDoor
