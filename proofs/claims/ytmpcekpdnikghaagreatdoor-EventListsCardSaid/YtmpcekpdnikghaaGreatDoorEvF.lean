/- Plain facts: when what event.read has read counts. No program in sight. -/
import Derived.Test.YtmpcekpdnikghaaGreatDoorEvRd
namespace Go.Proofs.YtmpcekpdnikghaaGreatDoor.Lx
open Go Go.RowKit

theorem nOk_lt {Q : List (List UInt8)} {i : Nat} (h : nOk (pAt Q i) = true) : i < Q.length := by
  rcases Nat.lt_or_ge i Q.length with hl | hl
  · exact hl
  · unfold pAt at h
    rw [List.getD_eq_getElem?_getD, List.getElem?_eq_none hl] at h
    exact absurd h (by decide)
theorem nHit_lt {NS : List ByteArray} (hN : NOk NS) {Q : List (List UInt8)} {i : Nat} (h : nHit NS (pAt Q i) = true) : i < Q.length := by
  rcases Nat.lt_or_ge i Q.length with hl | hl
  · exact hl
  · unfold pAt at h
    rw [List.getD_eq_getElem?_getD, List.getElem?_eq_none hl] at h
    rw [show ((none : Option (List UInt8)).getD []) = [] from rfl, nHit_nil hN.2.1] at h
    cases h
theorem bl_len (P : List ByteArray) : (bl P).length = P.length := by unfold bl; rw [List.length_map]
theorem fin {NS : List ByteArray} (hN : NOk NS) {l : List UInt8} {P : List ByteArray} (hP : Pcs l (bl P)) {b : Bool} {len : Nat} {o : EvV} (h : (b = false ∧ len = 0) ↔ rdOk NS (bl P)) (ho : rdE NS (bl P) = o) :
    (b = false → len = 0 → evErr o = 0 → ReadsEv NS l o 0) ∧ (¬ (b = false ∧ len = 0 ∧ evErr o = 0) → ReadsEv NS l evZ 10) := by
  subst ho
  refine ⟨fun h1 h2 h3 => .inl ⟨rfl, rd_ok hN hP (h.1 ⟨h1, h2⟩) ((evErr_good _).1 h3)⟩, fun hn => rd_no hN hP (fun hc => hn ?_)⟩
  obtain ⟨h1, h2⟩ := h.2 hc.1
  exact ⟨h1, h2, (evErr_good _).2 hc.2⟩
theorem dec_no {n i : Nat} : decide (n ≤ i) = false ↔ i < n := by rw [decide_eq_false_iff_not]; omega
theorem ok_0 {NS : List ByteArray} {P : List ByteArray} (hk : kindOf (pAt (bl P) 1) = 0) : ¬ rdOk NS (bl P) := by
  unfold rdOk; rw [hk]; simp
theorem fin_0 {NS : List ByteArray} (hN : NOk NS) {l : List UInt8} {P : List ByteArray} (hP : Pcs l (bl P)) (hk : kindOf (pAt (bl P) 1) = 0) : ReadsEv NS l evZ 10 := rd_no hN hP (fun h => ok_0 hk h.1)
theorem ok_r {NS : List ByteArray} {P : List ByteArray} {k : Int} (hk : kindOf (pAt (bl P) 1) = k) (h1 : 1 ≤ k) (h3 : k ≤ 3) :
    ((((((((false || !nOk (pAt (bl P) 0)) || decide (P.length ≤ 1)) || decide (P.length ≤ 2)) || !nHit NS (pAt (bl P) 2)) || !nOk (pAt (bl P) 3)) || !nOk (pAt (bl P) 4)) || !nOk (pAt (bl P) 5)) = false ∧ P.length - min 6 P.length = 0) ↔ rdOk NS (bl P) := by
  unfold rdOk
  rw [hk]
  simp only
  rw [if_neg (by omega), if_pos h3, bl_len]
  have e5 := fun h => nOk_lt (Q := bl P) (i := 5) h
  rw [bl_len] at e5
  simp only [Bool.or_eq_false_iff, Bool.not_eq_false', dec_no]
  constructor
  · rintro ⟨⟨⟨⟨⟨⟨⟨⟨_, a⟩, b⟩, c⟩, d⟩, e⟩, f⟩, g⟩, hl⟩
    have := e5 g
    exact ⟨by omega, a, d, e, f, g⟩
  · rintro ⟨hl, a, d, e, f, g⟩
    exact ⟨⟨⟨⟨⟨⟨⟨⟨trivial, a⟩, by omega⟩, by omega⟩, d⟩, e⟩, f⟩, g⟩, by omega⟩
theorem ok_y {NS : List ByteArray} {P : List ByteArray} (hk : kindOf (pAt (bl P) 1) = 5) :
    (((((((((false || !nOk (pAt (bl P) 0)) || decide (P.length ≤ 1)) || decide (P.length ≤ 2)) || !nHit NS (pAt (bl P) 2)) || !nOk (pAt (bl P) 3)) || !nOk (pAt (bl P) 4)) || decide (P.length ≤ 5)) || !rHit (pAt (bl P) 5)) = false ∧ P.length - min 6 P.length = 0) ↔ rdOk NS (bl P) := by
  unfold rdOk
  rw [hk]
  simp only
  rw [if_neg (by omega), if_neg (by omega), if_neg (by omega), if_pos trivial, bl_len]
  simp only [Bool.or_eq_false_iff, Bool.not_eq_false', dec_no]
  constructor
  · rintro ⟨⟨⟨⟨⟨⟨⟨⟨⟨_, a⟩, b⟩, c⟩, d⟩, e⟩, f⟩, g⟩, y⟩, hl⟩
    exact ⟨by omega, a, d, e, f, y⟩
  · rintro ⟨hl, a, d, e, f, y⟩
    exact ⟨⟨⟨⟨⟨⟨⟨⟨⟨trivial, a⟩, by omega⟩, by omega⟩, d⟩, e⟩, f⟩, by omega⟩, y⟩, by omega⟩
theorem ok_z {NS : List ByteArray} {P : List ByteArray} (hk : kindOf (pAt (bl P) 1) = 6) :
    ((((false || !nOk (pAt (bl P) 0)) || decide (P.length ≤ 1)) || !nOk (pAt (bl P) 2)) = false ∧ P.length - min 3 P.length = 0) ↔ rdOk NS (bl P) := by
  unfold rdOk
  rw [hk]
  simp only
  rw [if_neg (by omega), if_neg (by omega), if_neg (by omega), if_neg (by omega), if_pos trivial, bl_len]
  have e5 := fun h => nOk_lt (Q := bl P) (i := 2) h
  rw [bl_len] at e5
  simp only [Bool.or_eq_false_iff, Bool.not_eq_false', dec_no]
  constructor
  · rintro ⟨⟨⟨⟨_, a⟩, b⟩, y⟩, hl⟩
    have := e5 y
    exact ⟨by omega, a, y⟩
  · rintro ⟨hl, a, y⟩
    exact ⟨⟨⟨⟨trivial, a⟩, by omega⟩, y⟩, by omega⟩
theorem ok_8 {NS : List ByteArray} {P : List ByteArray} (hk : kindOf (pAt (bl P) 1) = 8) :
    (((((false || !nOk (pAt (bl P) 0)) || decide (P.length ≤ 1)) || decide (P.length ≤ 2)) || !nHit NS (pAt (bl P) 2)) = false ∧ P.length - min 3 P.length = 0) ↔ rdOk NS (bl P) := by
  unfold rdOk
  rw [hk]
  simp only
  rw [if_neg (by omega), if_neg (by omega), if_neg (by omega), if_neg (by omega), if_neg (by omega), if_neg (by omega), bl_len]
  simp only [Bool.or_eq_false_iff, Bool.not_eq_false', dec_no]
  constructor
  · rintro ⟨⟨⟨⟨⟨_, a⟩, b⟩, c⟩, d⟩, hl⟩
    exact ⟨by omega, a, d⟩
  · rintro ⟨hl, a, d⟩
    exact ⟨⟨⟨⟨⟨trivial, a⟩, by omega⟩, by omega⟩, d⟩, by omega⟩
/-- A time that may be never, at place i: the part is never and the last. -/
theorem ok_4n {NS : List ByteArray} {P : List ByteArray} (hk : kindOf (pAt (bl P) 1) = 4) (h5 : pAt (bl P) 5 = neverW) :
    ((((((((false || !nOk (pAt (bl P) 0)) || decide (P.length ≤ 1)) || decide (P.length ≤ 2)) || !nHit NS (pAt (bl P) 2)) || !nOk (pAt (bl P) 3)) || !nOk (pAt (bl P) 4)) || decide (P.length ≤ 5)) = false ∧ P.length - min 6 P.length = 0) ↔ rdOk NS (bl P) := by
  unfold rdOk
  rw [hk]
  simp only
  rw [if_neg (by omega), if_neg (by omega), if_pos trivial, bl_len]
  have ht : tOk (pAt (bl P) 5) true = true := by rw [h5]; decide
  simp only [Bool.or_eq_false_iff, Bool.not_eq_false', dec_no]
  constructor
  · rintro ⟨⟨⟨⟨⟨⟨⟨⟨_, a⟩, b⟩, c⟩, d⟩, e⟩, f⟩, g⟩, hl⟩
    exact ⟨by omega, a, d, e, f, ht⟩
  · rintro ⟨hl, a, d, e, f, y⟩
    exact ⟨⟨⟨⟨⟨⟨⟨⟨trivial, a⟩, by omega⟩, by omega⟩, d⟩, e⟩, f⟩, by omega⟩, by omega⟩
theorem tOk_num {p : List UInt8} (h : p ≠ neverW) : tOk p true = (nOk p && !decide (numRes p = 4611686018427387904)) := by
  unfold tOk nOk
  rw [if_neg (fun c => h c.2), Bool.eq_iff_iff]
  simp
theorem ok_4t {NS : List ByteArray} {P : List ByteArray} (hk : kindOf (pAt (bl P) 1) = 4) (h : ¬ (P.length - min 5 P.length = 1 ∧ pAt (bl P) 5 = neverW)) :
    (((((((((false || !nOk (pAt (bl P) 0)) || decide (P.length ≤ 1)) || decide (P.length ≤ 2)) || !nHit NS (pAt (bl P) 2)) || !nOk (pAt (bl P) 3)) || !nOk (pAt (bl P) 4)) || !nOk (pAt (bl P) 5)) || decide (numRes (pAt (bl P) 5) = 4611686018427387904)) = false ∧ P.length - min 6 P.length = 0) ↔ rdOk NS (bl P) := by
  unfold rdOk
  rw [hk]
  simp only
  rw [if_neg (by omega), if_neg (by omega), if_pos trivial, bl_len]
  have e5 := fun h => nOk_lt (Q := bl P) (i := 5) h
  rw [bl_len] at e5
  simp only [Bool.or_eq_false_iff, Bool.not_eq_false', dec_no]
  constructor
  · rintro ⟨⟨⟨⟨⟨⟨⟨⟨⟨_, a⟩, b⟩, c⟩, d⟩, e⟩, f⟩, g⟩, y⟩, hl⟩
    have := e5 g
    refine ⟨by omega, a, d, e, f, ?_⟩
    rw [tOk_num (fun c => h ⟨by omega, c⟩), g, y]; rfl
  · rintro ⟨hl, a, d, e, f, y⟩
    have hne : pAt (bl P) 5 ≠ neverW := fun c => h ⟨by omega, c⟩
    rw [tOk_num hne, Bool.and_eq_true, Bool.not_eq_true'] at y
    exact ⟨⟨⟨⟨⟨⟨⟨⟨⟨trivial, a⟩, by omega⟩, by omega⟩, d⟩, e⟩, f⟩, y.1⟩, y.2⟩, by omega⟩
theorem ok_7n {NS : List ByteArray} {P : List ByteArray} (hk : kindOf (pAt (bl P) 1) = 7) (h5 : pAt (bl P) 3 = neverW) :
    ((((((false || !nOk (pAt (bl P) 0)) || decide (P.length ≤ 1)) || decide (P.length ≤ 2)) || !nHit NS (pAt (bl P) 2)) || decide (P.length ≤ 3)) = false ∧ P.length - min 4 P.length = 0) ↔ rdOk NS (bl P) := by
  unfold rdOk
  rw [hk]
  simp only
  rw [if_neg (by omega), if_neg (by omega), if_neg (by omega), if_neg (by omega), if_neg (by omega), if_pos trivial, bl_len]
  have ht : tOk (pAt (bl P) 3) true = true := by rw [h5]; decide
  simp only [Bool.or_eq_false_iff, Bool.not_eq_false', dec_no]
  constructor
  · rintro ⟨⟨⟨⟨⟨⟨_, a⟩, b⟩, c⟩, d⟩, g⟩, hl⟩
    exact ⟨by omega, a, d, ht⟩
  · rintro ⟨hl, a, d, y⟩
    exact ⟨⟨⟨⟨⟨⟨trivial, a⟩, by omega⟩, by omega⟩, d⟩, by omega⟩, by omega⟩
theorem ok_7t {NS : List ByteArray} {P : List ByteArray} (hk : kindOf (pAt (bl P) 1) = 7) (h : ¬ (P.length - min 3 P.length = 1 ∧ pAt (bl P) 3 = neverW)) :
    (((((((false || !nOk (pAt (bl P) 0)) || decide (P.length ≤ 1)) || decide (P.length ≤ 2)) || !nHit NS (pAt (bl P) 2)) || !nOk (pAt (bl P) 3)) || decide (numRes (pAt (bl P) 3) = 4611686018427387904)) = false ∧ P.length - min 4 P.length = 0) ↔ rdOk NS (bl P) := by
  unfold rdOk
  rw [hk]
  simp only
  rw [if_neg (by omega), if_neg (by omega), if_neg (by omega), if_neg (by omega), if_neg (by omega), if_pos trivial, bl_len]
  have e5 := fun h => nOk_lt (Q := bl P) (i := 3) h
  rw [bl_len] at e5
  simp only [Bool.or_eq_false_iff, Bool.not_eq_false', dec_no]
  constructor
  · rintro ⟨⟨⟨⟨⟨⟨⟨_, a⟩, b⟩, c⟩, d⟩, g⟩, y⟩, hl⟩
    have := e5 g
    refine ⟨by omega, a, d, ?_⟩
    rw [tOk_num (fun c => h ⟨by omega, c⟩), g, y]; rfl
  · rintro ⟨hl, a, d, y⟩
    have hne : pAt (bl P) 3 ≠ neverW := fun c => h ⟨by omega, c⟩
    rw [tOk_num hne, Bool.and_eq_true, Bool.not_eq_true'] at y
    exact ⟨⟨⟨⟨⟨⟨⟨trivial, a⟩, by omega⟩, by omega⟩, d⟩, y.1⟩, y.2⟩, by omega⟩
theorem tVal_never {p : List UInt8} {b : Bool} (h : p = neverW) (hb : b = true) : tVal p b = 4611686018427387904 := by unfold tVal; rw [if_pos ⟨hb, h⟩]
theorem tVal_num {p : List UInt8} {b : Bool} (h : ¬ (b = true ∧ p = neverW)) : tVal p b = numRes p := by unfold tVal; rw [if_neg h]
/-! ### the list of the reasons -/
def reasonsL : List ByteArray := [⟨(reasonW (0 : Nat)).toArray⟩, ⟨(reasonW (1 : Nat)).toArray⟩, ⟨(reasonW (2 : Nat)).toArray⟩, ⟨(reasonW (3 : Nat)).toArray⟩, ⟨(reasonW (4 : Nat)).toArray⟩, ⟨(reasonW (5 : Nat)).toArray⟩, ⟨(reasonW (6 : Nat)).toArray⟩]
theorem reasons_hit (p : List UInt8) : nHit reasonsL p = rHit p ∧ nVal reasonsL p = rVal p := by
  by_cases h : ∃ k : Fin 7, p = reasonW (k.val : Nat)
  · obtain ⟨k, rfl⟩ := h
    revert k; decide +kernel
  · have hn : ∀ k : Nat, k < 7 → p ≠ reasonW (k : Nat) := fun k hk e => h ⟨⟨k, hk⟩, e⟩
    have h0 := hn 0 (by omega)
    have h1 : p ≠ reasonW 1 := hn 1 (by omega)
    have h2 : p ≠ reasonW 2 := hn 2 (by omega)
    have h3 : p ≠ reasonW 3 := hn 3 (by omega)
    have h4 : p ≠ reasonW 4 := hn 4 (by omega)
    have h5 : p ≠ reasonW 5 := hn 5 (by omega)
    have h6 : p ≠ reasonW 6 := hn 6 (by omega)
    have e0 : p ≠ [] := h0
    have r : rHit p = false := decide_eq_false (by
      rintro (c | c | c | c | c | c | c)
      · exact e0 c
      · exact h1 c
      · exact h2 c
      · exact h3 c
      · exact h4 c
      · exact h5 c
      · exact h6 c)
    have nh : nHit reasonsL p = false := by
      unfold nHit nIdx
      rw [decide_eq_false_iff_not, List.findIdx_lt_length]
      rintro ⟨x, hx, he⟩
      have he := beq_iff_eq.1 he
      unfold reasonsL at hx
      simp only [List.mem_cons, List.not_mem_nil, or_false] at hx
      rcases hx with rfl | rfl | rfl | rfl | rfl | rfl | rfl
      · exact h0 he.symm
      · exact h1 he.symm
      · exact h2 he.symm
      · exact h3 he.symm
      · exact h4 he.symm
      · exact h5 he.symm
      · exact h6 he.symm
    refine ⟨nh.trans r.symm, ?_⟩
    have v0 : nVal reasonsL p = 0 := by unfold nVal; rw [nh]; rfl
    rw [v0]
    unfold rVal
    rw [if_neg h1, if_neg h2, if_neg h3, if_neg h4, if_neg h5, if_neg h6]
end Go.Proofs.YtmpcekpdnikghaaGreatDoor.Lx
