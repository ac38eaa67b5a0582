/- Plain facts: what event.read makes of the parts of a text. No program in sight. -/
import Derived.Test.YtmpcekpdnikghaaGreatDoorEvLx
namespace Go.Proofs.YtmpcekpdnikghaaGreatDoor.Lx
open Go Go.RowKit

def kindOf (p : List UInt8) : Int :=
  if p = evWord 1 then 1 else if p = evWord 2 then 2 else if p = evWord 3 then 3 else if p = evWord 4 then 4
  else if p = evWord 5 then 5 else if p = evWord 6 then 6 else if p = evWord 7 then 7 else if p = evWord 8 then 8 else 0
theorem kindOf_word {k : Int} (h : 1 ≤ k ∧ k ≤ 8) : kindOf (evWord k) = k := by
  rcases kind_cases h with rfl | rfl | rfl | rfl | rfl | rfl | rfl | rfl <;> decide
theorem kindOf_back {p : List UInt8} (h : kindOf p ≠ 0) : p = evWord (kindOf p) := by
  unfold kindOf at h ⊢
  (repeat' split) <;> simp_all
theorem kindOf_bd (p : List UInt8) : 0 ≤ kindOf p ∧ kindOf p ≤ 8 := by
  unfold kindOf; (repeat' split) <;> omega
/-- Where a text stands in a list. -/
def nIdx (NS : List ByteArray) (p : List UInt8) : Nat := NS.findIdx (fun x => x.data.toList == p)
def nHit (NS : List ByteArray) (p : List UInt8) : Bool := decide (nIdx NS p < NS.length)
def nVal (NS : List ByteArray) (p : List UInt8) : Int := if nHit NS p = true then (nIdx NS p : Int) else 0
def rHit (p : List UInt8) : Bool := decide (p = [] ∨ p = reasonW 1 ∨ p = reasonW 2 ∨ p = reasonW 3 ∨ p = reasonW 4 ∨ p = reasonW 5 ∨ p = reasonW 6)
def rVal (p : List UInt8) : Int := if p = reasonW 1 then 1 else if p = reasonW 2 then 2 else if p = reasonW 3 then 3 else if p = reasonW 4 then 4 else if p = reasonW 5 then 5 else if p = reasonW 6 then 6 else 0
theorem nVal_at {NS : List ByteArray} {p : List UInt8} (h : nHit NS p = true) : 0 ≤ nVal NS p ∧ nVal NS p < NS.length ∧ nmAt NS (nVal NS p) = p := by
  have hl : nIdx NS p < NS.length := of_decide_eq_true h
  unfold nVal nmAt
  rw [if_pos h]
  refine ⟨by omega, by omega, ?_⟩
  rw [Int.toNat_natCast, List.getElem?_eq_getElem hl]
  have h2 := List.findIdx_getElem (w := hl) (p := fun x : ByteArray => x.data.toList == p)
  exact beq_iff_eq.1 h2
theorem nHit_of {NS : List ByteArray} (hN : NS.Nodup) {j : Int} (j0 : 0 ≤ j) (j1 : j < NS.length) : nHit NS (nmAt NS j) = true ∧ nVal NS (nmAt NS j) = j := by
  have hj : j.toNat < NS.length := by omega
  have hh : nHit NS (nmAt NS j) = true := by
    unfold nHit nIdx
    rw [decide_eq_true_iff, List.findIdx_lt_length]
    refine ⟨NS[j.toNat], List.getElem_mem hj, ?_⟩
    unfold nmAt
    rw [List.getElem?_eq_getElem hj]; simp
  obtain ⟨a, b, c⟩ := nVal_at hh
  exact ⟨hh, nmAt_inj hN a b j0 j1 c⟩
theorem nVal_bd (NS : List ByteArray) (p : List UInt8) (h : NS.length ≤ 64) : 0 ≤ nVal NS p ∧ nVal NS p ≤ 64 := by
  unfold nVal; split
  · rename_i hh; have := of_decide_eq_true (p := nIdx NS p < NS.length) hh; omega
  · omega
theorem nHit_nil {NS : List ByteArray} (h : ∀ x ∈ NS, isName x = true) : nHit NS [] = false := by
  unfold nHit nIdx
  rw [decide_eq_false_iff_not, List.findIdx_lt_length]
  rintro ⟨x, hx, he⟩
  have := h x hx
  unfold isName at this
  have e : x.data.toList = [] := by simpa using he
  have z : x.size = 0 := by rw [Lib.size_eq, e]; rfl
  rw [z] at this
  simp at this
theorem rVal_of {y : Int} (h : 1 ≤ y ∧ y ≤ 6) : rVal (reasonW y) = y ∧ rHit (reasonW y) = true := by
  rcases reason_cases h with rfl | rfl | rfl | rfl | rfl | rfl <;> decide
theorem rVal_back {p : List UInt8} (h : 1 ≤ rVal p) : p = reasonW (rVal p) ∧ rVal p ≤ 6 := by
  unfold rVal at h ⊢
  (repeat' split) <;> simp_all <;> omega
theorem rVal_bd (p : List UInt8) : 0 ≤ rVal p ∧ rVal p ≤ 6 := by unfold rVal; (repeat' split) <;> omega
/-- A time that may be never: 'last' says that it is the last part. -/
def tVal (p : List UInt8) (last : Bool) : Int := if last = true ∧ p = neverW then 4611686018427387904 else numRes p
def tOk (p : List UInt8) (last : Bool) : Bool := if last = true ∧ p = neverW then true else decide (numErr p = 0 ∧ numRes p ≠ 4611686018427387904)
theorem tVal_of {n : Int} (h : inR n) : tVal (untilW n) true = n ∧ tOk (untilW n) true = true := by
  unfold tVal tOk untilW
  split
  · rename_i e; subst e; simp
  · rename_i e
    have h1 := it_num n h.1 h.2
    rw [if_neg (fun c => it_nonever n c.2), if_neg (fun c => it_nonever n c.2), h1.1, h1.2]
    exact ⟨rfl, by rw [decide_eq_true_iff]; exact ⟨rfl, e⟩⟩
theorem it_back' {l : List UInt8} (h : numErr l = 0) : Lib.itoa (numRes l) = l := read_back h
theorem tVal_back {p : List UInt8} (h : tOk p true = true) : untilW (tVal p true) = p := by
  by_cases hp : p = neverW
  · have e : tVal p true = 4611686018427387904 := by unfold tVal; rw [if_pos ⟨rfl, hp⟩]
    rw [e]; unfold untilW; rw [if_pos rfl, hp]
  · unfold tOk at h
    rw [if_neg (fun c => hp c.2)] at h
    have h := of_decide_eq_true h
    have e : tVal p true = numRes p := by unfold tVal; rw [if_neg (fun c => hp c.2)]
    rw [e]; unfold untilW
    rw [if_neg h.2]
    exact it_back' h.1
/-- What is read out of parts, and whether it counts. -/
def pAt (P : List (List UInt8)) (i : Nat) : List UInt8 := P.getD i []
def nOk (p : List UInt8) : Bool := decide (numErr p = 0)
def rdE (NS : List ByteArray) (P : List (List UInt8)) : EvV :=
  let k := kindOf (pAt P 1)
  if k = 0 then ⟨0, numRes (pAt P 0), 0, 0, 0, 0, 0, 0⟩
  else if k ≤ 3 then ⟨k, numRes (pAt P 0), nVal NS (pAt P 2), numRes (pAt P 3), numRes (pAt P 4), numRes (pAt P 5), 0, 0⟩
  else if k = 4 then ⟨4, numRes (pAt P 0), nVal NS (pAt P 2), numRes (pAt P 3), numRes (pAt P 4), 0, 0, tVal (pAt P 5) (decide (P.length = 6))⟩
  else if k = 5 then ⟨5, numRes (pAt P 0), nVal NS (pAt P 2), numRes (pAt P 3), numRes (pAt P 4), 0, rVal (pAt P 5), 0⟩
  else if k = 6 then ⟨6, numRes (pAt P 0), 0, 0, 0, 0, numRes (pAt P 2), 0⟩
  else if k = 7 then ⟨7, numRes (pAt P 0), nVal NS (pAt P 2), 0, 0, 0, 0, tVal (pAt P 3) (decide (P.length = 4))⟩
  else ⟨8, numRes (pAt P 0), nVal NS (pAt P 2), 0, 0, 0, 0, 0⟩
def rdOk (NS : List ByteArray) (P : List (List UInt8)) : Prop :=
  let k := kindOf (pAt P 1)
  if k = 0 then False
  else if k ≤ 3 then P.length = 6 ∧ nOk (pAt P 0) = true ∧ nHit NS (pAt P 2) = true ∧ nOk (pAt P 3) = true ∧ nOk (pAt P 4) = true ∧ nOk (pAt P 5) = true
  else if k = 4 then P.length = 6 ∧ nOk (pAt P 0) = true ∧ nHit NS (pAt P 2) = true ∧ nOk (pAt P 3) = true ∧ nOk (pAt P 4) = true ∧ tOk (pAt P 5) true = true
  else if k = 5 then P.length = 6 ∧ nOk (pAt P 0) = true ∧ nHit NS (pAt P 2) = true ∧ nOk (pAt P 3) = true ∧ nOk (pAt P 4) = true ∧ rHit (pAt P 5) = true
  else if k = 6 then P.length = 3 ∧ nOk (pAt P 0) = true ∧ nOk (pAt P 2) = true
  else if k = 7 then P.length = 4 ∧ nOk (pAt P 0) = true ∧ nHit NS (pAt P 2) = true ∧ tOk (pAt P 3) true = true
  else P.length = 3 ∧ nOk (pAt P 0) = true ∧ nHit NS (pAt P 2) = true
theorem six_of {P : List (List UInt8)} (h : P.length = 6) : P = [pAt P 0, pAt P 1, pAt P 2, pAt P 3, pAt P 4, pAt P 5] := by
  match P, h with
  | [a, b, c, d, e, f], _ => rfl
theorem four_of {P : List (List UInt8)} (h : P.length = 4) : P = [pAt P 0, pAt P 1, pAt P 2, pAt P 3] := by
  match P, h with
  | [a, b, c, d], _ => rfl
theorem three_of {P : List (List UInt8)} (h : P.length = 3) : P = [pAt P 0, pAt P 1, pAt P 2] := by
  match P, h with
  | [a, b, c], _ => rfl
theorem nOk_back {p : List UInt8} (h : nOk p = true) : Lib.itoa (numRes p) = p := it_back' (of_decide_eq_true h)
theorem nOk_it {n : Int} (h : inR n) : nOk (Lib.itoa n) = true ∧ numRes (Lib.itoa n) = n := ⟨decide_eq_true (it_num n h.1 h.2).2, (it_num n h.1 h.2).1⟩
theorem rd_ok {NS : List ByteArray} (hN : NOk NS) {l : List UInt8} {P : List (List UInt8)} (hP : Pcs l P) (h : rdOk NS P) (g : Good (rdE NS P)) : EvPs NS l (rdE NS P) := by
  rw [ps_parts hN.2.1 hP]
  refine ⟨g, ?_⟩
  have hb := kindOf_bd (pAt P 1)
  have hw := kindOf_back (p := pAt P 1)
  unfold rdOk at h
  unfold rdE at g ⊢
  generalize kindOf (pAt P 1) = k at *
  simp only at h g ⊢
  by_cases h0 : k = 0
  · rw [if_pos h0] at h; exact h.elim
  have hw := hw h0
  rw [if_neg h0] at h g ⊢
  by_cases h3 : k ≤ 3
  · rw [if_pos h3] at h g ⊢
    obtain ⟨hl, n0, hh, n3, n4, n5⟩ := h
    obtain ⟨_, j1, j2⟩ := nVal_at hh
    refine ⟨fun _ => j1, ?_⟩
    unfold evParts
    simp only
    rw [if_pos h3, j2, nOk_back n0, nOk_back n3, nOk_back n4, nOk_back n5, ← hw]
    exact (six_of hl).symm
  rw [if_neg h3] at h g ⊢
  by_cases h4 : k = 4
  · rw [if_pos h4] at h g ⊢
    obtain ⟨hl, n0, hh, n3, n4, n5⟩ := h
    obtain ⟨_, j1, j2⟩ := nVal_at hh
    refine ⟨fun _ => j1, ?_⟩
    unfold evParts
    simp only
    rw [j2, nOk_back n0, nOk_back n3, nOk_back n4, hl]
    simp only [decide_true]
    subst h4
    rw [tVal_back n5, ← hw, if_neg (by decide), if_pos trivial]
    exact (six_of hl).symm
  rw [if_neg h4] at h g ⊢
  by_cases h5 : k = 5
  · rw [if_pos h5] at h g ⊢
    obtain ⟨hl, n0, hh, n3, n4, n5⟩ := h
    obtain ⟨_, j1, j2⟩ := nVal_at hh
    refine ⟨fun _ => j1, ?_⟩
    have hr : pAt P 5 = reasonW (rVal (pAt P 5)) := by
      refine (rVal_back ?_).1
      unfold Good at g; simp only at g; omega
    unfold evParts
    simp only
    subst h5
    rw [j2, nOk_back n0, nOk_back n3, nOk_back n4, ← hr, ← hw, if_neg (by decide), if_neg (by decide), if_pos trivial]
    exact (six_of hl).symm
  rw [if_neg h5] at h g ⊢
  by_cases h6 : k = 6
  · rw [if_pos h6] at h g ⊢
    obtain ⟨hl, n0, n2⟩ := h
    refine ⟨fun c => absurd rfl c, ?_⟩
    unfold evParts
    simp only
    subst h6
    rw [nOk_back n0, nOk_back n2, ← hw, if_neg (by decide), if_neg (by decide), if_neg (by decide), if_pos trivial]
    exact (three_of hl).symm
  rw [if_neg h6] at h g ⊢
  by_cases h7 : k = 7
  · rw [if_pos h7] at h g ⊢
    obtain ⟨hl, n0, hh, n3⟩ := h
    obtain ⟨_, j1, j2⟩ := nVal_at hh
    refine ⟨fun _ => j1, ?_⟩
    unfold evParts
    simp only
    rw [j2, nOk_back n0, hl]
    simp only [decide_true]
    subst h7
    rw [tVal_back n3, ← hw, if_neg (by decide), if_neg (by decide), if_neg (by decide), if_neg (by decide), if_pos trivial]
    exact (four_of hl).symm
  rw [if_neg h7] at h g ⊢
  have h8 : k = 8 := by omega
  obtain ⟨hl, n0, hh⟩ := h
  obtain ⟨_, j1, j2⟩ := nVal_at hh
  refine ⟨fun _ => j1, ?_⟩
  unfold evParts
  simp only
  subst h8
  rw [j2, nOk_back n0, ← hw, if_neg (by decide), if_neg (by decide), if_neg (by decide), if_neg (by decide), if_neg (by decide)]
  exact (three_of hl).symm
theorem rd_of {NS : List ByteArray} (hN : NOk NS) {l : List UInt8} {P : List (List UInt8)} (hP : Pcs l P) {o : EvV} (h : EvPs NS l o) : rdOk NS P ∧ rdE NS P = o := by
  obtain ⟨g, hj, he⟩ := (ps_parts hN.2.1 hP o).1 h
  have hI := good_in g
  have hk := good_kind g
  obtain ⟨k, t, j, d, a, r, y, n⟩ := o
  unfold EvV.In at hI
  unfold Good at g
  simp only at hI hk hj he g
  unfold evParts at he
  simp only at he
  have hJ : (0 ≤ j) → k ≠ 6 → nHit NS (nmAt NS j) = true ∧ nVal NS (nmAt NS j) = j := fun h0 h6 => nHit_of hN.2.2 h0 (hj h6)
  have z0 := nOk_it hI.2.1
  have z3 := nOk_it hI.2.2.2.1
  have z4 := nOk_it hI.2.2.2.2.1
  have z5 := nOk_it hI.2.2.2.2.2.1
  have zy := nOk_it hI.2.2.2.2.2.2.1
  have zt := tVal_of hI.2.2.2.2.2.2.2
  subst he
  have hkw : kindOf (evWord k) = k := kindOf_word hk
  unfold rdOk rdE
  rcases kind_cases hk with rfl | rfl | rfl | rfl | rfl | rfl | rfl | rfl
  · obtain ⟨q1, q2⟩ := hJ (by omega) (by omega)
    simp only [pAt, List.getD_cons_zero, List.getD_cons_succ, hkw]
    simp [z0, z3, z4, z5, q1, q2]; omega
  · obtain ⟨q1, q2⟩ := hJ (by omega) (by omega)
    simp only [pAt, List.getD_cons_zero, List.getD_cons_succ, hkw]
    simp [z0, z3, z4, z5, q1, q2]; omega
  · obtain ⟨q1, q2⟩ := hJ (by omega) (by omega)
    simp only [pAt, List.getD_cons_zero, List.getD_cons_succ, hkw]
    simp [z0, z3, z4, z5, q1, q2]; omega
  · obtain ⟨q1, q2⟩ := hJ (by omega) (by omega)
    simp only [pAt, List.getD_cons_zero, List.getD_cons_succ, hkw]
    simp [z0, z3, z4, q1, q2, zt]; omega
  · obtain ⟨q1, q2⟩ := hJ (by omega) (by omega)
    obtain ⟨v1, v2⟩ := rVal_of (y := y) (by omega)
    simp only [pAt, List.getD_cons_zero, List.getD_cons_succ, hkw]
    simp [z0, z3, z4, q1, q2, v1, v2]; omega
  · simp only [pAt, List.getD_cons_zero, List.getD_cons_succ, hkw]
    simp [z0, zy]; omega
  · obtain ⟨q1, q2⟩ := hJ (by omega) (by omega)
    simp only [pAt, List.getD_cons_zero, List.getD_cons_succ, hkw]
    simp [z0, q1, q2, zt]; omega
  · obtain ⟨q1, q2⟩ := hJ (by omega) (by omega)
    simp only [pAt, List.getD_cons_zero, List.getD_cons_succ, hkw]
    simp [z0, q1, q2]; omega
theorem rd_no {NS : List ByteArray} (hN : NOk NS) {l : List UInt8} {P : List (List UInt8)} (hP : Pcs l P) (h : ¬ (rdOk NS P ∧ Good (rdE NS P))) : ReadsEv NS l evZ 10 := by
  refine .inr ⟨rfl, rfl, fun p hp => h ?_⟩
  obtain ⟨a, b⟩ := rd_of hN hP hp
  exact ⟨a, by rw [b]; exact hp.1⟩
end Go.Proofs.YtmpcekpdnikghaaGreatDoor.Lx
