/- Plain facts on how many events of a kind, and of kinds from a to b, a list holds. -/
import Derived.Test.YtmpcekpdnikghaaDoorEvCt
namespace Go.Proofs.YtmpcekpdnikghaaDoor.Lx
open Go Go.RowKit

def inK (a b : Int) (o : EvV) : Bool := decide (a ≤ o.k) && decide (o.k ≤ b)
/-- How many events have a kind from a to b. -/
def cR (L : List EvV) (a b : Int) : Nat := (L.filter (inK a b)).length
theorem cR_le (L : List EvV) (a b : Int) : cR L a b ≤ L.length := List.length_filter_le _ _
theorem cR_step {a b : Int} (hab : a ≤ b) : ∀ (L : List EvV), cR L a b = cR L a (b - 1) + cntE L b
  | [] => rfl
  | o :: t => by
    have ih := cR_step hab t
    unfold cR cntE at *
    rw [List.filter_cons, List.filter_cons, List.filter_cons]
    unfold inK isK at *
    by_cases h1 : a ≤ o.k <;> by_cases h2 : o.k ≤ b - 1 <;> by_cases h3 : o.k = b
    · omega
    · have h4 : o.k ≤ b := by omega
      simp only [h1, h2, h3, h4, decide_true, Bool.and_self, if_true, beq_iff_eq, if_false, List.length_cons]
      omega
    · have h4 : o.k ≤ b := by omega
      have h5 : (o.k == b) = true := by rw [beq_iff_eq]; exact h3
      simp only [h1, h2, h4, h5, decide_true, decide_false, Bool.and_self, Bool.and_false, if_true, if_false, List.length_cons, Bool.false_eq_true]
      omega
    · have h4 : ¬ o.k ≤ b := by omega
      have h5 : (o.k == b) = false := by rw [beq_eq_false_iff_ne]; exact h3
      simp only [h1, h2, h4, h5, decide_true, decide_false, Bool.and_false, if_false, Bool.false_eq_true]
      exact ih
    · omega
    · have h5 : (o.k == b) = false := by rw [beq_eq_false_iff_ne]; exact h3
      simp only [h1, h5, decide_false, Bool.false_and, if_false, Bool.false_eq_true]
      exact ih
    · omega
    · have h5 : (o.k == b) = false := by rw [beq_eq_false_iff_ne]; exact h3
      simp only [h1, h5, decide_false, Bool.false_and, if_false, Bool.false_eq_true]
      exact ih
theorem cR_none (L : List EvV) : cR L 1 0 = 0 := by
  unfold cR
  rw [List.length_eq_zero_iff, List.filter_eq_nil_iff]
  intro o _ h
  unfold inK at h
  rw [Bool.and_eq_true, decide_eq_true_iff, decide_eq_true_iff] at h
  omega
theorem filt_get {p : EvV → Bool} : ∀ {L : List EvV} {k : Nat} {o : EvV}, L[k]? = some o → p o = true → (L.filter p)[((L.take k).filter p).length]? = some o
  | [], k, o, h, _ => by simp at h
  | a :: t, 0, o, h, hp => by
    simp at h; subst h
    simp [hp]
  | a :: t, k + 1, o, h, hp => by
    have ih := filt_get (L := t) (k := k) (by simpa using h) hp
    rw [List.take_succ_cons, List.filter_cons, List.filter_cons]
    cases hp2 : p a
    · simpa using ih
    · simpa using ih
theorem isEvs_cells {w : World} {g off n : Nat} {L : List EvV} (h : IsEvs w (some ⟨g, off, none⟩) n L) (h0 : 0 < n) : g < w.heap.size ∧ ∀ i o, L[i]? = some o → ∀ (j : Nat) (v : Value), o.cells[j]? = some v → w.cell? ⟨g, off + i * 8 + j, none⟩ = some v := by
  obtain ⟨g', off', e, lt, hc⟩ := h.2 h0
  injection e with e; injection e with e1 e2
  subst e1 e2
  exact ⟨lt, hc⟩
theorem cR_take {L : List EvV} {k : Nat} {o : EvV} (a b : Int) (h : L[k]? = some o) : cR (L.take (k + 1)) a b = cR (L.take k) a b + (if inK a b o = true then 1 else 0) := by
  unfold cR
  obtain ⟨h1, h2⟩ := filt_take (p := inK a b) h
  by_cases hp : inK a b o = true
  · rw [h1 hp, List.length_append, if_pos hp]; rfl
  · rw [h2 (by simpa using hp), if_neg hp, Nat.add_zero]
theorem cnt_same {A B : List EvV} (h : A = B) : A.length = B.length := by rw [h]
theorem cnt_more {A B : List EvV} {o : EvV} (h : A = B ++ [o]) : A.length = B.length + 1 := by rw [h, List.length_append]; rfl
theorem ofE_mem {L : List EvV} {j d : Int} {p : EvV} (h : p ∈ ofE L j d) : 1 ≤ p.k ∧ p.k ≤ 5 ∧ p.j = j ∧ p.d = d := by
  have := (List.mem_filter.1 h).2
  unfold isOf at this
  rw [Bool.and_eq_true, Bool.and_eq_true, Bool.and_eq_true, decide_eq_true_iff, decide_eq_true_iff, beq_iff_eq, beq_iff_eq] at this
  exact ⟨this.1.1.1, this.1.1.2, this.1.2, this.2⟩
end Go.Proofs.YtmpcekpdnikghaaDoor.Lx
