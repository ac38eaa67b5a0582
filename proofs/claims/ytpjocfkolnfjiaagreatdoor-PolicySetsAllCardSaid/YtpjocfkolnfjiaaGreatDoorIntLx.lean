/- Plain facts on numbers from a range, as texts. No program in sight. -/
import Derived.Test.YtpjocfkolnfjiaaGreatDoorDigitsLx
namespace Go.Proofs.YtpjocfkolnfjiaaGreatDoor.Lx
open Go Go.RowKit

theorem num_split (l : List UInt8) : (numErr l = 0) ∨ (numRes l = 0 ∧ numErr l = 10) ∨ (numRes l = 0 ∧ numErr l = 7) := by
  by_cases h : numErr l = 0
  · exact .inl h
  · obtain ⟨h1, h2⟩ := read_bad h
    rcases h2 with h2 | ⟨h2, _⟩
    · exact .inr (.inl ⟨h1, h2⟩)
    · exact .inr (.inr ⟨h1, h2⟩)
theorem num_bd (l : List UInt8) : -9223372036854775808 ≤ numRes l ∧ numRes l ≤ 9223372036854775807 := by
  unfold numRes
  split
  · rename_i h; rw [Bool.and_eq_true] at h
    have := h.2; unfold numIn at this; exact of_decide_eq_true this
  · omega
/-- A number from lo to hi. -/
def intOk (l : List UInt8) (lo hi : Int) : Bool := decide (numErr l = 0 ∧ lo ≤ numRes l ∧ numRes l ≤ hi)
def intV (l : List UInt8) (lo hi : Int) : Int := if intOk l lo hi = true then numRes l else 0
def intE (l : List UInt8) (lo hi : Int) : Int := if intOk l lo hi = true then 0 else if numErr l = 10 then 10 else 3
theorem int_form {l : List UInt8} {lo hi : Int} (h : numErr l = 10) : intV l lo hi = 0 ∧ intE l lo hi = 10 := by
  have e : intOk l lo hi = false := by unfold intOk; rw [decide_eq_false_iff_not]; intro h2; omega
  unfold intV intE
  rw [e, if_neg (by decide), if_neg (by decide), if_pos h]
  exact ⟨rfl, rfl⟩
theorem int_bad {l : List UInt8} {lo hi : Int} (h : numErr l ≠ 10) (h2 : ¬ (numErr l = 0 ∧ lo ≤ numRes l ∧ numRes l ≤ hi)) : intV l lo hi = 0 ∧ intE l lo hi = 3 := by
  have e : intOk l lo hi = false := by unfold intOk; rw [decide_eq_false_iff_not]; exact h2
  unfold intV intE
  rw [e, if_neg (by decide), if_neg (by decide), if_neg h]
  exact ⟨rfl, rfl⟩
theorem int_good {l : List UInt8} {lo hi : Int} (h2 : numErr l = 0 ∧ lo ≤ numRes l ∧ numRes l ≤ hi) : intV l lo hi = numRes l ∧ intE l lo hi = 0 := by
  have e : intOk l lo hi = true := by unfold intOk; rw [decide_eq_true_iff]; exact h2
  unfold intV intE
  rw [e, if_pos rfl, if_pos rfl]
  exact ⟨rfl, rfl⟩

end Go.Proofs.YtpjocfkolnfjiaaGreatDoor.Lx
