/- Plain facts that UnitsBack and UnitsOver take. No program in sight. -/
import Derived.Test.YtpjocfkolnfjiaaGreatDoorUnFacts2
import Derived.Laws.BitsLemmas
namespace Go.Proofs.YtpjocfkolnfjiaaGreatDoor.Lx
open Go Go.RowKit

theorem par_prn (n : Nat) (h : n ≤ 68719476736) : parV (prnS n) = n ∧ parE (prnS n) = 0 ∧ nrmV (prnS n) = prnS n ∧ nrmE (prnS n) = 0 := by
  obtain ⟨e1, e2⟩ := in_par (dur_back n) h
  refine ⟨e1, e2, ?_, e2⟩
  unfold nrmV
  rw [if_pos e2, e1, (prn_in (d := (n : Int)) (by omega)).1, Int.toNat_natCast]
theorem and_mask (d : Int) : 0 ≤ bits .and .i64 d 9223372036854775807 := by
  show 0 ≤ IntKind.i64.wrap ((BitVec.ofInt 64 d &&& BitVec.ofInt 64 9223372036854775807).toNat : Int)
  have h : (BitVec.ofInt 64 d &&& BitVec.ofInt 64 9223372036854775807).toNat ≤ 9223372036854775807 := by
    rw [BitVec.toNat_and]
    have e : (BitVec.ofInt 64 9223372036854775807).toNat = 9223372036854775807 := by decide
    rw [e]
    exact Nat.and_le_right
  rw [IntKind.wrap_i64]; omega
theorem exo1 : parV [54, 56, 55, 49, 57, 52, 55, 54, 55, 51, 54, 115] = 68719476736 ∧ parE [54, 56, 55, 49, 57, 52, 55, 54, 55, 51, 54, 115] = 0 := by decide +kernel
theorem exo2 : parV [55, 57, 53, 51, 54, 52, 100, 55, 104, 51, 50, 109, 49, 54, 115] = 68719476736 ∧ parE [55, 57, 53, 51, 54, 52, 100, 55, 104, 51, 50, 109, 49, 54, 115] = 0 := by decide +kernel
theorem exo3 : parV [55, 57, 53, 51, 54, 52, 100, 55, 104, 51, 50, 109, 49, 55, 115] = 0 ∧ parE [55, 57, 53, 51, 54, 52, 100, 55, 104, 51, 50, 109, 49, 55, 115] = 7 := by decide +kernel
end Go.Proofs.YtpjocfkolnfjiaaGreatDoor.Lx
