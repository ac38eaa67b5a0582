/- Plain facts on decimal digits, as the walks of lex.Digits and of its reference take them. No program in sight. -/
import Derived.Test.YtpjocfkolnfjiaaGreatDoorLx
import Derived.Test.YtpjocfkolnfjiaaGreatDoorNum
import Derived.WalkKit
import Derived.Lib.Strings
namespace Go.Proofs.YtpjocfkolnfjiaaGreatDoor
open Go.RowKit

namespace Lx
/-- Between two rounds of the reference: k is what is left, sb what has been written. -/
def DgRel (u : Nat) (sb : ByteArray) (k : Nat) : Prop :=
  (k ≠ 0 ∨ sb.size = 0 → Lib.decDigits u = Lib.decDigits k ++ sb.data.toList) ∧ (k = 0 ∧ sb.size ≠ 0 → Lib.decDigits u = sb.data.toList)
theorem dg_start (u : Nat) : DgRel u ⟨#[]⟩ u := by
  refine ⟨fun _ => by simp, fun h => ?_⟩
  exact absurd rfl h.2
def one (c : UInt8) : ByteArray := ⟨#[c]⟩
theorem one_add (c : UInt8) (sb : ByteArray) : (one c ++ sb).data.toList = c :: sb.data.toList := by
  rw [ByteArray.data_append]; simp [one]
theorem one_size (c : UInt8) (sb : ByteArray) : (one c ++ sb).size = sb.size + 1 := by
  rw [Lib.size_eq, one_add, Lib.size_eq]; rfl
theorem dg_step {u : Nat} {sb : ByteArray} {k : Nat} (h : DgRel u sb k) (hk : k ≠ 0 ∨ sb.size = 0) : DgRel u (one (UInt8.ofNat (48 + k % 10)) ++ sb) (k / 10) := by
  have h1 := h.1 hk
  refine ⟨fun h2 => ?_, fun h2 => ?_⟩
  · rw [one_add]
    have hk10 : ¬ k < 10 := by
      rw [one_size] at h2
      omega
    rw [h1, Lib.decDigits, dif_neg hk10]; simp
  · rw [one_add]
    have hk10 : k < 10 := by omega
    rw [h1, Lib.decDigits, dif_pos hk10, Nat.mod_eq_of_lt hk10]; rfl
theorem dg_end {u : Nat} {sb : ByteArray} (h : DgRel u sb 0) (hk : sb.size ≠ 0) : sb = ⟨(Lib.decDigits u).toArray⟩ := by
  rw [h.2 ⟨rfl, hk⟩, Lib.mk_data]
theorem nDigits_le : ∀ (n u : Nat), u < 10 ^ (n + 1) → Lib.nDigits u ≤ n + 1
  | 0, u, h => by rw [Lib.nDigits_small (by omega)]; omega
  | n + 1, u, h => by
    by_cases hu : u < 10
    · rw [Lib.nDigits_small hu]; omega
    · rw [Lib.nDigits, dif_neg hu]
      have := nDigits_le n (u / 10) (by rw [Nat.div_lt_iff_lt_mul (by omega)]; rw [Nat.pow_succ] at h; exact h)
      omega
theorem dg_size {u : Nat} {sb : ByteArray} {k : Nat} (h : DgRel u sb k) (hu : u ≤ 9223372036854775808) : sb.size ≤ 20 := by
  have hl : (Lib.decDigits u).length ≤ 20 := by rw [Lib.decDigits_length]; exact nDigits_le 19 u (by omega)
  by_cases hk : k ≠ 0 ∨ sb.size = 0
  · rw [h.1 hk, List.length_append, ← Lib.size_eq] at hl; omega
  · rw [h.2 (by omega), ← Lib.size_eq] at hl; omega
def emptyV : Value → Nat
  | .string s => if s.size = 0 then 1 else 0
  | _ => 0
theorem itoa_pos {n : Int} (h : 0 ≤ n) : Lib.itoa n = Lib.decDigits n.natAbs := by
  unfold Lib.itoa; rw [if_neg (by omega)]; congr 1; omega
theorem itoa_neg {n : Int} (h : n < 0) : Lib.itoa n = 45 :: Lib.decDigits n.natAbs := by
  unfold Lib.itoa; rw [if_pos h]
theorem tdiv_abs (k : Int) : (k.tdiv 10).natAbs = k.natAbs / 10 := by rw [Int.natAbs_tdiv]; rfl
theorem tmod_neg {k : Int} (h : k < 0) : k.tmod 10 = -((k.natAbs % 10 : Nat) : Int) := by
  have e : k = -(k.natAbs : Int) := by omega
  rw [e, Int.neg_tmod, Int.natAbs_neg, Int.natAbs_natCast]; rfl
theorem strne {s : ByteArray} (h : s.size ≠ 0) : s.toList.isEmpty = false := by
  rw [Lib.toList_data]
  cases h2 : s.data.toList with
  | nil => exact absurd (by rw [Lib.size_eq, h2]; rfl) h
  | cons a l => rfl
theorem streq {s : ByteArray} (h : s.size = 0) : s.toList.isEmpty = true := by
  rw [Lib.toList_data, nil_of_size h]; rfl
theorem tdiv_bd {k : Int} (h : k < 0) : k ≤ k.tdiv 10 ∧ k.tdiv 10 ≤ 0 := by
  have e : k = -(k.natAbs : Int) := by omega
  generalize k.natAbs = m at e
  subst e
  rw [Int.neg_tdiv, Int.tdiv_eq_ediv_of_nonneg (by omega)]
  omega
theorem emptyV_add (c : UInt8) (sb : ByteArray) : emptyV (.string (one c ++ sb)) = 0 := by
  show (if (one c ++ sb).size = 0 then 1 else 0) = 0
  rw [one_size]; simp
theorem emptyV_nil {sb : ByteArray} (h : sb.size = 0) : emptyV (.string sb) = 1 := by
  show (if sb.size = 0 then 1 else 0) = 1
  rw [if_pos h]
theorem minus_add (l : List UInt8) : (⟨#[45]⟩ : ByteArray) ++ ⟨l.toArray⟩ = ⟨(45 :: l).toArray⟩ := by
  rw [← Lib.mk_data ((⟨#[45]⟩ : ByteArray) ++ ⟨l.toArray⟩)]
  congr 2
end Lx
end Go.Proofs.YtpjocfkolnfjiaaGreatDoor
