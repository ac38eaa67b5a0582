/- Plain facts on trimmed texts and on numbers to the base 16. No program in sight. -/
import Derived.Test.YtpjocfkolnfjiaaGreatDoorLx
import Derived.Test.YtpjocfkolnfjiaaGreatDoorNum
import Derived.Test.YtpjocfkolnfjiaaGreatDoorDigitsLx
import Derived.Lib.SlTrimSet
namespace Go.Proofs.YtpjocfkolnfjiaaGreatDoor.Lx
open Go Go.RowKit

theorem dropWhile_nil (p : UInt8 → Bool) : ∀ l : List UInt8, l.dropWhile p = [] ↔ l.all p = true
  | [] => ⟨fun _ => rfl, fun _ => rfl⟩
  | c :: l => by
    rw [List.dropWhile_cons, List.all_cons]
    cases hc : p c with
    | true => simp only [if_true, Bool.true_and]; exact dropWhile_nil p l
    | false => simp
theorem trimS_all {l cs : List UInt8} (h : l.all (cs.contains ·) = true) : Lib.trimS l cs = [] := by
  unfold Lib.trimS Lib.trimLeftS Lib.trimRightS
  have h1 : l.reverse.dropWhile (cs.contains ·) = [] := by
    rw [dropWhile_nil, List.all_reverse]; exact h
  rw [h1]; rfl
theorem trimS_some {l cs : List UInt8} (h : l.all (cs.contains ·) = false) : Lib.trimS l cs ≠ [] := by
  unfold Lib.trimS Lib.trimLeftS Lib.trimRightS
  intro e
  rw [dropWhile_nil, List.all_reverse] at e
  have hh := List.head?_dropWhile_not (cs.contains ·) l.reverse
  cases hd : l.reverse.dropWhile (cs.contains ·) with
  | nil =>
    rw [dropWhile_nil, List.all_reverse, h] at hd; cases hd
  | cons y m =>
    rw [hd] at e hh
    simp only [List.head?_cons] at hh
    rw [List.all_cons, hh] at e; cases e

def hexD (n : Nat) : UInt8 := if n < 10 then UInt8.ofNat (48 + n) else UInt8.ofNat (87 + n)
def isHex (c : UInt8) : Bool := decide (48 ≤ c.toNat ∧ c.toNat ≤ 57 ∨ 97 ≤ c.toNat ∧ c.toNat ≤ 102)
def hexV (c : UInt8) : Nat := if c.toNat ≤ 57 then c.toNat - 48 else c.toNat - 87
def hval (acc : Nat) (l : List UInt8) : Nat := l.foldl (fun a c => 16 * a + hexV c) acc
theorem hexD_table : ∀ n : Fin 16, isHex (hexD n.val) = true ∧ hexV (hexD n.val) = n.val := by decide
theorem hexD_isHex (n : Nat) (h : n < 16) : isHex (hexD n) = true := (hexD_table ⟨n, h⟩).1
theorem hexV_hexD (n : Nat) (h : n < 16) : hexV (hexD n) = n := (hexD_table ⟨n, h⟩).2
theorem hexV_lt (c : UInt8) (h : isHex c = true) : hexV c < 16 := by
  unfold isHex at h; rw [decide_eq_true_iff] at h; unfold hexV; split <;> omega
theorem hexD_hexV (c : UInt8) (h : isHex c = true) : hexD (hexV c) = c := by
  unfold isHex at h; rw [decide_eq_true_iff] at h
  apply UInt8.toNat_inj.1
  unfold hexD hexV
  by_cases h1 : c.toNat ≤ 57
  · rw [if_pos h1, if_pos (by omega), UInt8.toNat_ofNat']; omega
  · rw [if_neg h1, if_neg (by omega), UInt8.toNat_ofNat']; omega
theorem hval_snoc (acc : Nat) (l : List UInt8) (c : UInt8) : hval acc (l ++ [c]) = 16 * hval acc l + hexV c := by simp [hval]
theorem hval_lt (l : List UInt8) (h : l.all isHex = true) : ∀ acc, hval acc l < (acc + 1) * 16 ^ l.length := by
  induction l with
  | nil => intro acc; simp [hval]
  | cons c l ih =>
    intro acc
    rw [List.all_cons, Bool.and_eq_true] at h
    have hd := hexV_lt c h.1
    have e : hval acc (c :: l) = hval (16 * acc + hexV c) l := by unfold hval; rw [List.foldl_cons]
    rw [e, List.length_cons, Nat.pow_succ]
    have h1 := ih h.2 (16 * acc + hexV c)
    have h2 : (16 * acc + hexV c + 1) * 16 ^ l.length ≤ (16 * (acc + 1)) * 16 ^ l.length := Nat.mul_le_mul_right _ (by omega)
    have h3 : (16 * (acc + 1)) * 16 ^ l.length = (acc + 1) * (16 ^ l.length * 16) := by rw [Nat.mul_comm 16 (acc + 1), Nat.mul_assoc, Nat.mul_comm 16]
    omega
/-- The k low digits of n. -/
def hexTo : Nat → Nat → List UInt8
  | _, 0 => []
  | n, k + 1 => hexTo (n / 16) k ++ [hexD (n % 16)]
theorem hexTo_len : ∀ (n k : Nat), (hexTo n k).length = k
  | _, 0 => rfl
  | n, k + 1 => by rw [hexTo, List.length_append, hexTo_len]; rfl
theorem hexTo_all : ∀ (n k : Nat), (hexTo n k).all isHex = true
  | _, 0 => rfl
  | n, k + 1 => by rw [hexTo, List.all_append, hexTo_all, List.all_cons, hexD_isHex _ (by omega)]; rfl
theorem hexTo_val : ∀ (k n : Nat), n < 16 ^ k → hval 0 (hexTo n k) = n
  | 0, n, h => by rw [hexTo]; have : n = 0 := by simpa using h
                  rw [this]; rfl
  | k + 1, n, h => by
    rw [hexTo, hval_snoc, hexTo_val k (n / 16) (by rw [Nat.div_lt_iff_lt_mul (by omega)]; rw [Nat.pow_succ] at h; exact h), hexV_hexD _ (by omega)]; omega
/-- The digits of n without zeros before them. -/
def natHex (n : Nat) : List UInt8 := if _h : n < 16 then [hexD n] else natHex (n / 16) ++ [hexD (n % 16)]
termination_by n
decreasing_by omega
theorem natHex_small {n : Nat} (h : n < 16) : natHex n = [hexD n] := by rw [natHex, dif_pos h]
theorem natHex_big {n : Nat} (h : ¬ n < 16) : natHex n = natHex (n / 16) ++ [hexD (n % 16)] := by rw [natHex, dif_neg h]
theorem hexTo_zero : ∀ k, hexTo 0 k = List.replicate k 48
  | 0 => rfl
  | k + 1 => by rw [hexTo, Nat.zero_div, hexTo_zero k, List.replicate_succ']; rfl
theorem natHex_pad : ∀ (k n : Nat), n < 16 ^ (k + 1) → (natHex n).length ≤ k + 1 ∧ List.replicate (k + 1 - (natHex n).length) 48 ++ natHex n = hexTo n (k + 1)
  | 0, n, h => by
    have h' : n < 16 := by simpa using h
    rw [natHex_small h', hexTo, Nat.mod_eq_of_lt h']
    exact ⟨Nat.le_refl _, rfl⟩
  | k + 1, n, h => by
    by_cases h' : n < 16
    · rw [natHex_small h', hexTo, Nat.mod_eq_of_lt h', Nat.div_eq_of_lt h', hexTo_zero]
      exact ⟨by simp, rfl⟩
    · obtain ⟨h1, h2⟩ := natHex_pad k (n / 16) (by rw [Nat.div_lt_iff_lt_mul (by omega)]; rw [Nat.pow_succ] at h; exact h)
      rw [natHex_big h', hexTo, List.length_append, List.length_singleton]
      refine ⟨by omega, ?_⟩
      rw [← h2, ← List.append_assoc]
      congr 3
      omega
def seedOk (l : List UInt8) : Bool := decide (l.length = 16) && l.all isHex
def seedV (l : List UInt8) : Int := if seedOk l then (hval 0 l : Int) else 0
def seedE (l : List UInt8) : Int := if seedOk l then 0 else 10
theorem seed_back (n : Nat) (h : n < 18446744073709551616) : seedV (hexTo n 16) = n ∧ seedE (hexTo n 16) = 0 := by
  have hok : seedOk (hexTo n 16) = true := by unfold seedOk; rw [hexTo_len, hexTo_all]; rfl
  unfold seedV seedE
  rw [hok, if_pos rfl, if_pos rfl, hexTo_val 16 n (by simpa using h)]
  exact ⟨rfl, rfl⟩
end Go.Proofs.YtpjocfkolnfjiaaGreatDoor.Lx
