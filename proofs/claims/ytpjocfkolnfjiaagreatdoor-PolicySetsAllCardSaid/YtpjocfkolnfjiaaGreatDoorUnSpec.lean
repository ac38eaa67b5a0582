/- Plain facts on what the other functions of chapter 13 give: numbers from a range, pairs, limits, seeds. No program in sight. -/
import Derived.Test.YtpjocfkolnfjiaaGreatDoorUnLx
import Derived.Test.YtpjocfkolnfjiaaGreatDoorUnHex
import Derived.Test.YtpjocfkolnfjiaaGreatDoorUnRd
import Derived.Test.YtpjocfkolnfjiaaGreatDoorIntLx
namespace Go.Proofs.YtpjocfkolnfjiaaGreatDoor.Lx
open Go Go.RowKit

/-- A key and its value. -/
def isLow (c : UInt8) : Bool := decide (97 ≤ (c.toNat : Int) ∧ (c.toNat : Int) ≤ 122)
def lows : List UInt8 := [97, 98, 99, 100, 101, 102, 103, 104, 105, 106, 107, 108, 109, 110, 111, 112, 113, 114, 115, 116, 117, 118, 119, 120, 121, 122]
theorem low_table : ∀ n : Fin 256, lows.contains (UInt8.ofNat n.val) = isLow (UInt8.ofNat n.val) := by decide +kernel
theorem low_iff (c : UInt8) : lows.contains c = isLow c := by
  have := low_table ⟨c.toNat, c.toNat_lt⟩
  rwa [UInt8.ofNat_toNat] at this
theorem low_all (l : List UInt8) : l.all (lows.contains ·) = l.all isLow := by
  congr 1; funext c; exact low_iff c
def hexs : List UInt8 := [48, 49, 50, 51, 52, 53, 54, 55, 56, 57, 97, 98, 99, 100, 101, 102]
theorem hex_table : ∀ n : Fin 256, hexs.contains (UInt8.ofNat n.val) = isHex (UInt8.ofNat n.val) := by decide +kernel
theorem hex_iff (c : UInt8) : hexs.contains c = isHex c := by
  have := hex_table ⟨c.toNat, c.toNat_lt⟩
  rwa [UInt8.ofNat_toNat] at this
theorem hex_all (l : List UInt8) : l.all (hexs.contains ·) = l.all isHex := by
  congr 1; funext c; exact hex_iff c
def digsL : List UInt8 := [48, 49, 50, 51, 52, 53, 54, 55, 56, 57]
theorem dig_table : ∀ n : Fin 256, digsL.contains (UInt8.ofNat n.val) = isDig (UInt8.ofNat n.val) := by decide +kernel
theorem dig_iff (c : UInt8) : digsL.contains c = isDig c := by
  have := dig_table ⟨c.toNat, c.toNat_lt⟩
  rwa [UInt8.ofNat_toNat] at this
theorem dig_left (l : List UInt8) : l.dropWhile (digsL.contains ·) = rests l := by
  unfold rests; congr 1; funext c; exact dig_iff c
def pairOk (s : ByteArray) : Bool := cutIs s 61 && (!(cutA s 61).data.toList.isEmpty && (cutA s 61).data.toList.all isLow)
def pairK (s : ByteArray) : ByteArray := if pairOk s = true then cutA s 61 else ⟨#[]⟩
def pairV (s : ByteArray) : ByteArray := if pairOk s = true then cutB s 61 else ⟨#[]⟩
def pairE (s : ByteArray) : Int := if pairOk s = true then 0 else 10
theorem pair_bad {s : ByteArray} (h : pairOk s = false) : pairK s = ⟨#[]⟩ ∧ pairV s = ⟨#[]⟩ ∧ pairE s = 10 := by
  unfold pairK pairV pairE; rw [h]; exact ⟨rfl, rfl, rfl⟩
theorem pair_good {s : ByteArray} (h : pairOk s = true) : pairK s = cutA s 61 ∧ pairV s = cutB s 61 ∧ pairE s = 0 := by
  unfold pairK pairV pairE; rw [h]; exact ⟨rfl, rfl, rfl⟩

/-- A limit; none: its form is wrong. -/
def limP (s : ByteArray) : Option (Nat × Nat) :=
  if s.data.toList = [110, 111, 110, 101] then some (0, 0) else
  if s.data.toList.take 2 = [49, 47] ∧ cutIs (s.extract 2 s.size) 43 = true then
    match durS (cutA (s.extract 2 s.size) 43).data.toList, durS (cutB (s.extract 2 s.size) 43).data.toList with
    | some t, some u => if t = 0 then none else some (t, u)
    | _, _ => none
  else none
def inSpan (p : Nat × Nat) : Bool := decide (p.1 ≤ 68719476736 ∧ p.2 ≤ 68719476736)
def limT (s : ByteArray) : Int := match limP s with
  | none => 0
  | some p => if inSpan p = true then p.1 else 0
def limU (s : ByteArray) : Int := match limP s with
  | none => 0
  | some p => if inSpan p = true then p.2 else 0
def limE (s : ByteArray) : Int := match limP s with
  | none => 10
  | some p => if inSpan p = true then 0 else 7
theorem lim_none {s : ByteArray} (h : limP s = none) : limT s = 0 ∧ limU s = 0 ∧ limE s = 10 := by
  unfold limT limU limE; rw [h]; exact ⟨rfl, rfl, rfl⟩
theorem lim_in {s : ByteArray} {t u : Nat} (h : limP s = some (t, u)) (ht : t ≤ 68719476736) (hu : u ≤ 68719476736) : limT s = t ∧ limU s = u ∧ limE s = 0 := by
  have e : inSpan (t, u) = true := by unfold inSpan; rw [decide_eq_true_iff]; exact ⟨ht, hu⟩
  unfold limT limU limE; rw [h]; simp only [e, if_true]; exact ⟨trivial, trivial, trivial⟩
theorem lim_over {s : ByteArray} {t u : Nat} (h : limP s = some (t, u)) (ht : ¬ (t ≤ 68719476736 ∧ u ≤ 68719476736)) : limT s = 0 ∧ limU s = 0 ∧ limE s = 7 := by
  have e : inSpan (t, u) = false := by unfold inSpan; rw [decide_eq_false_iff_not]; exact ht
  unfold limT limU limE; rw [h]; simp only [e]; exact ⟨rfl, rfl, rfl⟩
/-- The text of a limit. -/
def limOk (t u : Int) : Bool := decide (0 ≤ t ∧ t ≤ 68719476736 ∧ 0 ≤ u ∧ u ≤ 68719476736 ∧ (0 < t ∨ u = 0))
def plimS (t u : Int) : List UInt8 := if limOk t u = true then (if t = 0 then [110, 111, 110, 101] else [49, 47] ++ prnS t.toNat ++ [43] ++ prnS u.toNat) else []
def plimE (t u : Int) : Int := if limOk t u = true then 0 else 16
/-- The text of any number of seconds. -/
def prnV (d : Int) : List UInt8 := if 0 ≤ d ∧ d ≤ 68719476736 then prnS d.toNat else []
def prnE (d : Int) : Int := if 0 ≤ d ∧ d ≤ 68719476736 then 0 else 2
theorem prn_in {d : Int} (h : 0 ≤ d ∧ d ≤ 68719476736) : prnV d = prnS d.toNat ∧ prnE d = 0 := by unfold prnV prnE; rw [if_pos h, if_pos h]; exact ⟨rfl, rfl⟩
theorem prn_out {d : Int} (h : ¬ (0 ≤ d ∧ d ≤ 68719476736)) : prnV d = [] ∧ prnE d = 2 := by unfold prnV prnE; rw [if_neg h, if_neg h]; exact ⟨rfl, rfl⟩
theorem par_bd (l : List UInt8) : 0 ≤ parV l ∧ parV l ≤ 68719476736 := by
  unfold parV
  cases durS l with
  | none => simp
  | some v => simp only; split <;> omega
/-- The normal text of a text. -/
def nrmV (l : List UInt8) : List UInt8 := if parE l = 0 then prnV (parV l) else []
def nrmE (l : List UInt8) : Int := parE l
end Go.Proofs.YtpjocfkolnfjiaaGreatDoor.Lx
