/- Plain facts on decimal numbers: which texts are numbers, and what they stand for. No program in sight. -/
import Derived.Test.YtpjocfkolnfjiaaGreatDoorLx
import Derived.Lib.ParseIntB
import Derived.Lib.ParseIntBCases
import Derived.Lib.ItoaNum
import Derived.Lib.ItoaMem
namespace Go.Proofs.YtpjocfkolnfjiaaGreatDoor.Lx
open Go Go.RowKit

def isDig (c : UInt8) : Bool := decide (48 ≤ c.toNat ∧ c.toNat ≤ 57)
def dval (acc : Nat) (l : List UInt8) : Nat := l.foldl (fun a c => 10 * a + (c.toNat - 48)) acc
def body (l : List UInt8) : List UInt8 := if l.head? = some 45 then l.tail else l
def numForm (l : List UInt8) : Bool := !(body l).isEmpty && !((body l).head? == some 48 && l != [48]) && (body l).all isDig
def numV (l : List UInt8) : Int := if l.head? = some 45 then -(dval 0 (body l) : Int) else (dval 0 (body l) : Int)
def numIn (l : List UInt8) : Bool := decide (-9223372036854775808 ≤ numV l ∧ numV l ≤ 9223372036854775807)
def numErr (l : List UInt8) : Int := if numForm l then (if numIn l then 0 else 7) else 10
def numRes (l : List UInt8) : Int := if numForm l && numIn l then numV l else 0

theorem isDig_iff (c : UInt8) : isDig c = true ↔ 48 ≤ (c.toNat : Int) ∧ (c.toNat : Int) ≤ 57 := by unfold isDig; rw [decide_eq_true_iff]; omega
theorem isDig_no (c : UInt8) : isDig c = false ↔ ¬ (48 ≤ (c.toNat : Int) ∧ (c.toNat : Int) ≤ 57) := by rw [← isDig_iff]; simp

theorem dval_cons (acc : Nat) (c : UInt8) (l : List UInt8) : dval acc (c :: l) = dval (10 * acc + (c.toNat - 48)) l := by unfold dval; rw [List.foldl_cons]
theorem dval_snoc (acc : Nat) (c : UInt8) (l : List UInt8) : dval acc (l ++ [c]) = 10 * dval acc l + (c.toNat - 48) := by simp [dval]
theorem dval_ge (l : List UInt8) : ∀ acc, acc ≤ dval acc l := by
  induction l with
  | nil => intro acc; exact Nat.le_refl _
  | cons c l ih => intro acc; rw [dval_cons]; have := ih (10 * acc + (c.toNat - 48)); omega
theorem dval_append (a b : List UInt8) (acc : Nat) : dval acc (a ++ b) = dval (dval acc a) b := by simp [dval]
theorem dval_take_le (l : List UInt8) (k : Nat) : dval 0 (l.take k) ≤ dval 0 l := by
  have := dval_append (l.take k) (l.drop k) 0
  rw [List.take_append_drop] at this
  rw [this]; exact dval_ge _ _

theorem parseUintM_digits (l : List UInt8) : ∀ acc, acc ≤ 18446744073709551615 → l.all isDig = true →
    Lib.parseUintM 18446744073709551615 acc l = if dval acc l ≤ 18446744073709551615 then .ok (dval acc l) else .range := by
  induction l with
  | nil => intro acc h _; rw [Lib.parseUintM, if_pos (by exact h)]; rfl
  | cons c l ih =>
    intro acc h hd
    rw [List.all_cons, Bool.and_eq_true] at hd
    have hc : 48 ≤ c.toNat ∧ c.toNat ≤ 57 := by have := hd.1; simpa [isDig] using this
    have hge := dval_ge l (10 * acc + (c.toNat - 48))
    rw [Lib.parseUintM, if_pos hc, dval_cons]
    have e : acc * 10 + (c.toNat - 48) = 10 * acc + (c.toNat - 48) := by omega
    rw [e]
    by_cases h1 : 1844674407370955162 ≤ acc
    · rw [if_pos h1, if_neg (by omega)]
    · rw [if_neg h1]
      by_cases h2 : 18446744073709551615 < 10 * acc + (c.toNat - 48)
      · rw [if_pos h2, if_neg (by omega)]
      · rw [if_neg h2, ih _ (by omega) hd.2]

theorem parse_num (l : List UInt8) (h : numForm l = true) : Lib.parseIntB 64 l = if numIn l then .ok (numV l) else .range := by
  have h0 := h
  unfold numForm at h
  rw [Bool.and_eq_true, Bool.and_eq_true] at h
  obtain ⟨⟨hne, _⟩, hd⟩ := h
  have hb : body l ≠ [] := by intro e; rw [e] at hne; simp at hne
  have hu : Lib.parseUintB 64 (body l) = if dval 0 (body l) ≤ 18446744073709551615 then .ok (dval 0 (body l)) else .range := by
    rw [Lib.parseUintB, if_neg hb]
    exact parseUintM_digits (body l) 0 (by omega) hd
  cases l with
  | nil => exact absurd rfl hb
  | cons c r =>
    by_cases h45 : c = 45
    · subst h45
      have eb : body (45 :: r) = r := rfl
      have ev : numV (45 :: r) = -(dval 0 r : Int) := rfl
      rw [Lib.parseIntB_minus, ← eb, hu, eb]
      unfold numIn
      rw [ev]
      by_cases h1 : dval 0 r ≤ 18446744073709551615
      · rw [if_pos h1]
        show (if 9223372036854775808 < dval 0 r then _ else _) = _
        by_cases h2 : 9223372036854775808 < dval 0 r
        · rw [if_pos h2, if_neg (by simp; omega)]
        · rw [if_neg h2, if_pos (by simp; omega)]
      · rw [if_neg h1, if_neg (by simp; omega)]; rfl
    · have hh : (c :: r).head? ≠ some 45 := by simpa using h45
      have eb : body (c :: r) = c :: r := by unfold body; rw [if_neg hh]
      have ev : numV (c :: r) = (dval 0 (c :: r) : Int) := by unfold numV; rw [if_neg hh, eb]
      rw [eb] at hu hd
      have hc : isDig c = true := by rw [List.all_cons, Bool.and_eq_true] at hd; exact hd.1
      have hc2 : 48 ≤ c.toNat ∧ c.toNat ≤ 57 := by simpa [isDig] using hc
      rw [Lib.parseIntB_plain 64 c r (by omega) (by omega), hu]
      unfold numIn
      rw [ev]
      by_cases h1 : dval 0 (c :: r) ≤ 18446744073709551615
      · rw [if_pos h1]
        show (if 9223372036854775808 ≤ dval 0 (c :: r) then _ else _) = _
        by_cases h2 : 9223372036854775808 ≤ dval 0 (c :: r)
        · rw [if_pos h2, if_neg (by simp; omega)]
        · rw [if_neg h2, if_pos (by simp; omega)]
      · rw [if_neg h1, if_neg (by simp; omega)]; rfl

theorem body_le (l : List UInt8) : (body l).length ≤ l.length := by
  unfold body; split <;> simp
theorem trim_minus (l : List UInt8) : Lib.trimPrefix l [45] = body l := by
  unfold Lib.trimPrefix body
  cases l with
  | nil => rfl
  | cons c r =>
    by_cases h : c = 45
    · simp [Lib.hasPrefix, h, List.isPrefixOf]
    · have h' : ¬ 45 = c := fun e => h e.symm
      simp [Lib.hasPrefix, h, h', List.isPrefixOf]
theorem num_noform {l : List UInt8} (h : numForm l = false) : numRes l = 0 ∧ numErr l = 10 := by
  unfold numRes numErr; rw [h]; exact ⟨rfl, rfl⟩
theorem num_empty {l : List UInt8} (h : body l = []) : numRes l = 0 ∧ numErr l = 10 :=
  num_noform (by unfold numForm; rw [h]; rfl)
theorem num_zero {l : List UInt8} (h : (body l).head? = some 48) (h2 : l ≠ [48]) : numRes l = 0 ∧ numErr l = 10 :=
  num_noform (by unfold numForm; rw [h]; simp [h2])
theorem num_nodig {l : List UInt8} (h : (body l).all isDig = false) : numRes l = 0 ∧ numErr l = 10 :=
  num_noform (by unfold numForm; rw [h]; simp)
theorem num_form {l : List UInt8} (h : body l ≠ []) (h1 : (body l).head? ≠ some 48 ∨ l = [48]) (h2 : (body l).all isDig = true) : numForm l = true := by
  unfold numForm
  rw [h2]
  have : (body l).isEmpty = false := by simpa using h
  rw [this]
  rcases h1 with h1 | h1
  · have : ((body l).head? == some 48) = false := by simpa using h1
    rw [this]; rfl
  · have : (l != [48]) = false := by rw [h1]; rfl
    rw [this]; simp
theorem num_ok {l : List UInt8} (h : numForm l = true) (h2 : numIn l = true) : numRes l = numV l ∧ numErr l = 0 := by
  unfold numRes numErr; rw [h, h2]; exact ⟨rfl, rfl⟩
theorem num_over {l : List UInt8} (h : numForm l = true) (h2 : numIn l = false) : numRes l = 0 ∧ numErr l = 7 := by
  unfold numRes numErr; rw [h, h2]; exact ⟨rfl, rfl⟩
theorem head_of (D : ByteArray) (h : 0 < D.size) : D.data.toList.head? = some D[0] := by
  rw [List.head?_eq_getElem?, List.getElem?_eq_getElem (by rw [← Lib.size_eq]; exact h)]; rfl
theorem body_minus {s : ByteArray} (h : s.data.toList.head? = some 45) : (s.extract 1 s.size).data.toList = body s.data.toList := by
  rw [Lib.extract_data, body, if_pos h, List.take_of_length_le (by rw [List.length_drop, ← Lib.size_eq]; exact Nat.le_refl _)]
  simp
theorem body_len {l : List UInt8} (h : l.head? = some 45) : (body l).length + 1 = l.length := by
  unfold body; rw [if_pos h]
  cases l with
  | nil => simp at h
  | cons c r => simp
theorem body_plain {l : List UInt8} (h : l.head? ≠ some 45) : body l = l := by
  unfold body; rw [if_neg h]
theorem dig_at (D : ByteArray) (h : D.data.toList.all isDig = true) (j : Nat) (hj : j < D.size) : isDig D[j] = true := by
  rw [List.all_eq_true] at h
  exact h _ (by simp [ByteArray.getElem_eq_getElem_data])
theorem dval_step (D : ByteArray) (j : Nat) (hj : j < D.size) : dval 0 (D.data.toList.take (j + 1)) = 10 * dval 0 (D.data.toList.take j) + (D[j].toNat - 48) := by
  rw [List.take_succ_eq_append_getElem (by simpa using hj), dval_snoc]; rfl
theorem nil_of_size {s : ByteArray} (h : s.size = 0) : s.data.toList = [] := by
  rw [Lib.size_eq] at h; exact List.eq_nil_of_length_eq_zero h
theorem take_all (D : ByteArray) (j : Nat) (h : D.size ≤ j) : D.data.toList.take j = D.data.toList := List.take_of_length_le (by rw [← Lib.size_eq]; exact h)
theorem one_zero (D : ByteArray) (h : 0 < D.size) (h0 : D[0] = 48) (h1 : D.size ≤ 1) : D.data.toList = [48] := by
  have e := head_of D h
  rw [h0] at e
  have hl : D.data.toList.length = 1 := by rw [← Lib.size_eq]; omega
  match hD : D.data.toList, hl with
  | [c], _ => rw [hD] at e; simp at e; rw [e]
theorem tdiv_over (m : Nat) (d : Int) (h0 : 0 ≤ d) (h9 : d ≤ 9) : -(m : Int) < (-9223372036854775808 + d).tdiv 10 ↔ 9223372036854775808 < 10 * (m : Int) + d := by
  have e : (-9223372036854775808 + d) = -(9223372036854775808 - d) := by omega
  rw [e, Int.neg_tdiv, Int.tdiv_eq_ediv_of_nonneg (by omega)]
  omega
theorem over_minus {l : List UInt8} (D : ByteArray) (j : Nat) (hj : j < D.size) (hD : D.data.toList = body l) (h45 : l.head? = some 45) (h : 9223372036854775808 < 10 * (dval 0 (D.data.toList.take j) : Int) + ((D[j].toNat : Int) - 48)) : numIn l = false := by
  have h1 := dval_step D j hj
  have h2 := dval_take_le D.data.toList (j + 1)
  unfold numIn numV
  rw [if_pos h45, ← hD]
  exact decide_eq_false (by omega)
theorem over_plain {l : List UInt8} (D : ByteArray) (j : Nat) (hj : j < D.size) (hD : D.data.toList = body l) (h45 : l.head? ≠ some 45) (h : 9223372036854775808 < 10 * (dval 0 (D.data.toList.take j) : Int) + ((D[j].toNat : Int) - 48)) : numIn l = false := by
  have h1 := dval_step D j hj
  have h2 := dval_take_le D.data.toList (j + 1)
  unfold numIn numV
  rw [if_neg h45, ← hD]
  exact decide_eq_false (by omega)
theorem over_plain' {l : List UInt8} (D : ByteArray) (hD : D.data.toList = body l) (h45 : l.head? ≠ some 45) (h : 9223372036854775808 ≤ dval 0 D.data.toList) : numIn l = false := by
  unfold numIn numV
  rw [if_neg h45, ← hD]
  exact decide_eq_false (by omega)
theorem in_minus {l : List UInt8} (D : ByteArray) (hD : D.data.toList = body l) (h45 : l.head? = some 45) (h : dval 0 D.data.toList ≤ 9223372036854775808) : numIn l = true ∧ numV l = -(dval 0 D.data.toList : Int) := by
  have e : numV l = -(dval 0 D.data.toList : Int) := by unfold numV; rw [if_pos h45, ← hD]
  refine ⟨?_, e⟩
  unfold numIn; rw [e]; exact decide_eq_true (by omega)
theorem in_plain {l : List UInt8} (D : ByteArray) (hD : D.data.toList = body l) (h45 : l.head? ≠ some 45) (h : dval 0 D.data.toList ≤ 9223372036854775807) : numIn l = true ∧ numV l = (dval 0 D.data.toList : Int) := by
  have e : numV l = (dval 0 D.data.toList : Int) := by unfold numV; rw [if_neg h45, ← hD]
  refine ⟨?_, e⟩
  unfold numIn; rw [e]; exact decide_eq_true (by omega)
end Go.Proofs.YtpjocfkolnfjiaaGreatDoor.Lx
