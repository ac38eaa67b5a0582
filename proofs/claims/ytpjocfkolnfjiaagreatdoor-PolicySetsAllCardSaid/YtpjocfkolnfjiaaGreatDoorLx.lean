/- Plain facts on bytes and texts that the walks of lex use. No program in sight. -/
import Derived.WalkKit
import Derived.Lib.Hide
import Derived.Lib.Strings
import Derived.Lib.Bytealg
import Derived.Lib.LastIndexByte
namespace Go.Proofs.YtpjocfkolnfjiaaGreatDoor.Lx
open Go Go.RowKit

def isLetter (c : UInt8) : Bool := decide (97 ≤ (c.toNat : Int) ∧ (c.toNat : Int) ≤ 122 ∨ 65 ≤ (c.toNat : Int) ∧ (c.toNat : Int) ≤ 90)
def nameByte (c : UInt8) : Bool := decide (97 ≤ (c.toNat : Int) ∧ (c.toNat : Int) ≤ 122 ∨ 65 ≤ (c.toNat : Int) ∧ (c.toNat : Int) ≤ 90 ∨ 48 ≤ (c.toNat : Int) ∧ (c.toNat : Int) ≤ 57 ∨ (c.toNat : Int) = 45 ∨ (c.toNat : Int) = 95)
theorem nameByte_iff (c : UInt8) : nameByte c = true ↔ (97 ≤ (c.toNat : Int) ∧ (c.toNat : Int) ≤ 122 ∨ 65 ≤ (c.toNat : Int) ∧ (c.toNat : Int) ≤ 90 ∨ 48 ≤ (c.toNat : Int) ∧ (c.toNat : Int) ≤ 57 ∨ (c.toNat : Int) = 45 ∨ (c.toNat : Int) = 95) := by simp [nameByte]
theorem nameByte_no (c : UInt8) : nameByte c = false ↔ ¬ (97 ≤ (c.toNat : Int) ∧ (c.toNat : Int) ≤ 122 ∨ 65 ≤ (c.toNat : Int) ∧ (c.toNat : Int) ≤ 90 ∨ 48 ≤ (c.toNat : Int) ∧ (c.toNat : Int) ≤ 57 ∨ (c.toNat : Int) = 45 ∨ (c.toNat : Int) = 95) := by
  rw [← nameByte_iff]; simp
theorem or32_nat : ∀ n : Fin 256, (97 ≤ bits .or .u8 ((n.val : Nat) : Int) 32 ∧ bits .or .u8 ((n.val : Nat) : Int) 32 ≤ 122) ↔ (97 ≤ ((n.val : Nat) : Int) ∧ ((n.val : Nat) : Int) ≤ 122 ∨ 65 ≤ ((n.val : Nat) : Int) ∧ ((n.val : Nat) : Int) ≤ 90) := by decide +kernel
theorem or32 (c : UInt8) : (97 ≤ bits .or .u8 (c.toNat : Int) 32 ∧ bits .or .u8 (c.toNat : Int) 32 ≤ 122) ↔ (97 ≤ (c.toNat : Int) ∧ (c.toNat : Int) ≤ 122 ∨ 65 ≤ (c.toNat : Int) ∧ (c.toNat : Int) ≤ 90) :=
  or32_nat ⟨c.toNat, c.toNat_lt⟩

/-- Which texts are names. -/
def isName (s : ByteArray) : Bool := decide (1 ≤ s.size) && decide (s.size ≤ 24) && s.data.toList.all nameByte

theorem all_take_succ (p : UInt8 → Bool) (s : ByteArray) (k : Nat) (h : k < s.size) : (s.data.toList.take (k + 1)).all p = ((s.data.toList.take k).all p && p s[k]) := by
  rw [List.take_succ_eq_append_getElem (by simpa using h)]
  simp
  rfl
theorem all_take_size (p : UInt8 → Bool) (s : ByteArray) (k : Nat) (h : s.size ≤ k) : (s.data.toList.take k).all p = s.data.toList.all p := by
  rw [List.take_of_length_le (by simpa using h)]
theorem all_of_not (p : UInt8 → Bool) (s : ByteArray) (k : Nat) (h : k < s.size) (hp : p s[k] = false) : s.data.toList.all p = false := by
  rw [List.all_eq_false]
  exact ⟨s[k], by simp [ByteArray.getElem_eq_getElem_data], by simp [hp]⟩
theorem ret_bool {a b : Bool} (h : a = b) : Ending.returned (.bool a) = .returned (.bool b) := by rw [h]
theorem ret_int {k : IntKind} {a b : Int} (h : a = b) : Ending.returned (.int k a) = .returned (.int k b) := by rw [h]
theorem ret_str {a b : ByteArray} (h : a = b) : Ending.returned (.string a) = .returned (.string b) := by rw [h]
theorem ret_t2 {a b a' b' : Value} (h : a = a') (h2 : b = b') : Ending.returned (.tuple #[a, b]) = .returned (.tuple #[a', b']) := by rw [h, h2]
theorem ret_t3 {a b c a' b' c' : Value} (h : a = a') (h2 : b = b') (h3 : c = c') : Ending.returned (.tuple #[a, b, c]) = .returned (.tuple #[a', b', c']) := by rw [h, h2, h3]
theorem v_str {a b : ByteArray} (h : a = b) : Value.string a = .string b := by rw [h]
theorem v_int {k : IntKind} {a b : Int} (h : a = b) : Value.int k a = .int k b := by rw [h]
theorem v_bool {a b : Bool} (h : a = b) : Value.bool a = .bool b := by rw [h]
theorem size_of_nil {s : ByteArray} (h : s.toList = []) : ¬ (1 ≤ s.size) := by
  rw [Lib.toList_data] at h
  rw [Lib.size_eq, h]; simp
theorem size_of_ne {s : ByteArray} (h : ¬ s.toList = []) : 1 ≤ s.size := by
  rw [Lib.toList_data] at h
  rw [Lib.size_eq]
  exact List.length_pos_iff.2 h

/-- The first place of a byte; the length if there is none. -/
def idx (s : ByteArray) (c : UInt8) : Nat := s.data.toList.findIdx (· == c)
def cutA (s : ByteArray) (c : UInt8) : ByteArray := s.extract 0 (idx s c)
def cutB (s : ByteArray) (c : UInt8) : ByteArray := s.extract (idx s c + 1) s.size
def cutIs (s : ByteArray) (c : UInt8) : Bool := decide (idx s c < s.size)
theorem indexByte_idx (l : List UInt8) (c : UInt8) : Lib.indexByte l c = if l.findIdx (· == c) < l.length then (l.findIdx (· == c) : Int) else -1 := by
  induction l with
  | nil => rfl
  | cons b l ih =>
    rw [Lib.indexByte, List.findIdx_cons]
    by_cases h : (b == c) = true
    · simp [h]
    · have hb : (b == c) = false := by simpa using h
      rw [if_neg h, ih, hb, List.length_cons]
      generalize l.findIdx (· == c) = m
      simp only [Bool.cond_false]
      by_cases h2 : m < l.length
      · rw [if_pos h2, if_neg (by simp; try omega), if_pos (by omega)]; omega
      · rw [if_neg h2, if_pos (by rfl), if_neg (by omega)]
theorem idx_le (s : ByteArray) (c : UInt8) : idx s c ≤ s.size := by
  rw [idx, Lib.size_eq]; exact List.findIdx_le_length
theorem ext_all (s : ByteArray) (n : Nat) (h : s.size ≤ n) : s.extract 0 n = s := by
  rw [Lib.extract_eq, List.drop_zero, Nat.sub_zero, List.take_of_length_le (by rw [← Lib.size_eq]; exact h)]
theorem ext_none (s : ByteArray) (a b : Nat) (h : s.size ≤ a) : s.extract a b = ⟨#[]⟩ := by
  rw [Lib.extract_eq, List.drop_eq_nil_of_le (by rw [← Lib.size_eq]; exact h), List.take_nil]
theorem cut_no (s : ByteArray) (c : UInt8) (h : Lib.indexByte s.data.toList c < 0) : s = cutA s c ∧ ⟨#[]⟩ = cutB s c ∧ false = cutIs s c := by
  rw [indexByte_idx] at h
  have h2 : ¬ (s.data.toList.findIdx (· == c) < s.data.toList.length) := by
    intro hl; rw [if_pos hl] at h; omega
  have h3 : s.size ≤ idx s c := by rw [idx, Lib.size_eq]; omega
  unfold cutA cutB cutIs
  exact ⟨(ext_all s _ h3).symm, (ext_none s _ _ (by omega)).symm, (decide_eq_false (by omega)).symm⟩
theorem cut_yes (s : ByteArray) (c : UInt8) (h : ¬ Lib.indexByte s.data.toList c < 0) : (Lib.indexByte s.data.toList c).toNat < s.size ∧ idx s c = (Lib.indexByte s.data.toList c).toNat ∧ cutIs s c = true := by
  rw [indexByte_idx] at h ⊢
  by_cases hl : s.data.toList.findIdx (· == c) < s.data.toList.length
  · rw [if_pos hl]
    refine ⟨by rw [Lib.size_eq]; simpa using hl, by simp [idx], by rw [cutIs, idx, Lib.size_eq]; simpa using hl⟩
  · rw [if_neg hl] at h; omega
theorem cut_end (s : ByteArray) (c : UInt8) (h3 : s.size ≤ idx s c) : s = cutA s c ∧ ⟨#[]⟩ = cutB s c ∧ false = cutIs s c := by
  unfold cutA cutB cutIs
  exact ⟨(ext_all s _ h3).symm, (ext_none s _ _ (by omega)).symm, (decide_eq_false (by omega)).symm⟩
theorem idx_hit (s : ByteArray) (c : UInt8) (k : Nat) (hk : k < s.size) (hi : k ≤ idx s c) (hc : s[k] = c) : idx s c = k ∧ cutIs s c = true := by
  have hk' : k < s.data.toList.length := by rw [← Lib.size_eq]; exact hk
  have e : s.data.toList.findIdx (· == c) = k := by
    rw [List.findIdx_eq hk']
    refine ⟨by rw [beq_iff_eq, ← hc]; rfl, fun j hj => ?_⟩
    have := List.not_of_lt_findIdx (p := (· == c)) (xs := s.data.toList) (i := j) (by rw [idx] at hi; omega)
    simpa using this
  refine ⟨e, ?_⟩
  rw [cutIs, idx, e]; simpa using hk
theorem idx_miss (s : ByteArray) (c : UInt8) (k : Nat) (hk : k < s.size) (hi : k ≤ idx s c) (hc : ¬ s[k] = c) : k + 1 ≤ idx s c := by
  rcases Nat.lt_or_ge k (idx s c) with h | h
  · exact h
  · exfalso
    have e : idx s c = k := by omega
    have hk' : s.data.toList.findIdx (· == c) < s.data.toList.length := by rw [← Lib.size_eq]; rw [idx] at e; omega
    have := List.findIdx_getElem (p := (· == c)) (xs := s.data.toList) (w := hk')
    rw [beq_iff_eq] at this
    apply hc
    rw [← this]
    have e2 : s.data.toList.findIdx (· == c) = k := e
    simp only [e2]
    rfl

/-- The line and the column of a place. -/
def lineAt (s : ByteArray) (k : Nat) : Int := 1 + ((s.data.toList.take k).count 10 : Nat)
def colAt (s : ByteArray) (k : Nat) : Int := (k : Int) - Lib.lastIdx s 10 k
theorem getB (s : ByteArray) (k : Nat) (h : k < s.size) : s.data[k]! = s[k] := by
  have h' : k < s.data.size := h
  rw [getElem!_pos s.data k h']; rfl
theorem ext_data (s : ByteArray) (k : Nat) : (s.extract 0 k).data.toList = s.data.toList.take k := by
  rw [Lib.extract_data, List.drop_zero, Nat.sub_zero]
theorem size_ext (s : ByteArray) (k : Nat) (h : k ≤ s.size) : (s.extract 0 k).size = k := by
  rw [Lib.size_eq, ext_data, List.length_take, ← Lib.size_eq]; omega
theorem ext_get (s : ByteArray) (k j : Nat) (h : j < k) (hk : k ≤ s.size) : (s.extract 0 k).data[j]! = s.data[j]! := by
  have h1 : j < (s.extract 0 k).size := by rw [size_ext s k hk]; exact h
  rw [getB _ _ h1, getB s j (by omega)]
  have e : (s.extract 0 k)[j] = (s.extract 0 k).data.toList[j]'(by rw [← Lib.size_eq]; exact h1) := rfl
  have e2 : s[j]'(by omega) = s.data.toList[j]'(by rw [← Lib.size_eq]; omega) := rfl
  rw [e, e2]
  simp only [ext_data, List.getElem_take]
theorem lastIdx_ext (s : ByteArray) (c : Int) (k : Nat) (hk : k ≤ s.size) : ∀ j, j ≤ k → Lib.lastIdx (s.extract 0 k) c j = Lib.lastIdx s c j
  | 0, _ => rfl
  | j + 1, h => by
    rw [Lib.lastIdx, Lib.lastIdx, ext_get s k j (by omega) hk, lastIdx_ext s c k hk j (by omega)]
theorem lastIndexByte_ext (s : ByteArray) (c : Int) (k : Nat) (hk : k ≤ s.size) : Lib.lastIndexByte (s.extract 0 k) c = Lib.lastIdx s c k := by
  rw [Lib.lastIndexByte, size_ext s k hk, lastIdx_ext s c k hk k (Nat.le_refl _)]
theorem count_ext (s : ByteArray) (k : Nat) : (Lib.countByte (s.extract 0 k).data.toList 10 : Nat) = (s.data.toList.take k).count 10 := by
  rw [ext_data]; rfl
theorem line_bd (s : ByteArray) (k : Nat) : 1 ≤ lineAt s k ∧ lineAt s k ≤ 1 + k := by
  unfold lineAt
  have := List.count_le_length (a := (10 : UInt8)) (l := s.data.toList.take k)
  have h2 := List.length_take_le k s.data.toList
  omega
theorem lastIdx_bd (s : ByteArray) (c : Int) (k : Nat) : -1 ≤ Lib.lastIdx s c k ∧ Lib.lastIdx s c k < (k : Int) := by
  rcases Lib.lastIdx_spec s c k with ⟨e, _⟩ | ⟨i, hi, e, _⟩ <;> rw [e] <;> omega
theorem col_bd (s : ByteArray) (k : Nat) : 1 ≤ colAt s k ∧ colAt s k ≤ 1 + k := by
  unfold colAt
  have := lastIdx_bd s 10 k
  omega
theorem line_hit (s : ByteArray) (k : Nat) (hk : k < s.size) (h : (s[k].toNat : Int) = 10) : lineAt s (k + 1) = lineAt s k + 1 ∧ colAt s (k + 1) = 1 := by
  have e : s[k] = 10 := UInt8.toNat_inj.1 (by simpa using Int.ofNat.inj h)
  constructor
  · unfold lineAt
    rw [List.take_succ_eq_append_getElem (by simpa using hk), List.count_append]
    have : s.data.toList[k]'(by rw [← Lib.size_eq]; exact hk) = 10 := e
    rw [this]; simp; omega
  · unfold colAt
    rw [Lib.lastIdx_hit s 10 k (by rw [getB s k hk]; exact h)]; omega
theorem line_miss (s : ByteArray) (k : Nat) (hk : k < s.size) (h : ¬ (s[k].toNat : Int) = 10) : lineAt s (k + 1) = lineAt s k ∧ colAt s (k + 1) = colAt s k + 1 := by
  have e : ¬ s[k] = 10 := fun e => h (by rw [e]; rfl)
  constructor
  · unfold lineAt
    rw [List.take_succ_eq_append_getElem (by simpa using hk), List.count_append]
    have : ¬ s.data.toList[k]'(by rw [← Lib.size_eq]; exact hk) = 10 := e
    rw [List.count_singleton, if_neg (by simpa using this)]; simp
  · unfold colAt
    rw [Lib.lastIdx_miss s 10 k (by rw [getB s k hk]; exact h)]; omega
end Go.Proofs.YtpjocfkolnfjiaaGreatDoor.Lx
