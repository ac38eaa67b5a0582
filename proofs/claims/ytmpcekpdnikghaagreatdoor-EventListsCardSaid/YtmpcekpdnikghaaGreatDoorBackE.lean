/- Plain facts: the lines of a text, each followed by a line feed, are the text again. No program in sight. -/
import Derived.Test.YtmpcekpdnikghaaGreatDoorLx
import Derived.Test.YtmpcekpdnikghaaGreatDoorPiecesLx
import Derived.Test.YtmpcekpdnikghaaGreatDoorRefLines
import Derived.Test.YtmpcekpdnikghaaGreatDoorJoin
namespace Go.Proofs.YtmpcekpdnikghaaGreatDoor.Lx
open Go Go.RowKit

def atTo (l : List (Nat × ByteArray)) : Nat := (l.map fun x => x.2.size + 1).sum
def bytesOf (l : List (Nat × ByteArray)) : List UInt8 := l.flatMap fun x => x.2.data.toList ++ [10]
theorem atTo_snoc (l : List (Nat × ByteArray)) (x : Nat × ByteArray) : atTo (l ++ [x]) = atTo l + (x.2.size + 1) := by simp [atTo]
theorem bytesOf_snoc (l : List (Nat × ByteArray)) (x : Nat × ByteArray) : bytesOf (l ++ [x]) = bytesOf l ++ (x.2.data.toList ++ [10]) := by simp [bytesOf]
/-- Each line stands where it says, and has no line feed. -/
def GoodLn (s : ByteArray) (l : List (Nat × ByteArray)) : Prop :=
  ∀ (j : Nat) x, l[j]? = some x → x.1 = atTo (l.take j) ∧ (10 : UInt8) ∉ x.2.data.toList ∧ x.1 + x.2.size ≤ s.size ∧ lineAt s x.1 = (j : Int) + 1 ∧ colAt s x.1 = 1
theorem GoodLn.snoc {s : ByteArray} {l : List (Nat × ByteArray)} {x : Nat × ByteArray} (h : GoodLn s l) (h1 : x.1 = atTo l) (h2 : (10 : UInt8) ∉ x.2.data.toList) (h3 : x.1 + x.2.size ≤ s.size) (h4 : lineAt s x.1 = (l.length : Int) + 1) (h5 : colAt s x.1 = 1) : GoodLn s (l ++ [x]) := by
  intro j y hy
  rcases Nat.lt_or_ge j l.length with hj | hj
  · rw [List.getElem?_append_left hj] at hy
    rw [List.take_append_of_le_length (by omega)]
    exact h j y hy
  · rw [List.getElem?_append_right hj] at hy
    have hj0 : j = l.length := by
      rcases Nat.eq_zero_or_pos (j - l.length) with h0 | h0
      · omega
      · rw [List.getElem?_eq_none (by simp; omega)] at hy; cases hy
    subst hj0
    rw [Nat.sub_self, List.getElem?_cons_zero] at hy
    obtain rfl := Option.some.inj hy
    rw [List.take_append_of_le_length (Nat.le_refl _), List.take_length]
    exact ⟨h1, h2, h3, h4, h5⟩
theorem ext_size (s : ByteArray) (a b : Nat) (h : a ≤ b) (hb : b ≤ s.size) : (s.extract a b).size = b - a := by
  rw [Lib.size_eq, Lib.extract_data, List.length_take, List.length_drop, ← Lib.size_eq]; omega
theorem ext_snoc (s : ByteArray) (a k : Nat) (h : a ≤ k) (hk : k < s.size) : (s.extract a (k + 1)).data.toList = (s.extract a k).data.toList ++ [s[k]] := by
  rw [Lib.extract_data, Lib.extract_data, show k + 1 - a = (k - a) + 1 by omega, List.take_succ_eq_append_getElem (by rw [List.length_drop, ← Lib.size_eq]; omega)]
  rw [List.getElem_drop]
  have e : s[k] = s.data.toList[k]'(by rw [← Lib.size_eq]; exact hk) := rfl
  rw [e]
  congr 3
  omega
theorem take_ext (s : ByteArray) (a k : Nat) (h : a ≤ k) : s.data.toList.take a ++ (s.extract a k).data.toList = s.data.toList.take k := by
  rw [Lib.extract_data, ← List.take_add, show a + (k - a) = k by omega]
/-- The state before place k. -/
def Inv (s : ByteArray) (k : Nat) : Prop :=
  GoodLn s (piecesTo s isLF k) ∧ fromAt s isLF k = atTo (piecesTo s isLF k) ∧ bytesOf (piecesTo s isLF k) = s.data.toList.take (fromAt s isLF k) ∧ (10 : UInt8) ∉ (s.extract (fromAt s isLF k) k).data.toList ∧
  lineAt s (fromAt s isLF k) = ((piecesTo s isLF k).length : Int) + 1 ∧ colAt s (fromAt s isLF k) = 1 ∧ lineAt s k = ((piecesTo s isLF k).length : Int) + 1 ∧ (fromAt s isLF k = 0 ∨ [(10 : UInt8)] <:+ s.data.toList.take (fromAt s isLF k))
theorem inv (s : ByteArray) : ∀ k, k ≤ s.size → Inv s k
  | 0, _ => by
    refine ⟨fun j x h => by simp [piecesTo] at h, rfl, rfl, by simp [fromAt], ?_, ?_, ?_, .inl rfl⟩
    · simp [fromAt, lineAt, piecesTo]
    · simp [fromAt, colAt, Lib.lastIdx]
    · simp [lineAt, piecesTo]
  | k + 1, h => by
    obtain ⟨i1, i2, i3, i4, i5, i6, i7, i8⟩ := inv s k (by omega)
    have hle := fromAt_le s isLF k
    unfold Inv
    by_cases hc : isLF s[k] = true
    · obtain ⟨e1, e2⟩ := from_hit s isLF k (by omega) hc
      have h10 := (isLF_iff _).1 hc
      have e10 : s[k] = 10 := UInt8.toNat_inj.1 (by simpa using Int.ofNat.inj h10)
      obtain ⟨l1, l2⟩ := line_hit s k (by omega) h10
      have hsz := ext_size s (fromAt s isLF k) k hle (by omega)
      have htk : s.data.toList.take k ++ [10] = s.data.toList.take (k + 1) := by
        rw [List.take_succ_eq_append_getElem (by rw [← Lib.size_eq]; omega)]
        congr 2
        exact e10.symm
      rw [e1, e2]
      refine ⟨i1.snoc i2 i4 (by simp only [hsz]; omega) i5 i6, by rw [atTo_snoc]; simp only [hsz]; omega, ?_, ?_, ?_, l2, ?_, .inr ?_⟩
      · rw [bytesOf_snoc, i3, ← List.append_assoc, take_ext s _ k hle]; exact htk
      · simp
      · rw [l1, i7, List.length_append]; simp
      · rw [l1, i7, List.length_append]; simp
      · exact ⟨_, htk⟩
    · have hc' : isLF s[k] = false := by simpa using hc
      obtain ⟨e1, e2⟩ := from_miss s isLF k (by omega) hc'
      have h10 : ¬ (s[k].toNat : Int) = 10 := fun e => hc ((isLF_iff _).2 e)
      obtain ⟨l1, l2⟩ := line_miss s k (by omega) h10
      rw [e1, e2]
      refine ⟨i1, i2, i3, ?_, i5, i6, by rw [l1]; exact i7, i8⟩
      rw [ext_snoc s _ k hle (by omega), List.mem_append, not_or]
      refine ⟨i4, ?_⟩
      rw [List.mem_singleton]
      intro e; exact h10 (by rw [← e]; rfl)
/-- What the joined lines are. -/
def endsLF (s : ByteArray) : Bool := Lib.hasSuffix s.data.toList [10]
theorem lines_good (s : ByteArray) : GoodLn s (linesOf s.size (pieces s isLF)) ∧ bytesOf (linesOf s.size (pieces s isLF)) = if s.size = 0 ∨ endsLF s = true then s.data.toList else s.data.toList ++ [10] := by
  obtain ⟨i1, i2, i3, i4, i5, i6, i7, i8⟩ := inv s s.size (Nat.le_refl _)
  have hle := fromAt_le s isLF s.size
  rw [← refTo_out]
  have hall : s.data.toList.take s.size = s.data.toList := List.take_of_length_le (by rw [← Lib.size_eq]; exact Nat.le_refl _)
  by_cases h : fromAt s isLF s.size < s.size
  · rw [refTo_last s h, refTo_in s _ (Nat.le_refl _)]
    have hsz := ext_size s _ s.size hle (Nat.le_refl _)
    refine ⟨i1.snoc i2 i4 (by simp only [hsz]; omega) i5 i6, ?_⟩
    have hcat := take_ext s _ s.size hle
    rw [hall] at hcat
    rw [bytesOf_snoc, i3, ← List.append_assoc, hcat, if_neg]
    rintro (h0 | h0)
    · omega
    · unfold endsLF Lib.hasSuffix at h0
      rw [List.isSuffixOf_iff_suffix] at h0
      obtain ⟨t, ht⟩ := h0
      rw [← hcat] at ht
      apply i4
      have hne : (s.extract (fromAt s isLF s.size) s.size).data.toList ≠ [] := by
        intro e; have := congrArg List.length e; rw [← Lib.size_eq, hsz] at this; simp at this; omega
      have hl := congrArg List.getLast? ht
      rw [List.getLast?_append, List.getLast?_append] at hl
      cases hg : (s.extract (fromAt s isLF s.size) s.size).data.toList.getLast? with
      | none => exact absurd (List.getLast?_eq_none_iff.1 hg) hne
      | some y =>
        rw [hg] at hl
        simp at hl
        subst hl
        exact List.mem_of_getLast? hg
  · rw [refTo_none s h, refTo_in s _ (Nat.le_refl _)]
    have e : fromAt s isLF s.size = s.size := by omega
    refine ⟨i1, ?_⟩
    rw [i3, e, hall, if_pos]
    rw [e] at i8
    rcases i8 with h0 | h0
    · exact .inl h0
    · rw [hall] at h0
      right; unfold endsLF Lib.hasSuffix; rw [List.isSuffixOf_iff_suffix]; exact h0

/-- The texts that are joined. -/
def backTexts (l : List (Nat × ByteArray)) : List ByteArray := l.flatMap fun x => [x.2, ⟨#[10]⟩]
theorem backTexts_snoc (l : List (Nat × ByteArray)) (x : Nat × ByteArray) : backTexts (l ++ [x]) = backTexts l ++ [x.2, ⟨#[10]⟩] := by simp [backTexts]
theorem backTexts_len (l : List (Nat × ByteArray)) : (backTexts l).length = l.length * 2 := by
  induction l with
  | nil => rfl
  | cons a l ih => unfold backTexts at *; rw [List.flatMap_cons, List.length_append, ih, List.length_cons]; simp; omega
theorem getD_out (ss : List ByteArray) (k : Nat) (h : ss.length ≤ k) : ss.getD k ⟨#[]⟩ = ⟨#[]⟩ := by
  rw [List.getD_eq_getElem?_getD, List.getElem?_eq_none h]; rfl
theorem joinTo_nosep (ss : List ByteArray) : ∀ k, joinTo ss ⟨#[]⟩ k = (ss.take k).flatMap fun x => x.data.toList
  | 0 => rfl
  | k + 1 => by
    rw [joinTo, joinTo_nosep ss k]
    have e : ∀ a : List UInt8, (if 0 < k then a ++ (⟨#[]⟩ : ByteArray).data.toList else a) = a := by intro a; split <;> simp
    rw [e]
    rcases Nat.lt_or_ge k ss.length with h | h
    · rw [List.take_succ_eq_append_getElem h, List.flatMap_append, List.getD_eq_getElem?_getD, List.getElem?_eq_getElem h]; simp
    · rw [getD_out ss k h, List.take_of_length_le h, List.take_of_length_le (by omega)]; simp
theorem join_back (l : List (Nat × ByteArray)) : joinAll (backTexts l) ⟨#[]⟩ = bytesOf l := by
  rw [joinAll, joinTo_nosep, List.take_length]
  induction l with
  | nil => rfl
  | cons a l ih =>
    unfold backTexts bytesOf at *
    rw [List.flatMap_cons, List.flatMap_append, ih, List.flatMap_cons]; simp
/-- The text that comes back. -/
def backS (s : ByteArray) : ByteArray := if s.size = 0 ∨ endsLF s = true then s else s ++ ⟨#[10]⟩
theorem back_joined (s : ByteArray) (hs : s.size ≤ 5000) : joinS (backTexts (linesOf s.size (pieces s isLF))) ⟨#[]⟩ = backS s ∧ joinE (backTexts (linesOf s.size (pieces s isLF))) ⟨#[]⟩ = 0 := by
  have h2 := (lines_good s).2
  rw [← join_back] at h2
  have hs2 : s.data.toList.length ≤ 5000 := by rw [← Lib.size_eq]; exact hs
  have hl : (joinAll (backTexts (linesOf s.size (pieces s isLF))) ⟨#[]⟩).length ≤ 65536 := by
    rw [h2]; split
    · omega
    · rw [List.length_append]; simp only [List.length_cons, List.length_nil]; omega
  unfold joinS joinE
  rw [if_pos hl, if_pos hl, h2]
  refine ⟨?_, rfl⟩
  unfold backS
  split
  · rfl
  · apply ByteArray.ext
    apply Array.toList_inj.1
    rw [ByteArray.data_append]; simp
end Go.Proofs.YtmpcekpdnikghaaGreatDoor.Lx
