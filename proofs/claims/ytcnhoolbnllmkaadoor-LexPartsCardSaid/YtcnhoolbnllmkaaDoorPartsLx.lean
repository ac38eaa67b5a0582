/- Plain facts that LexParts takes: where words stand, and the words of joined words. No program in sight. -/
import Derived.Test.YtcnhoolbnllmkaaDoorPiecesLx
import Derived.Test.YtcnhoolbnllmkaaDoorBackLx
import Derived.Test.YtcnhoolbnllmkaaDoorWords
namespace Go.Proofs.YtcnhoolbnllmkaaDoor.Lx
open Go Go.RowKit

/-- The words of a list of bytes, with what was read of the word under way. -/
def toks : List UInt8 → List UInt8 → List (List UInt8)
  | cur, [] => if cur = [] then [] else [cur]
  | cur, c :: r => if isBlank c = true then (if cur = [] then toks [] r else cur :: toks [] r) else toks (cur ++ [c]) r
theorem toks_word : ∀ (x cur r : List UInt8), (∀ c ∈ x, isBlank c = false) → toks cur (x ++ r) = toks (cur ++ x) r
  | [], cur, r, _ => by simp
  | c :: x, cur, r, h => by
    have hc := h c (List.mem_cons_self ..)
    rw [List.cons_append, toks, if_neg (by rw [hc]; decide), toks_word x (cur ++ [c]) r (fun d hd => h d (List.mem_cons_of_mem _ hd))]
    simp
theorem toks_blanks : ∀ (x r : List UInt8), (∀ c ∈ x, isBlank c = true) → toks [] (x ++ r) = toks [] r
  | [], _, _ => rfl
  | c :: x, r, h => by
    rw [List.cons_append, toks, if_pos (h c (List.mem_cons_self ..)), if_pos rfl, toks_blanks x r (fun d hd => h d (List.mem_cons_of_mem _ hd))]
theorem toks_sep (cur : List UInt8) (x r : List UInt8) (hc : cur ≠ []) (hx : x ≠ []) (h : ∀ c ∈ x, isBlank c = true) : toks cur (x ++ r) = cur :: toks [] r := by
  cases x with
  | nil => exact absurd rfl hx
  | cons c x =>
    rw [List.cons_append, toks, if_pos (h c (List.mem_cons_self ..)), if_neg hc, toks_blanks x r (fun d hd => h d (List.mem_cons_of_mem _ hd))]
/-- The lengths of the words add up to no more than the text. -/
theorem toks_len : ∀ (l cur : List UInt8), ((toks cur l).map List.length).sum ≤ cur.length + l.length
  | [], cur => by
    rw [toks]; split <;> simp
  | c :: r, cur => by
    rw [toks]
    split
    · split
      · have := toks_len r []; simp at this ⊢; omega
      · have := toks_len r []; simp at this ⊢; omega
    · have := toks_len r (cur ++ [c]); simp at this ⊢; omega
/-- Each word has bytes, none of them a blank. -/
theorem toks_good : ∀ (l cur : List UInt8), (∀ c ∈ cur, isBlank c = false) → ∀ x ∈ toks cur l, x ≠ [] ∧ ∀ c ∈ x, isBlank c = false
  | [], cur, h => by
    intro x hx
    rw [toks] at hx
    split at hx
    · cases hx
    · rename_i hc
      rw [List.mem_singleton] at hx
      subst hx; exact ⟨hc, h⟩
  | c :: r, cur, h => by
    intro x hx
    rw [toks] at hx
    split at hx
    · split at hx
      · exact toks_good r [] (fun _ h => by cases h) x hx
      · rename_i hc
        rcases List.mem_cons.1 hx with rfl | hx
        · exact ⟨hc, h⟩
        · exact toks_good r [] (fun _ h => by cases h) x hx
    · rename_i hb
      refine toks_good r (cur ++ [c]) (fun d hd => ?_) x hx
      rcases List.mem_append.1 hd with hd | hd
      · exact h d hd
      · rw [List.mem_singleton] at hd; subst hd; simpa using hb
/-- Joined, they are the same words again. -/
theorem toks_join (sep : ByteArray) (hs : sep.data.toList ≠ []) (hb : ∀ c ∈ sep.data.toList, isBlank c = true) (ss : List ByteArray) (hg : ∀ x ∈ ss, x.data.toList ≠ [] ∧ ∀ c ∈ x.data.toList, isBlank c = false) :
    ∀ k, k ≤ ss.length → ∀ r, r = [] ∨ (∃ y z, r = y ++ z ∧ y ≠ [] ∧ ∀ c ∈ y, isBlank c = true) → toks [] (joinTo ss sep k ++ r) = (ss.take k).map (·.data.toList) ++ toks [] r := by
  intro k
  induction k with
  | zero => intro _ r _; rfl
  | succ k ih =>
    intro hk r hr
    obtain ⟨x, hx⟩ : ∃ x, ss[k]? = some x := ⟨_, List.getElem?_eq_getElem hk⟩
    have hxm := List.mem_of_getElem? hx
    obtain ⟨g1, g2⟩ := hg x hxm
    have htk : ss.take (k + 1) = ss.take k ++ [x] := by
      obtain ⟨hk', hv⟩ := List.getElem?_eq_some_iff.1 hx
      rw [List.take_succ_eq_append_getElem hk', hv]
    have hend : toks [] (x.data.toList ++ r) = x.data.toList :: toks [] r := by
      rw [toks_word _ _ _ g2, List.nil_append]
      rcases hr with rfl | ⟨y, z, rfl, y1, y2⟩
      · rw [toks, if_neg g1]; rfl
      · rw [toks_sep _ _ _ g1 y1 y2, toks_blanks y z y2]
    by_cases h0 : k = 0
    · subst h0
      rw [joinTo_one ss sep x hx, List.nil_append, hend, htk]; rfl
    · rw [joinTo_more ss sep k x (by omega) hx, List.append_assoc, List.append_assoc, ih (by omega) _ (.inr ⟨sep.data.toList, _, rfl, hs, hb⟩), toks_blanks _ _ hb, hend, htk]
      simp
/-- The words' texts, by the list's own words. -/
theorem texts_at (s : ByteArray) : ∀ k, k ≤ s.size → ((wordsOf (piecesTo s isBlank k)).map (·.2.data.toList)) ++ toks (s.extract (fromAt s isBlank k) k).data.toList (s.data.toList.drop k) = toks [] s.data.toList ∧ (∀ c ∈ (s.extract (fromAt s isBlank k) k).data.toList, isBlank c = false) := by
  intro k
  induction k with
  | zero =>
    intro _
    have e : (s.extract (fromAt s isBlank 0) 0).data.toList = [] := by rw [fromAt, Lib.extract_data]; simp
    rw [e]; exact ⟨rfl, fun _ h => by cases h⟩
  | succ k ih =>
    intro hk
    have hk' : k < s.size := hk
    obtain ⟨i1, i2⟩ := ih (by omega)
    have hkl : k < s.data.toList.length := by rw [← Lib.size_eq]; exact hk'
    have hd : s.data.toList.drop k = s[k] :: s.data.toList.drop (k + 1) := by
      rw [List.drop_eq_getElem_cons hkl]; rfl
    rw [hd, toks] at i1
    have hle := fromAt_le s isBlank k
    by_cases hb : isBlank s[k] = true
    · obtain ⟨f1, f2⟩ := from_hit s isBlank k hk' hb
      have e : (s.extract (k + 1) (k + 1)).data.toList = [] := by rw [Lib.extract_data]; simp
      rw [f1, f2, e]
      rw [if_pos hb] at i1
      refine ⟨?_, fun _ h => by cases h⟩
      by_cases hc : (s.extract (fromAt s isBlank k) k).data.toList = []
      · rw [if_pos hc] at i1
        rw [wordsOf_miss _ _ (by rw [Lib.size_eq, hc]; rfl)]; exact i1
      · rw [if_neg hc] at i1
        rw [wordsOf_hit _ _ (by rw [Lib.size_eq]; intro h; exact hc (List.eq_nil_of_length_eq_zero h)), List.map_append, List.append_assoc]; exact i1
    · have hb' : isBlank s[k] = false := by simpa using hb
      obtain ⟨f1, f2⟩ := from_miss s isBlank k hk' hb'
      rw [if_neg hb] at i1
      rw [f1, f2, ext_snoc s _ k hle hk']
      refine ⟨i1, fun c hc => ?_⟩
      rcases List.mem_append.1 hc with h | h
      · exact i2 c h
      · rw [List.mem_singleton] at h; subst h; exact hb'
theorem texts_all (s : ByteArray) : (wordsOf (pieces s isBlank)).map (·.2.data.toList) = toks [] s.data.toList := by
  obtain ⟨i1, _⟩ := texts_at s s.size (Nat.le_refl _)
  have hd : s.data.toList.drop s.size = [] := List.drop_eq_nil_of_le (by rw [← Lib.size_eq]; exact Nat.le_refl _)
  rw [hd, toks] at i1
  rw [← i1, pieces]
  by_cases hc : (s.extract (fromAt s isBlank s.size) s.size).data.toList = []
  · rw [if_pos hc, wordsOf_miss _ _ (by rw [Lib.size_eq, hc]; rfl), List.append_nil]
  · rw [if_neg hc, wordsOf_hit _ _ (by rw [Lib.size_eq]; intro h; exact hc (List.eq_nil_of_length_eq_zero h)), List.map_append]; rfl

/-! Where words stand. -/
/-- All bytes from a on, before b, are blanks. -/
def Blanks (s : ByteArray) (a b : Nat) : Prop := ∀ c ∈ (s.extract a b).data.toList, isBlank c = true
def endOf (l : List (Nat × ByteArray)) : Nat := match l.getLast? with
  | none => 0
  | some x => x.1 + x.2.size
theorem endOf_snoc (l : List (Nat × ByteArray)) (x : Nat × ByteArray) : endOf (l ++ [x]) = x.1 + x.2.size := by unfold endOf; rw [List.getLast?_append]; rfl
/-- Each word of a list stands where it says, behind the one before it. -/
def GoodW (s : ByteArray) (l : List (Nat × ByteArray)) : Prop :=
  ∀ k x, l[k]? = some x → x.2.size ≠ 0 ∧ (∀ c ∈ x.2.data.toList, isBlank c = false) ∧ x.1 + x.2.size ≤ s.size ∧ s.extract x.1 (x.1 + x.2.size) = x.2 ∧ endOf (l.take k) ≤ x.1 ∧ Blanks s (endOf (l.take k)) x.1 ∧ (0 < k → endOf (l.take k) < x.1)
theorem GoodW.snoc {s : ByteArray} {l : List (Nat × ByteArray)} {x : Nat × ByteArray} (h : GoodW s l) (h1 : x.2.size ≠ 0) (h2 : ∀ c ∈ x.2.data.toList, isBlank c = false) (h3 : x.1 + x.2.size ≤ s.size) (h4 : s.extract x.1 (x.1 + x.2.size) = x.2) (h5 : endOf l ≤ x.1) (h6 : Blanks s (endOf l) x.1) (h7 : l ≠ [] → endOf l < x.1) : GoodW s (l ++ [x]) := by
  intro k y hy
  by_cases hk : k < l.length
  · rw [List.getElem?_append_left hk] at hy
    rw [List.take_append_of_le_length (by omega)]
    exact h k y hy
  · rw [List.getElem?_append_right (by omega)] at hy
    have e : k = l.length := by
      rcases Nat.lt_or_ge (k - l.length) 1 with h | h
      · omega
      · rw [List.getElem?_eq_none (by simpa using h)] at hy; cases hy
    subst e
    rw [Nat.sub_self] at hy
    obtain rfl : x = y := by simpa using hy
    rw [List.take_left']
    · exact ⟨h1, h2, h3, h4, h5, h6, fun hp => h7 (by intro e; rw [e] at hp; exact absurd hp (Nat.lt_irrefl _))⟩
    · rfl
theorem blanks_none (s : ByteArray) (a : Nat) : Blanks s a a := by
  intro c hc
  have e : (s.extract a a).data.toList = [] := by rw [Lib.extract_data]; simp
  rw [e] at hc; cases hc
theorem blanks_snoc {s : ByteArray} {a k : Nat} (h : Blanks s a k) (ha : a ≤ k) (hk : k < s.size) (hb : isBlank s[k] = true) : Blanks s a (k + 1) := by
  intro c hc
  rw [ext_snoc s a k ha hk] at hc
  rcases List.mem_append.1 hc with h1 | h1
  · exact h c h1
  · rw [List.mem_singleton] at h1; subst h1; exact hb
theorem words_at (s : ByteArray) : ∀ k, k ≤ s.size → GoodW s (wordsOf (piecesTo s isBlank k)) ∧ endOf (wordsOf (piecesTo s isBlank k)) ≤ fromAt s isBlank k ∧ Blanks s (endOf (wordsOf (piecesTo s isBlank k))) (fromAt s isBlank k) ∧ (wordsOf (piecesTo s isBlank k) ≠ [] → endOf (wordsOf (piecesTo s isBlank k)) < fromAt s isBlank k) := by
  intro k
  induction k with
  | zero => intro _; exact ⟨fun k x h => by simp [piecesTo, wordsOf] at h, Nat.le_refl _, blanks_none s 0, fun h => absurd rfl h⟩
  | succ k ih =>
    intro hk
    have hk' : k < s.size := hk
    obtain ⟨i1, i2, i3, i4⟩ := ih (by omega)
    have hle := fromAt_le s isBlank k
    by_cases hb : isBlank s[k] = true
    · obtain ⟨f1, f2⟩ := from_hit s isBlank k hk' hb
      rw [f1, f2]
      by_cases hc : (s.extract (fromAt s isBlank k) k).size = 0
      · rw [wordsOf_miss _ _ hc]
        have hkk : fromAt s isBlank k = k := by rw [ext_size s _ k hle (by omega)] at hc; omega
        rw [hkk] at i2 i3 i4
        exact ⟨i1, by omega, blanks_snoc i3 i2 hk' hb, fun h => by omega⟩
      · rw [wordsOf_hit _ _ hc, endOf_snoc]
        have hsz := ext_size s (fromAt s isBlank k) k hle (by omega)
        have he : fromAt s isBlank k + (s.extract (fromAt s isBlank k) k).size = k := by omega
        refine ⟨i1.snoc hc (texts_at s k (by omega)).2 (by show fromAt s isBlank k + (s.extract (fromAt s isBlank k) k).size ≤ _; omega) (by show s.extract _ (fromAt s isBlank k + _) = _; rw [he]) i2 i3 i4, ?_, ?_, ?_⟩
        · show fromAt s isBlank k + (s.extract (fromAt s isBlank k) k).size ≤ _; omega
        · show Blanks s (fromAt s isBlank k + (s.extract (fromAt s isBlank k) k).size) _
          rw [he]; exact blanks_snoc (blanks_none s k) (Nat.le_refl _) hk' hb
        · intro _; show fromAt s isBlank k + (s.extract (fromAt s isBlank k) k).size < _; omega
    · have hb' : isBlank s[k] = false := by simpa using hb
      obtain ⟨f1, f2⟩ := from_miss s isBlank k hk' hb'
      rw [f1, f2]; exact ⟨i1, i2, i3, i4⟩
theorem words_good (s : ByteArray) : GoodW s (wordsOf (pieces s isBlank)) ∧ endOf (wordsOf (pieces s isBlank)) ≤ s.size ∧ Blanks s (endOf (wordsOf (pieces s isBlank))) s.size := by
  obtain ⟨i1, i2, i3, i4⟩ := words_at s s.size (Nat.le_refl _)
  have hle := fromAt_le s isBlank s.size
  rw [pieces]
  by_cases hc : (s.extract (fromAt s isBlank s.size) s.size).size = 0
  · rw [wordsOf_miss _ _ hc]
    have hkk : fromAt s isBlank s.size = s.size := by rw [ext_size s _ s.size hle (Nat.le_refl _)] at hc; omega
    rw [hkk] at i2 i3
    exact ⟨i1, i2, i3⟩
  · rw [wordsOf_hit _ _ hc, endOf_snoc]
    have hsz := ext_size s (fromAt s isBlank s.size) s.size hle (Nat.le_refl _)
    have he : fromAt s isBlank s.size + (s.extract (fromAt s isBlank s.size) s.size).size = s.size := by omega
    refine ⟨i1.snoc hc (texts_at s s.size (Nat.le_refl _)).2 (by show fromAt s isBlank s.size + (s.extract (fromAt s isBlank s.size) s.size).size ≤ _; omega) (by show s.extract _ (fromAt s isBlank s.size + _) = _; rw [he]) i2 i3 i4, ?_, ?_⟩
    · show fromAt s isBlank s.size + (s.extract (fromAt s isBlank s.size) s.size).size ≤ _; omega
    · show Blanks s (fromAt s isBlank s.size + (s.extract (fromAt s isBlank s.size) s.size).size) _
      rw [he]; exact blanks_none s s.size
theorem word_prefix (s x : ByteArray) (a : Nat) (h : s.extract a (a + x.size) = x) (_hs : a + x.size ≤ s.size) : Lib.hasPrefix (s.extract a s.size).data.toList x.data.toList = true := by
  unfold Lib.hasPrefix
  rw [List.isPrefixOf_iff_prefix]
  have e1 : x.data.toList = (s.data.toList.drop a).take x.size := by
    have h2 : (s.extract a (a + x.size)).data.toList = x.data.toList := by rw [h]
    rw [Lib.extract_data, show a + x.size - a = x.size by omega] at h2
    exact h2.symm
  have e2 : (s.extract a s.size).data.toList = s.data.toList.drop a := by
    rw [Lib.extract_data, List.take_of_length_le]
    rw [List.length_drop, ← Lib.size_eq]; exact Nat.le_refl _
  rw [e2]
  conv => lhs; rw [e1]
  exact List.take_prefix _ _
/-- The texts of the words, as strings. -/
def wtexts (l : List (Nat × ByteArray)) : List ByteArray := l.map (·.2)
theorem wtexts_snoc (l : List (Nat × ByteArray)) (x : Nat × ByteArray) : wtexts (l ++ [x]) = wtexts l ++ [x.2] := by simp [wtexts]
theorem joinTo_len (ss : List ByteArray) (sep : ByteArray) : ∀ k, k ≤ ss.length → (joinTo ss sep k).length ≤ ((ss.take k).map (·.size)).sum + k * sep.size := by
  intro k
  induction k with
  | zero => intro _; simp [joinTo]
  | succ k ih =>
    intro hk
    obtain ⟨x, hx⟩ : ∃ x, ss[k]? = some x := ⟨_, List.getElem?_eq_getElem hk⟩
    have htk : ss.take (k + 1) = ss.take k ++ [x] := by
      obtain ⟨hk', hv⟩ := List.getElem?_eq_some_iff.1 hx
      rw [List.take_succ_eq_append_getElem hk', hv]
    have hi := ih (by omega)
    rw [htk, List.map_append, List.sum_append, Nat.add_mul]
    simp only [List.map_cons, List.map_nil, List.sum_cons, List.sum_nil]
    by_cases h0 : k = 0
    · subst h0
      rw [joinTo_one ss sep x hx, List.nil_append, ← Lib.size_eq]; omega
    · rw [joinTo_more ss sep k x (by omega) hx, List.length_append, List.length_append, ← Lib.size_eq, ← Lib.size_eq]; omega
/-- The joined words: their text is short enough, and they are the same words. -/
theorem join_words (s sep : ByteArray) (hsz : s.size ≤ 2000) (h1 : sep.size ≤ 20) (h0 : sep.size ≠ 0) (hb : ∀ c ∈ sep.data.toList, isBlank c = true) :
    (joinAll (wtexts (wordsOf (pieces s isBlank))) sep).length ≤ 65536 ∧
    wtexts (wordsOf (pieces (joinS (wtexts (wordsOf (pieces s isBlank))) sep) isBlank)) = wtexts (wordsOf (pieces s isBlank)) ∧ joinE (wtexts (wordsOf (pieces s isBlank))) sep = 0 := by
  have hall := texts_all s
  have hlen := toks_len s.data.toList []
  rw [← hall, List.map_map, List.length_nil, Nat.zero_add, ← Lib.size_eq] at hlen
  have hcount : (wordsOf (pieces s isBlank)).length ≤ 2001 := by
    have h2 := pieces_le s isBlank
    have := List.length_filter_le (fun x : Nat × ByteArray => decide (x.2.size ≠ 0)) (pieces s isBlank)
    unfold wordsOf; omega
  have hgood : ∀ x ∈ wtexts (wordsOf (pieces s isBlank)), x.data.toList ≠ [] ∧ ∀ c ∈ x.data.toList, isBlank c = false := by
    intro x hx
    refine toks_good s.data.toList [] (fun _ h => by cases h) x.data.toList ?_
    rw [← hall]
    unfold wtexts at hx
    obtain ⟨y, hy, rfl⟩ := List.mem_map.1 hx
    exact List.mem_map.2 ⟨y, hy, rfl⟩
  have hmap : (wtexts (wordsOf (pieces s isBlank))).map (·.data.toList) = toks [] s.data.toList := by rw [← hall]; unfold wtexts; rw [List.map_map]; rfl
  have hsum : ((wtexts (wordsOf (pieces s isBlank))).map (·.size)).sum ≤ s.size := by
    refine Nat.le_trans (Nat.le_of_eq ?_) hlen
    unfold wtexts
    rw [List.map_map]
    congr 1
  generalize wtexts (wordsOf (pieces s isBlank)) = ss at hgood hmap hsum ⊢
  have hn : ss.length ≤ 2001 := by
    have h3 := congrArg List.length hmap
    rw [List.length_map, ← hall, List.length_map] at h3; omega
  have hj := joinTo_len ss sep ss.length (Nat.le_refl _)
  rw [List.take_length] at hj
  have hm : ss.length * sep.size ≤ 2001 * 20 := Nat.mul_le_mul hn h1
  have hfit : (joinAll ss sep).length ≤ 65536 := by unfold joinAll; omega
  refine ⟨hfit, ?_, (join_fit hfit).2⟩
  have ht := toks_join sep (by intro e; exact h0 (by rw [Lib.size_eq, e]; rfl)) hb ss hgood ss.length (Nat.le_refl _) [] (.inl rfl)
  rw [List.append_nil, List.take_length] at ht
  have he : toks [] [] = [] := rfl
  rw [he, List.append_nil] at ht
  have ha := texts_all (joinS ss sep)
  rw [(join_fit hfit).1] at ha ⊢
  rw [show (⟨(joinTo ss sep ss.length).toArray⟩ : ByteArray).data.toList = joinTo ss sep ss.length from rfl, ht] at ha
  unfold wtexts
  have key : ∀ a b : List ByteArray, a.map (·.data.toList) = b.map (·.data.toList) → a = b := by
    intro a
    induction a with
    | nil => intro b h; cases b with
      | nil => rfl
      | cons y b => simp at h
    | cons x a ih => intro b h; cases b with
      | nil => simp at h
      | cons y b =>
        rw [List.map_cons, List.map_cons] at h
        injection h with h1 h2
        rw [ih b h2]
        congr 1
        apply ByteArray.ext; exact Array.toList_inj.1 h1
  exact key _ _ (by rw [List.map_map]; exact ha)
end Go.Proofs.YtcnhoolbnllmkaaDoor.Lx
