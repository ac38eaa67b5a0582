/- Plain facts that UnitsWords takes: which texts are pairs. No program in sight. -/
import Derived.Test.YtfcodadmfgpgcaaGreatDoorUnFacts2
import Derived.Test.YtfcodadmfgpgcaaGreatDoorUnSpec
import Derived.Test.YtfcodadmfgpgcaaGreatDoorDigitsP
import Derived.Lib.Case
import Derived.Lib.Replace
import Derived.Lib.ReplaceLaws
import Derived.Lib.SplitLaws
namespace Go.Proofs.YtfcodadmfgpgcaaGreatDoor.Lx
open Go Go.RowKit

theorem low_no61 {a : List UInt8} (h : a.all isLow = true) : (61 : UInt8) ∉ a := by
  intro hm
  have := List.all_eq_true.1 h _ hm
  revert this; decide
theorem pair_of (s : ByteArray) (a b : List UInt8) (h : s.data.toList = a ++ 61 :: b) (ha : a ≠ []) (hl : a.all isLow = true) : (pairK s).data.toList = a ∧ (pairV s).data.toList = b ∧ pairE s = 0 := by
  obtain ⟨c1, c2, c3⟩ := cut_at s 61 a b h (low_no61 hl)
  have hok : pairOk s = true := by
    unfold pairOk
    rw [c1, c2, hl]
    cases a with
    | nil => exact absurd rfl ha
    | cons x t => rfl
  obtain ⟨e1, e2, e3⟩ := pair_good hok
  rw [e1, e2, e3]
  exact ⟨c2, c3, rfl⟩
theorem pair_no (s : ByteArray) (a b : List UInt8) (h : s.data.toList = a ++ 61 :: b) (h61 : (61 : UInt8) ∉ a) (hbad : a = [] ∨ a.all isLow = false) : pairOk s = false := by
  obtain ⟨c1, c2, c3⟩ := cut_at s 61 a b h h61
  unfold pairOk
  rw [c1, c2]
  rcases hbad with rfl | hb
  · rfl
  · rw [hb]; simp
theorem pair_without (s : ByteArray) (h : (61 : UInt8) ∉ s.data.toList) : pairOk s = false := by
  unfold pairOk
  rw [cut_without s 61 h]; rfl
/-- The texts of UnitsWords that are no pairs. -/
def sixW (K U V : ByteArray) : List ByteArray := [K, ⟨#[61]⟩ ++ V, U ++ ⟨#[61]⟩ ++ V, K ++ ⟨#[49, 61]⟩ ++ V, ⟨#[32]⟩ ++ K ++ ⟨#[61]⟩ ++ V, ⟨#[]⟩]
theorem rep_all (p : UInt8 → Bool) (c : UInt8) (n : Nat) (hn : 0 < n) : (List.replicate n c).all p = p c := by
  rw [List.all_replicate, if_neg (by omega)]
theorem upper_low : ∀ n : Fin 256, isLow (UInt8.ofNat n.val) = true → isLow (Lib.upperB (UInt8.ofNat n.val)) = false ∧ Lib.upperB (UInt8.ofNat n.val) ≠ 61 := by decide +kernel
theorem upper_low' (c : UInt8) (h : isLow c = true) : isLow (Lib.upperB c) = false ∧ Lib.upperB c ≠ 61 := by
  have := upper_low ⟨c.toNat, c.toNat_lt⟩
  simp only [UInt8.ofNat_toNat] at this
  exact this h
theorem upper_rep (c : UInt8) (n : Nat) : Lib.toUpperA (List.replicate n c) = List.replicate n (Lib.upperB c) := by
  unfold Lib.toUpperA; rw [List.map_replicate]
theorem six_no (K U V : ByteArray) (c : UInt8) (n : Nat) (hn : 0 < n) (hc : isLow c = true) (hK : K.data.toList = List.replicate n c) (hU : U.data.toList = Lib.toUpperA (List.replicate n c)) :
    ∀ x ∈ sixW K U V, pairOk x = false ∧ x.size ≤ K.size + U.size + V.size + 3 := by
  have hcl : (List.replicate n c).all isLow = true := by rw [rep_all _ _ _ hn]; exact hc
  have hk61 : (61 : UInt8) ∉ List.replicate n c := low_no61 hcl
  obtain ⟨u1, u2⟩ := upper_low' c hc
  rw [upper_rep] at hU
  have hu61 : (61 : UInt8) ∉ List.replicate n (Lib.upperB c) := by
    intro hm
    exact u2 (List.eq_of_mem_replicate hm).symm
  have s1 : (⟨#[61]⟩ : ByteArray).size = 1 := rfl
  have s2 : (⟨#[49, 61]⟩ : ByteArray).size = 2 := rfl
  have s3 : (⟨#[32]⟩ : ByteArray).size = 1 := rfl
  have s4 : (⟨#[]⟩ : ByteArray).size = 0 := rfl
  intro x hx
  simp only [sixW, List.mem_cons, List.not_mem_nil, or_false] at hx
  rcases hx with rfl | rfl | rfl | rfl | rfl | rfl
  · exact ⟨pair_without _ (by rw [hK]; exact hk61), by omega⟩
  · refine ⟨pair_no _ [] V.data.toList ?_ (by simp) (.inl rfl), by rw [ByteArray.size_append]; omega⟩
    rw [ByteArray.data_append, Array.toList_append]; rfl
  · refine ⟨pair_no _ (List.replicate n (Lib.upperB c)) V.data.toList ?_ hu61 (.inr ?_), by rw [ByteArray.size_append, ByteArray.size_append]; omega⟩
    · rw [ByteArray.data_append, ByteArray.data_append, Array.toList_append, Array.toList_append, hU, List.append_assoc]; rfl
    · rw [rep_all _ _ _ hn]; exact u1
  · refine ⟨pair_no _ (List.replicate n c ++ [49]) V.data.toList ?_ ?_ (.inr ?_), by rw [ByteArray.size_append, ByteArray.size_append]; omega⟩
    · rw [ByteArray.data_append, ByteArray.data_append, Array.toList_append, Array.toList_append, hK, List.append_assoc, List.append_assoc]; rfl
    · intro hm
      rcases List.mem_append.1 hm with h | h
      · exact hk61 h
      · revert h; decide
    · rw [List.all_append, show ([49] : List UInt8).all isLow = false from by decide, Bool.and_false]
  · refine ⟨pair_no _ (32 :: List.replicate n c) V.data.toList ?_ ?_ (.inr ?_), by rw [ByteArray.size_append, ByteArray.size_append, ByteArray.size_append]; omega⟩
    · rw [ByteArray.data_append, ByteArray.data_append, ByteArray.data_append, Array.toList_append, Array.toList_append, Array.toList_append, hK, List.append_assoc, List.append_assoc]; rfl
    · intro hm
      rcases List.mem_cons.1 hm with h | h
      · revert h; decide
      · exact hk61 h
    · rw [List.all_cons, show isLow 32 = false from by decide, Bool.false_and]
  · exact ⟨pair_without _ (by simp), by omega⟩
theorem six_cellW (w : World) (K U V : ByteArray) (e : TypeId) (k : Nat) (x : ByteArray) (h : (sixW K U V)[k]? = some x) :
    (w.alloc (.cells #[.string K, .string (⟨#[61]⟩ ++ V), .string (U ++ ⟨#[61]⟩ ++ V), .string (K ++ ⟨#[49, 61]⟩ ++ V), .string (⟨#[32]⟩ ++ K ++ ⟨#[61]⟩ ++ V), .string ⟨#[]⟩] e)).cell? ⟨w.heap.size, k, none⟩ = some (.string x) := by
  match k, h with
  | 0, h => simp [sixW] at h; subst h; simp
  | 1, h => simp [sixW] at h; subst h; simp
  | 2, h => simp [sixW] at h; subst h; simp
  | 3, h => simp [sixW] at h; subst h; simp
  | 4, h => simp [sixW] at h; subst h; simp
  | 5, h => simp [sixW] at h; subst h; simp
theorem it_sizeW (n : Int) (h0 : -9223372036854775808 ≤ n) (h1 : n ≤ 9223372036854775807) : (Lib.itoa n).length ≤ 21 := by
  have hl : (Lib.decDigits n.natAbs).length ≤ 20 := by rw [Lib.decDigits_length]; exact nDigits_le 19 _ (by omega)
  by_cases h : n < 0
  · rw [itoa_neg h, List.length_cons]; omega
  · rw [itoa_pos (by omega)]; omega
theorem low_of (q : Nat) (h : q < 26) : isLow (UInt8.ofNat (97 + q)) = true ∧ (UInt8.ofNat (97 + q)).toNat = 97 + q := by
  have e : (UInt8.ofNat (97 + q)).toNat = 97 + q := by rw [UInt8.toNat_ofNat']; omega
  refine ⟨?_, e⟩
  unfold isLow; rw [e, decide_eq_true_iff]; omega
theorem rep_ascii (c : UInt8) (n : Nat) (hc : isLow c = true) : ∀ (j : Nat) (b : UInt8), (List.replicate n c)[j]? = some b → b.toNat < 128 := by
  intro j b h
  have := List.eq_of_mem_replicate (List.mem_of_getElem? h)
  subst this
  unfold isLow at hc; rw [decide_eq_true_iff] at hc; omega
theorem ba_ext {a b : ByteArray} (h : a.data.toList = b.data.toList) : a = b := by
  apply ByteArray.ext; exact Array.toList_inj.1 h

/-! Limits. -/
theorem plim_tx {t u : Nat} (h : limOk t u = true) : plimS t u = limTx t u ∧ plimE t u = 0 := by
  unfold plimS plimE limTx
  rw [h, if_pos rfl, if_pos rfl]
  refine ⟨?_, rfl⟩
  by_cases ht : t = 0
  · subst ht; rfl
  · rw [if_neg (by omega), if_neg ht, Int.toNat_natCast, Int.toNat_natCast]; simp
theorem limTx_ascii (t u : Nat) : ∀ (j : Nat) (b : UInt8), (limTx t u)[j]? = some b → b.toNat < 128 := by
  have hp : ∀ (d : Nat) (b : UInt8), b ∈ prnS d → b.toNat < 128 := by
    intro d b hb
    rcases prn_mem hb with h | ⟨v, h⟩
    · unfold isDig at h; rw [decide_eq_true_iff] at h; omega
    · rcases letr_cases v with e | e | e | e <;> rw [e] at h <;> subst h <;> decide
  intro j b h
  have hm := List.mem_of_getElem? h
  by_cases ht : t = 0
  · subst ht
    rw [limTx_zero] at hm
    simp only [List.mem_cons, List.not_mem_nil, or_false] at hm
    rcases hm with rfl | rfl | rfl | rfl <;> decide
  · rw [limTx_pos u ht] at hm
    simp only [List.mem_cons, List.mem_append] at hm
    rcases hm with rfl | rfl | hm | rfl | hm
    · decide
    · decide
    · exact hp t b hm
    · decide
    · exact hp u b hm
/-- The texts of UnitsLimitBack that are no limits. -/
def fiveL (S U R : ByteArray) : List ByteArray := [S ++ ⟨#[32]⟩, S ++ ⟨#[43, 48, 115]⟩, ⟨#[50]⟩ ++ S, U, R ++ ⟨#[63]⟩]
theorem app_dl (a b : ByteArray) : (a ++ b).data.toList = a.data.toList ++ b.data.toList := by rw [ByteArray.data_append, Array.toList_append]
theorem five_no (S U R : ByteArray) (t u : Nat) (hS : S.data.toList = limTx t u) (hU : U.data.toList = Lib.toUpperA (limTx t u)) (hR : R.data.toList = Lib.replace (limTx t u) [43] [45] 1) :
    ∀ x ∈ fiveL S U R, limT x = 0 ∧ limU x = 0 ∧ limE x = 10 ∧ x.size ≤ S.size + U.size + R.size + 3 := by
  have s1 : (⟨#[32]⟩ : ByteArray).size = 1 := rfl
  have s2 : (⟨#[43, 48, 115]⟩ : ByteArray).size = 3 := rfl
  have s3 : (⟨#[50]⟩ : ByteArray).size = 1 := rfl
  have s4 : (⟨#[63]⟩ : ByteArray).size = 1 := rfl
  have hf : ∀ x, limP x = none → x.size ≤ S.size + U.size + R.size + 3 → limT x = 0 ∧ limU x = 0 ∧ limE x = 10 ∧ x.size ≤ S.size + U.size + R.size + 3 :=
    fun x h h2 => ⟨(lim_none h).1, (lim_none h).2.1, (lim_none h).2.2, h2⟩
  intro x hx
  simp only [fiveL, List.mem_cons, List.not_mem_nil, or_false] at hx
  rcases hx with rfl | rfl | rfl | rfl | rfl
  · exact hf _ (lim_blank _ t u [32] (by rw [app_dl, hS]) (by simp) (fun k => nodig_all k 32 [] (by decide))) (by rw [ByteArray.size_append]; omega)
  · exact hf _ (lim_blank _ t u [43, 48, 115] (by rw [app_dl, hS]) (by simp) (fun k => nodig_all k 43 _ (by decide))) (by rw [ByteArray.size_append]; omega)
  · exact hf _ (lim_two _ t u (by rw [app_dl, hS]; rfl)) (by rw [ByteArray.size_append]; omega)
  · exact hf _ (lim_upper _ t u hU) (by omega)
  · exact hf _ (lim_repl _ t u (by rw [app_dl, hR])) (by rw [ByteArray.size_append]; omega)
theorem five_cell (w : World) (S U R : ByteArray) (e : TypeId) (k : Nat) (x : ByteArray) (h : (fiveL S U R)[k]? = some x) :
    (w.alloc (.cells #[.string (S ++ ⟨#[32]⟩), .string (S ++ ⟨#[43, 48, 115]⟩), .string (⟨#[50]⟩ ++ S), .string U, .string (R ++ ⟨#[63]⟩)] e)).cell? ⟨w.heap.size, k, none⟩ = some (.string x) := by
  match k, h with
  | 0, h => simp [fiveL] at h; subst h; simp
  | 1, h => simp [fiveL] at h; subst h; simp
  | 2, h => simp [fiveL] at h; subst h; simp
  | 3, h => simp [fiveL] at h; subst h; simp
  | 4, h => simp [fiveL] at h; subst h; simp
theorem limTx_len (t u : Nat) (ht : t ≤ 68719476736) (hu : u ≤ 68719476736) (hp : ∀ d, d ≤ 68719476736 → (prnS d).length ≤ 48) : (limTx t u).length ≤ 100 := by
  have h1 := hp t ht
  have h2 := hp u hu
  unfold limTx
  split
  · decide
  · simp only [List.length_cons, List.length_append]; omega
theorem repl_len (t u : Nat) (ht : t ≤ 68719476736) (hu : u ≤ 68719476736) (hp : ∀ d, d ≤ 68719476736 → (prnS d).length ≤ 48) : (Lib.replace (limTx t u) [43] [45] 1).length ≤ 100 := by
  have h1 := hp t ht
  have h2 := hp u hu
  by_cases h0 : t = 0
  · subst h0
    rw [limTx_zero, repl_no _ (by decide)]; decide
  · rw [limTx_pos u h0]
    have e := repl_one (49 :: 47 :: prnS t) (prnS u) (by
      intro hm
      rcases List.mem_cons.1 hm with h1 | hm
      · exact absurd h1 (by decide)
      · rcases List.mem_cons.1 hm with h1 | hm
        · exact absurd h1 (by decide)
        · exact prn_no43 t hm)
    rw [List.cons_append, List.cons_append] at e
    rw [e]
    simp only [List.length_cons, List.length_append]; omega
theorem count_plus (s : ByteArray) : Lib.countB s ⟨#[43]⟩ ≤ s.size := Lib.countB_le ⟨#[43]⟩ (by decide) s.size s (Nat.le_refl _)
end Go.Proofs.YtfcodadmfgpgcaaGreatDoor.Lx
