/- Plain facts that the outright statements of chapter 13 take: capital letters, limits that are none, pairs. No program in sight. -/
import Derived.Test.YtpjocfkolnfjiaaGreatDoorUnFacts
import Derived.Lib.Case
import Derived.Lib.Replace
namespace Go.Proofs.YtpjocfkolnfjiaaGreatDoor.Lx
open Go Go.RowKit

theorem upperB_dig (c : UInt8) (h : isDig c = true) : Lib.upperB c = c := by
  unfold isDig at h; rw [decide_eq_true_iff] at h
  unfold Lib.upperB Lib.isLowerB
  rw [if_neg]
  rw [Bool.and_eq_true, decide_eq_true_iff, UInt8.le_iff_toNat_le]
  intro h2
  have : (97 : UInt8).toNat = 97 := rfl
  omega
theorem upper_digs {l : List UInt8} (h : l.all isDig = true) : Lib.toUpperA l = l := by
  unfold Lib.toUpperA
  rw [List.all_eq_true] at h
  rw [List.map_congr_left (g := id) (fun x hx => upperB_dig x (h x hx)), List.map_id]
theorem upper_app (a b : List UInt8) : Lib.toUpperA (a ++ b) = Lib.toUpperA a ++ Lib.toUpperA b := by unfold Lib.toUpperA; rw [List.map_append]
theorem upper_cons (a : UInt8) (b : List UInt8) : Lib.toUpperA (a :: b) = Lib.upperB a :: Lib.toUpperA b := rfl
theorem upper_letr (u : Nat) : unitIx (Lib.upperB (letr u)) = 4 ∧ isDig (Lib.upperB (letr u)) = false := by
  match u with
  | 0 => decide
  | 1 => decide
  | 2 => decide
  | n + 3 => exact (show unitIx (Lib.upperB 115) = 4 ∧ isDig (Lib.upperB 115) = false from by decide)
theorem pcs_upper {a b c d : Nat} (h : pcs a b c d ≠ []) : durS (Lib.toUpperA (pcs a b c d)) = none := by
  obtain ⟨N, r, hN, e⟩ := pcs_first a b c d (fst_lt h)
  obtain ⟨u1, u2⟩ := upper_letr (fst4 a b c d)
  rw [e, upper_app, upper_digs (dd_all N), upper_cons]
  obtain ⟨d1, d2⟩ := digs_app (Lib.decDigits N) (Lib.toUpperA r) (Lib.upperB (letr (fst4 a b c d))) (dd_all N) u2
  refine dur_none (rd_unit 0 d2 (.inl u1)) ?_
  intro e2
  have hh := congrArg List.head? e2
  rw [head_app (dd_ne N)] at hh
  exact dd_head N (Nat.pos_of_ne_zero hN) hh
theorem prn_pcs {t : Nat} (h : t ≠ 0) : prnS t = pcs (t / 86400) (t / 3600 % 24) (t / 60 % 60) (t % 60) ∧ pcs (t / 86400) (t / 3600 % 24) (t / 60 % 60) (t % 60) ≠ [] := by
  rw [prn_pos h, ← text_pcs]
  exact ⟨rfl, text_ne t (by omega)⟩
theorem pc_mem {N u : Nat} {x : UInt8} (h : x ∈ pc N u) : isDig x = true ∨ x = letr u := by
  unfold pc at h
  split at h
  · cases h
  · rcases List.mem_append.1 h with h | h
    · exact .inl (List.all_eq_true.1 (dd_all N) x h)
    · exact .inr (by simpa using h)
theorem prn_mem {t : Nat} {x : UInt8} (h : x ∈ prnS t) : isDig x = true ∨ ∃ u, x = letr u := by
  by_cases ht : t = 0
  · subst ht
    have : x = 48 ∨ x = 115 := by simpa [prnS] using h
    rcases this with rfl | rfl
    · exact .inl (by decide)
    · exact .inr ⟨3, rfl⟩
  · rw [(prn_pcs ht).1] at h
    unfold pcs at h
    simp only [List.mem_append] at h
    rcases h with h | h | h | h <;> rcases pc_mem h with h | h
    all_goals first | exact .inl h | exact .inr ⟨_, h⟩
theorem letr_cases (u : Nat) : letr u = 100 ∨ letr u = 104 ∨ letr u = 109 ∨ letr u = 115 := by
  match u with
  | 0 => exact .inl rfl
  | 1 => exact .inr (.inl rfl)
  | 2 => exact .inr (.inr (.inl rfl))
  | n + 3 => exact .inr (.inr (.inr rfl))
theorem prn_no (t : Nat) (c : UInt8) (h1 : isDig c = false) (h2 : c ≠ 100 ∧ c ≠ 104 ∧ c ≠ 109 ∧ c ≠ 115) : c ∉ prnS t := by
  intro h
  rcases prn_mem h with h | ⟨u, h⟩
  · rw [h1] at h; cases h
  · rcases letr_cases u with e | e | e | e <;> rw [e] at h <;> simp_all
theorem prn_no43 (t : Nat) : (43 : UInt8) ∉ prnS t := prn_no t 43 (by decide) (by decide)
theorem upper_no43 {l : List UInt8} (h : (43 : UInt8) ∉ l) : (43 : UInt8) ∉ Lib.toUpperA l := by
  intro hm
  unfold Lib.toUpperA at hm
  obtain ⟨x, hx, e⟩ := List.mem_map.1 hm
  have key : ∀ n : Fin 256, Lib.upperB (UInt8.ofNat n.val) = 43 → UInt8.ofNat n.val = 43 := by decide +kernel
  have := key ⟨x.toNat, x.toNat_lt⟩
  simp only [UInt8.ofNat_toNat] at this
  exact h (this e ▸ hx)
theorem nodig_all (k : Nat) (x : UInt8) (r : List UInt8) (h : isDig x = false) : rd (x :: r) k = none := rd_nodig k ⟨x, r, rfl, h⟩

/-- The text of a limit. -/
def limTx (t u : Nat) : List UInt8 := if t = 0 then [110, 111, 110, 101] else 49 :: 47 :: (prnS t ++ 43 :: prnS u)
theorem limTx_zero (u : Nat) : limTx 0 u = [110, 111, 110, 101] := rfl
theorem limTx_pos {t : Nat} (u : Nat) (h : t ≠ 0) : limTx t u = 49 :: 47 :: (prnS t ++ 43 :: prnS u) := by unfold limTx; rw [if_neg h]
/-- A limit is read back from its text. -/
theorem lim_back (s : ByteArray) (t u : Nat) (h : s.data.toList = limTx t u) (hu : t = 0 → u = 0) : limP s = some (t, u) := by
  by_cases ht : t = 0
  · subst ht
    rw [hu rfl]
    rw [limTx_zero] at h
    unfold limP; rw [if_pos h]
  · rw [limTx_pos u ht] at h
    rw [lim_eq _ _ h (prn_no43 t), dur_back, dur_back]
    simp only
    rw [if_neg ht]
theorem lim_blank (s : ByteArray) (t u : Nat) (tail : List UInt8) (h : s.data.toList = limTx t u ++ tail) (hne : tail ≠ []) (ht : ∀ k, rd tail k = none) : limP s = none := by
  by_cases h0 : t = 0
  · subst h0
    rw [limTx_zero] at h
    refine lim_nohead ?_ ?_
    · rw [h]; intro e
      have := congrArg List.length e
      rw [List.length_append] at this
      have h3 := List.length_pos_iff.2 hne
      have h4 : ([110, 111, 110, 101] : List UInt8).length = 4 := rfl
      rw [h4] at this; omega
    · rw [h]; simp
  · rw [limTx_pos u h0] at h
    rw [lim_eq (prnS t) (prnS u ++ tail) (by rw [h]; simp) (prn_no43 t), prn_tail u hne ht, dur_back]
theorem lim_two (s : ByteArray) (t u : Nat) (h : s.data.toList = 50 :: limTx t u) : limP s = none := by
  refine lim_nohead ?_ ?_
  · rw [h]; intro e; simp only [List.cons.injEq] at e; exact absurd e.1 (by decide)
  · rw [h]; intro e
    unfold limTx at e
    split at e <;> simp at e
theorem lim_upper (s : ByteArray) (t u : Nat) (h : s.data.toList = Lib.toUpperA (limTx t u)) : limP s = none := by
  by_cases h0 : t = 0
  · subst h0
    rw [limTx_zero] at h
    have e : Lib.toUpperA [110, 111, 110, 101] = [78, 79, 78, 69] := by decide
    rw [e] at h
    exact lim_nohead (by rw [h]; decide) (by rw [h]; decide)
  · rw [limTx_pos u h0, upper_cons, upper_cons, upper_app, upper_cons] at h
    have e1 : Lib.upperB 49 = 49 := by decide
    have e2 : Lib.upperB 47 = 47 := by decide
    have e3 : Lib.upperB 43 = 43 := by decide
    rw [e1, e2, e3] at h
    have hd : durS (Lib.toUpperA (prnS t)) = none := by
      obtain ⟨p1, p2⟩ := prn_pcs h0
      rw [p1]; exact pcs_upper p2
    rw [lim_eq _ _ h (upper_no43 (prn_no43 t)), hd]
theorem index_cons_ne (x c : UInt8) (l : List UInt8) (h : x ≠ c) : Lib.index (x :: l) [c] = if Lib.index l [c] = -1 then -1 else Lib.index l [c] + 1 := by
  have e : [c].isPrefixOf (x :: l) = false := by simp [List.isPrefixOf, Ne.symm h]
  simp only [Lib.index, e]
  by_cases h2 : Lib.index l [c] = -1 <;> simp [h2]
theorem index_first (a b : List UInt8) (c : UInt8) (h : c ∉ a) : Lib.index (a ++ c :: b) [c] = (a.length : Int) := by
  induction a with
  | nil =>
    have e : [c].isPrefixOf (c :: b) = true := by simp [List.isPrefixOf]
    simp [Lib.index, e]
  | cons x a ih =>
    have h1 : x ≠ c := fun e => h (by rw [e]; exact List.mem_cons_self ..)
    have h2 : c ∉ a := fun e => h (List.mem_cons_of_mem _ e)
    rw [List.cons_append, index_cons_ne x c _ h1, ih h2, if_neg (by omega), List.length_cons]; omega
theorem index_none (a : List UInt8) (c : UInt8) (h : c ∉ a) : Lib.index a [c] = -1 := by
  induction a with
  | nil => rfl
  | cons x a ih =>
    have h1 : x ≠ c := fun e => h (by rw [e]; exact List.mem_cons_self ..)
    have h2 : c ∉ a := fun e => h (List.mem_cons_of_mem _ e)
    rw [index_cons_ne x c _ h1, ih h2]; rfl
theorem repl_no (l : List UInt8) (h : (43 : UInt8) ∉ l) : Lib.replace l [43] [45] 1 = l := by
  unfold Lib.replace
  rw [if_neg (by decide)]
  cases Lib.replaceNum l [43] 1 with
  | zero => rfl
  | succ k =>
    rw [Lib.replaceK, index_none l 43 h]; rfl
theorem repl_one (a b : List UInt8) (h : (43 : UInt8) ∉ a) : Lib.replace (a ++ 43 :: b) [43] [45] 1 = a ++ 45 :: b := by
  have hc := Lib.count_hit (sub := [43]) (by decide) (index_first a b 43 h)
  have hn : Lib.replaceNum (a ++ 43 :: b) [43] 1 = 1 := by
    unfold Lib.replaceNum
    rw [if_neg (by omega)]; rfl
  unfold Lib.replace
  rw [if_neg (by decide), hn, Lib.replaceK_hit [43] [45] 0 _ a.length (index_first a b 43 h), Lib.replaceK]
  simp
theorem lim_repl (s : ByteArray) (t u : Nat) (h : s.data.toList = Lib.replace (limTx t u) [43] [45] 1 ++ [63]) : limP s = none := by
  by_cases h0 : t = 0
  · subst h0
    rw [limTx_zero, repl_no _ (by decide)] at h
    exact lim_nohead (by rw [h]; decide) (by rw [h]; decide)
  · rw [limTx_pos u h0] at h
    have e := repl_one (49 :: 47 :: prnS t) (prnS u) (by
      intro hm
      rcases List.mem_cons.1 hm with h1 | hm
      · exact absurd h1 (by decide)
      · rcases List.mem_cons.1 hm with h1 | hm
        · exact absurd h1 (by decide)
        · exact prn_no43 t hm)
    rw [List.cons_append, List.cons_append] at e
    rw [e] at h
    refine lim_noplus (by rw [h]; intro e2; simp at e2) ?_
    rw [h]
    intro hm
    have hm2 : (43 : UInt8) ∈ prnS t ++ 45 :: prnS u ++ [63] := by simpa using hm
    simp only [List.mem_append, List.mem_cons, List.not_mem_nil, or_false] at hm2
    rcases hm2 with (hm2 | hm2 | hm2) | hm2
    · exact prn_no43 t hm2
    · exact absurd hm2 (by decide)
    · exact prn_no43 u hm2
    · exact absurd hm2 (by decide)
end Go.Proofs.YtpjocfkolnfjiaaGreatDoor.Lx
