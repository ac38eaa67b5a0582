/- Plain facts that the outright statements of chapter 13 take: texts of parts, texts that are none, long numbers. No program in sight. -/
import Derived.Test.YtpjocfkolnfjiaaGreatDoorUnSpec
namespace Go.Proofs.YtpjocfkolnfjiaaGreatDoor.Lx
open Go Go.RowKit

/-- A number with a unit, or nothing for 0. -/
def pc (N u : Nat) : List UInt8 := if N = 0 then [] else Lib.decDigits N ++ [letr u]
theorem pc_zero (u : Nat) : pc 0 u = [] := rfl
theorem pc_pos {N : Nat} (u : Nat) (h : N ≠ 0) : pc N u = Lib.decDigits N ++ [letr u] := by unfold pc; rw [if_neg h]
theorem piece_pc (k d : Nat) : piece k d = pc (d / secs k) k := rfl
theorem rd_pc (N u k : Nat) (tail : List UInt8) (hu : u < 4) (hk : k ≤ u) :
    ∃ k', (N ≠ 0 → k' = u + 1) ∧ (N = 0 → k' = k) ∧ rd (pc N u ++ tail) k = (rd tail k').map fun v => N * secs u + v := by
  by_cases h : N = 0
  · subst h
    refine ⟨k, fun h => absurd rfl h, fun _ => rfl, ?_⟩
    rw [pc_zero, List.nil_append]
    cases rd tail k <;> simp
  · refine ⟨u + 1, fun _ => rfl, fun h2 => absurd h2 h, ?_⟩
    rw [pc_pos u h, List.append_assoc, List.singleton_append]
    exact rd_digits N u k tail (Nat.pos_of_ne_zero h) hu hk
/-- The text of four numbers. -/
def pcs (a b c d : Nat) : List UInt8 := pc a 0 ++ (pc b 1 ++ (pc c 2 ++ pc d 3))
def fst4 (a b c d : Nat) : Nat := if a ≠ 0 then 0 else if b ≠ 0 then 1 else if c ≠ 0 then 2 else if d ≠ 0 then 3 else 4
theorem rd_pcs (a b c d : Nat) (tail : List UInt8) : ∃ k', (fst4 a b c d < 4 → fst4 a b c d < k') ∧ rd (pcs a b c d ++ tail) 0 = (rd tail k').map fun v => a * 86400 + b * 3600 + c * 60 + d + v := by
  obtain ⟨k0, p0, q0, e0⟩ := rd_pc a 0 0 (pc b 1 ++ (pc c 2 ++ (pc d 3 ++ tail))) (by omega) (by omega)
  have b0 : k0 ≤ 1 := by by_cases h : a = 0; have := q0 h; omega; have := p0 h; omega
  obtain ⟨k1, p1, q1, e1⟩ := rd_pc b 1 k0 (pc c 2 ++ (pc d 3 ++ tail)) (by omega) b0
  have b1 : k1 ≤ 2 := by by_cases h : b = 0; have := q1 h; omega; have := p1 h; omega
  obtain ⟨k2, p2, q2, e2⟩ := rd_pc c 2 k1 (pc d 3 ++ tail) (by omega) b1
  have b2 : k2 ≤ 3 := by by_cases h : c = 0; have := q2 h; omega; have := p2 h; omega
  obtain ⟨k3, p3, q3, e3⟩ := rd_pc d 3 k2 tail (by omega) b2
  refine ⟨k3, ?_, ?_⟩
  · clear e0 e1 e2 e3
    unfold fst4
    by_cases ha : a = 0
    · have := q0 ha
      by_cases hb : b = 0
      · have := q1 hb
        by_cases hc : c = 0
        · have := q2 hc
          by_cases hd : d = 0
          · rw [if_neg (by omega), if_neg (by omega), if_neg (by omega), if_neg (by omega)]; intro h; omega
          · have := p3 hd
            rw [if_neg (by omega), if_neg (by omega), if_neg (by omega), if_pos hd]; intro h; omega
        · have := p2 hc
          rw [if_neg (by omega), if_neg (by omega), if_pos hc]; intro h
          by_cases hd : d = 0
          · have := q3 hd; omega
          · have := p3 hd; omega
      · have := p1 hb
        rw [if_neg (by omega), if_pos hb]; intro h
        have : k1 ≤ k3 := by
          by_cases hc : c = 0
          · have := q2 hc
            by_cases hd : d = 0
            · have := q3 hd; omega
            · have := p3 hd; omega
          · have := p2 hc
            by_cases hd : d = 0
            · have := q3 hd; omega
            · have := p3 hd; omega
        omega
    · have := p0 ha
      rw [if_pos ha]; intro h
      have h1 : 1 ≤ k1 := by
        by_cases hb : b = 0
        · have := q1 hb; omega
        · have := p1 hb; omega
      have h2 : 1 ≤ k2 := by
        by_cases hc : c = 0
        · have := q2 hc; omega
        · have := p2 hc; omega
      by_cases hd : d = 0
      · have := q3 hd; omega
      · have := p3 hd; omega
  · unfold pcs
    rw [List.append_assoc, List.append_assoc, List.append_assoc, e0, e1, e2, e3]
    cases rd tail k3 with
    | none => simp only [Option.map_none]
    | some v =>
      rw [Option.map_some, Option.map_some, Option.map_some, Option.map_some, Option.map_some]
      exact congrArg some (by simp only [secs]; omega)
theorem rd_pcs_all (a b c d : Nat) : rd (pcs a b c d) 0 = some (a * 86400 + b * 3600 + c * 60 + d) := by
  obtain ⟨k, _, e⟩ := rd_pcs a b c d []
  rw [List.append_nil, rd_nil, Option.map_some] at e
  rw [e]; exact congrArg some (Nat.add_zero _)
/-- The first piece. -/
theorem pcs_first (a b c d : Nat) (h : fst4 a b c d < 4) : ∃ N r, N ≠ 0 ∧ pcs a b c d = Lib.decDigits N ++ letr (fst4 a b c d) :: r := by
  unfold fst4 at h ⊢
  unfold pcs
  by_cases ha : a = 0
  · by_cases hb : b = 0
    · by_cases hc : c = 0
      · by_cases hd : d = 0
        · simp_all
        · exact ⟨d, [], hd, by simp [ha, hb, hc, hd, pc]⟩
      · exact ⟨c, _, hc, by simp [ha, hb, hc, pc]; rfl⟩
    · exact ⟨b, _, hb, by simp [ha, hb, pc]; rfl⟩
  · exact ⟨a, _, ha, by simp [ha, pc]; rfl⟩
theorem pcs_nil (a b c d : Nat) : pcs a b c d = [] ↔ fst4 a b c d = 4 := by
  constructor
  · intro h
    by_cases h4 : fst4 a b c d < 4
    · obtain ⟨N, r, _, e⟩ := pcs_first a b c d h4
      rw [h] at e
      simp at e
    · unfold fst4 at h4 ⊢
      by_cases ha : a = 0 <;> by_cases hb : b = 0 <;> by_cases hc : c = 0 <;> by_cases hd : d = 0 <;> simp_all
  · intro h
    unfold fst4 at h
    by_cases ha : a = 0 <;> by_cases hb : b = 0 <;> by_cases hc : c = 0 <;> by_cases hd : d = 0 <;> simp_all [pcs, pc]
theorem fst_lt {a b c d : Nat} (h : pcs a b c d ≠ []) : fst4 a b c d < 4 := by
  have hle : fst4 a b c d ≤ 4 := by
    unfold fst4
    by_cases ha : a = 0 <;> by_cases hb : b = 0 <;> by_cases hc : c = 0 <;> by_cases hd : d = 0 <;> simp_all
  have := mt (pcs_nil a b c d).2 h
  omega
theorem pcs_head {a b c d : Nat} (h : pcs a b c d ≠ []) : ∃ x r, pcs a b c d = x :: r ∧ isDig x = true ∧ x ≠ 48 := by
  obtain ⟨N, r, hN, e⟩ := pcs_first a b c d (fst_lt h)
  cases hd : Lib.decDigits N with
  | nil => exact absurd hd (dd_ne N)
  | cons x m =>
    refine ⟨x, m ++ letr (fst4 a b c d) :: r, by rw [e, hd]; rfl, ?_, ?_⟩
    · have := dd_all N; rw [hd, List.all_cons, Bool.and_eq_true] at this; exact this.1
    · have := dd_head N (Nat.pos_of_ne_zero hN); rw [hd] at this; simpa using this
/-- Texts that are no durations. -/
theorem dur_none {l : List UInt8} (h : rd l 0 = none) (h2 : l ≠ [48, 115]) : durS l = none := by
  unfold durS
  rw [if_neg h2]
  by_cases h0 : l = []
  · rw [if_pos h0]
  · rw [if_neg h0]; exact h
theorem rd_nodig {l : List UInt8} (k : Nat) (h : ∃ x r, l = x :: r ∧ isDig x = false) : rd l k = none := by
  obtain ⟨x, r, rfl, hx⟩ := h
  refine rd_bad k (List.cons_ne_nil _ _) (.inl ?_)
  rw [digs_cons, if_neg (by rw [hx]; decide)]
theorem rd_zero (r : List UInt8) (k : Nat) : rd (48 :: r) k = none := by
  refine rd_bad k (List.cons_ne_nil _ _) (.inr ?_)
  rw [digs_cons, if_pos (by decide)]; rfl
theorem rd_alldig {l : List UInt8} (k : Nat) (h : l ≠ []) (hd : l.all isDig = true) : rd l k = none := by
  refine rd_end k h ?_
  unfold rests
  exact (dropWhile_nil isDig l).2 hd
theorem pcs_two {a b c d : Nat} (r : List UInt8) : pcs a b c d ++ r = [48, 115] → pcs a b c d = [] := by
  intro e
  by_cases h : pcs a b c d = []
  · exact h
  · obtain ⟨x, m, hx, _, h48⟩ := pcs_head h
    rw [hx] at e
    simp only [List.cons_append, List.cons.injEq] at e
    exact absurd e.1 h48
/-- With a tail that nothing can be, it is none. -/
theorem pcs_tail {a b c d : Nat} (h : pcs a b c d ≠ []) {tail : List UInt8} (ht : ∀ k, rd tail k = none) : durS (pcs a b c d ++ tail) = none := by
  obtain ⟨k, _, e⟩ := rd_pcs a b c d tail
  exact dur_none (by rw [e, ht]; rfl) (fun e2 => h (pcs_two _ e2))
theorem pcs_twice {a b c d : Nat} (h : pcs a b c d ≠ []) : durS (pcs a b c d ++ pcs a b c d) = none := by
  obtain ⟨k, hk, e⟩ := rd_pcs a b c d (pcs a b c d)
  have hf := fst_lt h
  obtain ⟨N, r, hN, e2⟩ := pcs_first a b c d hf
  have hr : rd (pcs a b c d) k = none := by
    obtain ⟨d1, d2⟩ := digs_app (Lib.decDigits N) r (letr (fst4 a b c d)) (dd_all N) (letr_nodig _)
    rw [e2]
    refine rd_unit k d2 (.inr ?_)
    rw [unitIx_letr _ hf]; exact hk hf
  exact dur_none (by rw [e, hr]; rfl) (fun e2 => h (pcs_two _ e2))
theorem pcs_ahead {a b c d : Nat} (x : UInt8) (hx : isDig x = false) : durS (x :: pcs a b c d) = none :=
  dur_none (rd_nodig 0 ⟨x, _, rfl, hx⟩) (by intro e; simp only [List.cons.injEq] at e; rw [e.1] at hx; revert hx; decide)
theorem pcs_zero_ahead {a b c d : Nat} (h : pcs a b c d ≠ []) : durS (48 :: pcs a b c d) = none := by
  refine dur_none (rd_zero _ 0) ?_
  obtain ⟨x, m, hx, hd, _⟩ := pcs_head h
  rw [hx]
  intro e
  simp only [List.cons.injEq] at e
  rw [e.2.1] at hd
  revert hd; decide
theorem pcs_0s_ahead {a b c d : Nat} (h : pcs a b c d ≠ []) : durS ([48, 115] ++ pcs a b c d) = none := by
  refine dur_none (rd_zero _ 0) ?_
  obtain ⟨x, m, hx, hd, _⟩ := pcs_head h
  rw [hx]
  intro e
  simp at e
/-- Without the last byte. -/
theorem pcs_last (a b c d : Nat) (h : pcs a b c d ≠ []) : ∃ a' b' c' N, N ≠ 0 ∧ (pcs a b c d).dropLast = pcs a' b' c' 0 ++ Lib.decDigits N := by
  have key : ∀ (x : List UInt8) (N u : Nat), N ≠ 0 → (x ++ pc N u).dropLast = x ++ Lib.decDigits N := by
    intro x N u hN
    rw [pc_pos u hN, ← List.append_assoc, List.dropLast_concat]
  by_cases hd : d = 0
  · subst hd
    by_cases hc : c = 0
    · subst hc
      by_cases hb : b = 0
      · subst hb
        by_cases ha : a = 0
        · subst ha; exact absurd rfl h
        · refine ⟨0, 0, 0, a, ha, ?_⟩
          have := key [] a 0 ha
          simpa [pcs, pc] using this
      · refine ⟨a, 0, 0, b, hb, ?_⟩
        have := key (pc a 0) b 1 hb
        simpa [pcs, pc_zero] using this
    · refine ⟨a, b, 0, c, hc, ?_⟩
      have := key (pc a 0 ++ pc b 1) c 2 hc
      simpa [pcs, pc_zero] using this
  · refine ⟨a, b, c, d, hd, ?_⟩
    have := key (pc a 0 ++ (pc b 1 ++ pc c 2)) d 3 hd
    simpa [pcs, pc_zero] using this
theorem pcs_cut {a b c d : Nat} (h : pcs a b c d ≠ []) : durS (pcs a b c d).dropLast = none := by
  obtain ⟨a', b', c', N, hN, e⟩ := pcs_last a b c d h
  rw [e]
  obtain ⟨k, _, e2⟩ := rd_pcs a' b' c' 0 (Lib.decDigits N)
  refine dur_none (by rw [e2, rd_alldig k (dd_ne N) (dd_all N)]; rfl) ?_
  intro e3
  have h1 : pcs a' b' c' 0 = [] := pcs_two _ e3
  rw [h1, List.nil_append] at e3
  have := dd_all N
  rw [e3] at this
  revert this; decide
/-- Two parts exchanged. -/
theorem pc_two (N M u v : Nat) (hN : N ≠ 0) (hM : M ≠ 0) (hu : u < 4) (hv : v < u) : durS (pc N u ++ pc M v) = none := by
  obtain ⟨k, p, _, e⟩ := rd_pc N u 0 (pc M v) hu (by omega)
  have hk := p hN
  have hr : rd (pc M v) k = none := by
    rw [pc_pos v hM]
    obtain ⟨d1, d2⟩ := digs_app (Lib.decDigits M) [] (letr v) (dd_all M) (letr_nodig _)
    refine rd_unit k d2 (.inr ?_)
    rw [unitIx_letr v (by omega)]; omega
  refine dur_none (by rw [e, hr]; rfl) ?_
  intro e2
  rw [pc_pos u hN] at e2
  have hh := congrArg List.head? e2
  rw [List.append_assoc, head_app (dd_ne N)] at hh
  exact dd_head N (Nat.pos_of_ne_zero hN) hh
theorem dur_pcs {a b c d : Nat} (h : pcs a b c d ≠ []) : durS (pcs a b c d) = some (a * 86400 + b * 3600 + c * 60 + d) := by
  have h2 : pcs a b c d ≠ [48, 115] := by
    intro e; exact h (pcs_two [] (by rw [List.append_nil]; exact e))
  unfold durS
  rw [if_neg h2, if_neg h, rd_pcs_all]
theorem text_pcs (d : Nat) : textTo d 4 = pcs (d / 86400) (d / 3600 % 24) (d / 60 % 60) (d % 60) := by
  have e1 : d % 86400 / 3600 = d / 3600 % 24 := by omega
  have e2 : d % 86400 % 3600 / 60 = d / 60 % 60 := by omega
  have e3 : d % 86400 % 3600 % 60 = d % 60 := by omega
  simp only [textTo, List.nil_append, piece_pc, leftAt, secs, pcs, List.append_assoc, Nat.div_one]
  rw [e1, e2, e3]
theorem prn_pos {d : Nat} (h : d ≠ 0) : prnS d = textTo d 4 := by unfold prnS; rw [if_neg h]
/-- The text of a duration with a tail that nothing can be. -/
theorem prn_tail (d : Nat) {tail : List UInt8} (h : tail ≠ []) (ht : ∀ k, rd tail k = none) : durS (prnS d ++ tail) = none := by
  by_cases hd : d = 0
  · subst hd
    refine dur_none (rd_zero _ 0) ?_
    intro e
    have : tail = [] := by simpa [prnS] using e
    exact h this
  · rw [prn_pos hd, text_pcs]
    refine pcs_tail ?_ ht
    rw [← text_pcs]
    exact text_ne d (by omega)
/-- The parts of a cut. -/
theorem cut_at (s : ByteArray) (c : UInt8) (a b : List UInt8) (h : s.data.toList = a ++ c :: b) (ha : c ∉ a) :
    cutIs s c = true ∧ (cutA s c).data.toList = a ∧ (cutB s c).data.toList = b := by
  have e : idx s c = a.length := by
    unfold idx
    rw [h]
    clear h
    induction a with
    | nil => rw [List.nil_append, List.findIdx_cons]; simp
    | cons x a ih =>
      have h1 : (x == c) = false := beq_eq_false_iff_ne.2 fun e => ha (by rw [e]; exact List.mem_cons_self ..)
      have h2 : c ∉ a := fun e => ha (List.mem_cons_of_mem _ e)
      rw [List.cons_append, List.findIdx_cons, ih h2, h1]
      rfl
  have hs : s.size = a.length + (b.length + 1) := by rw [Lib.size_eq, h, List.length_append, List.length_cons]
  refine ⟨?_, ?_, ?_⟩
  · unfold cutIs; rw [decide_eq_true_iff, e, hs]; omega
  · unfold cutA; rw [ext_data, e, h]; simp
  · unfold cutB; rw [Lib.extract_data, e, hs, h]
    rw [show a ++ c :: b = (a ++ [c]) ++ b by simp, List.drop_left' (by simp), List.take_of_length_le (by omega)]
theorem cut_without (s : ByteArray) (c : UInt8) (h : c ∉ s.data.toList) : cutIs s c = false := by
  unfold cutIs
  rw [decide_eq_false_iff_not]
  intro hl
  have hl' : s.data.toList.findIdx (· == c) < s.data.toList.length := by rw [← Lib.size_eq]; exact hl
  have := List.findIdx_getElem (p := (· == c)) (w := hl')
  rw [beq_iff_eq] at this
  exact h (this ▸ List.getElem_mem hl')
/-- Long numbers. -/
theorem dval_zeros : ∀ (n acc : Nat), dval acc (List.replicate n 48) = acc * 10 ^ n
  | 0, acc => by simp [dval]
  | n + 1, acc => by
    rw [List.replicate_succ, dval_cons, dval_zeros n, Nat.pow_succ]
    have : (48 : UInt8).toNat - 48 = 0 := rfl
    rw [this, Nat.add_zero, Nat.mul_comm 10 acc, Nat.mul_assoc, Nat.mul_comm 10]
def longD (n : Nat) : List UInt8 := 49 :: List.replicate n 48
theorem longD_all (n : Nat) : (longD n).all isDig = true := by
  unfold longD
  rw [List.all_cons, List.all_replicate]
  simp only [show isDig 49 = true from by decide, show isDig 48 = true from by decide]
  split <;> rfl
theorem longD_val (n : Nat) : dval 0 (longD n) = 10 ^ n := by
  unfold longD
  rw [dval_cons, dval_zeros]
  show (10 * 0 + 1) * 10 ^ n = 10 ^ n
  omega
theorem rd_long (n u : Nat) (hu : u < 4) (tail : List UInt8) : rd (longD n ++ letr u :: tail) 0 = (rd tail (u + 1)).map fun v => 10 ^ n * secs u + v := by
  obtain ⟨d1, d2⟩ := digs_app (longD n) tail (letr u) (longD_all n) (letr_nodig u)
  have hx := unitIx_letr u hu
  rw [rd_step 0 d2 (by rw [d1]; exact List.cons_ne_nil _ _) (by rw [d1]; unfold longD; rw [List.head?_cons]; decide) (by omega) (by omega), d1, longD_val, hx]
theorem long_not (n : Nat) (r : List UInt8) : longD n ++ r ≠ [48, 115] ∧ longD n ++ r ≠ [] := by
  unfold longD
  constructor
  · intro e; simp only [List.cons_append, List.cons.injEq] at e; exact absurd e.1 (by decide)
  · rw [List.cons_append]; exact List.cons_ne_nil _ _
theorem ten_pow (n : Nat) (h : 11 ≤ n) : 68719476736 < 10 ^ n := by
  have := Nat.pow_le_pow_right (show 0 < 10 by omega) h
  omega
theorem over_par {l : List UInt8} {v : Nat} (h : durS l = some v) (hv : 68719476736 < v) : parV l = 0 ∧ parE l = 7 := by
  unfold parV parE
  rw [h]
  simp only
  rw [if_neg (by omega), if_neg (by omega)]
  exact ⟨rfl, rfl⟩
theorem in_par {l : List UInt8} {v : Nat} (h : durS l = some v) (hv : v ≤ 68719476736) : parV l = v ∧ parE l = 0 := by
  unfold parV parE
  rw [h]
  simp only
  rw [if_pos hv, if_pos hv]
  exact ⟨rfl, rfl⟩
theorem none_par {l : List UInt8} (h : durS l = none) : parV l = 0 ∧ parE l = 10 := by
  unfold parV parE
  rw [h]
  exact ⟨rfl, rfl⟩
/-- UnitsOver's longer texts. -/
theorem over_d1s (n : Nat) (h : 11 ≤ n) : parV (longD n ++ [100, 49, 115]) = 0 ∧ parE (longD n ++ [100, 49, 115]) = 7 := by
  have e := rd_long n 0 (by omega) [49, 115]
  have e2 : rd [49, 115] 1 = some 1 := by decide +kernel
  rw [show (0 : Nat) + 1 = 1 from rfl, e2] at e
  have hd : durS (longD n ++ [100, 49, 115]) = some (10 ^ n * 86400 + 1) := by
    rw [dur_of (long_not n _).1 (long_not n _).2]; exact e
  exact over_par hd (by have := ten_pow n h; omega)
theorem over_d1 (n : Nat) : parV (longD n ++ [100, 49]) = 0 ∧ parE (longD n ++ [100, 49]) = 10 := by
  have e := rd_long n 0 (by omega) [49]
  have e2 : rd [49] 1 = none := by decide +kernel
  rw [show (0 : Nat) + 1 = 1 from rfl, e2] at e
  exact none_par (by rw [dur_of (long_not n _).1 (long_not n _).2]; exact e)
theorem long_s (n : Nat) : durS (longD n ++ [115]) = some (10 ^ n) := by
  have e := rd_long n 3 (by omega) []
  rw [rd_nil] at e
  rw [dur_of (long_not n _).1 (long_not n _).2]
  rw [show letr 3 = 115 from rfl] at e
  rw [e]
  simp only [Option.map_some, secs]; congr 1; omega
theorem long_no43 (n : Nat) (r : List UInt8) (h : (43 : UInt8) ∉ r) : (43 : UInt8) ∉ longD n ++ r := by
  intro hm
  rcases List.mem_append.1 hm with h1 | h1
  · have := List.all_eq_true.1 (longD_all n) _ h1
    revert this; decide
  · exact h h1
theorem rest_data (s : ByteArray) : (s.extract 2 s.size).data.toList = s.data.toList.drop 2 := by
  rw [Lib.extract_data, List.take_of_length_le]
  rw [List.length_drop, Lib.size_eq]; exact Nat.le_refl _
theorem lim_eq {s : ByteArray} (a b : List UInt8) (h : s.data.toList = 49 :: 47 :: (a ++ 43 :: b)) (ha : (43 : UInt8) ∉ a) :
    limP s = match durS a, durS b with
      | some t, some u => if t = 0 then none else some (t, u)
      | _, _ => none := by
  obtain ⟨c1, c2, c3⟩ := cut_at (s.extract 2 s.size) 43 a b (by rw [rest_data, h]; rfl) ha
  unfold limP
  rw [if_neg (by rw [h]; intro e; simp at e), if_pos ⟨by rw [h]; rfl, c1⟩, c2, c3]
  cases durS a <;> cases durS b <;> rfl
theorem lim_nohead {s : ByteArray} (h1 : s.data.toList ≠ [110, 111, 110, 101]) (h2 : s.data.toList.take 2 ≠ [49, 47]) : limP s = none := by
  unfold limP
  rw [if_neg h1, if_neg (fun h => h2 h.1)]
theorem lim_noplus {s : ByteArray} (h1 : s.data.toList ≠ [110, 111, 110, 101]) (h2 : (43 : UInt8) ∉ s.data.toList.drop 2) : limP s = none := by
  unfold limP
  rw [if_neg h1, if_neg (fun h => by rw [cut_without _ _ (by rw [rest_data]; exact h2)] at h; cases h.2)]
theorem over_lim1 (s : ByteArray) (n : Nat) (hn : 11 ≤ n) (h : s.data.toList = [49, 47, 49, 115, 43] ++ (longD n ++ [115])) : limT s = 0 ∧ limU s = 0 ∧ limE s = 7 := by
  have e := lim_eq (s := s) [49, 115] (longD n ++ [115]) (by rw [h]; rfl) (by decide)
  rw [long_s, show durS [49, 115] = some 1 from by decide +kernel] at e
  simp only at e
  rw [if_neg (by omega)] at e
  exact lim_over e (by have := ten_pow n hn; omega)
theorem over_lim2 (s : ByteArray) (n : Nat) (h : s.data.toList = [49, 47] ++ (longD n ++ [115, 43, 48])) : limT s = 0 ∧ limU s = 0 ∧ limE s = 10 := by
  have e := lim_eq (s := s) (longD n ++ [115]) [48] (by rw [h]; simp) (long_no43 n _ (by decide))
  rw [long_s, show durS [48] = none from by decide +kernel] at e
  exact lim_none e
end Go.Proofs.YtpjocfkolnfjiaaGreatDoor.Lx
