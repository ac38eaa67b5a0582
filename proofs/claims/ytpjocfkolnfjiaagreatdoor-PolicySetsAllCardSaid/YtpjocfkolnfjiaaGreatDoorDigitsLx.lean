/- Plain facts: a number is read from its digits, and what is read are its digits. No program in sight. -/
import Derived.Test.YtpjocfkolnfjiaaGreatDoorLx
import Derived.Test.YtpjocfkolnfjiaaGreatDoorNum
import Derived.Test.YtpjocfkolnfjiaaGreatDoorDigitsP
import Derived.Lib.Repeat
namespace Go.Proofs.YtpjocfkolnfjiaaGreatDoor.Lx
open Go Go.RowKit

theorem head_app {a b : List UInt8} (h : a ≠ []) : (a ++ b).head? = a.head? := by
  cases a with
  | nil => exact absurd rfl h
  | cons c a => rfl
theorem dig_toNat (d : Nat) (h : d < 10) : (UInt8.ofNat (48 + d)).toNat = 48 + d := by rw [UInt8.toNat_ofNat']; omega
theorem isDig_of (d : Nat) (h : d < 10) : isDig (UInt8.ofNat (48 + d)) = true := by unfold isDig; rw [dig_toNat d h, decide_eq_true_iff]; omega
theorem dd_small {u : Nat} (h : u < 10) : Lib.decDigits u = [UInt8.ofNat (48 + u)] := by rw [Lib.decDigits, dif_pos h]
theorem dd_big {u : Nat} (h : ¬ u < 10) : Lib.decDigits u = Lib.decDigits (u / 10) ++ [UInt8.ofNat (48 + u % 10)] := by rw [Lib.decDigits, dif_neg h]
theorem dd_ne (u : Nat) : Lib.decDigits u ≠ [] := by
  by_cases h : u < 10
  · rw [dd_small h]; simp
  · rw [dd_big h]; simp
theorem dd_all (u : Nat) : (Lib.decDigits u).all isDig = true := by
  induction u using Nat.strongRecOn with
  | ind u ih =>
    by_cases h : u < 10
    · rw [dd_small h, List.all_cons, isDig_of u h]; rfl
    · rw [dd_big h, List.all_append, ih (u / 10) (by omega), List.all_cons, isDig_of _ (by omega)]; rfl
theorem dd_val (u : Nat) : dval 0 (Lib.decDigits u) = u := by
  induction u using Nat.strongRecOn with
  | ind u ih =>
    by_cases h : u < 10
    · rw [dd_small h, dval_cons, dig_toNat u h]; simp [dval]
    · rw [dd_big h, dval_snoc, ih (u / 10) (by omega), dig_toNat _ (by omega)]; omega
theorem dd_head (u : Nat) (h0 : 0 < u) : (Lib.decDigits u).head? ≠ some 48 := by
  induction u using Nat.strongRecOn with
  | ind u ih =>
    by_cases h : u < 10
    · rw [dd_small h, List.head?_cons]
      intro e
      have := congrArg UInt8.toNat (Option.some.inj e)
      rw [dig_toNat u h] at this
      have h48 : (48 : UInt8).toNat = 48 := rfl
      omega
    · rw [dd_big h]
      rw [head_app (dd_ne _)]
      exact ih (u / 10) (by omega) (by omega)
theorem head_dig {l : List UInt8} (h : l.all isDig = true) (c : UInt8) (hc : isDig c = false) : l.head? ≠ some c := by
  intro e
  have hm : c ∈ l := List.mem_of_head? e
  have := List.all_eq_true.1 h c hm
  rw [hc] at this; cases this
theorem dval_lt (l : List UInt8) (h : l.all isDig = true) : ∀ acc, dval acc l < (acc + 1) * 10 ^ l.length := by
  induction l with
  | nil => intro acc; simp [dval]
  | cons c l ih =>
    intro acc
    rw [List.all_cons, Bool.and_eq_true] at h
    have hd := (isDig_iff c).1 h.1
    rw [dval_cons, List.length_cons, Nat.pow_succ]
    have h1 := ih h.2 (10 * acc + (c.toNat - 48))
    have h2 : (10 * acc + (c.toNat - 48) + 1) * 10 ^ l.length ≤ (10 * (acc + 1)) * 10 ^ l.length := Nat.mul_le_mul_right _ (by omega)
    have h3 : (10 * (acc + 1)) * 10 ^ l.length = (acc + 1) * (10 ^ l.length * 10) := by rw [Nat.mul_comm 10 (acc + 1), Nat.mul_assoc, Nat.mul_comm 10]
    omega
theorem dd_back : ∀ (n : Nat) (l : List UInt8), l.length = n → l.all isDig = true → l ≠ [] → (l.head? ≠ some 48 ∨ l = [48]) → Lib.decDigits (dval 0 l) = l
  | 0, l, hn, _, hne, _ => absurd (List.eq_nil_of_length_eq_zero hn) hne
  | n + 1, l, hn, hall, hne, hh => by
    obtain ⟨p, c, rfl⟩ : ∃ p c, l = p ++ [c] := ⟨l.dropLast, l.getLast hne, (List.dropLast_concat_getLast hne).symm⟩
    rw [List.all_append, Bool.and_eq_true] at hall
    obtain ⟨hp, hc⟩ := hall
    have hcd := (isDig_iff c).1 (by simpa using hc)
    have hce : UInt8.ofNat (48 + (c.toNat - 48)) = c := by
      apply UInt8.toNat_inj.1
      rw [dig_toNat _ (by omega)]; omega
    rw [dval_snoc]
    by_cases hpe : p = []
    · subst hpe
      rw [show dval 0 ([] : List UInt8) = 0 from rfl, dd_small (by omega), Nat.mul_zero, Nat.zero_add, hce]; rfl
    · have hph : p.head? ≠ some 48 := by
        rcases hh with h | h
        · rwa [head_app hpe] at h
        · have hlen := congrArg List.length h
          simp at hlen; exact absurd hlen hpe
      have ih := dd_back n p (by simpa using hn) hp hpe (.inl hph)
      have hpos : dval 0 p ≠ 0 := by
        intro e
        rw [e, dd_small (by omega)] at ih
        exact hph (by rw [← ih]; rfl)
      rw [dd_big (by omega), show (10 * dval 0 p + (c.toNat - 48)) / 10 = dval 0 p by omega, show (10 * dval 0 p + (c.toNat - 48)) % 10 = c.toNat - 48 by omega, ih, hce]
theorem it_ne (n : Int) : Lib.itoa n ≠ [] := by
  by_cases h : n < 0
  · rw [itoa_neg h]; simp
  · rw [itoa_pos (by omega)]; exact dd_ne _
theorem it_body (n : Int) : body (Lib.itoa n) = Lib.decDigits n.natAbs := by
  by_cases h : n < 0
  · rw [itoa_neg h]; rfl
  · rw [itoa_pos (by omega)]; exact body_plain (head_dig (dd_all _) 45 (by decide))
theorem it_num (n : Int) (h0 : -9223372036854775808 ≤ n) (h1 : n ≤ 9223372036854775807) : numRes (Lib.itoa n) = n ∧ numErr (Lib.itoa n) = 0 := by
  have hb := it_body n
  have hv : numV (Lib.itoa n) = n := by
    unfold numV
    rw [hb, dd_val]
    by_cases h : n < 0
    · rw [itoa_neg h, List.head?_cons, if_pos rfl]; omega
    · rw [itoa_pos (by omega), if_neg (head_dig (dd_all _) 45 (by decide))]; omega
  have hf : numForm (Lib.itoa n) = true := by
    refine num_form (by rw [hb]; exact dd_ne _) ?_ (by rw [hb]; exact dd_all _)
    by_cases hz : n = 0
    · right; rw [hz]; decide +kernel
    · left; rw [hb]; exact dd_head _ (by omega)
  have := num_ok hf (by unfold numIn; rw [hv, decide_eq_true_iff]; omega)
  rw [hv] at this; exact this
theorem body_app {l : List UInt8} (h : l ≠ []) (r : List UInt8) : body (l ++ r) = body l ++ r := by
  cases l with
  | nil => exact absurd rfl h
  | cons c l => unfold body; rw [List.cons_append, List.head?_cons, List.head?_cons]; split <;> rfl
theorem bad_zero (n : Int) : numRes (48 :: Lib.itoa n) = 0 ∧ numErr (48 :: Lib.itoa n) = 10 :=
  num_zero rfl (by intro e; exact it_ne n (List.cons.inj e).2)
theorem bad_first (c : UInt8) (hc : isDig c = false) (h45 : c ≠ 45) (n : Int) : numRes (c :: Lib.itoa n) = 0 ∧ numErr (c :: Lib.itoa n) = 10 :=
  num_nodig (by rw [body_plain (by rw [List.head?_cons]; intro e; exact h45 (Option.some.inj e)), List.all_cons, hc]; rfl)
theorem bad_minus (n : Int) : numRes (45 :: 45 :: Lib.itoa n) = 0 ∧ numErr (45 :: 45 :: Lib.itoa n) = 10 := num_nodig rfl
theorem bad_last (c : UInt8) (hc : isDig c = false) (n : Int) : numRes (Lib.itoa n ++ [c]) = 0 ∧ numErr (Lib.itoa n ++ [c]) = 10 :=
  num_nodig (by rw [body_app (it_ne n), List.all_append, List.all_cons, hc]; simp)
theorem over_long (n : Int) : numRes (49 :: (Lib.repeatL [48] 19 ++ Lib.decDigits n.natAbs)) = 0 ∧ numErr (49 :: (Lib.repeatL [48] 19 ++ Lib.decDigits n.natAbs)) = 7 := by
  have hb : body (49 :: (Lib.repeatL [48] 19 ++ Lib.decDigits n.natAbs)) = 49 :: (Lib.repeatL [48] 19 ++ Lib.decDigits n.natAbs) := body_plain (by rw [List.head?_cons]; decide)
  refine num_over (num_form (by rw [hb]; simp) (.inl (by rw [hb, List.head?_cons]; decide)) ?_) ?_
  · rw [hb, List.all_cons, List.all_append, dd_all]; decide
  · unfold numIn numV
    rw [if_neg (by rw [List.head?_cons]; decide), hb, decide_eq_false_iff_not]
    have e1 : dval 0 (49 :: (Lib.repeatL [48] 19 ++ Lib.decDigits n.natAbs)) = dval 10000000000000000000 (Lib.decDigits n.natAbs) := by
      rw [← List.cons_append, dval_append]; congr 1
    have h2 := dval_ge (Lib.decDigits n.natAbs) 10000000000000000000
    omega
theorem read_back {l : List UInt8} (h : numErr l = 0) : Lib.itoa (numRes l) = l := by
  have hf : numForm l = true := by
    cases hc : numForm l with
    | true => rfl
    | false => rw [(num_noform hc).2] at h; cases h
  have hin : numIn l = true := by
    cases hc : numIn l with
    | true => rfl
    | false => rw [(num_over hf hc).2] at h; cases h
  rw [(num_ok hf hin).1]
  unfold numForm at hf
  simp only [Bool.and_eq_true, Bool.not_eq_true', List.isEmpty_eq_false_iff, Bool.and_eq_false_iff] at hf
  obtain ⟨⟨hne, hz⟩, hall⟩ := hf
  have hz' : (body l).head? ≠ some 48 ∨ l = [48] := by
    rcases hz with h | h
    · left; simpa using h
    · right; simpa using h
  by_cases h45 : l.head? = some 45
  · have hl : l = 45 :: body l := by
      cases l with
      | nil => cases h45
      | cons c r => rw [List.head?_cons] at h45; obtain rfl := Option.some.inj h45; rfl
    have hz2 : (body l).head? ≠ some 48 := by
      rcases hz' with h | h
      · exact h
      · rw [h] at h45; cases h45
    have hd := dd_back _ (body l) rfl hall hne (.inl hz2)
    have hpos : dval 0 (body l) ≠ 0 := by
      intro e
      rw [e, dd_small (by omega)] at hd
      exact hz2 (by rw [← hd]; rfl)
    unfold numV
    rw [if_pos h45, Lib.itoa_neg _ (by omega), hd, ← hl]
  · have hb := body_plain h45
    rw [hb] at hz' hne hall
    unfold numV
    rw [if_neg h45, hb, Lib.itoa_nonneg, dd_back _ l rfl hall hne hz']
theorem read_bad {l : List UInt8} (h : numErr l ≠ 0) : numRes l = 0 ∧ (numErr l = 10 ∨ numErr l = 7 ∧ 18 < l.length) := by
  cases hf : numForm l with
  | false => exact ⟨(num_noform hf).1, .inl (num_noform hf).2⟩
  | true =>
    cases hin : numIn l with
    | true => exact absurd (num_ok hf hin).2 h
    | false =>
      refine ⟨(num_over hf hin).1, .inr ⟨(num_over hf hin).2, ?_⟩⟩
      unfold numForm at hf
      simp only [Bool.and_eq_true] at hf
      have hv := dval_lt (body l) hf.2 0
      have hle := body_le l
      rcases Nat.lt_or_ge 18 l.length with h18 | h18
      · exact h18
      · exfalso
        have hp : 10 ^ (body l).length ≤ 10 ^ 18 := Nat.pow_le_pow_right (by omega) (by omega)
        have hin' : numIn l = true := by
          unfold numIn numV
          rw [decide_eq_true_iff]
          split <;> omega
        rw [hin] at hin'; cases hin'
end Go.Proofs.YtpjocfkolnfjiaaGreatDoor.Lx
