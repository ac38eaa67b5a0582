/- Plain facts on the texts of numbers and of times (chapters 5 and 2): a number's text is its own alone; a time's text has 19 bytes that say its fields. No program in sight. -/
import Derived.Test.YtnnkamfpcodnnaaGreatDoorLx
import Derived.Test.YtnnkamfpcodnnaaGreatDoorNum
import Derived.Test.YtnnkamfpcodnnaaGreatDoorDigitsLx
import Derived.Test.YtnnkamfpcodnnaaGreatDoorCal
namespace Go.Proofs.YtnnkamfpcodnnaaGreatDoor.Lx
open Go Go.RowKit

theorem num_err_cases (l : List UInt8) : numErr l = 0 → numForm l = true ∧ numIn l = true := by
  intro h
  unfold numErr at h
  by_cases hf : numForm l = true
  · rw [if_pos hf] at h
    by_cases hi : numIn l = true
    · exact ⟨hf, hi⟩
    · rw [if_neg hi] at h; omega
  · rw [if_neg hf] at h; omega
theorem it_back {l : List UInt8} (h : numErr l = 0) : Lib.itoa (numRes l) = l := by
  obtain ⟨hf, hi⟩ := num_err_cases l h
  rw [(num_ok hf hi).1]
  unfold numForm at hf
  rw [Bool.and_eq_true, Bool.and_eq_true] at hf
  obtain ⟨⟨h1, h2⟩, h3⟩ := hf
  have hne : body l ≠ [] := by intro e; rw [e] at h1; simp at h1
  have hz : (body l).head? ≠ some 48 ∨ l = [48] := by
    by_cases e : l = [48]
    · exact .inr e
    · left; intro e2; rw [e2] at h2; simp [e] at h2
  by_cases h45 : l.head? = some 45
  · have hl : l = 45 :: body l := by
      cases l with
      | nil => cases h45
      | cons c t => simp at h45; subst h45; rfl
    have hnz : (body l).head? ≠ some 48 := by
      rcases hz with h | h
      · exact h
      · rw [h] at h45; simp at h45
    have hb := dd_back _ (body l) rfl h3 hne (.inl hnz)
    have hpos : 0 < dval 0 (body l) := by
      rcases Nat.eq_zero_or_pos (dval 0 (body l)) with e | e
      · rw [e] at hb
        exfalso; apply hnz; rw [← hb]; decide +kernel
      · exact e
    unfold numV
    rw [if_pos h45, itoa_neg (by omega), Int.natAbs_neg, Int.natAbs_natCast, hb]
    exact hl.symm
  · have hb : body l = l := body_plain h45
    rw [hb] at hne h3 hz
    unfold numV
    rw [if_neg h45, itoa_pos (by omega), Int.natAbs_natCast, hb]
    exact dd_back _ l rfl h3 hne hz

/-! ### the text of a time -/
def dg (n : Int) : UInt8 := UInt8.ofNat (48 + n.toNat)
theorem dg_toNat {n : Int} (h0 : 0 ≤ n) (h9 : n ≤ 9) : ((dg n).toNat : Int) = 48 + n := by unfold dg; rw [dig_toNat _ (by omega)]; omega
theorem dg_inj {a b : Int} (h0 : 0 ≤ a) (h9 : a ≤ 9) (k0 : 0 ≤ b) (k9 : b ≤ 9) (h : dg a = dg b) : a = b := by
  have := congrArg UInt8.toNat h
  have e1 := dg_toNat h0 h9
  have e2 := dg_toNat k0 k9
  omega
def d2 (n : Int) : List UInt8 := [dg (n / 10), dg (n % 10)]
def d4 (n : Int) : List UInt8 := [dg (n / 1000), dg (n / 100 % 10), dg (n / 10 % 10), dg (n % 10)]
theorem d2_inj {a b : Int} (h0 : 0 ≤ a) (h9 : a ≤ 99) (k0 : 0 ≤ b) (k9 : b ≤ 99) (h : d2 a = d2 b) : a = b := by
  unfold d2 at h
  injection h with h1 h2
  injection h2 with h2 _
  have e1 := dg_inj (by omega) (by omega) (by omega) (by omega) h1
  have e2 := dg_inj (by omega) (by omega) (by omega) (by omega) h2
  omega
theorem d4_inj {a b : Int} (h0 : 0 ≤ a) (h9 : a ≤ 9999) (k0 : 0 ≤ b) (k9 : b ≤ 9999) (h : d4 a = d4 b) : a = b := by
  unfold d4 at h
  injection h with h1 h2
  injection h2 with h2 h3
  injection h3 with h3 h4
  injection h4 with h4 _
  have e1 := dg_inj (by omega) (by omega) (by omega) (by omega) h1
  have e2 := dg_inj (by omega) (by omega) (by omega) (by omega) h2
  have e3 := dg_inj (by omega) (by omega) (by omega) (by omega) h3
  have e4 := dg_inj (by omega) (by omega) (by omega) (by omega) h4
  omega
theorem d4_itoa {n : Int} (h0 : 1000 ≤ n) (h9 : n ≤ 9999) : Lib.itoa n = d4 n := by
  rw [itoa_pos (by omega)]
  obtain ⟨m, rfl⟩ := Int.eq_ofNat_of_zero_le (show 0 ≤ n by omega)
  rw [Int.natAbs_natCast, dd_big (by omega), dd_big (by omega), dd_big (by omega), dd_small (by omega)]
  have e : ∀ k : Nat, dg (k : Int) = UInt8.ofNat (48 + k) := fun k => by unfold dg; rw [Int.toNat_natCast]
  have f1 : (m : Int) / 1000 = ((m / 10 / 10 / 10 : Nat) : Int) := by omega
  have f2 : (m : Int) / 100 % 10 = ((m / 10 / 10 % 10 : Nat) : Int) := by omega
  have f3 : (m : Int) / 10 % 10 = ((m / 10 % 10 : Nat) : Int) := by omega
  have f4 : (m : Int) % 10 = ((m % 10 : Nat) : Int) := by omega
  unfold d4
  rw [f1, f2, f3, f4, e, e, e, e]
  rfl
def tmText (t : Int) : List UInt8 :=
  d4 (Cv.dY (t / 86400)) ++ 45 :: d2 (Cv.dM (t / 86400)) ++ 45 :: d2 (Cv.dD (t / 86400)) ++ 32 :: d2 (t % 86400 / 3600) ++ 58 :: d2 (t % 86400 % 3600 / 60) ++ 58 :: d2 (t % 86400 % 60)
def civText (y m d h i s : Int) : List UInt8 := d4 y ++ 45 :: d2 m ++ 45 :: d2 d ++ 32 :: d2 h ++ 58 :: d2 i ++ 58 :: d2 s
def maxTime : Int := 253402300799
/-- Fields of a date with a time of day that a time has. -/
def TmOk (y m d h i s : Int) : Prop := Cv.Valid y m d ∧ 0 ≤ h ∧ h ≤ 23 ∧ 0 ≤ i ∧ i ≤ 59 ∧ 0 ≤ s ∧ s ≤ 59
def tmOf (y m d h i s : Int) : Int := 86400 * Cv.num y m d + (3600 * h + 60 * i + s)
theorem tm_bd {y m d h i s : Int} (H : TmOk y m d h i s) : 0 ≤ tmOf y m d h i s ∧ tmOf y m d h i s ≤ 253402300799 := by
  obtain ⟨v, a, b, c, e, f, g⟩ := H
  have := Cv.num_range v
  unfold tmOf; omega
theorem tm_fields {y m d h i s : Int} (H : TmOk y m d h i s) : tmOf y m d h i s / 86400 = Cv.num y m d ∧ tmOf y m d h i s % 86400 / 3600 = h ∧ tmOf y m d h i s % 86400 % 3600 / 60 = i ∧ tmOf y m d h i s % 86400 % 60 = s := by
  obtain ⟨v, a, b, c, e, f, g⟩ := H
  unfold tmOf; omega
theorem tm_text {y m d h i s : Int} (H : TmOk y m d h i s) : tmText (tmOf y m d h i s) = civText y m d h i s := by
  obtain ⟨e1, e2, e3, e4⟩ := tm_fields H
  obtain ⟨f1, f2, f3⟩ := Cv.date_num H.1
  unfold tmText civText
  rw [e1, e2, e3, e4, f1, f2, f3]
theorem tm_ok {t : Int} (h0 : 0 ≤ t) (h1 : t ≤ 253402300799) :
    TmOk (Cv.dY (t / 86400)) (Cv.dM (t / 86400)) (Cv.dD (t / 86400)) (t % 86400 / 3600) (t % 86400 % 3600 / 60) (t % 86400 % 60) ∧
    tmOf (Cv.dY (t / 86400)) (Cv.dM (t / 86400)) (Cv.dD (t / 86400)) (t % 86400 / 3600) (t % 86400 % 3600 / 60) (t % 86400 % 60) = t := by
  obtain ⟨v, e⟩ := Cv.date_ok (t / 86400) (by omega) (by omega)
  refine ⟨⟨v, by omega, by omega, by omega, by omega, by omega, by omega⟩, ?_⟩
  unfold tmOf; rw [e]; omega
theorem civ_len (y m d h i s : Int) : (civText y m d h i s).length = 19 := rfl
theorem civ_inj {y m d h i s y' m' d' h' i' s' : Int} (a : 0 ≤ y ∧ y ≤ 9999 ∧ 0 ≤ m ∧ m ≤ 99 ∧ 0 ≤ d ∧ d ≤ 99 ∧ 0 ≤ h ∧ h ≤ 99 ∧ 0 ≤ i ∧ i ≤ 99 ∧ 0 ≤ s ∧ s ≤ 99)
    (b : 0 ≤ y' ∧ y' ≤ 9999 ∧ 0 ≤ m' ∧ m' ≤ 99 ∧ 0 ≤ d' ∧ d' ≤ 99 ∧ 0 ≤ h' ∧ h' ≤ 99 ∧ 0 ≤ i' ∧ i' ≤ 99 ∧ 0 ≤ s' ∧ s' ≤ 99)
    (e : civText y m d h i s = civText y' m' d' h' i' s') : y = y' ∧ m = m' ∧ d = d' ∧ h = h' ∧ i = i' ∧ s = s' := by
  unfold civText d4 d2 at e
  simp only [List.cons_append, List.nil_append, List.cons.injEq] at e
  obtain ⟨e1, e2, e3, e4, _, e5, e6, _, e7, e8, _, e9, e10, _, e11, e12, _, e13, e14, _⟩ := e
  have i1 := dg_inj (by omega) (by omega) (by omega) (by omega) e1
  have i2 := dg_inj (by omega) (by omega) (by omega) (by omega) e2
  have i3 := dg_inj (by omega) (by omega) (by omega) (by omega) e3
  have i4 := dg_inj (by omega) (by omega) (by omega) (by omega) e4
  have i5 := dg_inj (by omega) (by omega) (by omega) (by omega) e5
  have i6 := dg_inj (by omega) (by omega) (by omega) (by omega) e6
  have i7 := dg_inj (by omega) (by omega) (by omega) (by omega) e7
  have i8 := dg_inj (by omega) (by omega) (by omega) (by omega) e8
  have i9 := dg_inj (by omega) (by omega) (by omega) (by omega) e9
  have i10 := dg_inj (by omega) (by omega) (by omega) (by omega) e10
  have i11 := dg_inj (by omega) (by omega) (by omega) (by omega) e11
  have i12 := dg_inj (by omega) (by omega) (by omega) (by omega) e12
  have i13 := dg_inj (by omega) (by omega) (by omega) (by omega) e13
  have i14 := dg_inj (by omega) (by omega) (by omega) (by omega) e14
  omega
/-- What a text says of a time: v and an error e; without one the text is that of v, with one it is that of no time. -/
def TimeIs (l : List UInt8) (v e : Int) : Prop :=
  (e = 0 ∧ 0 ≤ v ∧ v ≤ 253402300799 ∧ l = tmText v) ∨ (e ≠ 0 ∧ v = 0 ∧ ∀ t, 0 ≤ t → t ≤ 253402300799 → l ≠ tmText t)
theorem tmText_civ {t : Int} (h0 : 0 ≤ t) (h1 : t ≤ 253402300799) : ∃ y m d h i s, TmOk y m d h i s ∧ tmText t = civText y m d h i s ∧ t = tmOf y m d h i s := by
  obtain ⟨a, b⟩ := tm_ok h0 h1
  exact ⟨_, _, _, _, _, _, a, rfl, b.symm⟩
theorem valid_bd {y m d : Int} (h : Cv.Valid y m d) : 0 ≤ y ∧ y ≤ 9999 ∧ 0 ≤ m ∧ m ≤ 99 ∧ 0 ≤ d ∧ d ≤ 99 := by
  obtain ⟨a, b, c, e, f, g⟩ := h
  have := Cv.mlen_bd y m
  omega
theorem timeIs_ok {y m d h i s : Int} (H : TmOk y m d h i s) : TimeIs (civText y m d h i s) (tmOf y m d h i s) 0 :=
  .inl ⟨rfl, (tm_bd H).1, (tm_bd H).2, (tm_text H).symm⟩
theorem timeIs_bad {y m d h i s e : Int} (a : 0 ≤ y ∧ y ≤ 9999 ∧ 0 ≤ m ∧ m ≤ 99 ∧ 0 ≤ d ∧ d ≤ 99 ∧ 0 ≤ h ∧ h ≤ 99 ∧ 0 ≤ i ∧ i ≤ 99 ∧ 0 ≤ s ∧ s ≤ 99) (H : ¬ TmOk y m d h i s) (he : e ≠ 0) : TimeIs (civText y m d h i s) 0 e := by
  refine .inr ⟨he, rfl, fun t h0 h1 hh => H ?_⟩
  obtain ⟨y', m', d', h', i', s', ok, e1, _⟩ := tmText_civ h0 h1
  rw [e1] at hh
  have bd := valid_bd ok.1
  obtain ⟨_, b1, b2, b3, b4, b5, b6⟩ := ok
  obtain ⟨r1, r2, r3, r4, r5, r6⟩ := civ_inj a (by omega) hh
  subst r1 r2 r3 r4 r5 r6
  exact ⟨by assumption, b1, b2, b3, b4, b5, b6⟩
/-- The form of a text of a time: at place k a digit, or this byte. -/
def formAt (k : Nat) : UInt8 := if k = 4 ∨ k = 7 then 45 else if k = 10 then 32 else if k = 13 ∨ k = 16 then 58 else 48
def okAt (k : Nat) (c : UInt8) : Bool := if formAt k = 48 then isDig c else c == formAt k
theorem isDig_dg {n : Int} (h0 : 0 ≤ n) (h9 : n ≤ 9) : isDig (dg n) = true := by rw [isDig_iff]; have := dg_toNat h0 h9; omega
theorem civ_form {y m d h i s : Int} (a : 0 ≤ y ∧ y ≤ 9999 ∧ 0 ≤ m ∧ m ≤ 99 ∧ 0 ≤ d ∧ d ≤ 99 ∧ 0 ≤ h ∧ h ≤ 99 ∧ 0 ≤ i ∧ i ≤ 99 ∧ 0 ≤ s ∧ s ≤ 99) (k : Nat) (hk : k < 19) :
    ∀ c, (civText y m d h i s)[k]? = some c → okAt k c = true := by
  intro c hc
  have hd : ∀ n : Int, 0 ≤ n → n ≤ 9 → isDig (dg n) = true := fun n h0 h9 => isDig_dg h0 h9
  have hk' : k = 0 ∨ k = 1 ∨ k = 2 ∨ k = 3 ∨ k = 4 ∨ k = 5 ∨ k = 6 ∨ k = 7 ∨ k = 8 ∨ k = 9 ∨ k = 10 ∨ k = 11 ∨ k = 12 ∨ k = 13 ∨ k = 14 ∨ k = 15 ∨ k = 16 ∨ k = 17 ∨ k = 18 := by omega
  rcases hk' with h | h | h | h | h | h | h | h | h | h | h | h | h | h | h | h | h | h | h <;> subst h <;> simp [civText, d4, d2] at hc <;> subst hc <;> simp only [okAt, formAt, Nat.reduceEqDiff, or_self, or_false, if_true, if_false, or_true, beq_self_eq_true] <;> first | rfl | (refine hd _ ?_ ?_ <;> omega)
theorem timeIs_form {l : List UInt8} {e : Int} (he : e ≠ 0) (h : l.length ≠ 19 ∨ ∃ k c, k < 19 ∧ l[k]? = some c ∧ okAt k c = false) : TimeIs l 0 e := by
  refine .inr ⟨he, rfl, fun t h0 h1 hh => ?_⟩
  obtain ⟨y, m, d, h', i, s, ok, e1, _⟩ := tmText_civ h0 h1
  rw [e1] at hh
  have bd := valid_bd ok.1
  obtain ⟨_, b1, b2, b3, b4, b5, b6⟩ := ok
  rcases h with h | ⟨k, c, hk, hc, hb⟩
  · rw [hh] at h; exact h (civ_len ..)
  · rw [hh] at hc
    rw [civ_form (by omega) k hk c hc] at hb
    cases hb
end Go.Proofs.YtnnkamfpcodnnaaGreatDoor.Lx
