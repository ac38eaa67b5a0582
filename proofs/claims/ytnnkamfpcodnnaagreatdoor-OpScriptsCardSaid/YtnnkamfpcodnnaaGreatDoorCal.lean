/- The calendar, plain: the day numbers of dates by the months of the year (num), the program's own reckoning (dY, dM, dD), and that they are one. -/
namespace Go.Proofs.YtnnkamfpcodnnaaGreatDoor
namespace Cv
def lp (y : Int) : Int := if (y % 4 = 0 ∧ y % 100 ≠ 0) ∨ y % 400 = 0 then 1 else 0
def mlen (y m : Int) : Int := if m = 2 then 28 + lp y else if m = 4 ∨ m = 6 ∨ m = 9 ∨ m = 11 then 30 else 31
def cum (y m : Int) : Int := if m ≤ 1 then 0 else if m = 2 then 31 else (if m = 3 then 59 else if m = 4 then 90 else if m = 5 then 120 else if m = 6 then 151 else if m = 7 then 181 else if m = 8 then 212 else if m = 9 then 243 else if m = 10 then 273 else if m = 11 then 304 else if m = 12 then 334 else 365) + lp y
def before (y : Int) : Int := 365 * (y - 1970) + ((y - 1) / 4 - (y - 1) / 100 + (y - 1) / 400) - 477
def num (y m d : Int) : Int := before y + cum y m + (d - 1)
def Valid (y m d : Int) : Prop := 1970 ≤ y ∧ y ≤ 9999 ∧ 1 ≤ m ∧ m ≤ 12 ∧ 1 ≤ d ∧ d ≤ mlen y m
theorem lp_01 (y : Int) : 0 ≤ lp y ∧ lp y ≤ 1 := by unfold lp; split <;> omega
theorem before_succ (y : Int) : before (y + 1) = before y + 365 + lp y := by
  unfold before lp; split <;> omega
theorem m12 {m : Int} (h1 : 1 ≤ m) (h2 : m ≤ 12) : m = 1 ∨ m = 2 ∨ m = 3 ∨ m = 4 ∨ m = 5 ∨ m = 6 ∨ m = 7 ∨ m = 8 ∨ m = 9 ∨ m = 10 ∨ m = 11 ∨ m = 12 := by omega
theorem cum_succ (y m : Int) (h1 : 1 ≤ m) (h2 : m ≤ 12) : cum y (m + 1) = cum y m + mlen y m := by
  have := lp_01 y
  rcases m12 h1 h2 with h | h | h | h | h | h | h | h | h | h | h | h <;> subst h <;> simp [cum, mlen] <;> omega
theorem m13 {m : Int} (h1 : 1 ≤ m) (h2 : m ≤ 13) : m = 1 ∨ m = 2 ∨ m = 3 ∨ m = 4 ∨ m = 5 ∨ m = 6 ∨ m = 7 ∨ m = 8 ∨ m = 9 ∨ m = 10 ∨ m = 11 ∨ m = 12 ∨ m = 13 := by omega
theorem cum_bd (y m : Int) (h1 : 1 ≤ m) (h2 : m ≤ 13) : 0 ≤ cum y m ∧ cum y m ≤ 366 := by
  have := lp_01 y
  rcases m13 h1 h2 with h | h | h | h | h | h | h | h | h | h | h | h | h <;> subst h <;> simp [cum] <;> omega
theorem mlen_bd (y m : Int) : 28 ≤ mlen y m ∧ mlen y m ≤ 31 := by
  have := lp_01 y
  unfold mlen; (repeat' split) <;> omega
theorem cum_mono (y a : Int) (h1 : 1 ≤ a) : ∀ (n : Nat), a + n ≤ 13 → cum y a ≤ cum y (a + n)
  | 0, _ => by simp
  | n + 1, h => by
    have ih := cum_mono y a h1 n (by omega)
    have s := cum_succ y (a + n) (by omega) (by omega)
    have := mlen_bd y (a + n)
    have e : a + ((n + 1 : Nat) : Int) = a + n + 1 := by omega
    rw [e]; omega
theorem cum_le (y a b : Int) (h1 : 1 ≤ a) (h : a ≤ b) (h2 : b ≤ 13) : cum y a ≤ cum y b := by
  have := cum_mono y a h1 (b - a).toNat (by omega)
  rwa [show a + ((b - a).toNat : Int) = b by omega] at this
theorem before_mono (a b : Int) (h : a ≤ b) : before a ≤ before b := by unfold before; omega
theorem before_ends : before 1970 = 0 ∧ before 10000 = 2932897 := by decide
theorem cum13 (y : Int) : cum y 13 = 365 + lp y := by simp [cum]
theorem doy_bd {y m d : Int} (h : Valid y m d) : 0 ≤ cum y m + (d - 1) ∧ cum y m + (d - 1) < 365 + lp y := by
  obtain ⟨a, b, c, e, f, g⟩ := h
  have h1 := cum_bd y m c (by omega)
  have h2 := cum_succ y m c e
  have h3 := cum_le y (m + 1) 13 (by omega) (by omega) (by omega)
  rw [cum13] at h3
  omega
theorem num_bd {y m d : Int} (h : Valid y m d) : before y ≤ num y m d ∧ num y m d < before (y + 1) := by
  have := doy_bd h
  rw [before_succ]; unfold num; omega
theorem num_range {y m d : Int} (h : Valid y m d) : 0 ≤ num y m d ∧ num y m d ≤ 2932896 := by
  have h1 := num_bd h
  have h2 := before_mono 1970 y h.1
  have h3 := before_mono (y + 1) 10000 (by have := h.2.1; omega)
  have := before_ends
  omega
theorem num_inj {y m d y' m' d' : Int} (h : Valid y m d) (h' : Valid y' m' d') (e : num y m d = num y' m' d') : y = y' ∧ m = m' ∧ d = d' := by
  have a := num_bd h
  have a' := num_bd h'
  have hy : y = y' := by
    rcases Int.lt_trichotomy y y' with l | l | l
    · have := before_mono (y + 1) y' (by omega); omega
    · exact l
    · have := before_mono (y' + 1) y (by omega); omega
  subst hy
  obtain ⟨_, _, c, e1, f, g⟩ := h
  obtain ⟨_, _, c', e1', f', g'⟩ := h'
  have s := cum_succ y m c e1
  have s' := cum_succ y m' c' e1'
  unfold num at e
  have hm : m = m' := by
    rcases Int.lt_trichotomy m m' with l | l | l
    · have := cum_le y (m + 1) m' (by omega) (by omega) (by omega); omega
    · exact l
    · have := cum_le y (m' + 1) m (by omega) (by omega) (by omega); omega
  subst hm
  exact ⟨rfl, rfl, by omega⟩
/-! the program's own reckoning -/
def yoe (d : Int) : Int := (d - d / 1460 + d / 36524 - d / 146096) / 365
def yday (y : Int) : Int := 365 * y + y / 4 - y / 100
theorem yday_ex : ∀ (d : Nat), d ≤ 146096 → ∃ y : Int, 0 ≤ y ∧ y ≤ 399 ∧ yday y ≤ d ∧ (y = 399 ∨ d < yday (y + 1))
  | 0, _ => ⟨0, by unfold yday; omega⟩
  | d + 1, h => by
    obtain ⟨y, h0, h1, h2, h3⟩ := yday_ex d (by omega)
    by_cases hk : y = 399 ∨ ((d + 1 : Nat) : Int) < yday (y + 1)
    · exact ⟨y, h0, h1, by omega, hk⟩
    · refine ⟨y + 1, by omega, by omega, by omega, ?_⟩
      by_cases hy : y + 1 = 399
      · exact .inl hy
      · right
        have : yday (y + 1) + 365 ≤ yday (y + 1 + 1) := by unfold yday; omega
        omega
theorem yoe_is {d y : Int} (h0 : 0 ≤ y) (h1 : y ≤ 399) (h2 : yday y ≤ d) (h3 : y = 399 ∨ d < yday (y + 1)) (h4 : d ≤ 146096) : yoe d = y := by
  unfold yday at h2 h3
  unfold yoe
  obtain ⟨a, ha⟩ : ∃ a, a = y / 4 := ⟨_, rfl⟩
  obtain ⟨c, hc⟩ : ∃ c, c = y / 100 := ⟨_, rfl⟩
  have a1 : (y + 1) / 4 = a ∨ ((y + 1) / 4 = a + 1 ∧ y = 4 * a + 3) := by omega
  have c1 : (y + 1) / 100 = c ∨ ((y + 1) / 100 = c + 1 ∧ y = 100 * c + 99) := by omega
  have q1 : d / 1460 = a ∨ d / 1460 = a + 1 := by omega
  have hc3 : c = 0 ∨ c = 1 ∨ c = 2 ∨ c = 3 := by omega
  have q3 : d / 146096 = 0 ∨ (d / 146096 = 1 ∧ d = 146096) := by omega
  have q2 : d / 36524 = c ∨ (d / 36524 = c + 1 ∧ d = 146096) := by
    rcases hc3 with h | h | h | h <;> subst h <;> rcases a1 with x | x <;> rcases c1 with z | z <;> omega
  rcases q3 with e3 | ⟨e3, e3'⟩
  · rcases q2 with e2 | ⟨e2, e2'⟩
    · rw [e2, e3]
      rcases q1 with e1 | e1 <;> rw [e1] <;> rcases hc3 with h | h | h | h <;> subst h <;> rcases a1 with x | x <;> rcases c1 with z | z <;> omega
    · omega
  · subst e3'
    have : y = 399 := by
      rcases h3 with h | h
      · exact h
      · omega
    subst this
    decide
theorem yoe_bd (d : Int) (h0 : 0 ≤ d) (h1 : d ≤ 146096) : 0 ≤ yoe d ∧ yoe d ≤ 399 ∧ yday (yoe d) ≤ d ∧ (yoe d = 399 ∨ d < yday (yoe d + 1)) := by
  obtain ⟨y, a, b, c, e⟩ := yday_ex d.toNat (by omega)
  rw [show ((d.toNat : Nat) : Int) = d by omega] at c e
  rw [yoe_is a b c e h1]
  exact ⟨a, b, c, e⟩
theorem num_in {y m d : Int} (h1 : 1 ≤ m) (h2 : m ≤ 12) (h3 : 1 ≤ d) (h4 : d ≤ mlen y m) : before y ≤ num y m d ∧ num y m d < before (y + 1) := by
  have a1 := cum_bd y m h1 (by omega)
  have a2 := cum_succ y m h1 h2
  have a3 := cum_le y (m + 1) 13 (by omega) (by omega) (by omega)
  rw [cum13] at a3
  rw [before_succ]; unfold num; omega
def march (y : Int) : Int := 365 * y + y / 4 - y / 100 + y / 400 - 719468
theorem march_is (y : Int) : before y + 59 + lp y = march y := by unfold before march lp; split <;> omega
theorem march_before (y : Int) : before (y + 1) = march y + 306 := by rw [before_succ]; have := march_is y; omega
theorem march_cyc (c y : Int) (h0 : 0 ≤ y) (h1 : y ≤ 399) : march (400 * c + y) = 146097 * c + yday y - 719468 := by unfold march yday; omega
theorem lp_next (c y : Int) (h0 : 0 ≤ y) (h1 : y < 399) : lp (400 * c + y + 1) = yday (y + 1) - yday y - 365 := by
  unfold lp yday; split <;> omega
theorem lp_last (c : Int) : lp (400 * c + 399 + 1) = 1 := by unfold lp; rw [if_pos (by omega)]
/-- What a month of the year that begins in March is in the calendar. -/
def mo (mp : Int) : Int := if 12 < mp + 3 then mp + 3 - 12 else mp + 3
def yo (y mp : Int) : Int := if 12 < mp + 3 then y + 1 else y
theorem date_core (y doy : Int) (h0 : 0 ≤ doy) (h1 : doy ≤ 364 + lp (y + 1)) :
    1 ≤ mo ((5 * doy + 2) / 153) ∧ mo ((5 * doy + 2) / 153) ≤ 12 ∧ 1 ≤ doy - (153 * ((5 * doy + 2) / 153) + 2) / 5 + 1 ∧
    doy - (153 * ((5 * doy + 2) / 153) + 2) / 5 + 1 ≤ mlen (yo y ((5 * doy + 2) / 153)) (mo ((5 * doy + 2) / 153)) ∧
    num (yo y ((5 * doy + 2) / 153)) (mo ((5 * doy + 2) / 153)) (doy - (153 * ((5 * doy + 2) / 153) + 2) / 5 + 1) = march y + doy := by
  have l := lp_01 (y + 1)
  have hm : 0 ≤ (5 * doy + 2) / 153 ∧ (5 * doy + 2) / 153 ≤ 11 := by omega
  obtain ⟨mp, hmp⟩ : ∃ mp, mp = (5 * doy + 2) / 153 := ⟨_, rfl⟩
  have e1 := march_is y
  have e2 := march_before y
  rw [← hmp] at hm ⊢
  have hc : mp = 0 ∨ mp = 1 ∨ mp = 2 ∨ mp = 3 ∨ mp = 4 ∨ mp = 5 ∨ mp = 6 ∨ mp = 7 ∨ mp = 8 ∨ mp = 9 ∨ mp = 10 ∨ mp = 11 := by omega
  rcases hc with h | h | h | h | h | h | h | h | h | h | h | h <;> subst h <;> simp [mo, yo, mlen, num, cum] <;> omega
def cyc (n : Int) : Int := (n + 719468) / 146097
def doe (n : Int) : Int := (n + 719468) % 146097
def doy (n : Int) : Int := doe n - yday (yoe (doe n))
def mp (n : Int) : Int := (5 * doy n + 2) / 153
def dD (n : Int) : Int := doy n - (153 * mp n + 2) / 5 + 1
def dM (n : Int) : Int := mo (mp n)
def dY (n : Int) : Int := yo (400 * cyc n + yoe (doe n)) (mp n)
theorem doy_is (n : Int) : 0 ≤ doe n ∧ doe n ≤ 146096 ∧ 0 ≤ yoe (doe n) ∧ yoe (doe n) ≤ 399 ∧ 0 ≤ doy n ∧ doy n ≤ 364 + lp (400 * cyc n + yoe (doe n) + 1) ∧ n = march (400 * cyc n + yoe (doe n)) + doy n := by
  have h0 : 0 ≤ doe n ∧ doe n ≤ 146096 := by unfold doe; omega
  obtain ⟨a, b, c, e⟩ := yoe_bd (doe n) h0.1 h0.2
  have hn : n = 146097 * cyc n + doe n - 719468 := by unfold cyc doe; omega
  refine ⟨h0.1, h0.2, a, b, by unfold doy; omega, ?_, ?_⟩
  · rcases e with e | e
    · unfold doy
      rw [e, lp_last]
      have : yday 399 = 145731 := by decide
      omega
    · have h9 : yoe (doe n) < 399 ∨ yoe (doe n) = 399 := by omega
      rcases h9 with h9 | h9
      · rw [lp_next _ _ a h9]; unfold doy; omega
      · unfold doy
        rw [h9, lp_last]
        have : yday 399 = 145731 := by decide
        omega
  · rw [march_cyc _ _ a b]; unfold doy; omega
theorem date_ok (n : Int) (h0 : 0 ≤ n) (h1 : n ≤ 2932896) : Valid (dY n) (dM n) (dD n) ∧ num (dY n) (dM n) (dD n) = n := by
  obtain ⟨_, _, a, b, c, e, f⟩ := doy_is n
  obtain ⟨g1, g2, g3, g4, g5⟩ := date_core (400 * cyc n + yoe (doe n)) (doy n) c e
  have hnum : num (dY n) (dM n) (dD n) = n := by
    unfold dY dM dD mp; rw [g5]; exact f.symm
  refine ⟨?_, hnum⟩
  have hb := num_in (y := dY n) (m := dM n) (d := dD n) g1 g2 g3 g4
  rw [hnum] at hb
  have be := before_ends
  refine ⟨?_, ?_, g1, g2, g3, g4⟩
  · rcases Int.lt_or_le (dY n) 1970 with l | l
    · have := before_mono (dY n + 1) 1970 (by omega); omega
    · exact l
  · rcases Int.lt_or_le 9999 (dY n) with l | l
    · have := before_mono 10000 (dY n) (by omega); omega
    · exact l
theorem date_num {y m d : Int} (h : Valid y m d) : dY (num y m d) = y ∧ dM (num y m d) = m ∧ dD (num y m d) = d := by
  obtain ⟨a, b⟩ := num_range h
  obtain ⟨v, e⟩ := date_ok _ a b
  exact num_inj v h e
/-- The program's count of a date. -/
def cntY (y m : Int) : Int := if m ≤ 2 then y - 1 else y
def cntM (m : Int) : Int := if m ≤ 2 then m + 12 else m
theorem count_is (y m d : Int) (h1 : 1 ≤ m) (h2 : m ≤ 12) :
    cntY y m / 400 * 146097 + cntY y m % 400 * 365 + cntY y m % 400 / 4 - cntY y m % 400 / 100 + (153 * (cntM m - 3) + 2) / 5 + d - 1 - 719468 = num y m d := by
  have hmar : ∀ z : Int, z / 400 * 146097 + z % 400 * 365 + z % 400 / 4 - z % 400 / 100 - 719468 = march z := by intro z; unfold march; omega
  have e1 := march_is y
  have e2 := march_before (y - 1)
  rw [show y - 1 + 1 = y by omega] at e2
  have := hmar (cntY y m)
  rcases m12 h1 h2 with h | h | h | h | h | h | h | h | h | h | h | h <;> subst h <;> simp [cntY, cntM, num, cum] at this ⊢ <;> omega
theorem num_all {y m d : Int} (hy : 1970 ≤ y ∧ y ≤ 9999) (hm : 1 ≤ m ∧ m ≤ 12) (hd : 1 ≤ d ∧ d ≤ 31) : 0 ≤ num y m d ∧ num y m d ≤ 2932896 := by
  have b0 := before_mono 1970 y hy.1
  have be := before_ends
  have c := cum_bd y m hm.1 (by omega)
  refine ⟨by unfold num; omega, ?_⟩
  by_cases h : d ≤ mlen y m
  · have := num_in (y := y) (m := m) (d := d) hm.1 hm.2 hd.1 h
    have := before_mono (y + 1) 10000 (by omega)
    omega
  · have h12 : m ≤ 11 := by
      rcases m12 hm.1 hm.2 with h' | h' | h' | h' | h' | h' | h' | h' | h' | h' | h' | h' <;> subst h' <;> simp [mlen] at h <;> omega
    have c2 := cum_succ y (m + 1) (by omega) (by omega)
    have c3 := cum_le y (m + 1 + 1) 13 (by omega) (by omega) (by omega)
    have c1 := cum_succ y m hm.1 hm.2
    have l1 := mlen_bd y m
    have l2 := mlen_bd y (m + 1)
    rw [cum13] at c3
    have bs := before_succ y
    have := before_mono (y + 1) 10000 (by omega)
    unfold num
    omega
end Cv
end Go.Proofs.YtnnkamfpcodnnaaGreatDoor
