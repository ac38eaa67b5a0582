/- Plain facts on durations as texts: what a text stands for, and the text of a number of seconds. No program in sight. -/
import Derived.Test.YtpjocfkolnfjiaaGreatDoorLx
import Derived.Test.YtpjocfkolnfjiaaGreatDoorNum
import Derived.Test.YtpjocfkolnfjiaaGreatDoorDigitsLx
namespace Go.Proofs.YtpjocfkolnfjiaaGreatDoor.Lx
open Go Go.RowKit

def secs : Nat → Nat
  | 0 => 86400
  | 1 => 3600
  | 2 => 60
  | _ => 1
/-- What the units from k on come to. -/
def remS : Nat → Nat
  | 0 => 90061
  | 1 => 3661
  | 2 => 61
  | 3 => 1
  | _ => 0
def letr : Nat → UInt8
  | 0 => 100
  | 1 => 104
  | 2 => 109
  | _ => 115
def unitIx (c : UInt8) : Nat := if c = 100 then 0 else if c = 104 then 1 else if c = 109 then 2 else if c = 115 then 3 else 4
theorem unitIx_letr (u : Nat) (h : u < 4) : unitIx (letr u) = u := by
  match u, h with
  | 0, _ => decide
  | 1, _ => decide
  | 2, _ => decide
  | 3, _ => decide
theorem letr_unitIx (c : UInt8) (h : unitIx c < 4) : letr (unitIx c) = c := by
  unfold unitIx at h ⊢
  split
  · rename_i e; exact e.symm
  · split
    · rename_i e; exact e.symm
    · split
      · rename_i e; exact e.symm
      · split
        · rename_i e; exact e.symm
        · rename_i h1 h2 h3 h4
          rw [if_neg h1, if_neg h2, if_neg h3, if_neg h4] at h; omega
theorem unitIx_le (c : UInt8) : unitIx c ≤ 4 := by
  unfold unitIx
  by_cases h1 : c = 100
  · rw [if_pos h1]; omega
  · by_cases h2 : c = 104
    · rw [if_neg h1, if_pos h2]; omega
    · by_cases h3 : c = 109
      · rw [if_neg h1, if_neg h2, if_pos h3]; omega
      · by_cases h4 : c = 115
        · rw [if_neg h1, if_neg h2, if_neg h3, if_pos h4]; omega
        · rw [if_neg h1, if_neg h2, if_neg h3, if_neg h4]; omega
theorem letr_eq (c : UInt8) (u : Nat) (h : u < 4) : letr u = c ↔ unitIx c = u := by
  constructor
  · intro e; rw [← e, unitIx_letr u h]
  · intro e; rw [← e, letr_unitIx c (by omega)]
theorem letr_nodig (u : Nat) : isDig (letr u) = false := by
  match u with
  | 0 => decide
  | 1 => decide
  | 2 => decide
  | n + 3 => exact (show isDig 115 = false from by decide)
def digs (l : List UInt8) : List UInt8 := l.takeWhile isDig
def rests (l : List UInt8) : List UInt8 := l.dropWhile isDig
theorem digs_rests (l : List UInt8) : digs l ++ rests l = l := List.takeWhile_append_dropWhile
theorem digs_all (l : List UInt8) : (digs l).all isDig = true := by
  rw [List.all_eq_true]; intro x hx
  unfold digs at hx
  induction l with
  | nil => cases hx
  | cons c l ih =>
    rw [List.takeWhile_cons] at hx
    split at hx
    · rename_i hc
      rcases List.mem_cons.1 hx with rfl | h
      · exact hc
      · exact ih h
    · cases hx
theorem rests_le (l : List UInt8) : (rests l).length ≤ l.length := by
  have := congrArg List.length (digs_rests l)
  rw [List.length_append] at this; omega
theorem digs_app (a b : List UInt8) (c : UInt8) (ha : a.all isDig = true) (hc : isDig c = false) : digs (a ++ c :: b) = a ∧ rests (a ++ c :: b) = c :: b := by
  unfold digs rests
  induction a with
  | nil => rw [List.nil_append, List.takeWhile_cons, List.dropWhile_cons, hc]; exact ⟨rfl, rfl⟩
  | cons x a ih =>
    rw [List.all_cons, Bool.and_eq_true] at ha
    rw [List.cons_append, List.takeWhile_cons, List.dropWhile_cons, ha.1]
    simp only [if_true]
    exact ⟨by rw [(ih ha.2).1], (ih ha.2).2⟩
/-- What is behind the numbers' letters: a text from the unit k on, with n bytes of fuel. -/
def rdF : Nat → List UInt8 → Nat → Option Nat
  | 0, l, _ => if l = [] then some 0 else none
  | n + 1, l, k =>
    if l = [] then some 0 else
    match rests l with
    | [] => none
    | c :: b => if digs l = [] ∨ (digs l).head? = some 48 ∨ unitIx c = 4 ∨ unitIx c < k then none else (rdF n b (unitIx c + 1)).map fun v => dval 0 (digs l) * secs (unitIx c) + v
def rd (l : List UInt8) (k : Nat) : Option Nat := rdF l.length l k
theorem rdF_more : ∀ (n : Nat) (l : List UInt8) (k m : Nat), l.length ≤ n → n ≤ m → rdF m l k = rdF n l k
  | 0, l, k, m, h, _ => by
    have : l = [] := List.eq_nil_of_length_eq_zero (by omega)
    subst this
    cases m <;> simp [rdF]
  | n + 1, l, k, m, h, hm => by
    obtain ⟨m, rfl⟩ : ∃ m', m = m' + 1 := ⟨m - 1, by omega⟩
    rw [rdF, rdF]
    by_cases hl : l = []
    · rw [if_pos hl, if_pos hl]
    · rw [if_neg hl, if_neg hl]
      have hle := rests_le l
      cases hr : rests l with
      | nil => rfl
      | cons c b =>
        rw [hr, List.length_cons] at hle
        simp only
        rw [rdF_more n b (unitIx c + 1) m (by omega) (by omega)]
theorem rd_nil (k : Nat) : rd [] k = some 0 := rfl
theorem rd_eq (l : List UInt8) (k : Nat) (hl : l ≠ []) : rd l k = match rests l with
    | [] => none
    | c :: b => if digs l = [] ∨ (digs l).head? = some 48 ∨ unitIx c = 4 ∨ unitIx c < k then none else (rd b (unitIx c + 1)).map fun v => dval 0 (digs l) * secs (unitIx c) + v := by
  unfold rd
  have h0 : 0 < l.length := List.length_pos_iff.2 hl
  obtain ⟨n, hn⟩ : ∃ n, l.length = n + 1 := ⟨l.length - 1, by omega⟩
  rw [hn, rdF, if_neg hl]
  have hle := rests_le l
  cases hr : rests l with
  | nil => rfl
  | cons c b =>
    rw [hr, List.length_cons] at hle
    simp only
    rw [rdF_more b.length b (unitIx c + 1) n (Nat.le_refl _) (by omega)]
theorem rd_end {l : List UInt8} (k : Nat) (hl : l ≠ []) (hr : rests l = []) : rd l k = none := by rw [rd_eq l k hl, hr]
theorem rd_bad {l : List UInt8} (k : Nat) (hl : l ≠ []) (h : digs l = [] ∨ (digs l).head? = some 48) : rd l k = none := by
  rw [rd_eq l k hl]
  cases rests l with
  | nil => rfl
  | cons c b => simp only; rw [if_pos (by rcases h with h | h; exact .inl h; exact .inr (.inl h))]
theorem rd_unit {l : List UInt8} {c : UInt8} {b : List UInt8} (k : Nat) (hr : rests l = c :: b) (h : unitIx c = 4 ∨ unitIx c < k) : rd l k = none := by
  have hl : l ≠ [] := by rintro rfl; cases hr
  rw [rd_eq l k hl, hr]
  simp only
  rw [if_pos (.inr (.inr h))]
theorem rd_step {l : List UInt8} {c : UInt8} {b : List UInt8} (k : Nat) (hr : rests l = c :: b) (h0 : digs l ≠ []) (h1 : (digs l).head? ≠ some 48) (hu : unitIx c < 4) (hk : k ≤ unitIx c) :
    rd l k = (rd b (unitIx c + 1)).map fun v => dval 0 (digs l) * secs (unitIx c) + v := by
  have hl : l ≠ [] := by rintro rfl; cases hr
  rw [rd_eq l k hl, hr]
  simp only
  rw [if_neg (by rintro (h | h | h | h); exact h0 h; exact h1 h; omega; omega)]
/-- What a written duration stands for. -/
def durS (s : List UInt8) : Option Nat := if s = [48, 115] then some 0 else if s = [] then none else rd s 0
def parV (s : List UInt8) : Int := match durS s with
  | none => 0
  | some v => if v ≤ 68719476736 then (v : Int) else 0
def parE (s : List UInt8) : Int := match durS s with
  | none => 10
  | some v => if v ≤ 68719476736 then 0 else 7
/-- A number that tells what V is, up to MaxSpan. -/
def Cap (c : Int) (v : Nat) : Prop := 0 ≤ c ∧ (v ≤ 68719476736 → c = v) ∧ (68719476736 < v → 68719476736 < c)
theorem secs_cases (u : Nat) (h : u < 4) : (u = 0 ∧ secs u = 86400) ∨ (u = 1 ∧ secs u = 3600) ∨ (u = 2 ∧ secs u = 60) ∨ (u = 3 ∧ secs u = 1) := by
  match u, h with
  | 0, _ => simp [secs]
  | 1, _ => simp [secs]
  | 2, _ => simp [secs]
  | 3, _ => simp [secs]
theorem cap_step {c : Int} {v n u : Nat} (h : Cap c v) (hu : u < 4) : Cap (c + (min n 68719476737 : Nat) * (secs u : Nat)) (v + n * secs u) := by
  obtain ⟨h0, h1, h2⟩ := h
  rcases secs_cases u hu with ⟨_, e⟩ | ⟨_, e⟩ | ⟨_, e⟩ | ⟨_, e⟩ <;> rw [e] <;> refine ⟨?_, ?_, ?_⟩ <;> omega
theorem rem_step {k u : Nat} (hk : k ≤ u) (hu : u < 4) : remS (u + 1) + secs u ≤ remS k := by
  match u, hu with
  | 0, _ => obtain rfl : k = 0 := by omega
            decide
  | 1, _ => rcases (show k = 0 ∨ k = 1 by omega) with rfl | rfl <;> decide
  | 2, _ => rcases (show k = 0 ∨ k = 1 ∨ k = 2 by omega) with rfl | rfl | rfl <;> decide
  | 3, _ => rcases (show k = 0 ∨ k = 1 ∨ k = 2 ∨ k = 3 by omega) with rfl | rfl | rfl | rfl <;> decide
theorem great_step (v n u : Nat) (hu : u < 4) : min (min v 1099511627776 + min n 1099511627776 * secs u) 1099511627776 = min (v + n * secs u) 1099511627776 := by
  rcases secs_cases u hu with ⟨_, e⟩ | ⟨_, e⟩ | ⟨_, e⟩ | ⟨_, e⟩ <;> rw [e] <;> omega
theorem great_digit (a d : Nat) : min (10 * min a 1099511627776 + d) 1099511627776 = min (10 * a + d) 1099511627776 := by omega
theorem cap_great (v : Nat) : Cap (min v 1099511627776 : Nat) v := by refine ⟨?_, ?_, ?_⟩ <;> omega

/-- What is left of d seconds before the unit k. -/
def leftAt (d : Nat) : Nat → Nat
  | 0 => d
  | k + 1 => leftAt d k % secs k
def piece (k d : Nat) : List UInt8 := if d / secs k = 0 then [] else Lib.decDigits (d / secs k) ++ [letr k]
def textTo (d : Nat) : Nat → List UInt8
  | 0 => []
  | k + 1 => textTo d k ++ piece k (leftAt d k)
/-- The text of d seconds. -/
def prnS (d : Nat) : List UInt8 := if d = 0 then [48, 115] else textTo d 4
theorem rd_digits (N u k : Nat) (tail : List UInt8) (hN : 0 < N) (hu : u < 4) (hk : k ≤ u) :
    rd (Lib.decDigits N ++ letr u :: tail) k = (rd tail (u + 1)).map fun v => N * secs u + v := by
  obtain ⟨e1, e2⟩ := digs_app (Lib.decDigits N) tail (letr u) (dd_all N) (letr_nodig u)
  have hx := unitIx_letr u hu
  rw [rd_step k e2 (by rw [e1]; exact dd_ne N) (by rw [e1]; exact dd_head N hN) (by omega) (by omega), e1, dd_val, hx]
theorem rd_piece (u k d : Nat) (tail : List UInt8) (hu : u < 4) (hk : k ≤ u) : ∃ k', k' ≤ u + 1 ∧ rd (piece u d ++ tail) k = (rd tail k').map fun v => d / secs u * secs u + v := by
  unfold piece
  by_cases h : d / secs u = 0
  · rw [if_pos h, h]
    refine ⟨k, by omega, ?_⟩
    rw [List.nil_append]
    cases rd tail k <;> simp
  · rw [if_neg h, List.append_assoc, List.singleton_append]
    exact ⟨u + 1, Nat.le_refl _, rd_digits _ u k tail (Nat.pos_of_ne_zero h) hu hk⟩
theorem text_ne (d : Nat) (h : 0 < d) : textTo d 4 ≠ [] := by
  intro e
  have hp : ∀ k, piece k (leftAt d k) = [] → leftAt d k / secs k = 0 := by
    intro k hk
    unfold piece at hk
    by_cases hz : leftAt d k / secs k = 0
    · exact hz
    · rw [if_neg hz] at hk; simp at hk
  simp only [textTo, List.append_eq_nil_iff] at e
  have e0 := hp 0 e.1.1.1.2
  have e1 := hp 1 e.1.1.2
  have e2 := hp 2 e.1.2
  have e3 := hp 3 e.2
  simp only [leftAt, secs] at e0 e1 e2 e3
  omega
theorem text_head (d : Nat) : textTo d 4 ≠ [48, 115] := by
  have key : ∀ u, u < 4 → ∀ (x : Nat) (r : List UInt8), piece u x ≠ [] → piece u x ++ r ≠ [48, 115] := by
    intro u hu x r hne e
    unfold piece at hne e
    by_cases hz : x / secs u = 0
    · rw [if_pos hz] at hne; exact hne rfl
    · rw [if_neg hz] at e
      have hh := congrArg List.head? e
      rw [List.append_assoc, head_app (dd_ne _)] at hh
      exact dd_head _ (Nat.pos_of_ne_zero hz) hh
  intro e
  simp only [textTo, List.nil_append, List.append_assoc] at e
  by_cases h0 : piece 0 (leftAt d 0) = []
  · rw [h0, List.nil_append] at e
    by_cases h1 : piece 1 (leftAt d 1) = []
    · rw [h1, List.nil_append] at e
      by_cases h2 : piece 2 (leftAt d 2) = []
      · rw [h2, List.nil_append] at e
        by_cases h3 : piece 3 (leftAt d 3) = []
        · rw [h3] at e; cases e
        · exact key 3 (by omega) _ [] h3 (by rw [List.append_nil]; exact e)
      · exact key 2 (by omega) _ _ h2 e
    · exact key 1 (by omega) _ _ h1 e
  · exact key 0 (by omega) _ _ h0 e
/-- A duration is read back from its text. -/
theorem dur_back (d : Nat) : durS (prnS d) = some d := by
  unfold prnS durS
  by_cases h : d = 0
  · rw [if_pos h, if_pos rfl, h]
  · rw [if_neg h, if_neg (text_head d), if_neg (text_ne d (by omega))]
    simp only [textTo, List.nil_append, List.append_assoc]
    obtain ⟨k0, b0, e0⟩ := rd_piece 0 0 (leftAt d 0) (piece 1 (leftAt d 1) ++ (piece 2 (leftAt d 2) ++ piece 3 (leftAt d 3))) (by omega) (by omega)
    obtain ⟨k1, b1, e1⟩ := rd_piece 1 k0 (leftAt d 1) (piece 2 (leftAt d 2) ++ piece 3 (leftAt d 3)) (by omega) b0
    obtain ⟨k2, b2, e2⟩ := rd_piece 2 k1 (leftAt d 2) (piece 3 (leftAt d 3)) (by omega) b1
    obtain ⟨k3, b3, e3⟩ := rd_piece 3 k2 (leftAt d 3) [] (by omega) b2
    rw [List.append_nil] at e3
    rw [e0, e1, e2, e3, rd_nil]
    simp only [Option.map_some, leftAt, secs]
    congr 1
    omega
end Go.Proofs.YtpjocfkolnfjiaaGreatDoor.Lx
