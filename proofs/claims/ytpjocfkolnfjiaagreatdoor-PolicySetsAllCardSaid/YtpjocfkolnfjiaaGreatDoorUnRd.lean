/- Plain facts on how the walks of units.read and of its reference go through a text. No program in sight. -/
import Derived.Test.YtpjocfkolnfjiaaGreatDoorUnLx
import Derived.Lib.SlTrimSet
namespace Go.Proofs.YtpjocfkolnfjiaaGreatDoor.Lx
open Go Go.RowKit

theorem digs_cons (c : UInt8) (t : List UInt8) : digs (c :: t) = if isDig c = true then c :: digs t else [] := by unfold digs; rw [List.takeWhile_cons]
theorem rests_cons (c : UInt8) (t : List UInt8) : rests (c :: t) = if isDig c = true then rests t else c :: t := by unfold rests; rw [List.dropWhile_cons]
/-- Between two digits of the reference: n is what has been read of the digits of l0, l is left. -/
def DigRel (l0 l : List UInt8) (n : Int) : Prop := ∃ pre, digs l0 = pre ++ digs l ∧ rests l0 = rests l ∧ n = ((min (dval 0 pre) 1099511627776 : Nat) : Int)
theorem digrel_start (l : List UInt8) : DigRel l l 0 := ⟨[], rfl, rfl, rfl⟩
theorem digrel_bd {l0 l : List UInt8} {n : Int} (h : DigRel l0 l n) : 0 ≤ n ∧ n ≤ 1099511627776 := by
  obtain ⟨pre, _, _, rfl⟩ := h
  omega
theorem digrel_step {l0 t : List UInt8} {c : UInt8} {n : Int} (h : DigRel l0 (c :: t) n) (hc : isDig c = true) : DigRel l0 t (min (10 * n + ((c.toNat : Int) - 48)) 1099511627776) := by
  obtain ⟨pre, h1, h2, rfl⟩ := h
  rw [digs_cons, if_pos hc] at h1
  rw [rests_cons, if_pos hc] at h2
  have hd := (isDig_iff c).1 hc
  refine ⟨pre ++ [c], by rw [h1]; simp, h2, ?_⟩
  rw [dval_snoc]
  have := great_digit (dval 0 pre) (c.toNat - 48)
  omega
theorem digrel_end {l0 l : List UInt8} {n : Int} (h : DigRel l0 l n) (hl : l = [] ∨ ∃ c t, l = c :: t ∧ isDig c = false) : n = ((min (dval 0 (digs l0)) 1099511627776 : Nat) : Int) ∧ rests l0 = l := by
  obtain ⟨pre, h1, h2, rfl⟩ := h
  rcases hl with rfl | ⟨c, t, rfl, hc⟩
  · have e : digs l0 = pre := by rw [h1]; exact List.append_nil _
    exact ⟨by rw [e], h2⟩
  · rw [digs_cons, if_neg (by rw [hc]; decide)] at h1
    rw [rests_cons, if_neg (by rw [hc]; decide)] at h2
    have e : digs l0 = pre := by rw [h1]; exact List.append_nil _
    exact ⟨by rw [e], h2⟩
/-- Between two units of the reference. -/
def RdRel (l0 l : List UInt8) (u : Nat) (sum : Int) : Prop := ∃ a : Nat, rd l0 0 = (rd l u).map (a + ·) ∧ sum = ((min a 1099511627776 : Nat) : Int)
theorem rdrel_start (l : List UInt8) : RdRel l l 0 0 := ⟨0, by cases rd l 0 <;> simp, rfl⟩
theorem rdrel_bd {l0 l : List UInt8} {u : Nat} {sum : Int} (h : RdRel l0 l u sum) : 0 ≤ sum ∧ sum ≤ 1099511627776 := by
  obtain ⟨a, _, rfl⟩ := h
  omega
theorem rdrel_none {l0 l : List UInt8} {u : Nat} {sum : Int} (h : RdRel l0 l u sum) (hn : rd l u = none) : rd l0 0 = none := by
  obtain ⟨a, e, _⟩ := h
  rw [e, hn]; rfl
theorem rdrel_step {l0 l : List UInt8} {u : Nat} {sum : Int} {c : UInt8} {b : List UInt8} (h : RdRel l0 l u sum) (hr : rests l = c :: b) (h0 : digs l ≠ []) (h1 : (digs l).head? ≠ some 48) (hu : unitIx c < 4) (hk : u ≤ unitIx c) :
    RdRel l0 b (unitIx c + 1) (min (sum + ((min (dval 0 (digs l)) 1099511627776 : Nat) : Int) * ((secs (unitIx c) : Nat) : Int)) 1099511627776) := by
  obtain ⟨a, e, rfl⟩ := h
  refine ⟨a + dval 0 (digs l) * secs (unitIx c), ?_, ?_⟩
  · rw [e, rd_step u hr h0 h1 hu hk]
    cases rd b (unitIx c + 1) with
    | none => rfl
    | some v => simp only [Option.map_some]; congr 1; omega
  · have := great_step a (dval 0 (digs l)) (unitIx c) hu
    rw [← this]
    rw [← Int.natCast_mul, ← Int.natCast_add]
    omega
theorem rdrel_end {l0 : List UInt8} {u : Nat} {sum : Int} (h : RdRel l0 [] u sum) : ∃ a : Nat, rd l0 0 = some a ∧ sum = ((min a 1099511627776 : Nat) : Int) := by
  obtain ⟨a, e, rfl⟩ := h
  exact ⟨a, by rw [e, rd_nil]; rfl, rfl⟩
/-- Between two units of the program. -/
def RdCap (l0 l : List UInt8) (u : Nat) (sum : Int) : Prop := ∃ a : Nat, rd l0 0 = (rd l u).map (a + ·) ∧ Cap sum a ∧ sum + (remS u : Nat) * 68719476737 ≤ 90061 * 68719476737
theorem rdcap_start (l : List UInt8) : RdCap l l 0 0 := ⟨0, by cases rd l 0 <;> simp, ⟨by omega, by omega, by omega⟩, by show (0 : Int) + (90061 : Nat) * 68719476737 ≤ _; omega⟩
theorem rdcap_bd {l0 l : List UInt8} {u : Nat} {sum : Int} (h : RdCap l0 l u sum) : 0 ≤ sum ∧ sum ≤ 90061 * 68719476737 := by
  obtain ⟨a, _, h1, h2⟩ := h
  have := h1.1
  omega
theorem rdcap_none {l0 l : List UInt8} {u : Nat} {sum : Int} (h : RdCap l0 l u sum) (hn : rd l u = none) : rd l0 0 = none := by
  obtain ⟨a, e, _⟩ := h
  rw [e, hn]; rfl
theorem rdcap_step {l0 l : List UInt8} {u : Nat} {sum : Int} {c : UInt8} {b : List UInt8} (h : RdCap l0 l u sum) (hr : rests l = c :: b) (h0 : digs l ≠ []) (h1 : (digs l).head? ≠ some 48) (hu : unitIx c < 4) (hk : u ≤ unitIx c) :
    RdCap l0 b (unitIx c + 1) (sum + ((min (dval 0 (digs l)) 68719476737 : Nat) : Int) * ((secs (unitIx c) : Nat) : Int)) := by
  obtain ⟨a, e, hc, hb⟩ := h
  refine ⟨a + dval 0 (digs l) * secs (unitIx c), ?_, cap_step hc hu, ?_⟩
  · rw [e, rd_step u hr h0 h1 hu hk]
    cases rd b (unitIx c + 1) with
    | none => rfl
    | some v => simp only [Option.map_some]; congr 1; omega
  · have hrem := rem_step hk hu
    have hm : (((min (dval 0 (digs l)) 68719476737 : Nat) : Int)) * ((secs (unitIx c) : Nat) : Int) ≤ 68719476737 * ((secs (unitIx c) : Nat) : Int) := Int.mul_le_mul_of_nonneg_right (by omega) (by omega)
    omega
theorem rdcap_end {l0 : List UInt8} {u : Nat} {sum : Int} (h : RdCap l0 [] u sum) : ∃ a : Nat, rd l0 0 = some a ∧ Cap sum a := by
  obtain ⟨a, e, hc, _⟩ := h
  exact ⟨a, by rw [e, rd_nil]; rfl, hc⟩
/-- What read gives. -/
def ReadIs (l : List UInt8) (c : Int) (ok : Bool) : Prop := match durS l with
  | none => c = 0 ∧ ok = false
  | some v => Cap c v ∧ ok = true
theorem dur_of {l : List UInt8} (h : l ≠ [48, 115]) (h2 : l ≠ []) : durS l = rd l 0 := by unfold durS; rw [if_neg h, if_neg h2]
theorem readIs_zero : ReadIs [48, 115] 0 true := by
  show Cap 0 0 ∧ _
  exact ⟨⟨by omega, by omega, by omega⟩, rfl⟩
theorem readIs_nil : ReadIs [] 0 false := ⟨rfl, rfl⟩
theorem readIs_none {l : List UInt8} (h : durS l = none) : ReadIs l 0 false := by unfold ReadIs; rw [h]; exact ⟨rfl, rfl⟩
theorem readIs_some {l : List UInt8} {v : Nat} {c : Int} (h : durS l = some v) (hc : Cap c v) : ReadIs l c true := by unfold ReadIs; rw [h]; exact ⟨hc, rfl⟩
theorem readIs_ok {l : List UInt8} {c : Int} {ok : Bool} (h : ReadIs l c ok) : ok = (durS l).isSome ∧ 0 ≤ c := by
  unfold ReadIs at h
  cases hd : durS l with
  | none => rw [hd] at h; exact ⟨h.2, by rw [h.1]; omega⟩
  | some v => rw [hd] at h; exact ⟨h.2, h.1.1⟩
/-- The first test of a round: a digit from 1 to 9. -/
theorem first_ok {c : UInt8} {t : List UInt8} (h : 49 ≤ (c.toNat : Int) ∧ (c.toNat : Int) ≤ 57) : digs (c :: t) ≠ [] ∧ (digs (c :: t)).head? ≠ some 48 := by
  have hc : isDig c = true := (isDig_iff c).2 ⟨by omega, h.2⟩
  rw [digs_cons, if_pos hc]
  refine ⟨List.cons_ne_nil _ _, ?_⟩
  rw [List.head?_cons]
  intro e
  have := Option.some.inj e
  rw [this] at h
  exact absurd h.1 (by decide)
theorem first_bad {c : UInt8} {t : List UInt8} (h : ¬ (49 ≤ (c.toNat : Int) ∧ (c.toNat : Int) ≤ 57)) : digs (c :: t) = [] ∨ (digs (c :: t)).head? = some 48 := by
  rw [digs_cons]
  by_cases hc : isDig c = true
  · rw [if_pos hc]
    right
    rw [List.head?_cons]
    have := (isDig_iff c).1 hc
    congr 1
    exact UInt8.toNat_inj.1 (by show c.toNat = 48; omega)
  · rw [if_neg hc]; exact .inl rfl
end Go.Proofs.YtpjocfkolnfjiaaGreatDoor.Lx
