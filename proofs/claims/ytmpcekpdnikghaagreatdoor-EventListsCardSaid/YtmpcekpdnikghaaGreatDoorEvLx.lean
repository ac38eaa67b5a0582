/- Plain facts on events (chapter 36): which are valid, their texts, and that a text is that of one event alone. No program in sight. -/
import Derived.Test.YtmpcekpdnikghaaGreatDoorLx
import Derived.Test.YtmpcekpdnikghaaGreatDoorNum
import Derived.Test.YtmpcekpdnikghaaGreatDoorDigitsP
import Derived.Test.YtmpcekpdnikghaaGreatDoorDigitsLx
import Derived.Lib.Split
import Derived.Lib.SplitLaws
import Derived.Lib.Join
namespace Go.Proofs.YtmpcekpdnikghaaGreatDoor.Lx
open Go Go.RowKit

structure EvV where
  k : Int
  t : Int
  j : Int
  d : Int
  a : Int
  r : Int
  y : Int
  n : Int
def evZ : EvV := ⟨0, 0, 0, 0, 0, 0, 0, 0⟩
def EvV.val (o : EvV) : Value := .agg #[.int .i64 o.k, .int .i64 o.t, .int .i64 o.j, .int .i64 o.d, .int .i64 o.a, .int .i64 o.r, .int .i64 o.y, .int .i64 o.n]
def EvV.cells (o : EvV) : List Value := [.int .i64 o.k, .int .i64 o.t, .int .i64 o.j, .int .i64 o.d, .int .i64 o.a, .int .i64 o.r, .int .i64 o.y, .int .i64 o.n]
def inR (x : Int) : Prop := -9223372036854775808 ≤ x ∧ x ≤ 9223372036854775807
/-- The fields are numbers of their kinds. -/
def EvV.In (o : EvV) : Prop := inR o.k ∧ inR o.t ∧ inR o.j ∧ inR o.d ∧ inR o.a ∧ inR o.r ∧ inR o.y ∧ inR o.n
def inV (u : Bool) (x lo hi : Int) : Bool := if u = true then decide (lo ≤ x ∧ x ≤ hi) else decide (x = 0)
def timeV (t : Int) : Bool := decide (0 ≤ t ∧ t ≤ 253402300799)
/-- Which fields a kind uses. -/
def uJ (k : Int) : Bool := decide (k ≠ 6)
def uD (k : Int) : Bool := decide (k ≤ 5)
def uR (k : Int) : Bool := decide (k ≤ 3)
def uN (k : Int) : Bool := decide (k = 4 ∨ k = 7)
def uY (k : Int) : Bool := decide (k = 5 ∨ k = 6)
def yMax (k : Int) : Int := if k = 5 then 6 else if k = 6 then 16 else 0
def aMin (k : Int) : Int := if k = 4 then 2 else 1
def fitB (o : EvV) : Bool := inV (uJ o.k) o.j 0 63 && (inV (uD o.k) o.d 0 o.t && (inV (uD o.k) o.a (aMin o.k) 21 && (inV (uR o.k) o.r 1 9223372036854775807 && (inV (uN o.k) o.n (o.t + 1) 4611686018427387904 && inV (uY o.k) o.y 1 (yMax o.k)))))
def evErr (o : EvV) : Int :=
  if o.k < 1 ∨ 8 < o.k then 2
  else if timeV o.t = false ∨ (uD o.k = true ∧ timeV o.d = false) then 14
  else if fitB o = true then 0 else 2
theorem evErr_rng (o : EvV) : evErr o = 0 ∨ evErr o = 2 ∨ evErr o = 14 := by
  unfold evErr; (repeat' split) <;> simp
/-- What a valid event is, kind by kind. -/
def Good (o : EvV) : Prop := (0 ≤ o.t ∧ o.t ≤ 253402300799) ∧
  ((o.k = 1 ∨ o.k = 2 ∨ o.k = 3) ∧ (0 ≤ o.j ∧ o.j ≤ 63) ∧ (0 ≤ o.d ∧ o.d ≤ o.t) ∧ (1 ≤ o.a ∧ o.a ≤ 21) ∧ (1 ≤ o.r ∧ o.r ≤ 9223372036854775807) ∧ o.y = 0 ∧ o.n = 0 ∨
   o.k = 4 ∧ (0 ≤ o.j ∧ o.j ≤ 63) ∧ (0 ≤ o.d ∧ o.d ≤ o.t) ∧ (2 ≤ o.a ∧ o.a ≤ 21) ∧ o.r = 0 ∧ o.y = 0 ∧ (o.t < o.n ∧ o.n ≤ 4611686018427387904) ∨
   o.k = 5 ∧ (0 ≤ o.j ∧ o.j ≤ 63) ∧ (0 ≤ o.d ∧ o.d ≤ o.t) ∧ (1 ≤ o.a ∧ o.a ≤ 21) ∧ o.r = 0 ∧ (1 ≤ o.y ∧ o.y ≤ 6) ∧ o.n = 0 ∨
   o.k = 6 ∧ o.j = 0 ∧ o.d = 0 ∧ o.a = 0 ∧ o.r = 0 ∧ (1 ≤ o.y ∧ o.y ≤ 16) ∧ o.n = 0 ∨
   o.k = 7 ∧ (0 ≤ o.j ∧ o.j ≤ 63) ∧ o.d = 0 ∧ o.a = 0 ∧ o.r = 0 ∧ o.y = 0 ∧ (o.t < o.n ∧ o.n ≤ 4611686018427387904) ∨
   o.k = 8 ∧ (0 ≤ o.j ∧ o.j ≤ 63) ∧ o.d = 0 ∧ o.a = 0 ∧ o.r = 0 ∧ o.y = 0 ∧ o.n = 0)
theorem kind_cases {k : Int} (h : 1 ≤ k ∧ k ≤ 8) : k = 1 ∨ k = 2 ∨ k = 3 ∨ k = 4 ∨ k = 5 ∨ k = 6 ∨ k = 7 ∨ k = 8 := by omega
theorem evErr_good (o : EvV) : evErr o = 0 ↔ Good o := by
  obtain ⟨k, t, j, d, a, r, y, n⟩ := o
  unfold evErr Good
  simp only
  by_cases hk : k < 1 ∨ 8 < k
  · rw [if_pos hk]
    constructor
    · intro h; omega
    · rintro ⟨_, h⟩; omega
  rw [if_neg hk]
  rcases kind_cases (k := k) (by omega) with rfl | rfl | rfl | rfl | rfl | rfl | rfl | rfl <;>
    simp [fitB, inV, uJ, uD, uR, uN, uY, yMax, aMin, timeV] <;> omega
theorem good_kind {o : EvV} (h : Good o) : 1 ≤ o.k ∧ o.k ≤ 8 := by
  unfold Good at h; omega
theorem good_in {o : EvV} (h : Good o) : o.In := by
  unfold Good at h; unfold EvV.In inR; omega

/-! ### words and parts -/
def evWord (k : Int) : List UInt8 :=
  if k = 1 then [108, 97, 117, 110, 99, 104] else if k = 2 then [100, 111, 110, 101] else if k = 3 then [102, 97, 105, 108]
  else if k = 4 then [114, 101, 116, 114, 121] else if k = 5 then [100, 114, 111, 112] else if k = 6 then [114, 101, 106, 101, 99, 116]
  else if k = 7 then [111, 112, 101, 110] else if k = 8 then [99, 108, 111, 115, 101] else []
def reasonW (y : Int) : List UInt8 :=
  if y = 1 then [100, 101, 97, 100, 108, 105, 110, 101] else if y = 2 then [113, 117, 101, 117, 101] else if y = 3 then [97, 114, 101, 110, 97]
  else if y = 4 then [114, 101, 116, 114, 105, 101, 115] else if y = 5 then [114, 101, 109, 111, 118, 101, 100] else if y = 6 then [109, 105, 115, 102, 105, 114, 101] else []
def neverW : List UInt8 := [110, 101, 118, 101, 114]
def untilW (n : Int) : List UInt8 := if n = 4611686018427387904 then neverW else Lib.itoa n
def evParts (o : EvV) (nm : List UInt8) : List (List UInt8) :=
  Lib.itoa o.t :: evWord o.k ::
    (if o.k ≤ 3 then [nm, Lib.itoa o.d, Lib.itoa o.a, Lib.itoa o.r] else if o.k = 4 then [nm, Lib.itoa o.d, Lib.itoa o.a, untilW o.n]
     else if o.k = 5 then [nm, Lib.itoa o.d, Lib.itoa o.a, reasonW o.y] else if o.k = 6 then [Lib.itoa o.y] else if o.k = 7 then [nm, untilW o.n] else [nm])
def joinSp : List (List UInt8) → List UInt8
  | [] => []
  | [a] => a
  | a :: b :: r => a ++ 32 :: joinSp (b :: r)
def evText (o : EvV) (nm : List UInt8) : List UInt8 := joinSp (evParts o nm)
def nmAt (NS : List ByteArray) (j : Int) : List UInt8 := ((NS[j.toNat]?).getD ⟨#[]⟩).data.toList
/-- The names are names, each once, at most 64. -/
def NOk (NS : List ByteArray) : Prop := NS.length ≤ 64 ∧ (∀ x ∈ NS, isName x = true) ∧ NS.Nodup
def nmErr (NS : List ByteArray) : Int := if 64 < NS.length then 12 else if NS.any (fun x => !isName x) then 15 else if NS.Nodup then 0 else 6
theorem nmErr_ok (NS : List ByteArray) : nmErr NS = 0 ↔ NOk NS := by
  unfold nmErr NOk
  by_cases h1 : 64 < NS.length
  · rw [if_pos h1]; constructor
    · intro h; omega
    · rintro ⟨h, _⟩; omega
  rw [if_neg h1]
  by_cases h2 : NS.any (fun x => !isName x) = true
  · rw [if_pos h2]; constructor
    · intro h; omega
    · rintro ⟨_, h, _⟩
      rw [List.any_eq_true] at h2
      obtain ⟨x, hx, hb⟩ := h2
      rw [h x hx] at hb; cases hb
  rw [if_neg h2]
  have h2' : ∀ x ∈ NS, isName x = true := by
    intro x hx
    cases hb : isName x
    · exact absurd (List.any_eq_true.2 ⟨x, hx, by rw [hb]; rfl⟩) h2
    · rfl
  by_cases h3 : NS.Nodup
  · rw [if_pos h3]; exact ⟨fun _ => ⟨by omega, h2', h3⟩, fun _ => rfl⟩
  · rw [if_neg h3]; exact ⟨fun h => by omega, fun h => absurd h.2.2 h3⟩
/-- The text l is that of the event o. -/
def EvPs (NS : List ByteArray) (l : List UInt8) (o : EvV) : Prop := Good o ∧ (o.k ≠ 6 → o.j < NS.length) ∧ evText o (nmAt NS o.j) = l

theorem word_inj {k k' : Int} (h : 1 ≤ k ∧ k ≤ 8) (h' : 1 ≤ k' ∧ k' ≤ 8) (e : evWord k = evWord k') : k = k' := by
  rcases kind_cases h with rfl | rfl | rfl | rfl | rfl | rfl | rfl | rfl <;> rcases kind_cases h' with rfl | rfl | rfl | rfl | rfl | rfl | rfl | rfl <;> first | rfl | (exfalso; revert e; decide)
theorem word_nosp (k : Int) : (32 : UInt8) ∉ evWord k := by unfold evWord; (repeat' split) <;> decide
theorem reason_cases {y : Int} (h : 1 ≤ y ∧ y ≤ 6) : y = 1 ∨ y = 2 ∨ y = 3 ∨ y = 4 ∨ y = 5 ∨ y = 6 := by omega
theorem reason_inj {y y' : Int} (h : 1 ≤ y ∧ y ≤ 6) (h' : 1 ≤ y' ∧ y' ≤ 6) (e : reasonW y = reasonW y') : y = y' := by
  rcases reason_cases h with rfl | rfl | rfl | rfl | rfl | rfl <;> rcases reason_cases h' with rfl | rfl | rfl | rfl | rfl | rfl <;> first | rfl | (exfalso; revert e; decide)
theorem reason_nosp (y : Int) : (32 : UInt8) ∉ reasonW y := by unfold reasonW; (repeat' split) <;> decide
theorem dd_no (u : Nat) (c : UInt8) (hc : isDig c = false) : c ∉ Lib.decDigits u := by
  intro hm
  have := List.all_eq_true.1 (dd_all u) c hm
  rw [hc] at this; cases this
theorem it_no (n : Int) (c : UInt8) (hc : isDig c = false) (h45 : c ≠ 45) : c ∉ Lib.itoa n := by
  by_cases h : n < 0
  · rw [itoa_neg h]
    intro hm
    rcases List.mem_cons.1 hm with e | e
    · exact h45 e
    · exact dd_no _ c hc e
  · rw [itoa_pos (by omega)]; exact dd_no _ c hc
theorem it_nosp (n : Int) : (32 : UInt8) ∉ Lib.itoa n := it_no n 32 (by decide) (by decide)
theorem it_nonever (n : Int) : Lib.itoa n ≠ neverW := fun e => it_no n 110 (by decide) (by decide) (by rw [e]; decide)
theorem it_inj {a b : Int} (ha : inR a) (hb : inR b) (h : Lib.itoa a = Lib.itoa b) : a = b := by
  have e1 := (it_num a ha.1 ha.2).1
  have e2 := (it_num b hb.1 hb.2).1
  rw [h] at e1; omega
theorem until_nosp (n : Int) : (32 : UInt8) ∉ untilW n := by unfold untilW; split; decide; exact it_nosp n
theorem until_inj {a b : Int} (ha : inR a) (hb : inR b) (h : untilW a = untilW b) : a = b := by
  unfold untilW at h
  split at h <;> split at h
  · omega
  · exact absurd h.symm (it_nonever b)
  · exact absurd h (it_nonever a)
  · exact it_inj ha hb h
theorem name_no {x : ByteArray} (h : isName x = true) (c : UInt8) (hc : nameByte c = false) : c ∉ x.data.toList := by
  unfold isName at h
  intro hm
  have h2 : x.data.toList.all nameByte = true := by
    revert h; cases x.data.toList.all nameByte <;> simp
  have := List.all_eq_true.1 h2 c hm
  rw [hc] at this; cases this
theorem nmAt_nosp {NS : List ByteArray} (h : ∀ x ∈ NS, isName x = true) (j : Int) : (32 : UInt8) ∉ nmAt NS j := by
  unfold nmAt
  cases hx : NS[j.toNat]? with
  | none => simp
  | some x => exact name_no (h x (List.mem_of_getElem? hx)) 32 (by decide)
theorem nmAt_inj {NS : List ByteArray} (h : NS.Nodup) {i j : Int} (i0 : 0 ≤ i) (i1 : i < NS.length) (j0 : 0 ≤ j) (j1 : j < NS.length) (e : nmAt NS i = nmAt NS j) : i = j := by
  unfold nmAt at e
  have hi : i.toNat < NS.length := by omega
  have hj : j.toNat < NS.length := by omega
  rw [List.getElem?_eq_getElem hi, List.getElem?_eq_getElem hj] at e
  have e2 : NS[i.toNat] = NS[j.toNat] := ByteArray.ext (Array.toList_inj.1 e)
  have hp := List.pairwise_iff_getElem.1 h
  rcases Nat.lt_trichotomy i.toNat j.toNat with hl | hl | hl
  · exact absurd e2 (hp _ _ hi hj hl)
  · omega
  · exact absurd e2.symm (hp _ _ hj hi hl)
theorem split_sp {a b a' b' : List UInt8} (h : (32 : UInt8) ∉ a) (h' : (32 : UInt8) ∉ a') (e : a ++ 32 :: b = a' ++ 32 :: b') : a = a' ∧ b = b' := by
  induction a generalizing a' with
  | nil =>
    cases a' with
    | nil => exact ⟨rfl, (List.cons.inj e).2⟩
    | cons c a' => exfalso; apply h'; rw [List.nil_append, List.cons_append] at e; rw [← (List.cons.inj e).1]; exact List.mem_cons_self
  | cons c a ih =>
    cases a' with
    | nil => exfalso; apply h; rw [List.nil_append, List.cons_append] at e; rw [(List.cons.inj e).1]; exact List.mem_cons_self
    | cons c' a' =>
      rw [List.cons_append, List.cons_append] at e
      obtain ⟨e1, e2⟩ := List.cons.inj e
      obtain ⟨r1, r2⟩ := ih (fun m => h (List.mem_cons_of_mem _ m)) (fun m => h' (List.mem_cons_of_mem _ m)) e2
      exact ⟨by rw [e1, r1], r2⟩
/-- P are the parts of l between spaces. -/
def Pcs (l : List UInt8) (P : List (List UInt8)) : Prop := P ≠ [] ∧ (∀ p ∈ P, (32 : UInt8) ∉ p) ∧ joinSp P = l
theorem joinSp_cons (a : List UInt8) {r : List (List UInt8)} (h : r ≠ []) : joinSp (a :: r) = a ++ 32 :: joinSp r := by
  cases r with
  | nil => exact absurd rfl h
  | cons b r => rfl
theorem pcs_one : ∀ {P P' : List (List UInt8)} {l : List UInt8}, Pcs l P → Pcs l P' → P = P'
  | [], _, _, h, _ => absurd rfl h.1
  | _ :: _, [], _, _, h' => absurd rfl h'.1
  | [a], [a'], l, h, h' => by rw [show a = l from h.2.2, show a' = l from h'.2.2]
  | [a], a' :: b' :: r', l, h, h' => by
    exfalso
    have e : a = a' ++ 32 :: joinSp (b' :: r') := (show a = l from h.2.2).trans h'.2.2.symm
    exact h.2.1 a List.mem_cons_self (by rw [e]; exact List.mem_append_right _ List.mem_cons_self)
  | a :: b :: r, [a'], l, h, h' => by
    exfalso
    have e : a' = a ++ 32 :: joinSp (b :: r) := (show a' = l from h'.2.2).trans h.2.2.symm
    exact h'.2.1 a' List.mem_cons_self (by rw [e]; exact List.mem_append_right _ List.mem_cons_self)
  | a :: b :: r, a' :: b' :: r', l, h, h' => by
    have e : a ++ 32 :: joinSp (b :: r) = a' ++ 32 :: joinSp (b' :: r') := h.2.2.trans h'.2.2.symm
    obtain ⟨e1, e2⟩ := split_sp (h.2.1 a List.mem_cons_self) (h'.2.1 a' List.mem_cons_self) e
    have := pcs_one (l := joinSp (b :: r)) ⟨by simp, fun p hp => h.2.1 p (List.mem_cons_of_mem _ hp), rfl⟩ ⟨by simp, fun p hp => h'.2.1 p (List.mem_cons_of_mem _ hp), e2.symm⟩
    rw [e1, this]
theorem join_joinSp : ∀ P : List (List UInt8), Lib.join P [32] = joinSp P
  | [] => rfl
  | [a] => Lib.join_one _ _
  | a :: b :: r => by
    have ih := join_joinSp (b :: r)
    rw [Lib.join_cons] at ih ⊢
    rw [joinSp_cons a (by simp), ← ih]
    simp [Lib.joinTail]
theorem parts_nosp {NS : List ByteArray} (h : ∀ x ∈ NS, isName x = true) (o : EvV) : ∀ p ∈ evParts o (nmAt NS o.j), (32 : UInt8) ∉ p := by
  intro p hp
  unfold evParts at hp
  have hn := nmAt_nosp h o.j
  rcases List.mem_cons.1 hp with rfl | hp
  · exact it_nosp _
  rcases List.mem_cons.1 hp with rfl | hp
  · exact word_nosp _
  revert hp
  (repeat' split) <;> (intro hp; simp only [List.mem_cons, List.not_mem_nil, or_false] at hp; (repeat' (rcases hp with rfl | hp)) <;> first | exact hn | exact it_nosp _ | exact until_nosp _ | exact reason_nosp _ | (subst hp; first | exact hn | exact it_nosp _ | exact until_nosp _ | exact reason_nosp _))
theorem parts_ne (o : EvV) (nm : List UInt8) : evParts o nm ≠ [] := by unfold evParts; simp
theorem parts_pcs {NS : List ByteArray} (h : ∀ x ∈ NS, isName x = true) (o : EvV) : Pcs (evText o (nmAt NS o.j)) (evParts o (nmAt NS o.j)) := ⟨parts_ne _ _, parts_nosp h o, rfl⟩
/-- The text of an event by its parts. -/
theorem ps_parts {NS : List ByteArray} (h : ∀ x ∈ NS, isName x = true) {l : List UInt8} {P : List (List UInt8)} (hP : Pcs l P) (o : EvV) : EvPs NS l o ↔ Good o ∧ (o.k ≠ 6 → o.j < NS.length) ∧ evParts o (nmAt NS o.j) = P := by
  constructor
  · rintro ⟨g, hj, ht⟩
    have := parts_pcs h o
    rw [ht] at this
    exact ⟨g, hj, pcs_one this hP⟩
  · rintro ⟨g, hj, ht⟩
    exact ⟨g, hj, by unfold evText; rw [ht]; exact hP.2.2⟩
theorem parts_inj {NS : List ByteArray} (hN : NOk NS) {o o' : EvV} (g : Good o) (g' : Good o') (hj : o.k ≠ 6 → o.j < NS.length) (hj' : o'.k ≠ 6 → o'.j < NS.length) (e : evParts o (nmAt NS o.j) = evParts o' (nmAt NS o'.j)) : o = o' := by
  have hI := good_in g
  have hI' := good_in g'
  have hk := good_kind g
  have hk' := good_kind g'
  obtain ⟨k, t, j, d, a, r, y, n⟩ := o
  obtain ⟨k', t', j', d', a', r', y', n'⟩ := o'
  unfold EvV.In at hI hI'
  unfold evParts at e
  simp only at hI hI' hk hk' hj hj' e
  obtain ⟨e1, e⟩ := List.cons.inj e
  obtain ⟨e2, e⟩ := List.cons.inj e
  have ht := it_inj hI.2.1 hI'.2.1 e1
  have hkk := word_inj hk hk' e2
  subst ht; subst hkk
  unfold Good at g g'
  simp only at g g'
  have hJ : (0 ≤ j ∧ 0 ≤ j') → k ≠ 6 → nmAt NS j = nmAt NS j' → j = j' := fun h0 h6 h => nmAt_inj hN.2.2 h0.1 (hj h6) h0.2 (hj' h6) h
  rcases kind_cases hk with rfl | rfl | rfl | rfl | rfl | rfl | rfl | rfl
  · simp at e
    obtain ⟨q1, q2, q3, q4⟩ := e
    rw [hJ (by omega) (by omega) q1, it_inj hI.2.2.2.1 hI'.2.2.2.1 q2, it_inj hI.2.2.2.2.1 hI'.2.2.2.2.1 q3, it_inj hI.2.2.2.2.2.1 hI'.2.2.2.2.2.1 q4, show y = y' by omega, show n = n' by omega]
  · simp at e
    obtain ⟨q1, q2, q3, q4⟩ := e
    rw [hJ (by omega) (by omega) q1, it_inj hI.2.2.2.1 hI'.2.2.2.1 q2, it_inj hI.2.2.2.2.1 hI'.2.2.2.2.1 q3, it_inj hI.2.2.2.2.2.1 hI'.2.2.2.2.2.1 q4, show y = y' by omega, show n = n' by omega]
  · simp at e
    obtain ⟨q1, q2, q3, q4⟩ := e
    rw [hJ (by omega) (by omega) q1, it_inj hI.2.2.2.1 hI'.2.2.2.1 q2, it_inj hI.2.2.2.2.1 hI'.2.2.2.2.1 q3, it_inj hI.2.2.2.2.2.1 hI'.2.2.2.2.2.1 q4, show y = y' by omega, show n = n' by omega]
  · simp at e
    obtain ⟨q1, q2, q3, q4⟩ := e
    rw [hJ (by omega) (by omega) q1, it_inj hI.2.2.2.1 hI'.2.2.2.1 q2, it_inj hI.2.2.2.2.1 hI'.2.2.2.2.1 q3, until_inj hI.2.2.2.2.2.2.2 hI'.2.2.2.2.2.2.2 q4, show y = y' by omega, show r = r' by omega]
  · simp at e
    obtain ⟨q1, q2, q3, q4⟩ := e
    rw [hJ (by omega) (by omega) q1, it_inj hI.2.2.2.1 hI'.2.2.2.1 q2, it_inj hI.2.2.2.2.1 hI'.2.2.2.2.1 q3, reason_inj (by omega) (by omega) q4, show n = n' by omega, show r = r' by omega]
  · simp at e
    rw [it_inj hI.2.2.2.2.2.2.1 hI'.2.2.2.2.2.2.1 e, show j = j' by omega, show d = d' by omega, show a = a' by omega, show n = n' by omega, show r = r' by omega]
  · simp at e
    obtain ⟨q1, q2⟩ := e
    rw [hJ (by omega) (by omega) q1, until_inj hI.2.2.2.2.2.2.2 hI'.2.2.2.2.2.2.2 q2, show y = y' by omega, show d = d' by omega, show a = a' by omega, show r = r' by omega]
  · simp at e
    rw [hJ (by omega) (by omega) e, show y = y' by omega, show d = d' by omega, show a = a' by omega, show r = r' by omega, show n = n' by omega]
/-- A text is that of one event alone. -/
theorem ps_one {NS : List ByteArray} (hN : NOk NS) {l : List UInt8} {o o' : EvV} (h : EvPs NS l o) (h' : EvPs NS l o') : o = o' := by
  have p := parts_pcs hN.2.1 o
  rw [h.2.2] at p
  have q := parts_pcs hN.2.1 o'
  rw [h'.2.2] at q
  exact parts_inj hN h.1 h'.1 h.2.1 h'.2.1 (pcs_one p q)
/-- What a text is read as: an event and no error, or nothing and the error of a form. -/
def ReadsEv (NS : List ByteArray) (l : List UInt8) (o : EvV) (e : Int) : Prop :=
  (e = 0 ∧ EvPs NS l o) ∨ (e = 10 ∧ o = evZ ∧ ∀ p : EvV, ¬ EvPs NS l p)
theorem readsEv_one {NS : List ByteArray} (hN : NOk NS) {l : List UInt8} {o o' : EvV} {e e' : Int} (h : ReadsEv NS l o e) (h' : ReadsEv NS l o' e') : o = o' ∧ e = e' := by
  rcases h with ⟨rfl, p⟩ | ⟨rfl, rfl, n⟩ <;> rcases h' with ⟨rfl, p'⟩ | ⟨rfl, rfl, n'⟩
  · exact ⟨ps_one hN p p', rfl⟩
  · exact absurd p (n' _)
  · exact absurd p' (n _)
  · exact ⟨rfl, rfl⟩
/-! ### strings.Split at a space -/
theorem index_sp : ∀ (l : List UInt8), (Lib.index l [32] = -1 ∧ (32 : UInt8) ∉ l) ∨ ∃ i : Nat, Lib.index l [32] = i ∧ i < l.length ∧ (32 : UInt8) ∉ l.take i ∧ l = l.take i ++ 32 :: l.drop (i + 1)
  | [] => .inl ⟨rfl, by simp⟩
  | c :: l => by
    by_cases hc : c = 32
    · subst hc
      right
      refine ⟨0, ?_, by simp, by simp, by simp⟩
      unfold Lib.index
      rw [if_pos (by simp [List.isPrefixOf])]
      rfl
    · have hp : ¬ ([32] : List UInt8).isPrefixOf (c :: l) = true := by
        simp [List.isPrefixOf]; exact fun e => hc e.symm
      rcases index_sp l with ⟨h, hn⟩ | ⟨i, h, hl, hn, he⟩
      · left
        refine ⟨?_, ?_⟩
        · unfold Lib.index; rw [if_neg hp, h]; rfl
        · intro hm; rcases List.mem_cons.1 hm with e | e
          · exact hc e.symm
          · exact hn e
      · right
        refine ⟨i + 1, ?_, by simp; omega, ?_, ?_⟩
        · unfold Lib.index
          rw [if_neg hp, h, if_neg (by rw [beq_iff_eq]; omega)]; rfl
        · rw [List.take_succ_cons]
          intro hm; rcases List.mem_cons.1 hm with e | e
          · exact hc e.symm
          · exact hn e
        · rw [List.take_succ_cons, List.drop_succ_cons, List.cons_append, ← he]
theorem splitK_pcs : ∀ (k : Nat) (l : List UInt8), Lib.count l [32] = k → Pcs l (Lib.splitK [32] 0 k l)
  | 0, l, h => by
    refine ⟨by simp [Lib.splitK], ?_, rfl⟩
    intro p hp
    rcases index_sp l with ⟨_, hn⟩ | ⟨i, hi, _⟩
    · simp [Lib.splitK] at hp; rw [hp]; exact hn
    · have := Lib.count_hit (s := l) (sub := [32]) (by simp) hi; omega
  | k + 1, l, h => by
    rcases index_sp l with ⟨hi, _⟩ | ⟨i, hi, hl, hn, he⟩
    · have := Lib.count_miss hi; omega
    · have hc := Lib.count_hit (s := l) (sub := [32]) (by simp) hi
      have ih := splitK_pcs k (l.drop (i + 1)) (by simp at hc; omega)
      have e : Lib.splitK [32] 0 (k + 1) l = l.take i :: Lib.splitK [32] 0 k (l.drop (i + 1)) := by
        rw [Lib.splitK, if_neg (by rw [beq_iff_eq, hi]; omega), hi]; rfl
      rw [e]
      refine ⟨by simp, ?_, ?_⟩
      · intro p hp
        rcases List.mem_cons.1 hp with rfl | hp
        · exact hn
        · exact ih.2.1 p hp
      · rw [joinSp_cons _ ih.1, ih.2.2, ← he]
def spS (s : ByteArray) : List ByteArray := Lib.splitB ⟨#[32]⟩ 0 (Lib.countB s ⟨#[32]⟩) s
def bl (P : List ByteArray) : List (List UInt8) := P.map (·.data.toList)
theorem spS_pcs (s : ByteArray) : Pcs s.data.toList (bl (spS s)) := by
  unfold spS bl
  rw [Lib.splitB_data]
  exact splitK_pcs _ _ rfl
theorem spS_len (s : ByteArray) : (spS s).length = Lib.countB s ⟨#[32]⟩ + 1 := Lib.splitB_all _ (by decide) 0 _ s rfl
theorem joinSp_len : ∀ (P : List (List UInt8)), (∀ p ∈ P, p.length ≤ (joinSp P).length) ∧ P.length ≤ (joinSp P).length + 1
  | [] => ⟨fun _ h => by simp at h, by simp⟩
  | [a] => ⟨fun p h => by simp at h; subst h; exact Nat.le_refl _, by simp⟩
  | a :: b :: r => by
    obtain ⟨h1, h2⟩ := joinSp_len (b :: r)
    rw [joinSp_cons a (by simp), List.length_append, List.length_cons]
    refine ⟨fun p hp => ?_, by rw [List.length_cons]; omega⟩
    rcases List.mem_cons.1 hp with rfl | hp
    · omega
    · have := h1 p hp; omega
theorem spS_bd (s : ByteArray) : (∀ x ∈ spS s, x.size ≤ s.size) ∧ (spS s).length ≤ s.size + 1 := by
  have h := joinSp_len (bl (spS s))
  rw [(spS_pcs s).2.2] at h
  unfold bl at h
  rw [List.length_map] at h
  refine ⟨fun x hx => ?_, by rw [Lib.size_eq s]; exact h.2⟩
  have := h.1 x.data.toList (List.mem_map.2 ⟨x, hx, rfl⟩)
  rw [Lib.size_eq x, Lib.size_eq s]; exact this
end Go.Proofs.YtmpcekpdnikghaaGreatDoor.Lx
