/- Plain facts on scripts (chapter 38): sums of seconds, joined ticks, texts of scripts. No program in sight. -/
import Derived.Test.YtnnkamfpcodnnaaGreatDoorOpLx
import Derived.Test.YtnnkamfpcodnnaaGreatDoorBackLx
namespace Go.Proofs.YtnnkamfpcodnnaaGreatDoor.Lx
open Go Go.RowKit

def sumD : List OpV → Int
  | [] => 0
  | o :: t => o.d + sumD t
theorem sumD_app : ∀ (a b : List OpV), sumD (a ++ b) = sumD a + sumD b
  | [], b => by show sumD b = 0 + sumD b; omega
  | o :: t, b => by
    have := sumD_app t b
    show o.d + sumD (t ++ b) = o.d + sumD t + sumD b; omega
theorem sumD_one (o : OpV) : sumD [o] = o.d := by show o.d + 0 = o.d; omega
theorem d_bd {o : OpV} (h : opErr o = 0) : 0 ≤ o.d ∧ o.d ≤ 100000 ∧ (o.k ≠ 1 → o.d = 0) ∧ (o.k = 1 → 1 ≤ o.d) := by
  rcases opErr_zero h with ⟨k, a, b, _⟩ | ⟨k, _, _, ho⟩ | ⟨k, _, ho⟩ | ⟨k, _, ho⟩
  · omega
  · have e : o.d = 0 := congrArg OpV.d ho
    omega
  · have e : o.d = 0 := congrArg OpV.d ho
    omega
  · have e : o.d = 0 := congrArg OpV.d ho
    omega
theorem sumD_bd : ∀ {L : List OpV}, (∀ o ∈ L, opErr o = 0) → 0 ≤ sumD L ∧ sumD L ≤ 100000 * (L.length : Int)
  | [], _ => by simp [sumD]
  | o :: t, h => by
    have h1 := d_bd (h o List.mem_cons_self)
    have h2 := sumD_bd (fun x hx => h x (List.mem_cons_of_mem _ hx))
    rw [List.length_cons]
    show 0 ≤ o.d + sumD t ∧ o.d + sumD t ≤ _
    omega
theorem sumD_take {L : List OpV} {k : Nat} {o : OpV} (h : L[k]? = some o) : sumD (L.take (k + 1)) = sumD (L.take k) + o.d := by
  obtain ⟨hk, hv⟩ := List.getElem?_eq_some_iff.1 h
  rw [List.take_succ_eq_append_getElem hk, hv, sumD_app, sumD_one]
def plainO (o : OpV) : Bool := decide (o.k = 1) || decide (o.k = 3)
def plainL (L : List OpV) : Bool := L.all plainO
theorem plainL_app (a b : List OpV) : plainL (a ++ b) = (plainL a && plainL b) := by unfold plainL; rw [List.all_append]
theorem plainL_no {L : List OpV} {k : Nat} {o : OpV} (h : L[k]? = some o) (hp : plainO o = false) : plainL L = false := by
  unfold plainL
  rw [List.all_eq_false]
  exact ⟨o, List.mem_of_getElem? h, by rw [hp]; decide⟩
theorem plainL_take {L : List OpV} {k : Nat} {o : OpV} (h : L[k]? = some o) (hp : plainO o = true) (ht : plainL (L.take k) = true) : plainL (L.take (k + 1)) = true := by
  obtain ⟨hk, hv⟩ := List.getElem?_eq_some_iff.1 h
  rw [List.take_succ_eq_append_getElem hk, hv, plainL_app, ht]
  unfold plainL; simp [hp]

/-! ### joined ticks -/
def tickV (d : Int) : OpV := ⟨1, d, 0, 0, false, ⟨#[]⟩⟩
theorem tick_of {o : OpV} (h : opErr o = 0) (hk : o.k = 1) : o = tickV o.d := by
  rcases opErr_zero h with ⟨k, a, b, ho⟩ | ⟨k, _⟩ | ⟨k, _⟩ | ⟨k, _⟩ <;> first | exact ho | omega
def normStep (out : List OpV) (o : OpV) : List OpV :=
  match out.getLast? with
  | none => out ++ [o]
  | some p => if p.k = 1 ∧ o.k = 1 then (if p.d + o.d ≤ 100000 then out.dropLast ++ [tickV (p.d + o.d)] else out.dropLast ++ [tickV 100000, tickV (p.d + o.d - 100000)]) else out ++ [o]
theorem step_nil (o : OpV) : normStep [] o = [o] := rfl
theorem step_apart {a : List OpV} {p o : OpV} (h : ¬ (p.k = 1 ∧ o.k = 1)) : normStep (a ++ [p]) o = a ++ [p] ++ [o] := by
  unfold normStep
  rw [List.getLast?_concat]
  simp only
  rw [if_neg h]
theorem step_fit {a : List OpV} {p o : OpV} (h : p.k = 1 ∧ o.k = 1) (hd : p.d + o.d ≤ 100000) : normStep (a ++ [p]) o = a ++ [tickV (p.d + o.d)] := by
  unfold normStep
  rw [List.getLast?_concat]
  simp only
  rw [if_pos h, if_pos hd, List.dropLast_concat]
theorem step_over {a : List OpV} {p o : OpV} (h : p.k = 1 ∧ o.k = 1) (hd : ¬ p.d + o.d ≤ 100000) : normStep (a ++ [p]) o = a ++ [tickV 100000] ++ [tickV (p.d + o.d - 100000)] := by
  unfold normStep
  rw [List.getLast?_concat]
  simp only
  rw [if_pos h, if_neg hd, List.dropLast_concat, List.append_assoc]; rfl
def normal (L : List OpV) : List OpV := L.foldl normStep []
theorem normal_snoc (L : List OpV) (o : OpV) : normal (L ++ [o]) = normStep (normal L) o := by unfold normal; rw [List.foldl_append]; rfl
theorem normal_take {L : List OpV} {k : Nat} {o : OpV} (h : L[k]? = some o) : normal (L.take (k + 1)) = normStep (normal (L.take k)) o := by
  obtain ⟨hk, hv⟩ := List.getElem?_eq_some_iff.1 h
  rw [List.take_succ_eq_append_getElem hk, hv, normal_snoc]
def AllOk (L : List OpV) : Prop := ∀ o ∈ L, opErr o = 0
theorem AllOk.snoc {L : List OpV} {o : OpV} (h : AllOk L) (ho : opErr o = 0) : AllOk (L ++ [o]) := by
  intro x hx
  rcases List.mem_append.1 hx with hx | hx
  · exact h x hx
  · rw [List.mem_singleton.1 hx]; exact ho
theorem AllOk.left {L M : List OpV} (h : AllOk (L ++ M)) : AllOk L := fun x hx => h x (List.mem_append_left _ hx)
theorem AllOk.last {L : List OpV} {o : OpV} (h : AllOk (L ++ [o])) : opErr o = 0 := h o (List.mem_append_right _ List.mem_cons_self)
theorem AllOk.app {L M : List OpV} (h : AllOk L) (h' : AllOk M) : AllOk (L ++ M) := by
  intro x hx
  rcases List.mem_append.1 hx with hx | hx
  · exact h x hx
  · exact h' x hx
/-- Of two ticks that follow one another the first is full. -/
def Sep (l : List OpV) : Prop := ∀ (i : Nat) (a b : OpV), l[i]? = some a → l[i + 1]? = some b → a.k = 1 → b.k = 1 → a.d = 100000
theorem Sep.nil : Sep [] := fun i a b h => by simp at h
theorem Sep.one (o : OpV) : Sep [o] := fun i a b h h' => by simp at h'
theorem Sep.left {l : List OpV} {o : OpV} (h : Sep (l ++ [o])) : Sep l := by
  intro i a b h1 h2
  have l2 := (List.getElem?_eq_some_iff.1 h2).1
  exact h i a b (by rw [List.getElem?_append_left (by omega)]; exact h1) (by rw [List.getElem?_append_left l2]; exact h2)
theorem Sep.last {l : List OpV} {p o : OpV} (h : Sep (l ++ [p] ++ [o])) (hp : p.k = 1) (ho : o.k = 1) : p.d = 100000 :=
  h l.length p o (by simp) (by simp) hp ho
theorem Sep.snoc {l : List OpV} {p o : OpV} (h : Sep (l ++ [p])) (hpo : p.k = 1 → o.k = 1 → p.d = 100000) : Sep (l ++ [p] ++ [o]) := by
  intro i a b h1 h2 ha hb
  have l2 := (List.getElem?_eq_some_iff.1 h2).1
  simp only [List.length_append, List.length_singleton] at l2
  by_cases hi : i + 1 < l.length + 1
  · exact h i a b ((List.getElem?_append_left (l₂ := [o]) (by simp; omega)).symm.trans h1) ((List.getElem?_append_left (l₂ := [o]) (by simp; omega)).symm.trans h2) ha hb
  · obtain rfl : i = l.length := by omega
    have e1 : (l ++ [p] ++ [o])[l.length]? = some p := by simp
    have e2 : (l ++ [p] ++ [o])[l.length + 1]? = some o := by simp
    rw [e1] at h1; rw [e2] at h2
    cases h1; cases h2
    exact hpo ha hb
theorem Sep.swap {l : List OpV} {p q : OpV} (h : Sep (l ++ [p])) (hk : q.k = 1 → p.k = 1) : Sep (l ++ [q]) := by
  intro i a b h1 h2 ha hb
  have l2 := (List.getElem?_eq_some_iff.1 h2).1
  simp only [List.length_append, List.length_singleton] at l2
  have e1 : (l ++ [p])[i]? = some a := by rw [← h1, List.getElem?_append_left (by omega), List.getElem?_append_left (by omega)]
  by_cases hi : i + 1 < l.length
  · exact h i a b e1 (by rw [← h2, List.getElem?_append_left hi, List.getElem?_append_left hi]) ha hb
  · have hi' : i + 1 = l.length := by omega
    have e2 : (l ++ [p])[i + 1]? = some p := by rw [hi']; simp
    have e3 : (l ++ [q])[i + 1]? = some q := by rw [hi']; simp
    rw [e3] at h2
    cases h2
    exact h i a p e1 e2 ha (hk hb)
def nonT (l : List OpV) : List OpV := l.filter fun o => decide (o.k ≠ 1)
theorem nonT_app (a b : List OpV) : nonT (a ++ b) = nonT a ++ nonT b := by unfold nonT; rw [List.filter_append]
theorem nonT_tick {o : OpV} (h : o.k = 1) : nonT [o] = [] := by unfold nonT; simp [h]
theorem nonT_other {o : OpV} (h : o.k ≠ 1) : nonT [o] = [o] := by unfold nonT; simp [h]
theorem tick_ok {d : Int} (h0 : 1 ≤ d) (h1 : d ≤ 100000) : opErr (tickV d) = 0 := opErr_tick h0 h1
theorem step_facts {out : List OpV} {o : OpV} (hok : AllOk out) (hs : Sep out) (ho : opErr o = 0) :
    AllOk (normStep out o) ∧ Sep (normStep out o) ∧ sumD (normStep out o) = sumD out + o.d ∧ nonT (normStep out o) = nonT out ++ nonT [o] ∧ (normStep out o).length ≤ out.length + 1 := by
  rcases List.eq_nil_or_concat out with rfl | ⟨a, p, rfl⟩
  · rw [step_nil]
    exact ⟨fun x hx => by rw [List.mem_singleton.1 hx]; exact ho, Sep.one o, by rw [sumD_one]; show o.d = 0 + o.d; omega, rfl, Nat.le_refl _⟩
  · rw [List.concat_eq_append] at *
    by_cases h : p.k = 1 ∧ o.k = 1
    · have dp := d_bd hok.last
      have d' := d_bd ho
      have e1 := dp.2.2.2 h.1
      have e2 := d'.2.2.2 h.2
      by_cases hd : p.d + o.d ≤ 100000
      · rw [step_fit h hd]
        refine ⟨hok.left.snoc (tick_ok (by omega) hd), hs.swap (fun _ => h.1), ?_, ?_, by simp⟩
        · rw [sumD_app, sumD_app, sumD_one, sumD_one]; show sumD a + (p.d + o.d) = _; omega
        · rw [nonT_app, nonT_app, nonT_tick h.1, nonT_tick h.2, nonT_tick (show (tickV (p.d + o.d)).k = 1 from rfl)]; simp
      · rw [step_over h hd]
        refine ⟨(hok.left.snoc (tick_ok (by omega) (by omega))).snoc (tick_ok (by omega) (by omega)), (hs.swap (fun _ => h.1)).snoc (fun _ _ => rfl), ?_, ?_, by simp⟩
        · rw [sumD_app, sumD_app, sumD_app, sumD_one, sumD_one, sumD_one]; show sumD a + 100000 + (p.d + o.d - 100000) = _; omega
        · rw [nonT_app, nonT_app, nonT_app, nonT_tick h.1, nonT_tick h.2, nonT_tick (show (tickV (p.d + o.d - 100000)).k = 1 from rfl), nonT_tick (show (tickV 100000).k = 1 from rfl)]
    · rw [step_apart h]
      exact ⟨hok.snoc ho, hs.snoc (fun a b => absurd ⟨a, b⟩ h), by rw [sumD_app _ [o], sumD_one], by rw [nonT_app _ [o]], by simp⟩
theorem fold_facts : ∀ (L out : List OpV), AllOk out → Sep out → AllOk L →
    AllOk (L.foldl normStep out) ∧ Sep (L.foldl normStep out) ∧ sumD (L.foldl normStep out) = sumD out + sumD L ∧ nonT (L.foldl normStep out) = nonT out ++ nonT L ∧ (L.foldl normStep out).length ≤ out.length + L.length
  | [], out, h, s, _ => ⟨h, s, by show sumD out = sumD out + 0; omega, by show nonT out = nonT out ++ []; simp, Nat.le_refl _⟩
  | o :: t, out, h, s, hL => by
    obtain ⟨a, b, c, d, e⟩ := step_facts h s (hL o List.mem_cons_self)
    obtain ⟨a', b', c', d', e'⟩ := fold_facts t (normStep out o) a b (fun x hx => hL x (List.mem_cons_of_mem _ hx))
    refine ⟨a', b', ?_, ?_, ?_⟩
    · rw [List.foldl_cons, c', c]; show _ = sumD out + (o.d + sumD t); omega
    · rw [List.foldl_cons, d', d, List.append_assoc, ← nonT_app]; rfl
    · rw [List.foldl_cons, List.length_cons]; omega
theorem normal_facts {L : List OpV} (h : AllOk L) : AllOk (normal L) ∧ Sep (normal L) ∧ sumD (normal L) = sumD L ∧ nonT (normal L) = nonT L ∧ (normal L).length ≤ L.length := by
  obtain ⟨a, b, c, d, e⟩ := fold_facts L [] (fun x hx => by cases hx) Sep.nil h
  exact ⟨a, b, by have : sumD [] = 0 := rfl; unfold normal; omega, by rw [normal, d]; rfl, by rw [List.length_nil] at e; unfold normal; omega⟩
theorem step_sep {l : List OpV} {o : OpV} (h : AllOk (l ++ [o])) (hs : Sep (l ++ [o])) : normStep l o = l ++ [o] := by
  rcases List.eq_nil_or_concat l with rfl | ⟨a, p, rfl⟩
  · rfl
  · rw [List.concat_eq_append] at *
    by_cases hk : p.k = 1 ∧ o.k = 1
    · have hp := hs.last hk.1 hk.2
      have e1 := tick_of h.left.last hk.1
      have e2 := tick_of h.last hk.2
      have d' := (d_bd h.last).2.2.2 hk.2
      rw [step_over hk (by omega)]
      have t1 : tickV 100000 = p := by rw [← hp]; exact e1.symm
      have t2 : tickV (p.d + o.d - 100000) = o := by rw [show p.d + o.d - 100000 = o.d by omega]; exact e2.symm
      rw [t1, t2]
    · exact step_apart hk
theorem normal_sep : ∀ (n : Nat) (l : List OpV), l.length = n → AllOk l → Sep l → normal l = l
  | 0, l, hn, _, _ => by rw [List.length_eq_zero_iff.1 hn]; rfl
  | n + 1, l, hn, h, hs => by
    rcases List.eq_nil_or_concat l with rfl | ⟨a, p, rfl⟩
    · rfl
    · rw [List.concat_eq_append] at *
      rw [normal_snoc, normal_sep n a (by simp at hn; exact hn) h.left hs.left, step_sep h hs]
theorem normal_twice {L : List OpV} (h : AllOk L) : normal (normal L) = normal L := normal_sep _ _ rfl (normal_facts h).1 (normal_facts h).2.1

/-! ### texts of scripts -/
def scriptText (L : List OpV) : List UInt8 := L.flatMap fun o => opText o ++ [10]
theorem scriptText_app (a b : List OpV) : scriptText (a ++ b) = scriptText a ++ scriptText b := by unfold scriptText; rw [List.flatMap_append]
theorem scriptText_one (o : OpV) : scriptText [o] = opText o ++ [10] := by unfold scriptText; simp
theorem scriptText_take {L : List OpV} {k : Nat} {o : OpV} (h : L[k]? = some o) : scriptText (L.take (k + 1)) = scriptText (L.take k) ++ (opText o ++ [10]) := by
  obtain ⟨hk, hv⟩ := List.getElem?_eq_some_iff.1 h
  rw [List.take_succ_eq_append_getElem hk, hv, scriptText_app, scriptText_one]
theorem isName_facts {s : ByteArray} (h : isName s = true) : s.size ≤ 24 ∧ (10 : UInt8) ∉ s.data.toList := by
  unfold isName at h
  simp only [Bool.and_eq_true, decide_eq_true_eq] at h
  obtain ⟨⟨_, h2⟩, h3⟩ := h
  refine ⟨h2, fun hm => ?_⟩
  have := List.all_eq_true.1 h3 10 hm
  revert this; decide
theorem it_noLF (n : Int) : (10 : UInt8) ∉ Lib.itoa n := by
  by_cases h : n < 0
  · rw [itoa_neg h]
    intro hm
    rcases List.mem_cons.1 hm with e | e
    · revert e; decide
    · exact dd_nosp _ 10 (by decide) e
  · rw [itoa_pos (by omega)]; exact dd_nosp _ 10 (by decide)
theorem word_noLF (k : Int) : (10 : UInt8) ∉ word k := by rcases word_in k with h | h | h | h | h | h <;> rw [h] <;> decide
theorem word_len (k : Int) : (word k).length ≤ 6 := by rcases word_in k with h | h | h | h | h | h <;> rw [h] <;> decide
theorem dg_ne (n : Int) (h0 : 0 ≤ n) (h9 : n ≤ 9) : dg n ≠ 10 := by
  intro e
  have := dg_toNat h0 h9
  rw [e] at this
  have h10 : ((10 : UInt8).toNat : Int) = 10 := rfl
  omega
theorem tmText_noLF {t : Int} (h0 : 0 ≤ t) (h1 : t ≤ 253402300799) : (10 : UInt8) ∉ tmText t ∧ (tmText t).length = 19 := by
  obtain ⟨y, m, d, h, i, s, ok, e, _⟩ := tmText_civ h0 h1
  rw [e]
  have bd := valid_bd ok.1
  obtain ⟨_, c1, c2, c3, c4, c5, c6⟩ := ok
  refine ⟨?_, civ_len _ _ _ _ _ _⟩
  unfold civText d4 d2
  simp only [List.cons_append, List.nil_append, List.mem_cons, List.not_mem_nil, or_false, not_or]
  refine ⟨?_, ?_, ?_, ?_, by decide, ?_, ?_, by decide, ?_, ?_, by decide, ?_, ?_, by decide, ?_, ?_, by decide, ?_, ?_⟩ <;> exact fun e => dg_ne _ (by omega) (by omega) e.symm
theorem opText_facts {o : OpV} (h : opErr o = 0) (hr : o.r ≤ 9223372036854775807) : (10 : UInt8) ∉ opText o ∧ (opText o).length ≤ 32 := by
  have key : (10 : UInt8) ∉ restW o ∧ (restW o).length ≤ 25 := by
    unfold restW
    rcases opErr_zero h with ⟨k, a, b, ho⟩ | ⟨k, a, b, ho⟩ | ⟨k, a, ho⟩ | ⟨k, a, ho⟩
    · rw [if_pos k]
      refine ⟨it_noLF _, ?_⟩
      rw [itoa_pos (by omega), Lib.decDigits_length]
      have := nDigits_le 10 o.d.natAbs (by omega)
      omega
    · rw [if_neg (by omega), if_pos k]
      have := tmText_noLF a b
      exact ⟨this.1, by omega⟩
    · rw [if_neg (by omega), if_neg (by omega), if_pos k]
      refine ⟨?_, ?_⟩
      · intro hm
        rcases List.mem_append.1 hm with e | e
        · exact it_noLF _ e
        · revert e; cases o.ok <;> decide
      · rw [List.length_append, itoa_pos (by omega), Lib.decDigits_length]
        have := nDigits_le 18 o.r.natAbs (by omega)
        have e2 : (endW o.ok).length ≤ 5 := by cases o.ok <;> decide
        omega
    · rw [if_neg (by omega), if_neg (by omega), if_neg (by omega)]
      have := isName_facts a
      exact ⟨this.2, by rw [← Lib.size_eq]; omega⟩
  unfold opText
  refine ⟨?_, ?_⟩
  · intro hm
    rcases List.mem_append.1 hm with e | e
    · exact word_noLF _ e
    · rcases List.mem_cons.1 e with e | e
      · revert e; decide
      · exact key.1 e
  · rw [List.length_append, List.length_cons]
    have := word_len o.k
    omega
theorem scriptText_len : ∀ {L : List OpV}, AllOk L → (∀ o ∈ L, o.r ≤ 9223372036854775807) → (scriptText L).length ≤ 33 * L.length
  | [], _, _ => Nat.le_refl _
  | o :: t, h, hr => by
    have h1 := (opText_facts (h o List.mem_cons_self) (hr o List.mem_cons_self)).2
    have h2 := scriptText_len (L := t) (fun x hx => h x (List.mem_cons_of_mem _ hx)) (fun x hx => hr x (List.mem_cons_of_mem _ hx))
    have e : scriptText (o :: t) = opText o ++ [10] ++ scriptText t := rfl
    rw [e, List.length_append, List.length_append, List.length_cons, List.length_cons, List.length_nil]
    omega
/-- Lines without a line feed: what they come to says which they are. -/
theorem lines_one : ∀ {A B : List (List UInt8)}, (∀ x ∈ A, (10 : UInt8) ∉ x) → (∀ x ∈ B, (10 : UInt8) ∉ x) → (A.flatMap fun x => x ++ [10]) = (B.flatMap fun x => x ++ [10]) → A = B
  | [], [], _, _, _ => rfl
  | [], b :: B, _, _, e => by
    have := congrArg List.length e
    simp at this
  | a :: A, [], _, _, e => by
    have := congrArg List.length e
    simp at this
  | a :: A, b :: B, ha, hb, e => by
    rw [List.flatMap_cons, List.flatMap_cons, List.append_assoc, List.append_assoc, List.singleton_append, List.singleton_append] at e
    obtain ⟨e1, e2⟩ := split_at (ha a List.mem_cons_self) (hb b List.mem_cons_self) e
    rw [e1, lines_one (fun x hx => ha x (List.mem_cons_of_mem _ hx)) (fun x hx => hb x (List.mem_cons_of_mem _ hx)) e2]
where
  split_at {c : UInt8} : ∀ {a b a' b' : List UInt8}, c ∉ a → c ∉ a' → a ++ c :: b = a' ++ c :: b' → a = a' ∧ b = b'
    | [], b, [], b', _, _, e => ⟨rfl, (List.cons.inj e).2⟩
    | [], b, x :: a', b', _, h', e => absurd (by rw [List.nil_append, List.cons_append] at e; rw [(List.cons.inj e).1]; exact List.mem_cons_self) h'
    | x :: a, b, [], b', h, _, e => absurd (by rw [List.nil_append, List.cons_append] at e; rw [← (List.cons.inj e).1]; exact List.mem_cons_self) h
    | x :: a, b, y :: a', b', h, h', e => by
      rw [List.cons_append, List.cons_append] at e
      obtain ⟨e1, e2⟩ := List.cons.inj e
      obtain ⟨r1, r2⟩ := split_at (fun m => h (List.mem_cons_of_mem _ m)) (fun m => h' (List.mem_cons_of_mem _ m)) e2
      exact ⟨by rw [e1, r1], r2⟩
end Go.Proofs.YtnnkamfpcodnnaaGreatDoor.Lx
