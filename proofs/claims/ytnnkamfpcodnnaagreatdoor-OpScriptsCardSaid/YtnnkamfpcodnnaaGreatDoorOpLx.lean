/- Plain facts on operations of scripts (chapter 38): which are valid, their texts, and that a text is that of one operation alone. No program in sight. -/
import Derived.Test.YtnnkamfpcodnnaaGreatDoorOpTm
import Derived.Test.YtnnkamfpcodnnaaGreatDoorCutLx
namespace Go.Proofs.YtnnkamfpcodnnaaGreatDoor.Lx
open Go Go.RowKit

structure OpV where
  k : Int
  d : Int
  t : Int
  r : Int
  ok : Bool
  job : ByteArray
def opZ : OpV := ⟨0, 0, 0, 0, false, ⟨#[]⟩⟩
def OpV.val (o : OpV) : Value := .agg #[.int .i64 o.k, .int .i64 o.d, .int .i64 o.t, .int .i64 o.r, .bool o.ok, .string o.job]
def OpV.cells (o : OpV) : List Value := [.int .i64 o.k, .int .i64 o.d, .int .i64 o.t, .int .i64 o.r, .bool o.ok, .string o.job]
/-- The fields are numbers of their kinds. -/
def OpV.In (o : OpV) : Prop := (-9223372036854775808 ≤ o.k ∧ o.k ≤ 9223372036854775807) ∧ (-9223372036854775808 ≤ o.d ∧ o.d ≤ 9223372036854775807) ∧ (-9223372036854775808 ≤ o.t ∧ o.t ≤ 9223372036854775807) ∧ (-9223372036854775808 ≤ o.r ∧ o.r ≤ 9223372036854775807)
/-- No field is used that the kind does not use. -/
def bareB (o : OpV) : Bool :=
  if o.k = 1 then decide (o.t = 0 ∧ o.r = 0) && !o.ok && decide (o.job.size = 0)
  else if o.k = 2 then decide (o.d = 0 ∧ o.r = 0) && !o.ok && decide (o.job.size = 0)
  else if o.k = 3 then decide (o.d = 0 ∧ o.t = 0) && decide (o.job.size = 0)
  else decide (o.d = 0 ∧ o.t = 0 ∧ o.r = 0) && !o.ok
def opErr (o : OpV) : Int :=
  if o.k < 1 ∨ 6 < o.k then 2
  else if bareB o = false then 2
  else if o.k = 1 then (if o.d < 1 ∨ 100000 < o.d then 2 else 0)
  else if o.k = 2 then (if o.t < 0 ∨ 253402300799 < o.t then 14 else 0)
  else if o.k = 3 then (if o.r < 1 then 2 else 0)
  else if isName o.job = false then 15 else 0
def word (k : Int) : List UInt8 :=
  if k = 1 then [116, 105, 99, 107] else if k = 2 then [106, 117, 109, 112] else if k = 3 then [102, 105, 110, 105, 115, 104]
  else if k = 4 then [114, 101, 109, 111, 118, 101] else if k = 5 then [116, 114, 105, 112] else [114, 101, 115, 101, 116]
def endW (b : Bool) : List UInt8 := if b then [32, 111, 107] else [32, 102, 97, 105, 108]
def restW (o : OpV) : List UInt8 :=
  if o.k = 1 then Lib.itoa o.d else if o.k = 2 then tmText o.t else if o.k = 3 then Lib.itoa o.r ++ endW o.ok else o.job.data.toList
def opText (o : OpV) : List UInt8 := word o.k ++ 32 :: restW o
def Parses (l : List UInt8) (o : OpV) : Prop := opErr o = 0 ∧ opText o = l
/-- What an operation that is valid is, kind by kind. -/
theorem opErr_zero {o : OpV} (h : opErr o = 0) :
    (o.k = 1 ∧ 1 ≤ o.d ∧ o.d ≤ 100000 ∧ o = ⟨1, o.d, 0, 0, false, ⟨#[]⟩⟩) ∨ (o.k = 2 ∧ 0 ≤ o.t ∧ o.t ≤ 253402300799 ∧ o = ⟨2, 0, o.t, 0, false, ⟨#[]⟩⟩) ∨
    (o.k = 3 ∧ 1 ≤ o.r ∧ o = ⟨3, 0, 0, o.r, o.ok, ⟨#[]⟩⟩) ∨ ((o.k = 4 ∨ o.k = 5 ∨ o.k = 6) ∧ isName o.job = true ∧ o = ⟨o.k, 0, 0, 0, false, o.job⟩) := by
  obtain ⟨k, d, t, r, ok, job⟩ := o
  unfold opErr at h
  simp only at h
  by_cases hk : k < 1 ∨ 6 < k
  · rw [if_pos hk] at h; omega
  rw [if_neg hk] at h
  by_cases hb : bareB ⟨k, d, t, r, ok, job⟩ = false
  · rw [if_pos hb] at h; omega
  rw [if_neg hb] at h
  have hb' : bareB ⟨k, d, t, r, ok, job⟩ = true := by simpa using hb
  unfold bareB at hb'
  simp only at hb'
  by_cases h1 : k = 1
  · subst h1
    simp at hb' h
    obtain ⟨⟨⟨rfl, rfl⟩, rfl⟩, hj⟩ := hb'
    have hj' : job = ⟨#[]⟩ := hj
    subst hj'
    left; exact ⟨rfl, by simp only; omega, by simp only; omega, rfl⟩
  rw [if_neg h1] at h hb'
  by_cases h2 : k = 2
  · subst h2
    simp at hb' h
    obtain ⟨⟨⟨rfl, rfl⟩, rfl⟩, hj⟩ := hb'
    have hj' : job = ⟨#[]⟩ := hj
    subst hj'
    right; left; exact ⟨rfl, by simp only; omega, by simp only; omega, rfl⟩
  rw [if_neg h2] at h hb'
  by_cases h3 : k = 3
  · subst h3
    simp at hb' h
    obtain ⟨⟨rfl, rfl⟩, hj⟩ := hb'
    have hj' : job = ⟨#[]⟩ := hj
    subst hj'
    right; right; left; exact ⟨rfl, by simp only; omega, rfl⟩
  rw [if_neg h3] at h hb'
  simp at hb' h
  obtain ⟨⟨rfl, rfl, rfl⟩, rfl⟩ := hb'
  right; right; right
  exact ⟨by simp only; omega, h, rfl⟩
theorem opErr_tick {d : Int} (h0 : 1 ≤ d) (h1 : d ≤ 100000) : opErr ⟨1, d, 0, 0, false, ⟨#[]⟩⟩ = 0 := by
  have z : (⟨#[]⟩ : ByteArray).size = 0 := rfl
  unfold opErr bareB; simp only [z]; simp; omega
theorem opErr_jump {t : Int} (h0 : 0 ≤ t) (h1 : t ≤ 253402300799) : opErr ⟨2, 0, t, 0, false, ⟨#[]⟩⟩ = 0 := by
  have z : (⟨#[]⟩ : ByteArray).size = 0 := rfl
  unfold opErr bareB; simp only [z]; simp; omega
theorem opErr_finish {r : Int} (ok : Bool) (h0 : 1 ≤ r) : opErr ⟨3, 0, 0, r, ok, ⟨#[]⟩⟩ = 0 := by
  have z : (⟨#[]⟩ : ByteArray).size = 0 := rfl
  unfold opErr bareB; simp only [z]; simp; omega
theorem opErr_name {k : Int} {job : ByteArray} (hk : k = 4 ∨ k = 5 ∨ k = 6) (h : isName job = true) : opErr ⟨k, 0, 0, 0, false, job⟩ = 0 := by
  rcases hk with rfl | rfl | rfl <;> simp [opErr, bareB, h]
theorem opErr_noname {k : Int} {job : ByteArray} (hk : k = 4 ∨ k = 5 ∨ k = 6) (h : isName job = false) : opErr ⟨k, 0, 0, 0, false, job⟩ = 15 := by
  rcases hk with rfl | rfl | rfl <;> simp [opErr, bareB, h]
theorem opErr_rng (o : OpV) : opErr o = 0 ∨ opErr o = 2 ∨ opErr o = 14 ∨ opErr o = 15 := by
  unfold opErr; (repeat' split) <;> simp

/-! ### words -/
theorem word_in (k : Int) : word k = [116, 105, 99, 107] ∨ word k = [106, 117, 109, 112] ∨ word k = [102, 105, 110, 105, 115, 104] ∨ word k = [114, 101, 109, 111, 118, 101] ∨ word k = [116, 114, 105, 112] ∨ word k = [114, 101, 115, 101, 116] := by
  unfold word; (repeat' split) <;> simp
theorem word_inj {k k' : Int} (h : 1 ≤ k ∧ k ≤ 6) (h' : 1 ≤ k' ∧ k' ≤ 6) (e : word k = word k') : k = k' := by
  have c : ∀ {k : Int}, 1 ≤ k ∧ k ≤ 6 → k = 1 ∨ k = 2 ∨ k = 3 ∨ k = 4 ∨ k = 5 ∨ k = 6 := by omega
  rcases c h with rfl | rfl | rfl | rfl | rfl | rfl <;> rcases c h' with rfl | rfl | rfl | rfl | rfl | rfl <;> first | rfl | (exfalso; revert e; decide)
theorem word_nosp (k : Int) : (32 : UInt8) ∉ word k := by rcases word_in k with h | h | h | h | h | h <;> rw [h] <;> decide
theorem split_sp {a b a' b' : List UInt8} (h : (32 : UInt8) ∉ a) (h' : (32 : UInt8) ∉ a') (e : a ++ 32 :: b = a' ++ 32 :: b') : a = a' ∧ b = b' := by
  induction a generalizing a' with
  | nil =>
    cases a' with
    | nil => exact ⟨rfl, (List.cons.inj e).2⟩
    | cons c a' => exfalso; apply h'; rw [List.nil_append, List.cons_append] at e; rw [← (List.cons.inj e).1]; exact List.mem_cons_self
  | cons c a ih =>
    cases a' with
    | nil => exfalso; apply h; rw [List.nil_append, List.cons_append] at e; rw [(List.cons.inj e).1]; exact List.mem_cons_self
    | cons c' a' =>
      rw [List.cons_append, List.cons_append] at e
      obtain ⟨e1, e2⟩ := List.cons.inj e
      obtain ⟨r1, r2⟩ := ih (fun m => h (List.mem_cons_of_mem _ m)) (fun m => h' (List.mem_cons_of_mem _ m)) e2
      exact ⟨by rw [e1, r1], r2⟩
theorem kind_bd {o : OpV} (h : opErr o = 0) : 1 ≤ o.k ∧ o.k ≤ 6 := by
  rcases opErr_zero h with ⟨h, _⟩ | ⟨h, _⟩ | ⟨h, _⟩ | ⟨h | h | h, _⟩ <;> omega
theorem dd_nosp (u : Nat) (c : UInt8) (hc : isDig c = false) : c ∉ Lib.decDigits u := by
  intro hm
  have := List.all_eq_true.1 (dd_all u) c hm
  rw [hc] at this; cases this
theorem it_nosp (n : Int) : (32 : UInt8) ∉ Lib.itoa n := by
  by_cases h : n < 0
  · rw [itoa_neg h]
    intro hm
    rcases List.mem_cons.1 hm with e | e
    · revert e; decide
    · exact dd_nosp _ 32 (by decide) e
  · rw [itoa_pos (by omega)]; exact dd_nosp _ 32 (by decide)
theorem it_inj {a b : Int} (ha : -9223372036854775808 ≤ a ∧ a ≤ 9223372036854775807) (hb : -9223372036854775808 ≤ b ∧ b ≤ 9223372036854775807) (h : Lib.itoa a = Lib.itoa b) : a = b := by
  have e1 := (it_num a ha.1 ha.2).1
  have e2 := (it_num b hb.1 hb.2).1
  rw [h] at e1; omega
theorem endW_eq (b : Bool) : endW b = 32 :: (if b then [111, 107] else [102, 97, 105, 108]) := by cases b <;> rfl
theorem tmText_inj {a b : Int} (a0 : 0 ≤ a) (a1 : a ≤ 253402300799) (b0 : 0 ≤ b) (b1 : b ≤ 253402300799) (h : tmText a = tmText b) : a = b := by
  obtain ⟨y, m, d, h', i, s, ok, e1, e2⟩ := tmText_civ a0 a1
  obtain ⟨y', m', d', h'', i', s', ok', e1', e2'⟩ := tmText_civ b0 b1
  rw [e1, e1'] at h
  have bd := valid_bd ok.1
  have bd' := valid_bd ok'.1
  obtain ⟨_, c1, c2, c3, c4, c5, c6⟩ := ok
  obtain ⟨_, k1, k2, k3, k4, k5, k6⟩ := ok'
  obtain ⟨r1, r2, r3, r4, r5, r6⟩ := civ_inj (by omega) (by omega) h
  rw [e2, e2', r1, r2, r3, r4, r5, r6]
/-- A text is that of one operation alone. -/
theorem parses_one {l : List UInt8} {o o' : OpV} (hi : o.In) (hi' : o'.In) (h : Parses l o) (h' : Parses l o') : o = o' := by
  obtain ⟨e, ht⟩ := h
  obtain ⟨e', ht'⟩ := h'
  unfold opText at ht ht'
  rw [← ht'] at ht
  obtain ⟨hw, hr⟩ := split_sp (word_nosp _) (word_nosp _) ht
  have hk := word_inj (kind_bd e) (kind_bd e') hw
  unfold restW at hr
  rcases opErr_zero e with ⟨k, p, q, ho⟩ | ⟨k, p, q, ho⟩ | ⟨k, p, ho⟩ | ⟨k, p, ho⟩
  · have k' : o'.k = 1 := by omega
    rw [k, if_pos rfl, k', if_pos rfl] at hr
    rcases opErr_zero e' with ⟨_, p', q', ho'⟩ | ⟨k'', _⟩ | ⟨k'', _⟩ | ⟨k'', _⟩ <;> try omega
    rw [ho, ho', it_inj (by omega) (by omega) hr]
  · have k' : o'.k = 2 := by omega
    rw [k, if_neg (by omega), if_pos rfl, k', if_neg (by omega), if_pos rfl] at hr
    rcases opErr_zero e' with ⟨k'', _⟩ | ⟨_, p', q', ho'⟩ | ⟨k'', _⟩ | ⟨k'', _⟩ <;> try omega
    rw [ho, ho', tmText_inj p q p' q' hr]
  · have k' : o'.k = 3 := by omega
    rw [k, if_neg (by omega), if_neg (by omega), if_pos rfl, k', if_neg (by omega), if_neg (by omega), if_pos rfl, endW_eq, endW_eq] at hr
    rcases opErr_zero e' with ⟨k'', _⟩ | ⟨k'', _⟩ | ⟨_, p', ho'⟩ | ⟨k'', _⟩ <;> try omega
    obtain ⟨r1, r2⟩ := split_sp (it_nosp _) (it_nosp _) hr
    have r3 : o.ok = o'.ok := by
      cases ho1 : o.ok <;> cases ho2 : o'.ok <;> rw [ho1, ho2] at r2 <;> first | rfl | (exfalso; revert r2; decide)
    rw [ho, ho', it_inj hi.2.2.2 hi'.2.2.2 r1, r3]
  · have k' : o'.k = 4 ∨ o'.k = 5 ∨ o'.k = 6 := by omega
    rw [if_neg (by omega), if_neg (by omega), if_neg (by omega), if_neg (by omega), if_neg (by omega), if_neg (by omega)] at hr
    rcases opErr_zero e' with ⟨k'', _⟩ | ⟨k'', _⟩ | ⟨k'', _⟩ | ⟨_, p', ho'⟩ <;> try omega
    rw [ho, ho', hk, show o.job = o'.job from ByteArray.ext (Array.toList_inj.1 hr)]
theorem parses_in {o : OpV} (h : opErr o = 0) (hr : -9223372036854775808 ≤ o.r ∧ o.r ≤ 9223372036854775807) : o.In := by
  have z : (-9223372036854775808 : Int) ≤ 0 ∧ (0 : Int) ≤ 9223372036854775807 := by omega
  rcases opErr_zero h with ⟨k, p, q, ho⟩ | ⟨k, p, q, ho⟩ | ⟨k, p, ho⟩ | ⟨k, p, ho⟩ <;> rw [ho] at hr ⊢ <;> refine ⟨?_, ?_, ?_, hr⟩ <;> simp only <;> omega
/-- What a text is read as: an operation and no error, or nothing and the error of a form. -/
def ReadsOp (l : List UInt8) (o : OpV) (e : Int) : Prop :=
  (e = 0 ∧ Parses l o ∧ o.In) ∨ (e = 10 ∧ o = opZ ∧ ∀ p : OpV, p.In → ¬ Parses l p)
theorem reads_one {l : List UInt8} {o o' : OpV} {e e' : Int} (h : ReadsOp l o e) (h' : ReadsOp l o' e') : o = o' ∧ e = e' := by
  rcases h with ⟨rfl, p, i⟩ | ⟨rfl, rfl, n⟩ <;> rcases h' with ⟨rfl, p', i'⟩ | ⟨rfl, rfl, n'⟩
  · exact ⟨parses_one i i' p p', rfl⟩
  · exact absurd p (n' _ i)
  · exact absurd p' (n _ i')
  · exact ⟨rfl, rfl⟩
/-- A text that begins with a word and a space: only an operation of this kind may have it. -/
theorem reads_word {l rest : List UInt8} {k : Int} (hk : 1 ≤ k ∧ k ≤ 6) (hl : l = word k ++ 32 :: rest) {o : OpV} (h : Parses l o) : o.k = k ∧ restW o = rest := by
  obtain ⟨e, ht⟩ := h
  rw [hl] at ht
  unfold opText at ht
  obtain ⟨h1, h2⟩ := split_sp (word_nosp _) (word_nosp _) ht
  exact ⟨word_inj (kind_bd e) hk h1, h2⟩
theorem reads_no {l : List UInt8} (h : ∀ p : OpV, p.In → ¬ Parses l p) : ReadsOp l opZ 10 := .inr ⟨rfl, rfl, h⟩
theorem reads_tick_ok {l rest : List UInt8} (hl : l = word 1 ++ 32 :: rest) (h : numErr rest = 0 ∧ 1 ≤ numRes rest ∧ numRes rest ≤ 100000) : ReadsOp l ⟨1, numRes rest, 0, 0, false, ⟨#[]⟩⟩ 0 := by
  have e := opErr_tick h.2.1 h.2.2
  refine .inl ⟨rfl, ⟨e, ?_⟩, parses_in e (by simp only; omega)⟩
  show word 1 ++ 32 :: Lib.itoa (numRes rest) = l
  rw [it_back h.1, hl]
theorem reads_tick_no {l rest : List UInt8} (hl : l = word 1 ++ 32 :: rest) (h : ¬ (numErr rest = 0 ∧ 1 ≤ numRes rest ∧ numRes rest ≤ 100000)) : ReadsOp l opZ 10 := by
  refine reads_no fun p hi hp => h ?_
  obtain ⟨k, hr⟩ := reads_word (by omega) hl hp
  rcases opErr_zero hp.1 with ⟨_, a, b, ho⟩ | ⟨k', _⟩ | ⟨k', _⟩ | ⟨k', _⟩ <;> try omega
  unfold restW at hr
  rw [if_pos k] at hr
  obtain ⟨n1, n2⟩ := it_num p.d (by omega) (by omega)
  rw [hr] at n1 n2
  omega
theorem reads_jump_ok {l rest : List UInt8} {v e : Int} (hl : l = word 2 ++ 32 :: rest) (h : TimeIs rest v e) (he : e = 0) : ReadsOp l ⟨2, 0, v, 0, false, ⟨#[]⟩⟩ 0 := by
  rcases h with ⟨_, a, b, c⟩ | ⟨h', _⟩
  · have e := opErr_jump a b
    refine .inl ⟨rfl, ⟨e, ?_⟩, parses_in e (by simp only; omega)⟩
    show word 2 ++ 32 :: tmText v = l
    rw [← c, hl]
  · exact absurd he h'
theorem reads_jump_no {l rest : List UInt8} {v e : Int} (hl : l = word 2 ++ 32 :: rest) (h : TimeIs rest v e) (he : e ≠ 0) : ReadsOp l opZ 10 := by
  rcases h with ⟨h', _⟩ | ⟨_, _, h⟩
  · exact absurd h' he
  · refine reads_no fun p hi hp => ?_
    obtain ⟨k, hr⟩ := reads_word (by omega) hl hp
    rcases opErr_zero hp.1 with ⟨k', _⟩ | ⟨_, a, b, ho⟩ | ⟨k', _⟩ | ⟨k', _⟩ <;> try omega
    unfold restW at hr
    rw [if_neg (by omega), if_pos k] at hr
    exact h p.t a b hr.symm
theorem reads_finish_ok {l run : List UInt8} (b : Bool) (hl : l = word 3 ++ 32 :: (run ++ endW b)) (h : numErr run = 0 ∧ 1 ≤ numRes run) (h2 : numRes run ≤ 9223372036854775807) : ReadsOp l ⟨3, 0, 0, numRes run, b, ⟨#[]⟩⟩ 0 := by
  have e := opErr_finish b h.2
  refine .inl ⟨rfl, ⟨e, ?_⟩, parses_in e (by simp only; omega)⟩
  show word 3 ++ 32 :: (Lib.itoa (numRes run) ++ endW b) = l
  rw [it_back h.1, hl]
/-- 'finish': the rest up to its first space is no number from 1 on, or what is behind it is none of the two words. -/
theorem reads_finish_no {l rest : List UInt8} (hl : l = word 3 ++ 32 :: rest) (h : ∀ run b, (32 : UInt8) ∉ run → rest = run ++ endW b → ¬ (numErr run = 0 ∧ 1 ≤ numRes run)) : ReadsOp l opZ 10 := by
  refine reads_no fun p hi hp => ?_
  obtain ⟨k, hr⟩ := reads_word (by omega) hl hp
  rcases opErr_zero hp.1 with ⟨k', _⟩ | ⟨k', _⟩ | ⟨_, a, ho⟩ | ⟨k', _⟩ <;> try omega
  unfold restW at hr
  rw [if_neg (by omega), if_neg (by omega), if_pos k] at hr
  obtain ⟨n1, n2⟩ := it_num p.r hi.2.2.2.1 hi.2.2.2.2
  exact h _ p.ok (it_nosp _) hr.symm ⟨n2, by omega⟩
theorem reads_name_ok {l : List UInt8} {k : Int} {job : ByteArray} (hk : k = 4 ∨ k = 5 ∨ k = 6) (hl : l = word k ++ 32 :: job.data.toList) (h : isName job = true) : ReadsOp l ⟨k, 0, 0, 0, false, job⟩ 0 := by
  have e := opErr_name hk h
  refine .inl ⟨rfl, ⟨e, ?_⟩, parses_in e (by simp only; omega)⟩
  rcases hk with rfl | rfl | rfl <;> exact hl.symm
theorem reads_name_no {l : List UInt8} {k : Int} {job : ByteArray} (hk : k = 4 ∨ k = 5 ∨ k = 6) (hl : l = word k ++ 32 :: job.data.toList) (h : isName job = false) : ReadsOp l opZ 10 := by
  refine reads_no fun p hi hp => ?_
  obtain ⟨k1, hr⟩ := reads_word (by omega) hl hp
  rcases opErr_zero hp.1 with ⟨k', _⟩ | ⟨k', _⟩ | ⟨k', _⟩ | ⟨_, a, ho⟩ <;> try omega
  unfold restW at hr
  rw [if_neg (by omega), if_neg (by omega), if_neg (by omega)] at hr
  have : p.job = job := ByteArray.ext (Array.toList_inj.1 hr)
  rw [this, h] at a
  cases a
theorem reads_nosp {l : List UInt8} (h : (32 : UInt8) ∉ l) : ReadsOp l opZ 10 := by
  refine reads_no fun p hi hp => h ?_
  rw [← hp.2]
  exact List.mem_append_right _ List.mem_cons_self
theorem reads_noword {l wd rest : List UInt8} (hl : l = wd ++ 32 :: rest) (h32 : (32 : UInt8) ∉ wd) (h : ∀ k, 1 ≤ k → k ≤ 6 → wd ≠ word k) : ReadsOp l opZ 10 := by
  refine reads_no fun p hi hp => ?_
  have ht := hp.2
  rw [hl] at ht
  obtain ⟨h1, _⟩ := split_sp (word_nosp _) h32 ht
  exact h p.k (kind_bd hp.1).1 (kind_bd hp.1).2 h1.symm

/-! ### what the reference guesses -/
def behB (s : ByteArray) (k : Int) : Bool := (word k ++ [32]).isPrefixOf s.data.toList
def behR (s : ByteArray) (k : Int) : ByteArray := s.extract ((word k).length + 1) s.size
theorem beh_split {s : ByteArray} {k : Int} (h : behB s k = true) : s.data.toList = word k ++ 32 :: (behR s k).data.toList := by
  unfold behB at h
  rw [List.isPrefixOf_iff_prefix] at h
  obtain ⟨t, ht⟩ := h
  have : (behR s k).data.toList = t := by
    unfold behR
    rw [Lib.extract_data, ← ht]
    have e : (word k).length + 1 = (word k ++ [32]).length := by simp
    rw [e, List.drop_left]
    apply List.take_of_length_le
    rw [Lib.size_eq, ← ht]; simp; omega
  rw [this, ← ht]; simp
theorem beh_of {s : ByteArray} {k : Int} {r : List UInt8} (h : s.data.toList = word k ++ 32 :: r) : behB s k = true := by
  unfold behB
  rw [List.isPrefixOf_iff_prefix, h]
  exact ⟨r, by simp⟩
theorem beh_one {s : ByteArray} {k k' : Int} (h : behB s k = true) (h' : behB s k' = true) (hk : 1 ≤ k ∧ k ≤ 6) (hk' : 1 ≤ k' ∧ k' ≤ 6) : k = k' := by
  have e := beh_split h
  rw [beh_split h'] at e
  exact (word_inj hk' hk (split_sp (word_nosp _) (word_nosp _) e).1).symm
def finRun (x : ByteArray) : ByteArray := x.extract 0 (idx x 32)
def finOk (x : ByteArray) : Bool := decide ((x.extract (idx x 32) x.size).data.toList = [32, 111, 107])
def guessV (s : ByteArray) (tv : ByteArray → Int) : OpV :=
  if behB s 1 then ⟨1, numRes (behR s 1).data.toList, 0, 0, false, ⟨#[]⟩⟩
  else if behB s 2 then ⟨2, 0, tv (behR s 2), 0, false, ⟨#[]⟩⟩
  else if behB s 3 then ⟨3, 0, 0, numRes (finRun (behR s 3)).data.toList, finOk (behR s 3), ⟨#[]⟩⟩
  else if behB s 4 then ⟨4, 0, 0, 0, false, behR s 4⟩
  else if behB s 5 then ⟨5, 0, 0, 0, false, behR s 5⟩
  else ⟨6, 0, 0, 0, false, if behB s 6 then behR s 6 else ⟨#[]⟩⟩
theorem idx_app (x : ByteArray) (a b : List UInt8) (ha : (32 : UInt8) ∉ a) (h : x.data.toList = a ++ 32 :: b) : idx x 32 = a.length := by
  unfold idx
  rw [h, List.findIdx_append]
  have : a.findIdx (· == 32) = a.length := by
    rw [List.findIdx_eq_length]
    intro y hy
    rw [beq_eq_false_iff_ne]
    intro e; subst e; exact ha hy
  rw [this, if_neg (Nat.lt_irrefl _)]
  rw [List.findIdx_cons]
  simp
theorem guess_of {s : ByteArray} {tv : ByteArray → Int} {p : OpV} (hi : p.In) (h : Parses s.data.toList p) (htv : ∀ x : ByteArray, ∃ e, TimeIs x.data.toList (tv x) e) : guessV s tv = p := by
  have hk := kind_bd h.1
  have hb : behB s p.k = true := beh_of h.2.symm
  have hr : restW p = (behR s p.k).data.toList := (reads_word hk (beh_split hb) h).2
  have hno : ∀ k, 1 ≤ k → k ≤ 6 → k ≠ p.k → behB s k = false := by
    intro k h1 h2 hne
    cases hc : behB s k
    · rfl
    · exact absurd (beh_one hc hb ⟨h1, h2⟩ hk) hne
  unfold restW at hr
  unfold guessV
  rcases opErr_zero h.1 with ⟨k, a, b, ho⟩ | ⟨k, a, b, ho⟩ | ⟨k, a, ho⟩ | ⟨k, a, ho⟩
  · rw [k] at hb hr
    rw [if_pos rfl] at hr
    rw [if_pos hb, ← hr, (it_num p.d (by omega) (by omega)).1]; exact ho.symm
  · rw [k] at hb hr
    rw [if_neg (by omega), if_pos rfl] at hr
    rw [if_neg (by rw [hno 1 (by omega) (by omega) (by omega)]; decide), if_pos hb]
    obtain ⟨e, he⟩ := htv (behR s 2)
    have : tv (behR s 2) = p.t := by
      rcases he with ⟨_, c, d, f⟩ | ⟨_, _, f⟩
      · rw [← hr] at f; exact (tmText_inj a b c d f).symm
      · exact absurd hr.symm (f p.t a b)
    rw [this]; exact ho.symm
  · rw [k] at hb hr
    rw [if_neg (by omega), if_neg (by omega), if_pos rfl, endW_eq] at hr
    rw [if_neg (by rw [hno 1 (by omega) (by omega) (by omega)]; decide), if_neg (by rw [hno 2 (by omega) (by omega) (by omega)]; decide), if_pos hb]
    have hix := idx_app _ _ _ (it_nosp p.r) hr.symm
    have e1 : (finRun (behR s 3)).data.toList = Lib.itoa p.r := by
      unfold finRun
      rw [ext_data, hix, ← hr, List.take_left]
    have e2 : finOk (behR s 3) = p.ok := by
      unfold finOk
      rw [Lib.extract_data, ← hr, hix, List.drop_left, List.take_of_length_le (by rw [Lib.size_eq, ← hr]; simp)]
      cases p.ok <;> decide
    rw [e1, e2, (it_num p.r hi.2.2.2.1 hi.2.2.2.2).1]; exact ho.symm
  · have hj : p.job = behR s p.k := by
      rw [if_neg (by omega), if_neg (by omega), if_neg (by omega)] at hr
      exact ByteArray.ext (Array.toList_inj.1 hr)
    rw [if_neg (by rw [hno 1 (by omega) (by omega) (by omega)]; decide), if_neg (by rw [hno 2 (by omega) (by omega) (by omega)]; decide), if_neg (by rw [hno 3 (by omega) (by omega) (by omega)]; decide)]
    rcases k with k | k | k
    · rw [k] at hb hj
      rw [if_pos hb, ← hj, ho, k]
    · rw [k] at hb hj
      rw [if_neg (by rw [hno 4 (by omega) (by omega) (by omega)]; decide), if_pos hb, ← hj, ho, k]
    · rw [k] at hb hj
      rw [if_neg (by rw [hno 4 (by omega) (by omega) (by omega)]; decide), if_neg (by rw [hno 5 (by omega) (by omega) (by omega)]; decide), if_pos hb, ← hj, ho, k]
theorem guess_reads {s : ByteArray} {tv : ByteArray → Int} {g : OpV} (hg : guessV s tv = g) (htv : ∀ x : ByteArray, ∃ e, TimeIs x.data.toList (tv x) e) (hin : opErr g = 0 → g.In) :
    (opErr g = 0 ∧ opText g = s.data.toList → ReadsOp s.data.toList g 0) ∧ (¬ (opErr g = 0 ∧ opText g = s.data.toList) → ReadsOp s.data.toList opZ 10) := by
  refine ⟨fun h => .inl ⟨rfl, h, hin h.1⟩, fun h => reads_no fun p hi hp => h ?_⟩
  have := guess_of hi hp htv
  rw [hg] at this
  subst this
  exact hp
end Go.Proofs.YtnnkamfpcodnnaaGreatDoor.Lx
