/- Plain facts on joined ticks as the reference joins them, and on where the other operations stand. No program in sight. -/
import Derived.Test.YtnnkamfpcodnnaaDoorOpM
namespace Go.Proofs.YtnnkamfpcodnnaaDoor.Lx
open Go Go.RowKit

/-- The ticks that a number of seconds comes to: full ones, and the rest. -/
def chunks (s : Nat) : List OpV := if s = 0 then [] else List.replicate ((s - 1) / 100000) (tickV 100000) ++ [tickV (((s - 1) % 100000 + 1 : Nat) : Int)]
theorem chunks_zero : chunks 0 = [] := rfl
theorem chunks_small {s : Nat} (h0 : 0 < s) (h : s ≤ 100000) : chunks s = [tickV s] := by
  unfold chunks
  rw [if_neg (by omega), show (s - 1) / 100000 = 0 by omega, show (s - 1) % 100000 + 1 = s by omega, List.replicate_zero, List.nil_append]
theorem chunks_large {s : Nat} (h : 100000 < s) : chunks s = tickV 100000 :: chunks (s - 100000) := by
  unfold chunks
  rw [if_neg (by omega), if_neg (by omega), show (s - 1) / 100000 = (s - 100000 - 1) / 100000 + 1 by omega, show (s - 1) % 100000 = (s - 100000 - 1) % 100000 by omega, List.replicate_succ, List.cons_append]
def Apart (A : List OpV) : Prop := A = [] ∨ ∃ B p, A = B ++ [p] ∧ p.k ≠ 1
theorem chunks_tick {A : List OpV} (hA : Apart A) (s d : Nat) (h0 : 1 ≤ d) (h1 : d ≤ 100000) : normStep (A ++ chunks s) (tickV d) = A ++ chunks (s + d) := by
  by_cases hs : s = 0
  · subst hs
    rw [chunks_zero, List.append_nil, Nat.zero_add, chunks_small h0 h1]
    rcases hA with rfl | ⟨B, p, rfl, hp⟩
    · rfl
    · exact step_apart (fun h => hp h.1)
  · have e : chunks s = List.replicate ((s - 1) / 100000) (tickV 100000) ++ [tickV (((s - 1) % 100000 + 1 : Nat) : Int)] := by unfold chunks; rw [if_neg hs]
    have e2 : chunks (s + d) = List.replicate ((s + d - 1) / 100000) (tickV 100000) ++ [tickV (((s + d - 1) % 100000 + 1 : Nat) : Int)] := by unfold chunks; rw [if_neg (by omega)]
    rw [e, e2, ← List.append_assoc, ← List.append_assoc]
    by_cases hd : (s - 1) % 100000 + 1 + d ≤ 100000
    · rw [step_fit ⟨rfl, rfl⟩ (by show (((s - 1) % 100000 + 1 : Nat) : Int) + (d : Int) ≤ 100000; omega)]
      rw [show (s + d - 1) / 100000 = (s - 1) / 100000 by omega]
      congr 2
      show tickV ((((s - 1) % 100000 + 1 : Nat) : Int) + (d : Int)) = _
      rw [show (((s - 1) % 100000 + 1 : Nat) : Int) + (d : Int) = (((s + d - 1) % 100000 + 1 : Nat) : Int) by omega]
    · rw [step_over ⟨rfl, rfl⟩ (by show ¬ (((s - 1) % 100000 + 1 : Nat) : Int) + (d : Int) ≤ 100000; omega)]
      rw [show (s + d - 1) / 100000 = (s - 1) / 100000 + 1 by omega, List.replicate_succ', ← List.append_assoc]
      congr 2
      show tickV ((((s - 1) % 100000 + 1 : Nat) : Int) + (d : Int) - 100000) = _
      rw [show (((s - 1) % 100000 + 1 : Nat) : Int) + (d : Int) - 100000 = (((s + d - 1) % 100000 + 1 : Nat) : Int) by omega]
theorem chunks_k {s : Nat} {o : OpV} (h : o ∈ chunks s) : o.k = 1 := by
  unfold chunks at h
  split at h
  · cases h
  · rcases List.mem_append.1 h with h | h
    · rw [(List.mem_replicate.1 h).2]; rfl
    · rw [List.mem_singleton.1 h]; rfl
theorem step_nontick (l : List OpV) {o : OpV} (h : o.k ≠ 1) : normStep l o = l ++ [o] := by
  rcases List.eq_nil_or_concat l with rfl | ⟨a, p, rfl⟩
  · rfl
  · rw [List.concat_eq_append]; exact step_apart (fun h' => h h'.2)
theorem apart_snoc (A : List OpV) {o : OpV} (h : o.k ≠ 1) : Apart (A ++ [o]) := .inr ⟨A, o, rfl, h⟩
theorem chunks_len (s : Nat) : (chunks s).length ≤ s := by
  unfold chunks
  split
  · rw [List.length_nil]; omega
  · rw [List.length_append, List.length_replicate, List.length_singleton]; omega

/-! ### where the operations stand that are no ticks -/
theorem nonT_drop_tick {l : List OpV} {i : Nat} {o : OpV} (h : l[i]? = some o) (hk : o.k = 1) : nonT (l.drop i) = nonT (l.drop (i + 1)) := by
  obtain ⟨hi, hv⟩ := List.getElem?_eq_some_iff.1 h
  rw [List.drop_eq_getElem_cons hi, hv]
  show nonT ([o] ++ l.drop (i + 1)) = _
  rw [nonT_app, nonT_tick hk]; rfl
theorem nonT_drop_other {l : List OpV} {i : Nat} {o : OpV} (h : l[i]? = some o) (hk : o.k ≠ 1) : nonT (l.drop i) = o :: nonT (l.drop (i + 1)) := by
  obtain ⟨hi, hv⟩ := List.getElem?_eq_some_iff.1 h
  rw [List.drop_eq_getElem_cons hi, hv]
  show nonT ([o] ++ l.drop (i + 1)) = _
  rw [nonT_app, nonT_other hk]; rfl
theorem nonT_end {l : List OpV} {k : Nat} (h : l.length ≤ k) : nonT (l.drop k) = [] := by
  rw [List.drop_eq_nil_of_le h]; rfl
theorem nonT_none {l : List OpV} {i k : Nat} {o : OpV} (h : nonT (l.drop k) = []) (hk : k ≤ i) (hi : l[i]? = some o) : o.k = 1 := by
  obtain ⟨hl, hv⟩ := List.getElem?_eq_some_iff.1 hi
  by_cases e : o.k = 1
  · exact e
  · have : o ∈ nonT (l.drop k) := by
      unfold nonT
      rw [List.mem_filter]
      refine ⟨?_, by simpa using e⟩
      rw [List.mem_iff_getElem?]
      exact ⟨i - k, by rw [List.getElem?_drop, show k + (i - k) = i by omega]; exact hi⟩
    rw [h] at this; cases this
end Go.Proofs.YtnnkamfpcodnnaaDoor.Lx
