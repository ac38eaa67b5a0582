/- Policies: the pairs of a valid policy in any order, and one of them twice (plain). -/
import Derived.Test.YtdpjcbijddgpgaaGreatDoorPoM1
namespace Go.Proofs.YtdpjcbijddgpgaaGreatDoor.Lx
open Go Go.RowKit

/-- A turned order of the eight keys. -/
def Turn (σ : Nat → Nat) : Prop := (∀ i, i < 8 → σ i < 8) ∧ (∀ i j, i < 8 → j < 8 → σ i = σ j → i = j) ∧ ∀ j, j < 8 → ∃ i, i < 8 ∧ σ i = j
def swp (σ : Nat → Nat) (a b : Nat) : Nat → Nat := fun i => if i = a then σ b else if i = b then σ a else σ i
theorem swp_fst (σ : Nat → Nat) (a b : Nat) : swp σ a b a = σ b := if_pos rfl
theorem swp_snd (σ : Nat → Nat) (a b : Nat) : swp σ a b b = σ a := by
  unfold swp
  by_cases h : b = a
  · rw [if_pos h, h]
  · rw [if_neg h, if_pos rfl]
theorem swp_other (σ : Nat → Nat) {a b i : Nat} (h : i ≠ a) (h2 : i ≠ b) : swp σ a b i = σ i := by unfold swp; rw [if_neg h, if_neg h2]
theorem turn_id : Turn id := ⟨fun _ h => h, fun _ _ _ _ h => h, fun j h => ⟨j, h, rfl⟩⟩
theorem turn_swp {σ : Nat → Nat} (h : Turn σ) {a b : Nat} (ha : a < 8) (hb : b < 8) : Turn (swp σ a b) := by
  obtain ⟨h1, h2, h3⟩ := h
  refine ⟨fun i hi => ?_, fun i j hi hj e => ?_, fun j hj => ?_⟩
  · unfold swp
    split
    · exact h1 b hb
    · split
      · exact h1 a ha
      · exact h1 i hi
  · unfold swp at e
    split at e <;> rename_i c1
    · split at e <;> rename_i c2
      · omega
      · split at e <;> rename_i c3
        · have := h2 _ _ hb ha e; omega
        · have := h2 _ _ hb hj e; omega
    · split at e <;> rename_i c2
      · split at e <;> rename_i c3
        · have := h2 _ _ ha hb e; omega
        · split at e <;> rename_i c4
          · omega
          · have := h2 _ _ ha hj e; omega
      · split at e <;> rename_i c3
        · have := h2 _ _ hi hb e; omega
        · split at e <;> rename_i c4
          · have := h2 _ _ hi ha e; omega
          · exact h2 _ _ hi hj e
  · obtain ⟨i, hi, rfl⟩ := h3 j hj
    by_cases c1 : i = a
    · subst c1; exact ⟨b, hb, swp_snd _ _ _⟩
    · by_cases c2 : i = b
      · subst c2; exact ⟨a, ha, swp_fst _ _ _⟩
      · exact ⟨i, hi, swp_other _ c1 c2⟩
/-- The keys that were taken: from the last place down to place n. -/
def tkn (σ : Nat → Nat) (n : Nat) : List Nat := (List.range (8 - n)).map fun i => σ (7 - i)
theorem tkn_none (σ : Nat → Nat) : tkn σ 8 = [] := rfl
theorem tkn_next {σ : Nat → Nat} {k n : Nat} (hn : n < 8) (hk : k ≤ n) : tkn (swp σ k n) n = tkn σ (n + 1) ++ [σ k] := by
  unfold tkn
  rw [show 8 - n = 8 - (n + 1) + 1 by omega, List.range_succ, List.map_append]
  congr 1
  · apply List.map_congr_left
    intro i hi
    rw [List.mem_range] at hi
    exact swp_other _ (by omega) (by omega)
  · show [swp σ k n (7 - (8 - (n + 1)))] = [σ k]
    rw [show 7 - (8 - (n + 1)) = n by omega, swp_snd]
theorem tkn_mem {σ : Nat → Nat} (h : Turn σ) (n : Nat) : (∀ k ∈ tkn σ n, k < 8) ∧ (tkn σ n).Nodup ∧ (tkn σ n).length = 8 - n := by
  refine ⟨fun k hk => ?_, ?_, by unfold tkn; rw [List.length_map, List.length_range]⟩
  · obtain ⟨i, hi, rfl⟩ := List.mem_map.1 hk
    rw [List.mem_range] at hi
    exact h.1 _ (by omega)
  · unfold tkn
    rw [List.nodup_iff_pairwise_ne, List.pairwise_map]
    have hr := List.nodup_iff_pairwise_ne.1 (List.nodup_range (n := 8 - n))
    refine List.Pairwise.imp_of_mem ?_ hr
    intro a b ha hb hab e
    rw [List.mem_range] at ha hb
    have := h.2.1 _ _ (by omega) (by omega) e
    omega
theorem tkn_all {σ : Nat → Nat} (h : Turn σ) : ∀ j, j < 8 → j ∈ tkn σ 0 := by
  intro j hj
  obtain ⟨i, hi, rfl⟩ := h.2.2 j hj
  exact List.mem_map.2 ⟨7 - i, List.mem_range.2 (by omega), by rw [show 7 - (7 - i) = i by omega]⟩
/-- The text of the pairs that were taken. -/
def ordS (p : PolV) (K : List Nat) : List UInt8 := spaced (K.map fun k => pairW k p)
theorem ordS_nil (p : PolV) : ordS p [] = [] := rfl
theorem ordS_snoc (p : PolV) (K : List Nat) (k : Nat) : ordS p (K ++ [k]) = ordS p K ++ 32 :: pairW k p := by
  unfold ordS spaced; rw [List.map_append, List.flatMap_append]; simp
theorem ordS_len {p : PolV} (hp : polOk p = true) {σ : Nat → Nat} (h : Turn σ) (n : Nat) : (ordS p (tkn σ n)).length ≤ 3280 := by
  have h1 := pairs_len hp (tkn σ n) (tkn_mem h n).1
  have h2 := (tkn_mem h n).2.2
  unfold ordS; omega
theorem pairs_bytes {p : PolV} (hp : polOk p = true) {K : List Nat} (h : ∀ k ∈ K, k < 8) : ∀ x ∈ K.map (fun k => pairW k p), x ≠ [] ∧ ∀ c ∈ x, isBl c = false := by
  intro x hx
  obtain ⟨k, hk, rfl⟩ := List.mem_map.1 hx
  have := pairW_bytes (h k hk) hp
  exact ⟨this.1, this.2.1⟩
theorem ord_parse {p : PolV} (hp : polOk p = true) {σ : Nat → Nat} (h : Turn σ) {s : ByteArray} (hs : s.data.toList = ordS p (tkn σ 0)) : parP s = (p, 0, 0) := by
  have hl := ordS_len hp h 0
  obtain ⟨h8, hn, _⟩ := tkn_mem h 0
  refine par_words hp (by rw [Lib.size_eq, hs]; omega) (tkn σ 0) h8 hn ?_ (fun j hj => .inl (tkn_all h j hj))
  have e := wds_spaced _ (pairs_bytes hp h8) [] (.inl rfl)
  rw [List.append_nil, wds_nil, List.append_nil] at e
  rw [hs]; exact e
theorem ord_twice {p : PolV} (hp : polOk p = true) {σ : Nat → Nat} (h : Turn σ) {k : Nat} (hk : k < 8) {s : ByteArray} (hs : s.data.toList = ordS p (tkn σ 0) ++ 32 :: pairW k p) : parP s = (polZ, 8, 6) := by
  have hl := ordS_len hp h 0
  obtain ⟨h8, hn, hlen⟩ := tkn_mem h 0
  obtain ⟨b1, b2, b3⟩ := pairW_bytes hk hp
  unfold parP
  rw [if_neg (by rw [Lib.size_eq, hs, List.length_append, List.length_cons]; omega)]
  have e := wds_spaced _ (pairs_bytes hp h8) (32 :: pairW k p) (.inr ⟨32, _, rfl, by decide⟩)
  have e2 := wds_next (pairW k p) [] b1 b2 (.inl rfl)
  rw [List.append_nil, wds_nil] at e2
  rw [wds_blank 32 _ (by decide), e2] at e
  have hw : (wdsB s).map (·.data.toList) = (tkn σ 0).map (fun k => pairW k p) ++ [pairW k p] := by rw [wdsB_data, hs]; exact e
  obtain ⟨L, r, hL, h1, h2⟩ := List.map_eq_append_iff.1 hw
  obtain ⟨x, t, rfl, hx, ht⟩ := List.map_eq_cons_iff.1 h2
  obtain rfl := List.map_eq_nil_iff.1 ht
  rw [hL, parL_pairs hp [x] _ L polD [] 0 h8 hn (fun _ _ c => by cases c) h1, parL_twice hk hx [] _ _ _ (List.mem_append.2 (.inl (List.mem_reverse.2 (tkn_all h k hk)))), hlen]
end Go.Proofs.YtdpjcbijddgpgaaGreatDoor.Lx
