/- A parameter that is a slice of texts: what the walks are told of it. -/
import Derived.Test.YtlcldmhajnmkdaaDoorFrame
import Derived.Test.YtlcldmhajnmkdaaDoorRead
import Derived.SliceStrings
import Derived.SizedLaws
namespace Go.Proofs.YtlcldmhajnmkdaaDoor
open Go.ChangeShapes Go.WideShapes Go.ChangeAt Go.RowKit

/-- A slice of texts that came in: it is nil and empty, or leads to a row whose first cells are the texts ss; each text is within the form's reach. -/
def IsStrs (w : World) (a : Option Addr) (len cap : Nat) (ss : List ByteArray) : Prop :=
  (a = none → cap = 0) ∧ len ≤ maxLen ∧ ss.length = len ∧ (∀ x ∈ ss, x.size ≤ 140737488351232) ∧ (0 < len → ∃ b off, a = some ⟨b, off, none⟩ ∧ b < w.heap.size ∧ ∀ k x, ss[k]? = some x → w.cell? ⟨b, off + k, none⟩ = some (.string x))
theorem c_str' : Tryd.prog.cellsOf 9 = 1 := by kernel_rfl

theorem isStrs_of {H : Type} {enc : TypeId × Value → H} {W : World} {fuel : Nat} {a : Option Addr} {len cap : Nat} {d : DataW H} {p : List MemPlace}
    (hf : DataW.trod enc Tryd.prog W 0 (fun _ => true) true fuel 53 (Value.slice a len cap).cells.toList = some (d, p))
    (hw : ∀ x ∈ DataW.weights Tryd.prog 53 d, x ≤ reachBytes) : ∃ ss, IsStrs W a len cap ss := by
  rcases open_strings Tryd.underlying53 Tryd.underlying9 c_str' hf with ⟨hcs, _⟩ | ⟨x, l, c, ss, hcs, _, hl, hm, hz, hx, hcell, hws⟩
  · simp [Value.cells] at hcs
    obtain ⟨rfl, rfl, rfl⟩ := hcs
    exact ⟨[], fun _ => rfl, by unfold maxLen; omega, rfl, (fun x hx => by cases hx), (fun h => absurd h (by omega))⟩
  · simp [Value.cells] at hcs
    obtain ⟨rfl, rfl, rfl⟩ := hcs
    simp only [if_true] at hz
    have hlm : len ≤ maxLen := by
      have hd : d = .slice (strs (ss.take len)) (strs (ss.drop len)) := by simp only [Prod.mk.injEq] at hx; exact hx.1
      have hb : Tryd.prog.bytesOf 9 = 16 := by kernel_rfl
      have := hw (((strs (ss.take len) : List (DataW H)).length + (strs (ss.drop len) : List (DataW H)).length) * Tryd.prog.bytesOf 9) (by
        rw [hd]; simp only [DataW.weights, Tryd.underlying53]; exact List.mem_cons_self ..)
      rw [hb] at this
      have e1 : (strs (ss.take len) : List (DataW H)).length = len := by unfold strs; rw [List.length_map, List.length_take]; omega
      rw [e1] at this
      unfold reachBytes at this
      unfold maxLen; omega
    refine ⟨ss.take len, (fun h => by cases h), hlm, by rw [List.length_take]; omega, fun y hy => ?_, fun hlen => ?_⟩
    · have hd : d = .slice (strs (ss.take len)) (strs (ss.drop len)) := by simp only [Prod.mk.injEq] at hx; exact hx.1
      have hmem : y.size ∈ DataW.weights Tryd.prog 53 d := by
        rw [hd]
        simp only [DataW.weights, Tryd.underlying53]
        refine List.mem_cons_of_mem _ (List.mem_append_left _ ?_)
        generalize ss.take len = l at hy
        induction l with
        | nil => cases hy
        | cons b l ih =>
          unfold strs at *
          rw [List.map_cons, DataW.weightsAll, List.mem_append]
          rcases List.mem_cons.1 hy with rfl | h
          · left; simp only [DataW.weights]; rw [Lib.size_eq]; exact List.mem_singleton.2 rfl
          · exact .inr (ih h)
      exact hw _ hmem
    · have h0 := hcell 0 (by omega)
      obtain ⟨b, off, spot⟩ := x
      have hspot : spot = none := by simpa [Addr.add] using World.cell?_spot h0
      subst hspot
      refine ⟨b, off, rfl, Lx.row_lt (by simpa [Addr.add] using h0), fun k y hy => ?_⟩
      obtain ⟨hk, hy'⟩ := List.getElem?_eq_some_iff.1 hy
      rw [List.length_take] at hk
      have := hcell k (by omega)
      have e : ss.getD k ByteArray.empty = y := by
        rw [List.getElem_take] at hy'
        rw [List.getD_eq_getElem?_getD, List.getElem?_eq_getElem (by omega), hy']; rfl
      rw [e] at this
      rw [← this]
      congr 1
      unfold Addr.add
      split
      · rename_i h; subst h; rfl
      · rfl
end Go.Proofs.YtlcldmhajnmkdaaDoor
