/- Plain facts: the examples of chapter 36 (EventKnown). No program in sight. -/
import Derived.Test.YtmpcekpdnikghaaDoorEvO
import Derived.Test.YtmpcekpdnikghaaDoorEvLn
import Derived.KernelRfl
namespace Go.Proofs.YtmpcekpdnikghaaDoor.Lx
open Go Go.RowKit

def knL : EvV := ⟨1, 120, 1, 110, 1, 7, 0, 0⟩
def knGood : List EvV := [⟨1, 120, 1, 110, 1, 7, 0, 0⟩, ⟨4, 130, 0, 110, 2, 0, 0, 140⟩, ⟨5, 5, 0, 5, 1, 0, 6, 0⟩, ⟨6, 7, 0, 0, 0, 0, 5, 0⟩, ⟨8, 0, 1, 0, 0, 0, 0, 0⟩]
def knTexts : List ByteArray := [⟨#[49, 50, 48, 32, 108, 97, 117, 110, 99, 104, 32, 98, 32, 49, 49, 48, 32, 49, 32, 55]⟩, ⟨#[49, 51, 48, 32, 114, 101, 116, 114, 121, 32, 97, 32, 49, 49, 48, 32, 50, 32, 49, 52, 48]⟩, ⟨#[53, 32, 100, 114, 111, 112, 32, 97, 32, 53, 32, 49, 32, 109, 105, 115, 102, 105, 114, 101]⟩, ⟨#[55, 32, 114, 101, 106, 101, 99, 116, 32, 53]⟩, ⟨#[48, 32, 99, 108, 111, 115, 101, 32, 98]⟩]
/-- What the nineteen wrong events are, once their fields have been set. -/
def knWrong : List EvV := [
  ⟨1, 120, 1, 121, 1, 7, 0, 0⟩, ⟨1, 120, 1, 110, 22, 7, 0, 0⟩, ⟨1, 120, 1, 110, 1, 0, 0, 0⟩, ⟨1, 120, 64, 110, 1, 7, 0, 0⟩, ⟨1, 120, 1, 110, 1, 7, 1, 0⟩, ⟨1, 120, 1, 110, 1, 7, 0, 130⟩,
  ⟨4, 130, 0, 110, 1, 0, 0, 140⟩, ⟨4, 130, 0, 110, 2, 0, 0, 130⟩, ⟨4, 130, 0, 110, 2, 1, 0, 140⟩,
  ⟨5, 5, 0, 5, 1, 0, 7, 0⟩, ⟨5, 5, 0, 5, 1, 0, 0, 0⟩,
  ⟨6, 7, 1, 0, 0, 0, 5, 0⟩, ⟨6, 7, 0, 0, 0, 0, 17, 0⟩, ⟨6, 7, 0, 0, 0, 0, 0, 0⟩,
  ⟨8, 0, 1, 0, 0, 1, 0, 0⟩, ⟨9, 0, 0, 0, 0, 0, 0, 0⟩, ⟨0, 0, 0, 0, 0, 0, 0, 0⟩, ⟨7, 5, 0, 0, 0, 0, 0, 5⟩, ⟨7, 5, 0, 0, 0, 0, 0, 4611686018427387905⟩]
/-- The nineteen events as they are made. -/
def knBase : List EvV := [⟨1, 120, 1, 110, 1, 7, 0, 0⟩, ⟨1, 120, 1, 110, 1, 7, 0, 0⟩, ⟨1, 120, 1, 110, 1, 7, 0, 0⟩, ⟨1, 120, 1, 110, 1, 7, 0, 0⟩, ⟨1, 120, 1, 110, 1, 7, 0, 0⟩, ⟨1, 120, 1, 110, 1, 7, 0, 0⟩, ⟨4, 130, 0, 110, 2, 0, 0, 140⟩, ⟨4, 130, 0, 110, 2, 0, 0, 140⟩, ⟨4, 130, 0, 110, 2, 0, 0, 140⟩, ⟨5, 5, 0, 5, 1, 0, 6, 0⟩, ⟨5, 5, 0, 5, 1, 0, 6, 0⟩, ⟨6, 7, 0, 0, 0, 0, 5, 0⟩, ⟨6, 7, 0, 0, 0, 0, 5, 0⟩, ⟨6, 7, 0, 0, 0, 0, 5, 0⟩, ⟨8, 0, 1, 0, 0, 0, 0, 0⟩, ⟨9, 0, 0, 0, 0, 0, 0, 0⟩, ⟨0, 0, 0, 0, 0, 0, 0, 0⟩, ⟨7, 5, 0, 0, 0, 0, 0, 5⟩, ⟨7, 5, 0, 0, 0, 0, 0, 4611686018427387905⟩]
theorem kn_good : ∀ (i : Nat) (o : EvV), knGood[i]? = some o → prE nmAB o = 0 ∧ ∃ t, knTexts[i]? = some t ∧ prS nmAB o = t.data.toList := by
  intro i o h
  match i, h with
  | 0, h => simp [knGood] at h; subst h; decide +kernel
  | 1, h => simp [knGood] at h; subst h; decide +kernel
  | 2, h => simp [knGood] at h; subst h; decide +kernel
  | 3, h => simp [knGood] at h; subst h; decide +kernel
  | 4, h => simp [knGood] at h; subst h; decide +kernel
  | i + 5, h => simp [knGood] at h
theorem kn_wrong : ∀ o ∈ knWrong, evErr o = 2 ∧ prE [] o = 2 ∧ prS [] o = [] := by
  intro o h
  unfold knWrong at h
  simp only [List.mem_cons, List.not_mem_nil, or_false] at h
  rcases h with rfl | rfl | rfl | rfl | rfl | rfl | rfl | rfl | rfl | rfl | rfl | rfl | rfl | rfl | rfl | rfl | rfl | rfl | rfl <;> decide +kernel
theorem kn_late : evErr ⟨1, 120, 1, -1, 1, 0, 0, 0⟩ = 14 ∧ evErr ⟨8, 253402300800, 1, 0, 0, 1, 0, 0⟩ = 14 := by decide +kernel
theorem kn_f : prE [⟨#[97]⟩] knL = 3 := by decide +kernel
theorem kn_g : prE [⟨#[97]⟩, ⟨#[97]⟩] knL = 6 := by decide +kernel
theorem kn_h (o : EvV) : prE [⟨#[97]⟩, ⟨#[97]⟩, ⟨#[97, 32, 98]⟩] o = 15 := by
  have : nmErr [⟨#[97]⟩, ⟨#[97]⟩, ⟨#[97, 32, 98]⟩] = 15 := by decide +kernel
  unfold prE; rw [this]; rfl
theorem kn_i : ParseEv (List.replicate 65 ⟨#[]⟩) ⟨#[]⟩ evZ 12 := by
  have h : nmErr (List.replicate 65 (⟨#[]⟩ : ByteArray)) = 12 := by unfold nmErr; rw [if_pos (by rw [List.length_replicate]; omega)]
  exact .inl ⟨by rw [h]; decide, rfl, h.symm⟩
theorem kn_j : ParseEv nmAB ⟨#[49, 50, 48, 32, 32, 99, 108, 111, 115, 101, 32, 98]⟩ evZ 10 := by
  refine .inr (.inr ⟨nmAB_ok, by decide, ?_⟩)
  refine rd_no ((nmErr_ok _).1 nmAB_ok) (P := [[49, 50, 48], [], [99, 108, 111, 115, 101], [98]]) ⟨by simp, by decide, by decide⟩ fun h => ?_
  have h1 := h.1
  unfold rdOk at h1
  have e : kindOf (pAt [[49, 50, 48], [], [99, 108, 111, 115, 101], [98]] 1) = 0 := by decide
  rw [e] at h1
  revert h1
  simp
theorem kn_k : ParseAllEv nmAB ⟨#[55, 32, 114, 101, 106, 101, 99, 116, 32, 53, 10, 10, 55, 32, 114, 101, 106, 101, 99, 116, 32, 53, 10]⟩ [] 2 10 := by
  have hN := (nmErr_ok _).1 nmAB_ok
  have hw : wrE nmAB ⟨6, 7, 0, 0, 0, 0, 5, 0⟩ = 0 := by decide +kernel
  have hs : wrS nmAB ⟨6, 7, 0, 0, 0, 0, 5, 0⟩ = [55, 32, 114, 101, 106, 101, 99, 116, 32, 53] := by decide +kernel
  refine all_wrong hN (X := [⟨6, 7, 0, 0, 0, 0, 5, 0⟩]) (Y := [⟨6, 7, 0, 0, 0, 0, 5, 0⟩]) (by intro o ho; simp at ho; subst ho; exact hw) (line := ⟨#[]⟩) (by simp) ?_ ?_ (by decide)
  · refine rd_no hN (P := [[]]) ⟨by simp, by decide, by decide⟩ fun h => ?_
    have h1 := h.1
    unfold rdOk at h1
    have e : kindOf (pAt [[]] 1) = 0 := by decide
    rw [e] at h1
    revert h1
    simp
  · unfold allTx
    simp [hs]
theorem kn_m : ParseAllEv nmAB ⟨#[]⟩ [] 0 0 := by
  refine .inr (.inr ⟨nmAB_ok, by decide, .inl ⟨rfl, rfl, ?_⟩⟩)
  rw [show txL ⟨#[]⟩ = [] by kernel_rfl]
  exact rfl
/-- Events that lie in memory, one of them with another field. -/
theorem IsEvs.set {W : World} {g n : Nat} {L : List EvV} (h : IsEvs W (some ⟨g, 0, none⟩) n L) {i j : Nat} {o o' : EvV} {v : Value} (ho : L[i]? = some o) (hj : j < 8) (hv : o'.cells = o.cells.set j v) (p : Nat) (hp : p = i * 8 + j) : IsEvs (W.setCell ⟨g, p, none⟩ v) (some ⟨g, 0, none⟩) n (L.set i o') := by
  subst hp
  have hi : i < L.length := (List.getElem?_eq_some_iff.1 ho).1
  refine ⟨by rw [List.length_set]; exact h.1, fun hn => ?_⟩
  obtain ⟨g', off, e, lt, hc⟩ := h.2 hn
  obtain ⟨rfl, rfl⟩ : g' = g ∧ off = 0 := by
    have := Option.some.inj e
    injection this with a b _
    exact ⟨a.symm, b.symm⟩
  refine ⟨g', 0, rfl, by simpa [World.setCell] using lt, fun i' x hx j' u hu => ?_⟩
  rw [Nat.zero_add]
  have hj' : j' < 8 := by
    have := (List.getElem?_eq_some_iff.1 hu).1
    have e8 : x.cells.length = 8 := rfl
    omega
  have hold := fun x' (hx' : L[i']? = some x') u' (hu' : x'.cells[j']? = some u') => hc i' x' hx' j' u' hu'
  rw [List.getElem?_set] at hx
  by_cases hii : i = i'
  · subst hii
    rw [if_pos rfl, if_pos hi] at hx
    obtain rfl := Option.some.inj hx
    rw [hv, List.getElem?_set] at hu
    by_cases hjj : j = j'
    · subst hjj
      rw [if_pos rfl] at hu
      have e8 : o.cells.length = 8 := rfl
      rw [if_pos (by omega)] at hu
      obtain rfl := Option.some.inj hu
      have hq : ∃ u0, o.cells[j]? = some u0 := ⟨_, List.getElem?_eq_getElem (by omega)⟩
      obtain ⟨u0, hq⟩ := hq
      refine World.cell?_setCell_same' _ _ _ ?_
      have := hold o ho u0 hq
      rw [Nat.zero_add] at this
      rw [this]; rfl
    · rw [if_neg hjj] at hu
      rw [World.cell?_setCell_other W _ _ v (fun e => hjj (by have := congrArg Addr.off e; simp only at this; omega))]
      have := hold o ho u hu
      rw [Nat.zero_add] at this
      exact this
  · rw [if_neg hii] at hx
    rw [World.cell?_setCell_other W _ _ v (fun e => hii (by have := congrArg Addr.off e; simp only at this; omega))]
    have := hold x hx u hu
    rw [Nat.zero_add] at this
    exact this
theorem isEvs_lit (w : World) (cs : Array Value) (T : TypeId) (n : Nat) (L : List EvV) (hL : L.length = n) (hc : cs.toList = evCells L) : IsEvs (w.alloc (.cells cs T)) (some ⟨w.heap.size, 0, none⟩) n L := by
  refine ⟨hL, fun _ => ⟨_, 0, rfl, by simp, fun i x hx j v hv => ?_⟩⟩
  have : cs[i * 8 + j]? = some v := by
    rw [← Array.getElem?_toList, hc]
    exact evCells_get hx j v hv
  rw [Nat.zero_add]
  simpa using this
theorem IsEvs.at0 {W : World} {g n : Nat} {L : List EvV} (h : IsEvs W (some ⟨g, 0, none⟩) n L) {k : Nat} {o : EvV} (ho : L[k]? = some o) (j : Nat) (v : Value) (hv : o.cells[j]? = some v) : W.cell? ⟨g, k * 8 + j, none⟩ = some v := by
  have hk : k < L.length := (List.getElem?_eq_some_iff.1 ho).1
  obtain ⟨g', off, e, lt, hc⟩ := h.2 (by have := h.1; omega)
  have := Option.some.inj e
  injection this with a b _
  subst a b
  have := hc k o ho j v hv
  rw [Nat.zero_add] at this
  exact this
theorem IsEvs.lt0 {W : World} {g n : Nat} {L : List EvV} (h : IsEvs W (some ⟨g, 0, none⟩) n L) (h0 : 0 < n) : g < W.heap.size := by
  obtain ⟨g', off, e, lt, hc⟩ := h.2 h0
  have := Option.some.inj e
  injection this with a b _
  subst a
  exact lt
theorem IsNames.at0 {W : World} {g n : Nat} {L : List ByteArray} (h : IsNames W (some ⟨g, 0, none⟩) n L) {k : Nat} {x : ByteArray} (hx : L[k]? = some x) : W.cell? ⟨g, k, none⟩ = some (.string x) := by
  have hk : k < L.length := (List.getElem?_eq_some_iff.1 hx).1
  obtain ⟨g', off, e, lt, hc⟩ := h.2 (by have := h.1; omega)
  have := Option.some.inj e
  injection this with a b _
  subst a b
  have := hc k x hx
  rw [Nat.zero_add] at this
  exact this
end Go.Proofs.YtmpcekpdnikghaaDoor.Lx
namespace Go.Proofs.YtmpcekpdnikghaaDoor
open Go.RowKit
/-- At a step of a region that draws: the operation's run is known. -/
theorem step_of_run {P : Program} {ops : Array Oper} {o : Oper} {a : Act} {w w' : World} {K : Act → World → Prop} {Q : Exit → Act → World → Prop} {E : Prop} (hgd : o.guard = none) (v : Value) (hr : (execOp a.eval o).run P w = .ok (.value v) w') (h : K (a.put o.dst v) w') :
    if Region.wanted o (yielded ops a.tmps) = true then Oper.wp P o a w K Q else E := by
  have hw : Region.wanted o (yielded ops a.tmps) = true := by simp [Region.wanted, hgd]
  rw [if_pos hw]
  unfold Oper.wp
  rw [hr]
  exact h
/-- The world once the names, the launch, the good events and their texts have been made. -/
theorem kn_world (w W : World) (hW : W = (((w.alloc (.cells #[.string ⟨#[97]⟩, .string ⟨#[98]⟩] 9)).alloc (.cells #[.int .i64 1, .int .i64 120, .int .i64 1, .int .i64 110, .int .i64 1, .int .i64 7, .int .i64 0, .int .i64 0] 23)).alloc (.cells #[.int .i64 1, .int .i64 120, .int .i64 1, .int .i64 110, .int .i64 1, .int .i64 7, .int .i64 0, .int .i64 0, .int .i64 4, .int .i64 130, .int .i64 0, .int .i64 110, .int .i64 2, .int .i64 0, .int .i64 0, .int .i64 140, .int .i64 5, .int .i64 5, .int .i64 0, .int .i64 5, .int .i64 1, .int .i64 0, .int .i64 6, .int .i64 0, .int .i64 6, .int .i64 7, .int .i64 0, .int .i64 0, .int .i64 0, .int .i64 0, .int .i64 5, .int .i64 0, .int .i64 8, .int .i64 0, .int .i64 1, .int .i64 0, .int .i64 0, .int .i64 0, .int .i64 0, .int .i64 0] 23)).alloc (.cells #[.string ⟨#[49, 50, 48, 32, 108, 97, 117, 110, 99, 104, 32, 98, 32, 49, 49, 48, 32, 49, 32, 55]⟩, .string ⟨#[49, 51, 48, 32, 114, 101, 116, 114, 121, 32, 97, 32, 49, 49, 48, 32, 50, 32, 49, 52, 48]⟩, .string ⟨#[53, 32, 100, 114, 111, 112, 32, 97, 32, 53, 32, 49, 32, 109, 105, 115, 102, 105, 114, 101]⟩, .string ⟨#[55, 32, 114, 101, 106, 101, 99, 116, 32, 53]⟩, .string ⟨#[48, 32, 99, 108, 111, 115, 101, 32, 98]⟩] 9)) :
    Lx.IsNames W (some ⟨w.heap.size, 0, none⟩) 2 Lx.nmAB ∧ Lx.EvBox W (w.heap.size + 1) Lx.knL ∧ Lx.IsEvs W (some ⟨w.heap.size + 1 + 1, 0, none⟩) 5 Lx.knGood ∧ Lx.IsNames W (some ⟨w.heap.size + 1 + 1 + 1, 0, none⟩) 5 Lx.knTexts ∧ Below w.heap.size w W := by
  subst hW
  have B : ∀ (W : World) (o : Obj), Below W.heap.size W (W.alloc o) := fun W o => (Below.refl _ W).alloc (Nat.le_refl _) o
  generalize hA : (Obj.cells #[.string ⟨#[97]⟩, .string ⟨#[98]⟩] 9) = A
  generalize hC : (Obj.cells #[.int .i64 1, .int .i64 120, .int .i64 1, .int .i64 110, .int .i64 1, .int .i64 7, .int .i64 0, .int .i64 0] 23) = C
  generalize hD : (Obj.cells #[.int .i64 1, .int .i64 120, .int .i64 1, .int .i64 110, .int .i64 1, .int .i64 7, .int .i64 0, .int .i64 0, .int .i64 4, .int .i64 130, .int .i64 0, .int .i64 110, .int .i64 2, .int .i64 0, .int .i64 0, .int .i64 140, .int .i64 5, .int .i64 5, .int .i64 0, .int .i64 5, .int .i64 1, .int .i64 0, .int .i64 6, .int .i64 0, .int .i64 6, .int .i64 7, .int .i64 0, .int .i64 0, .int .i64 0, .int .i64 0, .int .i64 5, .int .i64 0, .int .i64 8, .int .i64 0, .int .i64 1, .int .i64 0, .int .i64 0, .int .i64 0, .int .i64 0, .int .i64 0] 23) = D
  generalize hE : (Obj.cells #[.string ⟨#[49, 50, 48, 32, 108, 97, 117, 110, 99, 104, 32, 98, 32, 49, 49, 48, 32, 49, 32, 55]⟩, .string ⟨#[49, 51, 48, 32, 114, 101, 116, 114, 121, 32, 97, 32, 49, 49, 48, 32, 50, 32, 49, 52, 48]⟩, .string ⟨#[53, 32, 100, 114, 111, 112, 32, 97, 32, 53, 32, 49, 32, 109, 105, 115, 102, 105, 114, 101]⟩, .string ⟨#[55, 32, 114, 101, 106, 101, 99, 116, 32, 53]⟩, .string ⟨#[48, 32, 99, 108, 111, 115, 101, 32, 98]⟩] 9) = E
  have s1 : (w.alloc A).heap.size = w.heap.size + 1 := World.size_alloc _ _
  have s2 : ((w.alloc A).alloc C).heap.size = w.heap.size + 1 + 1 := by rw [World.size_alloc, s1]
  have s3 : (((w.alloc A).alloc C).alloc D).heap.size = w.heap.size + 1 + 1 + 1 := by rw [World.size_alloc, s2]
  refine ⟨?_, ?_, ?_, ?_, ?_⟩
  · exact (((by rw [← hA]; exact Lx.isNames_lit w _ _ 2 Lx.nmAB rfl rfl : Lx.IsNames (w.alloc A) (some ⟨w.heap.size, 0, none⟩) 2 Lx.nmAB).below (B _ C)).below (B _ D)).below (B _ E)
  · have h := Lx.EvBox.new (w.alloc A) 1 120 1 110 1 7 0 0 23
    rw [hC, s1] at h
    exact (h.below (B _ D)).below (B _ E)
  · have h := Lx.isEvs_lit ((w.alloc A).alloc C) #[.int .i64 1, .int .i64 120, .int .i64 1, .int .i64 110, .int .i64 1, .int .i64 7, .int .i64 0, .int .i64 0, .int .i64 4, .int .i64 130, .int .i64 0, .int .i64 110, .int .i64 2, .int .i64 0, .int .i64 0, .int .i64 140, .int .i64 5, .int .i64 5, .int .i64 0, .int .i64 5, .int .i64 1, .int .i64 0, .int .i64 6, .int .i64 0, .int .i64 6, .int .i64 7, .int .i64 0, .int .i64 0, .int .i64 0, .int .i64 0, .int .i64 5, .int .i64 0, .int .i64 8, .int .i64 0, .int .i64 1, .int .i64 0, .int .i64 0, .int .i64 0, .int .i64 0, .int .i64 0] 23 5 Lx.knGood rfl rfl
    rw [hD, s2] at h
    exact h.below (B _ E)
  · have h := Lx.isNames_lit (((w.alloc A).alloc C).alloc D) #[.string ⟨#[49, 50, 48, 32, 108, 97, 117, 110, 99, 104, 32, 98, 32, 49, 49, 48, 32, 49, 32, 55]⟩, .string ⟨#[49, 51, 48, 32, 114, 101, 116, 114, 121, 32, 97, 32, 49, 49, 48, 32, 50, 32, 49, 52, 48]⟩, .string ⟨#[53, 32, 100, 114, 111, 112, 32, 97, 32, 53, 32, 49, 32, 109, 105, 115, 102, 105, 114, 101]⟩, .string ⟨#[55, 32, 114, 101, 106, 101, 99, 116, 32, 53]⟩, .string ⟨#[48, 32, 99, 108, 111, 115, 101, 32, 98]⟩] 9 5 Lx.knTexts rfl rfl
    rw [hE, s3] at h
    exact h
  · exact ((((Below.refl _ w).alloc (Nat.le_refl _) A).alloc (by omega) C).alloc (by omega) D).alloc (by omega) E
theorem kn_boxes (w W : World) (hW : W = (w.alloc (.cells #[.int .i64 1, .int .i64 120, .int .i64 1, .int .i64 (-1), .int .i64 1, .int .i64 0, .int .i64 0, .int .i64 0] 23)).alloc (.cells #[.int .i64 8, .int .i64 253402300800, .int .i64 1, .int .i64 0, .int .i64 0, .int .i64 1, .int .i64 0, .int .i64 0] 23)) :
    Lx.EvBox W w.heap.size ⟨1, 120, 1, -1, 1, 0, 0, 0⟩ ∧ Lx.EvBox W (w.heap.size + 1) ⟨8, 253402300800, 1, 0, 0, 1, 0, 0⟩ ∧ Below w.heap.size w W := by
  subst hW
  have s1 : ∀ o : Obj, (w.alloc o).heap.size = w.heap.size + 1 := fun o => World.size_alloc _ _
  refine ⟨(Lx.EvBox.new w _ _ _ _ _ _ _ _ _).below ((Below.refl _ _).alloc (Nat.le_refl _) _), ?_, ((Below.refl _ w).alloc (Nat.le_refl _) _).alloc (by rw [s1]; omega) _⟩
  have h := Lx.EvBox.new (w.alloc (.cells #[.int .i64 1, .int .i64 120, .int .i64 1, .int .i64 (-1), .int .i64 1, .int .i64 0, .int .i64 0, .int .i64 0] 23)) 8 253402300800 1 0 0 1 0 0 23
  rw [s1] at h
  exact h
theorem kn_take1 {W : World} {g : Nat} (h : Lx.IsNames W (some ⟨g, 0, none⟩) 2 Lx.nmAB) : Lx.IsNames W (some ⟨g, 0, none⟩) 1 [⟨#[97]⟩] := by
  refine ⟨rfl, fun _ => ?_⟩
  obtain ⟨g', off, e, lt, hc⟩ := h.2 (by omega)
  refine ⟨g', off, e, lt, fun i x hx => ?_⟩
  match i, hx with
  | 0, hx => exact hc 0 x hx
theorem kn_make (w : World) : (Instr.makeSlice 24 (.int .i64 65) (.int .i64 65)).run Tryd.prog w = .ok (.slice (some ⟨w.heap.size, 0, none⟩) 65 65) (w.alloc (.cells (Array.replicate 65 (.string ⟨#[]⟩)) 9)) := by kernel_rfl
end Go.Proofs.YtmpcekpdnikghaaDoor
