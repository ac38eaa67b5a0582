/- A parameter that is an event, and one that is a slice of operations: what the walks are told of them. -/
import Derived.Test.YtmpcekpdnikghaaGreatDoorEvL
import Derived.SliceStrings

import Derived.OpenShut
import Derived.Deep.Slices
import Derived.Deep.Fields
import Derived.ChangeSame
import Derived.Lib.SmallJoins
import Derived.SizedLaws
namespace Go.Proofs.YtmpcekpdnikghaaGreatDoor
open Go.Joins Go.ChangeShapes Go.WideShapes Go.RowKit Go.Deep

section
variable {H : Type} {enc : TypeId × Value → H} {P : Program} {w : World} {base : Nat} {spare : Nat → Bool} {held : Bool}
theorem open_agg8 {r : Reach} {b0 : Nat} {t : TypeId} {f0 f1 f2 f3 f4 f5 f6 f7 : Field} {v : Value} {d : DataW H} {p : List MemPlace} (hs : P.underlying t = some (.struct #[f0, f1, f2, f3, f4, f5, f6, f7])) (hone : oneCellFields P #[f0, f1, f2, f3, f4, f5, f6, f7] = true) (hC : P.cellsOf t = 8)
    (hv : Value.okWide P w r b0 t v) (h : DataW.Trod enc P w base spare held t v d p) :
    ∃ (v0 v1 v2 v3 v4 v5 v6 v7 : Value) (y0 y1 y2 y3 y4 y5 y6 y7 : DataW H × List MemPlace) (n : Nat), v = .agg #[v0, v1, v2, v3, v4, v5, v6, v7] ∧
      DataW.trod enc P w base spare held n f0.type [v0] = some y0 ∧ DataW.trod enc P w base spare held n f1.type [v1] = some y1 ∧ DataW.trod enc P w base spare held n f2.type [v2] = some y2 ∧ DataW.trod enc P w base spare held n f3.type [v3] = some y3 ∧ DataW.trod enc P w base spare held n f4.type [v4] = some y4 ∧ DataW.trod enc P w base spare held n f5.type [v5] = some y5 ∧ DataW.trod enc P w base spare held n f6.type [v6] = some y6 ∧ DataW.trod enc P w base spare held n f7.type [v7] = some y7 := by
  obtain ⟨cs, rfl, hsz⟩ := okWide_struct hs hv
  obtain ⟨l⟩ := cs
  match l, hsz.trans hC with
  | [c0, c1, c2, c3, c4, c5, c6, c7], _ =>
    obtain ⟨fuel, hf⟩ := h
    obtain ⟨xs, n, _, hx, _, hlen, hg⟩ := DataW.trod_struct hs hf
    obtain ⟨o0, k0⟩ := hone_of hone 0 f0 rfl
    obtain ⟨o1, k1⟩ := hone_of hone 1 f1 rfl
    obtain ⟨o2, k2⟩ := hone_of hone 2 f2 rfl
    obtain ⟨o3, k3⟩ := hone_of hone 3 f3 rfl
    obtain ⟨o4, k4⟩ := hone_of hone 4 f4 rfl
    obtain ⟨o5, k5⟩ := hone_of hone 5 f5 rfl
    obtain ⟨o6, k6⟩ := hone_of hone 6 f6 rfl
    obtain ⟨o7, k7⟩ := hone_of hone 7 f7 rfl
    match xs, hlen with
    | [y0, y1, y2, y3, y4, y5, y6, y7], _ =>
      exact ⟨c0, c1, c2, c3, c4, c5, c6, c7, y0, y1, y2, y3, y4, y5, y6, y7, n, rfl, by simpa [Value.cells, o0, k0] using hg 0 f0 rfl, by simpa [Value.cells, o1, k1] using hg 1 f1 rfl, by simpa [Value.cells, o2, k2] using hg 2 f2 rfl, by simpa [Value.cells, o3, k3] using hg 3 f3 rfl, by simpa [Value.cells, o4, k4] using hg 4 f4 rfl, by simpa [Value.cells, o5, k5] using hg 5 f5 rfl, by simpa [Value.cells, o6, k6] using hg 6 f6 rfl, by simpa [Value.cells, o7, k7] using hg 7 f7 rfl⟩
theorem open_slice_fields {t e : TypeId} {fs : Array Field} {fuel : Nat} {cs : List Value} {x : DataW H × List MemPlace} (ht : P.underlying t = some (.slice e)) (he : P.underlying e = some (.struct fs))
    (hone : oneCellFields P fs = true) (hC : P.cellsOf e = fs.size) (h : DataW.trod enc P w base spare held fuel t cs = some x) :
    (cs = [.slice none 0 0] ∧ x = (.nil, [])) ∨
    ∃ (a : Addr) (len cap m : Nat) (D : Nat → DataW H) (Pl : Nat → List MemPlace), cs = [.slice (some a) len cap] ∧ base ≤ a.block ∧ len ≤ cap ∧ cap ≤ maxLen ∧ m = (if spare a.block then cap else len) ∧
      x = (.slice ((List.range len).map D) ((List.range (m - len)).map fun j => D (len + j)), MemPlace.row a (m * fs.size) ++ (List.range m).flatMap Pl) ∧
      ∀ i, i < m → ∃ (ys : List (DataW H × List MemPlace)) (n : Nat), D i = .agg (ys.map (·.1)) ∧ Pl i = ys.flatMap (·.2) ∧ ys.length = fs.size ∧
        ∀ (j : Nat) (f : Field), fs[j]? = some f → ∃ (v : Value) (y : DataW H × List MemPlace), w.cell? (a.add (i * fs.size + j)) = some v ∧ ys[j]? = some y ∧ DataW.trod enc P w base spare held n f.type [v] = some y := by
  rcases open_slice ht h with h0 | ⟨a, len, cap, m, n, D, Pl, hcs, hb, hl, hm, hmm, hx, hi⟩
  · exact .inl h0
  · refine .inr ⟨a, len, cap, m, D, Pl, hcs, hb, hl, hm, hmm, by rw [hC] at hx; exact hx, fun i him => ?_⟩
    obtain ⟨cs', hc, ht'⟩ := hi i him
    rw [hC] at hc
    obtain ⟨ys, n', hn', hy, hlen, hyl, hf⟩ := DataW.trod_struct he ht'
    obtain ⟨_, hcl, hat⟩ := World.cells?_some hc
    simp only [Prod.mk.injEq] at hy
    refine ⟨ys, n', hy.1, hy.2, hyl, fun j f hj => ?_⟩
    obtain ⟨ho, hk⟩ := hone_of hone j f hj
    have hjl : j < fs.size := (Array.getElem?_eq_some_iff.1 hj).1
    have hcell := hat j hjl
    have hv : cs'[j]? = some (cs'[j]'(by omega)) := List.getElem?_eq_getElem (by omega)
    have h1 := hf j f hj
    rw [ho, hk] at h1
    have hone' : (cs'.drop j).take 1 = [cs'[j]'(by omega)] := by
      rw [List.drop_eq_getElem_cons (by omega)]
      rfl
    rw [hone'] at h1
    have hys : ys[j]? = some (ys[j]'(by omega)) := List.getElem?_eq_getElem (by omega)
    refine ⟨_, _, ?_, hys, h1.trans hys⟩
    rw [← Go.Deep.add_add, hcell, hv]
end

theorem i64_wf {n : Int} (h : (Lit.int .i64 n).wf = true) : -9223372036854775808 ≤ n ∧ n ≤ 9223372036854775807 := by
  have := bounds_i64 h
  omega
/-- An event that came in. -/
def IsEv (v : Value) (o : Lx.EvV) : Prop := v = o.val ∧ o.In
set_option maxRecDepth 100000 in
theorem isEv_of {H : Type} {enc : TypeId × Value → H} {W : World} {r : Reach} {b0 : Nat} {v : Value} {d : DataW H} {p : List MemPlace} {sp : Nat → Bool} {held : Bool}
    (hv : Value.okWide Tryz.prog W r b0 26 v) (h : DataW.Trod enc Tryz.prog W 0 sp held 26 v d p) : ∃ o, IsEv v o := by
  obtain ⟨v0, v1, v2, v3, v4, v5, v6, v7, y0, y1, y2, y3, y4, y5, y6, y7, n, rfl, h0, h1, h2, h3, h4, h5, h6, h7⟩ := open_agg8 Tryz.underlying26 (by kernel_rfl) (by kernel_rfl) hv h
  obtain ⟨x0, e0, _, w0⟩ := DataW.trod_int Tryz.underlying3 h0
  obtain ⟨x1, e1, _, w1⟩ := DataW.trod_int Tryz.underlying2 h1
  obtain ⟨x2, e2, _, w2⟩ := DataW.trod_int Tryz.underlying3 h2
  obtain ⟨x3, e3, _, w3⟩ := DataW.trod_int Tryz.underlying2 h3
  obtain ⟨x4, e4, _, w4⟩ := DataW.trod_int Tryz.underlying3 h4
  obtain ⟨x5, e5, _, w5⟩ := DataW.trod_int Tryz.underlying3 h5
  obtain ⟨x6, e6, _, w6⟩ := DataW.trod_int Tryz.underlying3 h6
  obtain ⟨x7, e7, _, w7⟩ := DataW.trod_int Tryz.underlying2 h7
  simp only [List.cons.injEq, and_true] at e0 e1 e2 e3 e4 e5 e6 e7
  subst e0 e1 e2 e3 e4 e5 e6 e7
  exact ⟨⟨x0, x1, x2, x3, x4, x5, x6, x7⟩, rfl, i64_wf w0, i64_wf w1, i64_wf w2, i64_wf w3, i64_wf w4, i64_wf w5, i64_wf w6, i64_wf w7⟩
namespace Lx
def litI : Option Value → Int | some (.int _ n) => n | _ => 0
def evAt (W : World) (a : Addr) (i : Nat) : EvV := ⟨litI (W.cell? (a.add (i * 8 + 0))), litI (W.cell? (a.add (i * 8 + 1))), litI (W.cell? (a.add (i * 8 + 2))), litI (W.cell? (a.add (i * 8 + 3))), litI (W.cell? (a.add (i * 8 + 4))), litI (W.cell? (a.add (i * 8 + 5))), litI (W.cell? (a.add (i * 8 + 6))), litI (W.cell? (a.add (i * 8 + 7)))⟩
end Lx
/-- A slice of events that came in. -/
def EvsIn (W : World) (a : Option Addr) (len : Nat) (L : List Lx.EvV) : Prop := Lx.IsEvs W a len L ∧ len ≤ maxLen ∧ ∀ o ∈ L, o.In
set_option maxRecDepth 100000 in
theorem evsIn_of {H : Type} {enc : TypeId × Value → H} {W : World} {fuel : Nat} {a : Option Addr} {len cap : Nat} {d : DataW H} {p : List MemPlace}
    (hf : DataW.trod enc Tryz.prog W 0 (fun _ => true) true fuel 30 (Value.slice a len cap).cells.toList = some (d, p)) : (∃ L, EvsIn W a len L) ∧ (a = none → cap = 0) := by
  rcases open_slice_fields Tryz.underlying30 Tryz.underlying26 (by kernel_rfl) (by kernel_rfl) hf with ⟨hcs, _⟩ | ⟨x, l, c, m, D, Pl, hcs, _, hl, hm, hmm, hx, hi⟩
  · simp [Value.cells] at hcs
    obtain ⟨rfl, rfl, rfl⟩ := hcs
    exact ⟨⟨[], ⟨rfl, fun h => absurd h (by omega)⟩, by unfold maxLen; omega, fun o ho => by cases ho⟩, fun _ => rfl⟩
  · simp [Value.cells] at hcs
    obtain ⟨rfl, rfl, rfl⟩ := hcs
    simp only [if_true] at hmm
    have each : ∀ i, i < len → (∀ (j : Nat) (v : Value), (Lx.evAt W x i).cells[j]? = some v → W.cell? (x.add (i * 8 + j)) = some v) ∧ (Lx.evAt W x i).In := by
      intro i hlt
      obtain ⟨ys, n, _, _, _, hj⟩ := hi i (by omega)
      obtain ⟨v0, y0, c0, _, t0⟩ := hj 0 _ rfl
      obtain ⟨v1, y1, c1, _, t1⟩ := hj 1 _ rfl
      obtain ⟨v2, y2, c2, _, t2⟩ := hj 2 _ rfl
      obtain ⟨v3, y3, c3, _, t3⟩ := hj 3 _ rfl
      obtain ⟨v4, y4, c4, _, t4⟩ := hj 4 _ rfl
      obtain ⟨v5, y5, c5, _, t5⟩ := hj 5 _ rfl
      obtain ⟨v6, y6, c6, _, t6⟩ := hj 6 _ rfl
      obtain ⟨v7, y7, c7, _, t7⟩ := hj 7 _ rfl
      obtain ⟨x0, e0, _, w0⟩ := DataW.trod_int Tryz.underlying3 t0
      obtain ⟨x1, e1, _, w1⟩ := DataW.trod_int Tryz.underlying2 t1
      obtain ⟨x2, e2, _, w2⟩ := DataW.trod_int Tryz.underlying3 t2
      obtain ⟨x3, e3, _, w3⟩ := DataW.trod_int Tryz.underlying2 t3
      obtain ⟨x4, e4, _, w4⟩ := DataW.trod_int Tryz.underlying3 t4
      obtain ⟨x5, e5, _, w5⟩ := DataW.trod_int Tryz.underlying3 t5
      obtain ⟨x6, e6, _, w6⟩ := DataW.trod_int Tryz.underlying3 t6
      obtain ⟨x7, e7, _, w7⟩ := DataW.trod_int Tryz.underlying2 t7
      simp only [List.cons.injEq, and_true] at e0 e1 e2 e3 e4 e5 e6 e7
      subst e0 e1 e2 e3 e4 e5 e6 e7
      have d0 : W.cell? (x.add (i * 8 + 0)) = some (.int .i64 x0) := c0
      have d1 : W.cell? (x.add (i * 8 + 1)) = some (.int .i64 x1) := c1
      have d2 : W.cell? (x.add (i * 8 + 2)) = some (.int .i64 x2) := c2
      have d3 : W.cell? (x.add (i * 8 + 3)) = some (.int .i64 x3) := c3
      have d4 : W.cell? (x.add (i * 8 + 4)) = some (.int .i64 x4) := c4
      have d5 : W.cell? (x.add (i * 8 + 5)) = some (.int .i64 x5) := c5
      have d6 : W.cell? (x.add (i * 8 + 6)) = some (.int .i64 x6) := c6
      have d7 : W.cell? (x.add (i * 8 + 7)) = some (.int .i64 x7) := c7
      have e : Lx.evAt W x i = ⟨x0, x1, x2, x3, x4, x5, x6, x7⟩ := by unfold Lx.evAt; rw [d0, d1, d2, d3, d4, d5, d6, d7]; rfl
      rw [e]
      refine ⟨fun j v hv => ?_, i64_wf w0, i64_wf w1, i64_wf w2, i64_wf w3, i64_wf w4, i64_wf w5, i64_wf w6, i64_wf w7⟩
      unfold Lx.EvV.cells at hv
      match j, hv with
      | 0, hv => rw [d0]; exact hv
      | 1, hv => rw [d1]; exact hv
      | 2, hv => rw [d2]; exact hv
      | 3, hv => rw [d3]; exact hv
      | 4, hv => rw [d4]; exact hv
      | 5, hv => rw [d5]; exact hv
      | 6, hv => rw [d6]; exact hv
      | 7, hv => rw [d7]; exact hv
    refine ⟨⟨(List.range len).map (Lx.evAt W x), ⟨by simp, fun h0 => ?_⟩, by omega, fun o ho => ?_⟩, fun h => by cases h⟩
    · obtain ⟨g, off, spot⟩ := x
      have h0' := (each 0 h0).1 0 _ rfl
      have hspot : spot = none := by simpa [Addr.add] using World.cell?_spot h0'
      subst hspot
      refine ⟨g, off, rfl, Lx.row_lt (by simpa [Addr.add] using h0'), fun i o hi' j v hv => ?_⟩
      obtain ⟨hl', hv'⟩ := List.getElem?_eq_some_iff.1 hi'
      simp only [List.length_map, List.length_range] at hl'
      simp only [List.getElem_map, List.getElem_range] at hv'
      subst hv'
      have := (each i hl').1 j v hv
      rw [← this]
      congr 1
      unfold Addr.add
      split
      · rename_i h; rw [show off + i * 8 + j = off by omega]
      · rw [Nat.add_assoc]
    · obtain ⟨i, hi', rfl⟩ := List.mem_map.1 ho
      exact (each i (List.mem_range.1 hi')).2
/-- A slice of texts that came in: it is nil and empty, or leads to a row whose first cells are the texts ss; each text is within the form's reach. -/
def IsStrs (w : World) (a : Option Addr) (len cap : Nat) (ss : List ByteArray) : Prop :=
  (a = none → cap = 0) ∧ len ≤ maxLen ∧ ss.length = len ∧ (∀ x ∈ ss, x.size ≤ 140737488351232) ∧ (0 < len → ∃ b off, a = some ⟨b, off, none⟩ ∧ b < w.heap.size ∧ ∀ k x, ss[k]? = some x → w.cell? ⟨b, off + k, none⟩ = some (.string x))
theorem Lx.c_strN : Tryz.prog.cellsOf 9 = 1 := by kernel_rfl

theorem isStrs_of {H : Type} {enc : TypeId × Value → H} {W : World} {fuel : Nat} {a : Option Addr} {len cap : Nat} {d : DataW H} {p : List MemPlace}
    (hf : DataW.trod enc Tryz.prog W 0 (fun _ => true) true fuel 22 (Value.slice a len cap).cells.toList = some (d, p))
    (hw : ∀ x ∈ DataW.weights Tryz.prog 22 d, x ≤ reachBytes) : ∃ ss, IsStrs W a len cap ss := by
  rcases open_strings Tryz.underlying22 Tryz.underlying9 Lx.c_strN hf with ⟨hcs, _⟩ | ⟨x, l, c, ss, hcs, _, hl, hm, hz, hx, hcell, hws⟩
  · simp [Value.cells] at hcs
    obtain ⟨rfl, rfl, rfl⟩ := hcs
    exact ⟨[], fun _ => rfl, by unfold maxLen; omega, rfl, (fun x hx => by cases hx), (fun h => absurd h (by omega))⟩
  · simp [Value.cells] at hcs
    obtain ⟨rfl, rfl, rfl⟩ := hcs
    simp only [if_true] at hz
    have hlm : len ≤ maxLen := by
      have hd : d = .slice (strs (ss.take len)) (strs (ss.drop len)) := by simp only [Prod.mk.injEq] at hx; exact hx.1
      have hb : Tryz.prog.bytesOf 9 = 16 := by kernel_rfl
      have := hw (((strs (ss.take len) : List (DataW H)).length + (strs (ss.drop len) : List (DataW H)).length) * Tryz.prog.bytesOf 9) (by
        rw [hd]; simp only [DataW.weights, Tryz.underlying22]; exact List.mem_cons_self ..)
      rw [hb] at this
      have e1 : (strs (ss.take len) : List (DataW H)).length = len := by unfold strs; rw [List.length_map, List.length_take]; omega
      rw [e1] at this
      unfold reachBytes at this
      unfold maxLen; omega
    refine ⟨ss.take len, (fun h => by cases h), hlm, by rw [List.length_take]; omega, fun y hy => ?_, fun hlen => ?_⟩
    · have hd : d = .slice (strs (ss.take len)) (strs (ss.drop len)) := by simp only [Prod.mk.injEq] at hx; exact hx.1
      have hmem : y.size ∈ DataW.weights Tryz.prog 22 d := by
        rw [hd]
        simp only [DataW.weights, Tryz.underlying22]
        refine List.mem_cons_of_mem _ (List.mem_append_left _ ?_)
        generalize ss.take len = l at hy
        induction l with
        | nil => cases hy
        | cons b l ih =>
          unfold strs at *
          rw [List.map_cons, DataW.weightsAll, List.mem_append]
          rcases List.mem_cons.1 hy with rfl | h
          · left; simp only [DataW.weights]; rw [Lib.size_eq]; exact List.mem_singleton.2 rfl
          · exact .inr (ih h)
      exact hw _ hmem
    · have h0 := hcell 0 (by omega)
      obtain ⟨b, off, spot⟩ := x
      have hspot : spot = none := by simpa [Addr.add] using World.cell?_spot h0
      subst hspot
      refine ⟨b, off, rfl, Lx.row_lt (by simpa [Addr.add] using h0), fun k y hy => ?_⟩
      obtain ⟨hk, hy'⟩ := List.getElem?_eq_some_iff.1 hy
      rw [List.length_take] at hk
      have := hcell k (by omega)
      have e : ss.getD k ByteArray.empty = y := by
        rw [List.getElem_take] at hy'
        rw [List.getD_eq_getElem?_getD, List.getElem?_eq_getElem (by omega), hy']; rfl
      rw [e] at this
      rw [← this]
      congr 1
      unfold Addr.add
      split
      · rename_i h; subst h; rfl
      · rfl
theorem isNames_of {W : World} {a : Option Addr} {len cap : Nat} {ss : List ByteArray} (h : IsStrs W a len cap ss) : Lx.IsNames W a len ss ∧ (∀ x ∈ ss, x.size ≤ maxLen) ∧ len ≤ maxLen ∧ (a = none → cap = 0) :=
  ⟨⟨h.2.2.1, h.2.2.2.2⟩, fun x hx => by have := h.2.2.2.1 x hx; unfold maxLen; omega, h.2.1, h.1⟩
end Go.Proofs.YtmpcekpdnikghaaGreatDoor
