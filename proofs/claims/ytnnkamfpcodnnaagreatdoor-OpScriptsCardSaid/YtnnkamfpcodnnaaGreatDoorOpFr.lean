/- A parameter that is an operation, and one that is a slice of operations: what the walks are told of them. -/
import Derived.Test.YtnnkamfpcodnnaaGreatDoorOpL
import Derived.Test.YtnnkamfpcodnnaaGreatDoorWorks
import Derived.OpenShut
import Derived.Deep.Slices
import Derived.Deep.Fields
import Derived.ChangeSame
import Derived.Lib.SmallJoins
import Derived.SizedLaws
namespace Go.Proofs.YtnnkamfpcodnnaaGreatDoor
open Go.Joins Go.ChangeShapes Go.WideShapes Go.RowKit Go.Deep

section
variable {H : Type} {enc : TypeId × Value → H} {P : Program} {w : World} {base : Nat} {spare : Nat → Bool} {held : Bool}
theorem open_agg6 {r : Reach} {b0 : Nat} {t : TypeId} {f0 f1 f2 f3 f4 f5 : Field} {v : Value} {d : DataW H} {p : List MemPlace} (hs : P.underlying t = some (.struct #[f0, f1, f2, f3, f4, f5])) (hone : oneCellFields P #[f0, f1, f2, f3, f4, f5] = true) (hC : P.cellsOf t = 6)
    (hv : Value.okWide P w r b0 t v) (h : DataW.Trod enc P w base spare held t v d p) :
    ∃ (v0 v1 v2 v3 v4 v5 : Value) (y0 y1 y2 y3 y4 y5 : DataW H × List MemPlace) (n : Nat), v = .agg #[v0, v1, v2, v3, v4, v5] ∧
      DataW.trod enc P w base spare held n f0.type [v0] = some y0 ∧ DataW.trod enc P w base spare held n f1.type [v1] = some y1 ∧ DataW.trod enc P w base spare held n f2.type [v2] = some y2 ∧ DataW.trod enc P w base spare held n f3.type [v3] = some y3 ∧ DataW.trod enc P w base spare held n f4.type [v4] = some y4 ∧ DataW.trod enc P w base spare held n f5.type [v5] = some y5 := by
  obtain ⟨cs, rfl, hsz⟩ := okWide_struct hs hv
  obtain ⟨l⟩ := cs
  match l, hsz.trans hC with
  | [c0, c1, c2, c3, c4, c5], _ =>
    obtain ⟨fuel, hf⟩ := h
    obtain ⟨xs, n, _, hx, _, hlen, hg⟩ := DataW.trod_struct hs hf
    obtain ⟨o0, k0⟩ := hone_of hone 0 f0 rfl
    obtain ⟨o1, k1⟩ := hone_of hone 1 f1 rfl
    obtain ⟨o2, k2⟩ := hone_of hone 2 f2 rfl
    obtain ⟨o3, k3⟩ := hone_of hone 3 f3 rfl
    obtain ⟨o4, k4⟩ := hone_of hone 4 f4 rfl
    obtain ⟨o5, k5⟩ := hone_of hone 5 f5 rfl
    match xs, hlen with
    | [y0, y1, y2, y3, y4, y5], _ =>
      exact ⟨c0, c1, c2, c3, c4, c5, y0, y1, y2, y3, y4, y5, n, rfl, by simpa [Value.cells, o0, k0] using hg 0 f0 rfl, by simpa [Value.cells, o1, k1] using hg 1 f1 rfl, by simpa [Value.cells, o2, k2] using hg 2 f2 rfl, by simpa [Value.cells, o3, k3] using hg 3 f3 rfl, by simpa [Value.cells, o4, k4] using hg 4 f4 rfl, by simpa [Value.cells, o5, k5] using hg 5 f5 rfl⟩
theorem open_slice_fields {t e : TypeId} {fs : Array Field} {fuel : Nat} {cs : List Value} {x : DataW H × List MemPlace} (ht : P.underlying t = some (.slice e)) (he : P.underlying e = some (.struct fs))
    (hone : oneCellFields P fs = true) (hC : P.cellsOf e = fs.size) (h : DataW.trod enc P w base spare held fuel t cs = some x) :
    (cs = [.slice none 0 0] ∧ x = (.nil, [])) ∨
    ∃ (a : Addr) (len cap m : Nat) (D : Nat → DataW H) (Pl : Nat → List MemPlace), cs = [.slice (some a) len cap] ∧ base ≤ a.block ∧ len ≤ cap ∧ cap ≤ maxLen ∧ m = (if spare a.block then cap else len) ∧
      x = (.slice ((List.range len).map D) ((List.range (m - len)).map fun j => D (len + j)), MemPlace.row a (m * fs.size) ++ (List.range m).flatMap Pl) ∧
      ∀ i, i < m → ∃ (ys : List (DataW H × List MemPlace)) (n : Nat), D i = .agg (ys.map (·.1)) ∧ Pl i = ys.flatMap (·.2) ∧ ys.length = fs.size ∧
        ∀ (j : Nat) (f : Field), fs[j]? = some f → ∃ (v : Value) (y : DataW H × List MemPlace), w.cell? (a.add (i * fs.size + j)) = some v ∧ ys[j]? = some y ∧ DataW.trod enc P w base spare held n f.type [v] = some y := by
  rcases open_slice ht h with h0 | ⟨a, len, cap, m, n, D, Pl, hcs, hb, hl, hm, hmm, hx, hi⟩
  · exact .inl h0
  · refine .inr ⟨a, len, cap, m, D, Pl, hcs, hb, hl, hm, hmm, by rw [hC] at hx; exact hx, fun i him => ?_⟩
    obtain ⟨cs', hc, ht'⟩ := hi i him
    rw [hC] at hc
    obtain ⟨ys, n', hn', hy, hlen, hyl, hf⟩ := DataW.trod_struct he ht'
    obtain ⟨_, hcl, hat⟩ := World.cells?_some hc
    simp only [Prod.mk.injEq] at hy
    refine ⟨ys, n', hy.1, hy.2, hyl, fun j f hj => ?_⟩
    obtain ⟨ho, hk⟩ := hone_of hone j f hj
    have hjl : j < fs.size := (Array.getElem?_eq_some_iff.1 hj).1
    have hcell := hat j hjl
    have hv : cs'[j]? = some (cs'[j]'(by omega)) := List.getElem?_eq_getElem (by omega)
    have h1 := hf j f hj
    rw [ho, hk] at h1
    have hone' : (cs'.drop j).take 1 = [cs'[j]'(by omega)] := by
      rw [List.drop_eq_getElem_cons (by omega)]
      rfl
    rw [hone'] at h1
    have hys : ys[j]? = some (ys[j]'(by omega)) := List.getElem?_eq_getElem (by omega)
    refine ⟨_, _, ?_, hys, h1.trans hys⟩
    rw [← Go.Deep.add_add, hcell, hv]
end

theorem i64_wf {n : Int} (h : (Lit.int .i64 n).wf = true) : -9223372036854775808 ≤ n ∧ n ≤ 9223372036854775807 := by
  have := bounds_i64 h
  omega
/-- An operation that came in. -/
def IsOp (v : Value) (o : Lx.OpV) : Prop := v = o.val ∧ o.In ∧ o.job.size ≤ maxLen
set_option maxRecDepth 100000 in
theorem isOp_of {H : Type} {enc : TypeId × Value → H} {W : World} {r : Reach} {b0 : Nat} {v : Value} {d : DataW H} {p : List MemPlace} {sp : Nat → Bool} {held : Bool}
    (hv : Value.okWide Tryz.prog W r b0 40 v) (h : DataW.Trod enc Tryz.prog W 0 sp held 40 v d p) : ∃ o, IsOp v o := by
  obtain ⟨v0, v1, v2, v3, v4, v5, y0, y1, y2, y3, y4, y5, n, rfl, h0, h1, h2, h3, h4, h5⟩ := open_agg6 Tryz.underlying40 (by kernel_rfl) (by kernel_rfl) hv h
  obtain ⟨k, e0, _, w0⟩ := DataW.trod_int Tryz.underlying3 h0
  obtain ⟨dd, e1, _, w1⟩ := DataW.trod_int Tryz.underlying2 h1
  obtain ⟨t, e2, _, w2⟩ := DataW.trod_int Tryz.underlying2 h2
  obtain ⟨rr, e3, _, w3⟩ := DataW.trod_int Tryz.underlying3 h3
  obtain ⟨ok, e4, _⟩ := DataW.trod_bool Tryz.underlying4 h4
  obtain ⟨job, e5, _, w5⟩ := DataW.trod_string Tryz.underlying9 h5
  simp only [List.cons.injEq, and_true] at e0 e1 e2 e3 e4 e5
  subst e0 e1 e2 e3 e4 e5
  exact ⟨⟨k, dd, t, rr, ok, job⟩, rfl, ⟨i64_wf w0, i64_wf w1, i64_wf w2, i64_wf w3⟩, w5⟩
namespace Lx
def litI : Option Value → Int | some (.int _ n) => n | _ => 0
def litB : Option Value → Bool | some (.bool b) => b | _ => false
def litS : Option Value → ByteArray | some (.string s) => s | _ => ⟨#[]⟩
def opAt (W : World) (a : Addr) (i : Nat) : OpV := ⟨litI (W.cell? (a.add (i * 6 + 0))), litI (W.cell? (a.add (i * 6 + 1))), litI (W.cell? (a.add (i * 6 + 2))), litI (W.cell? (a.add (i * 6 + 3))), litB (W.cell? (a.add (i * 6 + 4))), litS (W.cell? (a.add (i * 6 + 5)))⟩
end Lx
/-- A slice of operations that came in. -/
def OpsIn (W : World) (a : Option Addr) (len : Nat) (L : List Lx.OpV) : Prop := Lx.IsOps W a len L ∧ len ≤ maxLen ∧ ∀ o ∈ L, o.In ∧ o.job.size ≤ maxLen
set_option maxRecDepth 100000 in
theorem opsIn_of {H : Type} {enc : TypeId × Value → H} {W : World} {fuel : Nat} {a : Option Addr} {len cap : Nat} {d : DataW H} {p : List MemPlace}
    (hf : DataW.trod enc Tryz.prog W 0 (fun _ => true) true fuel 23 (Value.slice a len cap).cells.toList = some (d, p)) : ∃ L, OpsIn W a len L := by
  rcases open_slice_fields Tryz.underlying23 Tryz.underlying40 (by kernel_rfl) (by kernel_rfl) hf with ⟨hcs, _⟩ | ⟨x, l, c, m, D, Pl, hcs, _, hl, hm, hmm, hx, hi⟩
  · simp [Value.cells] at hcs
    obtain ⟨rfl, rfl, rfl⟩ := hcs
    exact ⟨[], ⟨rfl, fun h => absurd h (by omega)⟩, by unfold maxLen; omega, fun o ho => by cases ho⟩
  · simp [Value.cells] at hcs
    obtain ⟨rfl, rfl, rfl⟩ := hcs
    simp only [if_true] at hmm
    have each : ∀ i, i < len → (∀ (j : Nat) (v : Value), (Lx.opAt W x i).cells[j]? = some v → W.cell? (x.add (i * 6 + j)) = some v) ∧ (Lx.opAt W x i).In ∧ (Lx.opAt W x i).job.size ≤ maxLen := by
      intro i hlt
      obtain ⟨ys, n, _, _, _, hj⟩ := hi i (by omega)
      obtain ⟨v0, y0, c0, _, t0⟩ := hj 0 _ rfl
      obtain ⟨v1, y1, c1, _, t1⟩ := hj 1 _ rfl
      obtain ⟨v2, y2, c2, _, t2⟩ := hj 2 _ rfl
      obtain ⟨v3, y3, c3, _, t3⟩ := hj 3 _ rfl
      obtain ⟨v4, y4, c4, _, t4⟩ := hj 4 _ rfl
      obtain ⟨v5, y5, c5, _, t5⟩ := hj 5 _ rfl
      obtain ⟨k, e0, _, w0⟩ := DataW.trod_int Tryz.underlying3 t0
      obtain ⟨dd, e1, _, w1⟩ := DataW.trod_int Tryz.underlying2 t1
      obtain ⟨t, e2, _, w2⟩ := DataW.trod_int Tryz.underlying2 t2
      obtain ⟨rr, e3, _, w3⟩ := DataW.trod_int Tryz.underlying3 t3
      obtain ⟨ok, e4, _⟩ := DataW.trod_bool Tryz.underlying4 t4
      obtain ⟨job, e5, _, w5⟩ := DataW.trod_string Tryz.underlying9 t5
      simp only [List.cons.injEq, and_true] at e0 e1 e2 e3 e4 e5
      subst e0 e1 e2 e3 e4 e5
      have d0 : W.cell? (x.add (i * 6 + 0)) = some (.int .i64 k) := c0
      have d1 : W.cell? (x.add (i * 6 + 1)) = some (.int .i64 dd) := c1
      have d2 : W.cell? (x.add (i * 6 + 2)) = some (.int .i64 t) := c2
      have d3 : W.cell? (x.add (i * 6 + 3)) = some (.int .i64 rr) := c3
      have d4 : W.cell? (x.add (i * 6 + 4)) = some (.bool ok) := c4
      have d5 : W.cell? (x.add (i * 6 + 5)) = some (.string job) := c5
      have e : Lx.opAt W x i = ⟨k, dd, t, rr, ok, job⟩ := by unfold Lx.opAt; rw [d0, d1, d2, d3, d4, d5]; rfl
      rw [e]
      refine ⟨fun j v hv => ?_, ⟨i64_wf w0, i64_wf w1, i64_wf w2, i64_wf w3⟩, w5⟩
      unfold Lx.OpV.cells at hv
      match j, hv with
      | 0, hv => rw [d0]; exact hv
      | 1, hv => rw [d1]; exact hv
      | 2, hv => rw [d2]; exact hv
      | 3, hv => rw [d3]; exact hv
      | 4, hv => rw [d4]; exact hv
      | 5, hv => rw [d5]; exact hv
    refine ⟨(List.range len).map (Lx.opAt W x), ⟨by simp, fun h0 => ?_⟩, by omega, fun o ho => ?_⟩
    · obtain ⟨g, off, spot⟩ := x
      have h0' := (each 0 h0).1 0 _ rfl
      have hspot : spot = none := by simpa [Addr.add] using World.cell?_spot h0'
      subst hspot
      refine ⟨g, off, rfl, Lx.row_lt (by simpa [Addr.add] using h0'), fun i o hi' j v hv => ?_⟩
      obtain ⟨hl', hv'⟩ := List.getElem?_eq_some_iff.1 hi'
      simp only [List.length_map, List.length_range] at hl'
      simp only [List.getElem_map, List.getElem_range] at hv'
      subst hv'
      have := (each i hl').1 j v hv
      rw [← this]
      congr 1
      unfold Addr.add
      split
      · rename_i h; rw [show off + i * 6 + j = off by omega]
      · rw [Nat.add_assoc]
    · obtain ⟨i, hi', rfl⟩ := List.mem_map.1 ho
      exact (each i (List.mem_range.1 hi')).2
end Go.Proofs.YtnnkamfpcodnnaaGreatDoor
