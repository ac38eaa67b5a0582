/- Appends of a whole slice to a row of one's own. -/
import Derived.Test.YtmpcekpdnikghaaDoorEvM
import Derived.Laws.AppendOwnNone
import Derived.Laws.AppendOwn
namespace Go.Proofs.YtmpcekpdnikghaaDoor
open Go.RowKit

/-- A slice value of m elements (size cells each) whose cells are xs: nil, or it lies somewhere. -/
def Src (w : World) (v : Value) (m size : Nat) (xs : List Value) : Prop :=
  (v = .slice none 0 0 ∧ m = 0 ∧ xs = []) ∨ (∃ g off c, v = .slice (some ⟨g, off, none⟩) m c ∧ g < w.heap.size ∧ xs.length = m * size ∧ ∀ j u, xs[j]? = some u → w.cell? ⟨g, off + j, none⟩ = some u)
theorem Src.below {w w' : World} {v : Value} {m size : Nat} {xs : List Value} (h : Src w v m size xs) (hb : Below w.heap.size w w') : Src w' v m size xs := by
  rcases h with h | ⟨g, off, c, e, lt, hl, hc⟩
  · exact .inl h
  · exact .inr ⟨g, off, c, e, Nat.lt_of_lt_of_le lt hb.size, hl, fun j u hj => (hb.cell (p := ⟨g, off + j, none⟩) lt).trans (hc j u hj)⟩
theorem Src.row {w : World} {base : Nat} {e : TypeId} {size n : Nat} {v : Value} {xs : List Value} (h : w.ownsRow base e size v n xs) : Src w v n size xs := by
  have h0 := h
  rcases h.2 with ⟨rfl, h1⟩ | ⟨g, cap, cur, hv, _, hg, _⟩
  · refine .inl ⟨rfl, by simp_all, ?_⟩
    have := h.1
    simp_all
  · subst hv
    refine .inr ⟨g, 0, cap, rfl, (Array.getElem?_eq_some_iff.1 hg).1, h.1, fun j u hj => ?_⟩
    have := h0.cells (g := g) rfl j u hj
    rwa [show (⟨g, 0, none⟩ : Addr).add j = ⟨g, 0 + j, none⟩ from by simp [Addr.add]; intro h; exact h.symm] at this
theorem grown_refl (w : World) (row : Option Nat) : w.grownBy w row := ⟨rfl, rfl, rfl, Nat.le_refl _, fun _ _ _ => rfl⟩
theorem wpList_append_src {P : Program} {w : World} {ops : Array Oper} {rest : List Oper} {o : Oper} {a : Act} {Q : Exit → Act → World → Prop} (hgd : o.guard = none) (s x : Operand) (t : TypeId)
    (ho : o.op = .call { callee := .builtin .append, args := #[s, x], argTypes := #[t, t] })
    (base : Nat) (e : TypeId) (i : TypeInfo) (z : Value) (size bytes : Nat) (ht : P.underlying t = some (.slice e)) (hi : P.info? e = some i) (hz : i.zero = some z)
    (hsize : i.size = size) (hby : i.bytes = bytes) (hzs : z.cells.size = size) (hsz : 0 < size)
    (v : Value) (n : Nat) (xs : List Value) (hs : a.eval s = v) (hown : w.ownsRow base e size v n xs)
    (vx : Value) (m : Nat) (news : List Value) (hx : a.eval x = vx) (hsrc : Src w vx m size news) (h1 : ∀ u ∈ news, u.oneCell' = true)
    (h63 : n + m ≤ maxLen) (hbytes : (n + m) * bytes ≤ 140737488355328) (hbase : base ≤ w.heap.size)
    (h : ∀ v' w', w'.ownsRow base e size v' (n + m) (xs ++ news) → w.grownBy w' v.ownBlock → wpList P ops Q rest (a.put o.dst v') w') : wpList P ops Q (o :: rest) a w := by
  rcases hsrc with ⟨e1, rfl, rfl⟩ | ⟨g, off, c, e1, lt, hl, hc⟩
  · refine wpList_append_own_none hgd s x t ho base e i size ht hi v n xs hs hown (hx.trans e1) ?_
    rw [← hs]
    rw [← hs] at h
    exact h _ w (by rw [Nat.add_zero, List.append_nil, hs]; exact hown) (grown_refl _ _)
  · refine wpList_append_own w hgd s x t ho base e i z size bytes ht hi hz hsize hby hzs hsz v n xs hs hown ⟨g, off, none⟩ m c news (hx.trans e1) hl ?_ h1 h63 hbytes hbase (fun v' w' a b _ => h v' w' a b)
    intro j u hj
    rw [show (⟨g, off, none⟩ : Addr).add j = ⟨g, off + j, none⟩ from by simp [Addr.add]]
    exact hc j u hj
theorem run_append_owned_zero {P : Program} {w : World} (base : Nat) (t ty e : TypeId) (i : TypeInfo) (size : Nat) (ht : P.underlying t = some (.slice e)) (hi : P.info? e = some i)
    (v : Value) (n : Nat) (xs : List Value) (hown : w.ownsRow base e size v n xs) (ad : Option Addr) (cap : Nat) :
    (Builtin.append_ #[t, t] ty #[v, .slice ad 0 cap]).run P w = .ok v w := by
  cases ad <;> rcases hown.2 with ⟨rfl, rfl⟩ | ⟨g, cap, cur, rfl, _, _, hnc, _⟩
  · simp [Builtin.append_, run_underlying ht, sizeOf, typeInfo, hi, Builtin.lenOf, Builtin.firstCells]
  · simp [Builtin.append_, run_underlying ht, sizeOf, typeInfo, hi, Builtin.lenOf, Builtin.firstCells, hnc, storeCells]
  · simp [Builtin.append_, run_underlying ht, sizeOf, typeInfo, hi, Builtin.lenOf, Builtin.firstCells, loadCells, loadCellsFrom, Result.andThen]
  · simp [Builtin.append_, run_underlying ht, sizeOf, typeInfo, hi, Builtin.lenOf, Builtin.firstCells, hnc, storeCells, loadCells, loadCellsFrom, Result.andThen]
theorem wpList_append_zero {P : Program} {w : World} {ops : Array Oper} {rest : List Oper} {o : Oper} {a : Act} {Q : Exit → Act → World → Prop} (hgd : o.guard = none) (s x : Operand) (t : TypeId)
    (ho : o.op = .call { callee := .builtin .append, args := #[s, x], argTypes := #[t, t] })
    (base : Nat) (e : TypeId) (i : TypeInfo) (size : Nat) (ht : P.underlying t = some (.slice e)) (hi : P.info? e = some i)
    (v : Value) (n : Nat) (xs : List Value) (hs : a.eval s = v) (hown : w.ownsRow base e size v n xs) (ad : Option Addr) (cap : Nat) (hx : a.eval x = .slice ad 0 cap)
    (h : wpList P ops Q rest (a.put o.dst v) w) : wpList P ops Q (o :: rest) a w := by
  refine wpList_plain hgd fun K hK => ?_
  have hrun := run_append_owned_zero (P := P) (w := w) base t o.type e i size ht hi v n xs hown ad cap
  unfold Oper.wp
  simp [execOp, ho, resolve, invoke, builtin, hs, hx, hrun, Result.andThen]
  exact hK _ _ h
theorem src_of_isEvs {w : World} {ad : Option Addr} {n cap : Nat} {L : List Lx.EvV} (h : Lx.IsEvs w ad n L) (h0 : 0 < n) : Src w (.slice ad n cap) n 8 (Lx.evCells L) := by
  obtain ⟨g, off, rfl, lt, hc⟩ := h.2 h0
  refine .inr ⟨g, off, cap, rfl, lt, by rw [Lx.evCells_len, h.1], fun j u hj => ?_⟩
  have hj1 : j < L.length * 8 := by have := (List.getElem?_eq_some_iff.1 hj).1; rwa [Lx.evCells_len] at this
  have hi : j / 8 < L.length := by omega
  have hL : L[j / 8]? = some L[j / 8] := List.getElem?_eq_getElem hi
  have h6 : (L[j / 8]).cells.length = 8 := rfl
  have hm : j % 8 < (L[j / 8]).cells.length := by rw [h6]; omega
  have hv : (L[j / 8]).cells[j % 8]? = some (L[j / 8]).cells[j % 8] := List.getElem?_eq_getElem hm
  have e1 := Lx.evCells_get hL (j % 8) _ hv
  have e2 := hc _ _ hL (j % 8) _ hv
  rw [show j / 8 * 8 + j % 8 = j by omega, hj] at e1
  rw [show off + j / 8 * 8 + j % 8 = off + j by omega] at e2
  rw [e2]; exact e1.symm
theorem wpList_append_isEvs {P : Program} {w : World} {ops : Array Oper} {rest : List Oper} {o : Oper} {a : Act} {Q : Exit → Act → World → Prop} (hgd : o.guard = none) (s x : Operand) (t : TypeId)
    (ho : o.op = .call { callee := .builtin .append, args := #[s, x], argTypes := #[t, t] })
    (base : Nat) (e : TypeId) (i : TypeInfo) (z : Value) (bytes : Nat) (ht : P.underlying t = some (.slice e)) (hi : P.info? e = some i) (hz : i.zero = some z)
    (hsize : i.size = 8) (hby : i.bytes = bytes) (hzs : z.cells.size = 8)
    (v : Value) (hs : a.eval s = v) (hown : w.ownsRow base e 8 v 0 [])
    (ad : Option Addr) (n cap : Nat) (L : List Lx.EvV) (hx : a.eval x = .slice ad n cap) (hsrc : Lx.IsEvs w ad n L) (h1 : ∀ u ∈ Lx.evCells L, u.oneCell' = true)
    (h63 : n ≤ maxLen) (hbytes : n * bytes ≤ 140737488355328) (hbase : base ≤ w.heap.size)
    (h : ∀ v' w', w'.ownsRow base e 8 v' n (Lx.evCells L) → w.grownBy w' v.ownBlock → wpList P ops Q rest (a.put o.dst v') w') : wpList P ops Q (o :: rest) a w := by
  rcases Nat.eq_zero_or_pos n with h0 | h0
  · subst h0
    have hL : L = [] := List.eq_nil_of_length_eq_zero hsrc.1
    subst hL
    exact wpList_append_zero hgd s x t ho base e i 8 ht hi v 0 [] hs hown ad cap hx (h v w hown (grown_refl _ _))
  · exact wpList_append_src hgd s x t ho base e i z 8 bytes ht hi hz hsize hby hzs (by decide) v 0 [] hs hown (.slice ad n cap) n (Lx.evCells L) hx (src_of_isEvs hsrc h0) h1 (by omega) (by rw [Nat.zero_add]; exact hbytes) hbase (fun v' w' ha hb => h v' w' (by rwa [Nat.zero_add, List.nil_append] at ha) hb)
theorem Lx.evCells_app (a b : List Lx.EvV) : Lx.evCells (a ++ b) = Lx.evCells a ++ Lx.evCells b := by unfold Lx.evCells; rw [List.flatMap_append]
theorem Lx.row_isEvs' {w : World} {base n : Nat} {v : Value} {e : TypeId} {L : List Lx.EvV} (h : w.ownsRow base e 8 v n (Lx.evCells L)) : ∃ A c, v = .slice A n c ∧ (L.length = n → Lx.IsEvs w A n L) := by
  obtain ⟨A, c, rfl⟩ := Lx.slice_of_row h
  exact ⟨A, c, rfl, fun hn => Lx.row_isEvs h hn⟩
end Go.Proofs.YtmpcekpdnikghaaDoor
