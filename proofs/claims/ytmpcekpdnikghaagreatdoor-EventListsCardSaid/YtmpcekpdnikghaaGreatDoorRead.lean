/- Plain facts on rows that are read: cells of lines and of words. -/
import Derived.Test.YtmpcekpdnikghaaGreatDoorWorks
namespace Go.Proofs.YtmpcekpdnikghaaGreatDoor.Lx
open Go Go.RowKit

/-- A row of the call's own, read: where it is not empty it lies at the head of a block, and its cells are xs. -/
def RowRead (w : World) (A : Option Addr) (n : Nat) (xs : List Value) : Prop :=
  0 < n → ∃ g, A = some ⟨g, 0, none⟩ ∧ g < w.heap.size ∧ ∀ j u, xs[j]? = some u → w.cell? ⟨g, j, none⟩ = some u
theorem row_read {w : World} {base : Nat} {e : TypeId} {size n cap : Nat} {A : Option Addr} {xs : List Value} (h : w.ownsRow base e size (.slice A n cap) n xs) : RowRead w A n xs := by
  intro hn
  have h' := h
  rcases h.2 with ⟨_, h0⟩ | ⟨g, cap', cur, hv, _, hg, _⟩
  · omega
  · injection hv with h1 h2 h3
    subst h1
    exact ⟨g, rfl, (Array.getElem?_eq_some_iff.1 hg).1, fun j u hj => row_cell h' j u hj⟩
theorem RowRead.below {w w' : World} {A : Option Addr} {n : Nat} {xs : List Value} (h : RowRead w A n xs) (hb : Below w.heap.size w w') : RowRead w' A n xs := by
  intro hn
  obtain ⟨g, e, hlt, hc⟩ := h hn
  exact ⟨g, e, Nat.lt_of_lt_of_le hlt hb.size, fun j u hj => (hb.cell (p := ⟨g, j, none⟩) hlt).trans (hc j u hj)⟩

theorem row_pos {w : World} {base : Nat} {e : TypeId} {size n : Nat} {v : Value} {xs : List Value} (h : w.ownsRow base e size v n xs) (hn : 0 < n) : ∃ g c, v = .slice (some ⟨g, 0, none⟩) n c ∧ g < w.heap.size ∧ ∀ j u, xs[j]? = some u → w.cell? ⟨g, j, none⟩ = some u := by
  rcases h.2 with ⟨_, h0⟩ | ⟨g, cap', cur, hv, _, hg, _⟩
  · omega
  · subst hv
    exact ⟨g, cap', rfl, (Array.getElem?_eq_some_iff.1 hg).1, fun j u hj => row_cell h j u hj⟩
def lineBlk (n : Nat) (x : Nat × ByteArray) : List Value := [.int .i64 ((n : Int) + 1), .int .i64 (x.1 : Int), .string x.2]
theorem lineFrom_get (l : List (Nat × ByteArray)) : ∀ (n k j : Nat) (x : Nat × ByteArray), l[k]? = some x → j < 3 →
    ((l.zipIdx n).flatMap fun x => lineBlk x.2 x.1)[k * 3 + j]? = (lineBlk (n + k) x)[j]? := by
  induction l with
  | nil => intro n k j x h; simp at h
  | cons a l ih =>
    intro n k j x h hj
    rw [List.zipIdx_cons, List.flatMap_cons]
    cases k with
    | zero =>
      rw [List.getElem?_cons_zero] at h
      obtain rfl := Option.some.inj h
      rw [Nat.zero_mul, Nat.zero_add, List.getElem?_append_left (by show j < 3; exact hj)]
      rfl
    | succ k =>
      rw [List.getElem?_cons_succ] at h
      rw [List.getElem?_append_right (by show 3 ≤ _; omega), show (k + 1) * 3 + j - (lineBlk n a).length = k * 3 + j from by show (k + 1) * 3 + j - 3 = _; omega, ih (n + 1) k j x h hj]
      rw [show n + 1 + k = n + (k + 1) by omega]
theorem lineCells_get (l : List (Nat × ByteArray)) (k : Nat) (x : Nat × ByteArray) (h : l[k]? = some x) :
    (lineCells l)[k * 3]? = some (.int .i64 ((k : Int) + 1)) ∧ (lineCells l)[k * 3 + 1]? = some (.int .i64 (x.1 : Int)) ∧ (lineCells l)[k * 3 + 2]? = some (.string x.2) := by
  have e : lineCells l = (l.zipIdx 0).flatMap fun x => lineBlk x.2 x.1 := rfl
  have h0 := lineFrom_get l 0 k 0 x h (by omega)
  have h1 := lineFrom_get l 0 k 1 x h (by omega)
  have h2 := lineFrom_get l 0 k 2 x h (by omega)
  rw [← e, Nat.zero_add] at h0 h1 h2
  exact ⟨h0, h1, h2⟩
theorem wordCells_get (l : List (Nat × ByteArray)) : ∀ (k : Nat) (x : Nat × ByteArray), l[k]? = some x →
    (wordCells l)[k * 2]? = some (.int .i64 (x.1 : Int)) ∧ (wordCells l)[k * 2 + 1]? = some (.string x.2) := by
  induction l with
  | nil => intro k x h; simp at h
  | cons a l ih =>
    intro k x h
    have e : wordCells (a :: l) = [.int .i64 (a.1 : Int), .string a.2] ++ wordCells l := rfl
    rw [e]
    cases k with
    | zero =>
      rw [List.getElem?_cons_zero] at h
      obtain rfl := Option.some.inj h
      exact ⟨rfl, rfl⟩
    | succ k =>
      rw [List.getElem?_cons_succ] at h
      obtain ⟨h1, h2⟩ := ih k x h
      rw [List.getElem?_append_right (by show 2 ≤ _; omega), List.getElem?_append_right (by show 2 ≤ _; omega)]
      rw [show (k + 1) * 2 - ([.int .i64 (a.1 : Int), .string a.2] : List Value).length = k * 2 from by show (k + 1) * 2 - 2 = _; omega,
        show (k + 1) * 2 + 1 - ([.int .i64 (a.1 : Int), .string a.2] : List Value).length = k * 2 + 1 from by show (k + 1) * 2 + 1 - 2 = _; omega]
      exact ⟨h1, h2⟩
end Go.Proofs.YtmpcekpdnikghaaGreatDoor.Lx
