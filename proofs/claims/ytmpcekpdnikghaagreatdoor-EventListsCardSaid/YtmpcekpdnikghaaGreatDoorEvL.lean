/- Lists of events: how they lie in memory, what lines are read as. -/
import Derived.Test.YtmpcekpdnikghaaGreatDoorEvQ
import Derived.Test.YtmpcekpdnikghaaGreatDoorLines
import Derived.Test.YtmpcekpdnikghaaGreatDoorRead
import Derived.Test.YtmpcekpdnikghaaGreatDoorBackE
import Derived.Test.YtmpcekpdnikghaaGreatDoorRow
namespace Go.Proofs.YtmpcekpdnikghaaGreatDoor
open Go.RowKit

namespace Lx
/-- The slice at ad of n events reads as L. -/
def IsEvs (W : World) (ad : Option Addr) (n : Nat) (L : List EvV) : Prop :=
  L.length = n ∧ (0 < n → ∃ g off, ad = some ⟨g, off, none⟩ ∧ g < W.heap.size ∧ ∀ (i : Nat) (o : EvV), L[i]? = some o → ∀ (j : Nat) (v : Value), o.cells[j]? = some v → W.cell? ⟨g, off + i * 8 + j, none⟩ = some v)
theorem IsEvs.below {W W' : World} {ad : Option Addr} {n : Nat} {L : List EvV} (h : IsEvs W ad n L) (hb : Below W.heap.size W W') : IsEvs W' ad n L := by
  refine ⟨h.1, fun hn => ?_⟩
  obtain ⟨g, off, e, lt, hc⟩ := h.2 hn
  exact ⟨g, off, e, Nat.lt_of_lt_of_le lt hb.size, fun i o hi j v hv => (hb.cell (p := ⟨g, off + i * 8 + j, none⟩) lt).trans (hc i o hi j v hv)⟩
def evCells (l : List EvV) : List Value := l.flatMap EvV.cells
theorem evCells_snoc (l : List EvV) (o : EvV) : evCells (l ++ [o]) = evCells l ++ o.cells := by simp [evCells]
theorem evCells_get : ∀ {l : List EvV} {i : Nat} {o : EvV}, l[i]? = some o → ∀ (j : Nat) (v : Value), o.cells[j]? = some v → (evCells l)[i * 8 + j]? = some v
  | [], i, o, h, _, _, _ => by simp at h
  | a :: t, 0, o, h, j, v, hv => by
    simp at h; subst h
    show (a.cells ++ evCells t)[0 * 8 + j]? = some v
    have hj : j < a.cells.length := (List.getElem?_eq_some_iff.1 hv).1
    rw [Nat.zero_mul, Nat.zero_add, List.getElem?_append_left hj]; exact hv
  | a :: t, i + 1, o, h, j, v, hv => by
    show (a.cells ++ evCells t)[(i + 1) * 8 + j]? = some v
    have h6 : a.cells.length = 8 := rfl
    rw [List.getElem?_append_right (by rw [h6]; omega), h6, show (i + 1) * 8 + j - 8 = i * 8 + j by omega]
    exact evCells_get (by simpa using h) j v hv
theorem evCells_len (l : List EvV) : (evCells l).length = l.length * 8 := by
  induction l with
  | nil => rfl
  | cons a t ih =>
    show (a.cells ++ evCells t).length = _
    rw [List.length_append, ih, List.length_cons]
    have : a.cells.length = 8 := rfl
    omega
theorem evCells_one (K : List EvV) : ∀ u ∈ evCells K, u.oneCell' = true := by
  intro u hu
  obtain ⟨o, _, hu⟩ := List.mem_flatMap.1 hu
  unfold EvV.cells at hu
  simp only [List.mem_cons, List.not_mem_nil, or_false] at hu
  rcases hu with rfl | rfl | rfl | rfl | rfl | rfl | rfl | rfl <;> rfl
theorem row_isEvs {w : World} {base cap n : Nat} {A : Option Addr} {e : TypeId} {L : List EvV} (h : w.ownsRow base e 8 (.slice A n cap) n (evCells L)) (hn : L.length = n) : IsEvs w A n L := by
  refine ⟨hn, fun h0 => ?_⟩
  obtain ⟨g, hA, lt, hc⟩ := row_read h h0
  refine ⟨g, 0, hA, lt, fun i o hi j v hv => ?_⟩
  rw [Nat.zero_add]
  exact hc _ _ (evCells_get hi j v hv)
/-- What lines are read as: each as an event. -/
def LinesEv (NS : List ByteArray) : List ByteArray → List EvV → Prop
  | [], out => out = []
  | l :: t, out => ∃ o rest, ReadsEv NS l.data.toList o 0 ∧ out = o :: rest ∧ LinesEv NS t rest
theorem linesEv_snoc {NS : List ByteArray} : ∀ {ls : List ByteArray} {l : ByteArray} {out : List EvV} {o : EvV}, LinesEv NS ls out → ReadsEv NS l.data.toList o 0 → LinesEv NS (ls ++ [l]) (out ++ [o])
  | [], l, out, o, h, hr => by
    unfold LinesEv at h
    subst h
    exact ⟨o, [], hr, rfl, rfl⟩
  | a :: t, l, out, o, h, hr => by
    obtain ⟨o', rest, h1, h2, h3⟩ := h
    exact ⟨o', rest ++ [o], h1, by rw [h2]; rfl, linesEv_snoc h3 hr⟩
theorem linesEv_len {NS : List ByteArray} : ∀ {ls : List ByteArray} {out : List EvV}, LinesEv NS ls out → out.length = ls.length
  | [], out, h => by unfold LinesEv at h; subst h; rfl
  | a :: t, out, h => by
    obtain ⟨o, rest, _, rfl, h3⟩ := h
    have := linesEv_len h3
    rw [List.length_cons, List.length_cons]; omega
/-- What all lines of a text are read as: events, or the number of the first line that is none. -/
def AllEv (NS : List ByteArray) (ls : List ByteArray) (out : List EvV) (n e : Int) : Prop :=
  (e = 0 ∧ n = 0 ∧ LinesEv NS ls out) ∨ (e = 10 ∧ out = [] ∧ ∃ (k : Nat) (l : ByteArray) (some' : List EvV), ls[k]? = some l ∧ n = (k : Int) + 1 ∧ ReadsEv NS l.data.toList evZ 10 ∧ LinesEv NS (ls.take k) some')
def txL (s : ByteArray) : List ByteArray := (linesOf s.size (pieces s isLF)).map (·.2)
/-- What ParseAll gives, names and lengths included. -/
def ParseAllEv (NS : List ByteArray) (s : ByteArray) (out : List EvV) (n x : Int) : Prop :=
  (nmErr NS ≠ 0 ∧ out = [] ∧ n = 0 ∧ x = nmErr NS) ∨ (nmErr NS = 0 ∧ 65536 < s.size ∧ out = [] ∧ n = 0 ∧ x = 11) ∨ (nmErr NS = 0 ∧ s.size ≤ 65536 ∧ AllEv NS (txL s) out n x)
theorem linesEv_one {NS : List ByteArray} (hN : NOk NS) : ∀ {ls : List ByteArray} {out out' : List EvV}, LinesEv NS ls out → LinesEv NS ls out' → out = out'
  | [], out, out', h, h' => by unfold LinesEv at h h'; rw [h, h']
  | a :: t, out, out', h, h' => by
    obtain ⟨o, rest, h1, h2, h3⟩ := h
    obtain ⟨o', rest', h1', h2', h3'⟩ := h'
    rw [h2, h2', (readsEv_one hN h1 h1').1, linesEv_one hN h3 h3']
theorem linesEv_at {NS : List ByteArray} : ∀ {ls : List ByteArray} {out : List EvV} {k : Nat} {l : ByteArray}, LinesEv NS ls out → ls[k]? = some l → ∃ o, ReadsEv NS l.data.toList o 0
  | [], out, k, l, h, hk => by simp at hk
  | a :: t, out, 0, l, h, hk => by
    obtain ⟨o, rest, h1, h2, h3⟩ := h
    simp at hk; subst hk
    exact ⟨o, h1⟩
  | a :: t, out, k + 1, l, h, hk => by
    obtain ⟨o, rest, h1, h2, h3⟩ := h
    exact linesEv_at h3 (by simpa using hk)
theorem readsEv_not {NS : List ByteArray} {l : List UInt8} {o : EvV} (h : ReadsEv NS l o 0) (h' : ReadsEv NS l evZ 10) : False := by
  rcases h with ⟨_, p⟩ | ⟨c, _⟩
  · rcases h' with ⟨c, _⟩ | ⟨_, _, n⟩
    · omega
    · exact n _ p
  · omega
theorem allEv_one {NS : List ByteArray} (hN : NOk NS) {ls : List ByteArray} {out out' : List EvV} {n n' e e' : Int} (h : AllEv NS ls out n e) (h' : AllEv NS ls out' n' e') : out = out' ∧ n = n' ∧ e = e' := by
  have lt : ∀ {k k' : Nat} {l : ByteArray} {s' : List EvV}, k < k' → ls[k]? = some l → ReadsEv NS l.data.toList evZ 10 → LinesEv NS (ls.take k') s' → False := by
    intro k k' l s' hlt hk hr hl
    obtain ⟨o, ho⟩ := linesEv_at hl (show (ls.take k')[k]? = some l by rw [List.getElem?_take, if_pos hlt]; exact hk)
    exact readsEv_not ho hr
  rcases h with ⟨rfl, rfl, h⟩ | ⟨rfl, rfl, k, l, s1, hk, rfl, hr, hl⟩ <;> rcases h' with ⟨rfl, rfl, h'⟩ | ⟨rfl, rfl, k', l', s1', hk', rfl, hr', hl'⟩
  · exact ⟨linesEv_one hN h h', rfl, rfl⟩
  · obtain ⟨o, ho⟩ := linesEv_at h hk'
    exact (readsEv_not ho hr').elim
  · obtain ⟨o, ho⟩ := linesEv_at h' hk
    exact (readsEv_not ho hr).elim
  · rcases Nat.lt_trichotomy k k' with c | c | c
    · exact (lt c hk hr hl').elim
    · subst c; exact ⟨rfl, rfl, rfl⟩
    · exact (lt c hk' hr' hl).elim
theorem parseAllEv_one {NS : List ByteArray} {s : ByteArray} {o o' : List EvV} {n n' x x' : Int} (h : ParseAllEv NS s o n x) (h' : ParseAllEv NS s o' n' x') : o = o' ∧ n = n' ∧ x = x' := by
  rcases h with ⟨a, b, c, d⟩ | ⟨a, b, c, d, e⟩ | ⟨a, b, c⟩ <;> rcases h' with ⟨a', b', c', d'⟩ | ⟨a', b', c', d', e'⟩ | ⟨a', b', c'⟩
  · exact ⟨b.trans b'.symm, c.trans c'.symm, d.trans d'.symm⟩
  · exact absurd a' a
  · exact absurd a' a
  · exact absurd a a'
  · exact ⟨c.trans c'.symm, d.trans d'.symm, e.trans e'.symm⟩
  · omega
  · exact absurd a a'
  · omega
  · exact allEv_one ((nmErr_ok NS).1 a) c c'
end Lx
end Go.Proofs.YtmpcekpdnikghaaGreatDoor
