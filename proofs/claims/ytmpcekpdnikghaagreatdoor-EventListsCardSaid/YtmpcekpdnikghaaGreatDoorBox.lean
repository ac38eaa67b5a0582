/- Small laws on a block that a call lays ahead of another call, which keeps it. -/
import Derived.WalkKit
import Derived.WalkSmall
import Derived.Lib.Hide
namespace Go.Proofs.YtmpcekpdnikghaaGreatDoor.Lx
open Go Go.RowKit

theorem boxCell0 (w : World) (cs : Array Value) (T : TypeId) (k : Nat) (v : Value) (h : cs[k]? = some v) : (w.alloc (.cells cs T)).cell? ⟨w.heap.size, k, none⟩ = some v := by
  rw [World.cell?_alloc_at cs T w.heap.size k rfl]; exact h
theorem boxCell {w w' : World} {cs : Array Value} {T : TypeId} (hb : Below (w.alloc (.cells cs T)).heap.size (w.alloc (.cells cs T)) w') (k : Nat) (v : Value) (h : cs[k]? = some v) : w'.cell? ⟨w.heap.size, k, none⟩ = some v :=
  (hb.cell (p := ⟨w.heap.size, k, none⟩) (by show w.heap.size < _; rw [World.size_alloc]; omega)).trans (boxCell0 w cs T k v h)
theorem boxLt {w w' : World} {o : Obj} (hb : Below (w.alloc o).heap.size (w.alloc o) w') : w.heap.size < w'.heap.size := Nat.lt_of_lt_of_le (by rw [World.size_alloc]; omega) hb.size
theorem boxBelow {w w' : World} {o : Obj} (hb : Below (w.alloc o).heap.size (w.alloc o) w') : Below w.heap.size w w' :=
  ((Below.refl _ w).alloc (Nat.le_refl _) o).trans (hb.mono (by rw [World.size_alloc]; omega))
theorem bcell {W w1 : World} (hb : Below W.heap.size W w1) : (∀ b o, b < W.heap.size → w1.cell? ⟨b, o, none⟩ = W.cell? ⟨b, o, none⟩) ∧ (∀ b o, b < W.heap.size → w1.frozen? ⟨b, o, none⟩ = W.frozen? ⟨b, o, none⟩) :=
  ⟨fun b o h => hb.cell (p := ⟨b, o, none⟩) h, fun b o h => hb.frozen (p := ⟨b, o, none⟩) h⟩
end Go.Proofs.YtmpcekpdnikghaaGreatDoor.Lx
