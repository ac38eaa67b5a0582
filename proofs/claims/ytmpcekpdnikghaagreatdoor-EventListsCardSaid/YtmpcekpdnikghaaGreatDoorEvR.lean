/- What the walk of event.read gives; the library's contracts that it takes. -/
import Derived.Test.YtmpcekpdnikghaaGreatDoorEvS
import Derived.Test.YtmpcekpdnikghaaGreatDoorEvF
import Derived.Maps.OwnSet
namespace Go.Proofs.YtmpcekpdnikghaaGreatDoor
open Go.RowKit
open Go.Maps (Keyed)

def ReadEv (NS : List ByteArray) (s : ByteArray) (w : World) (e : Ending) (w' : World) : Prop := ∃ o x, e = .returned (.tuple #[o.val, .int .i64 x]) ∧ Lx.ReadsEv NS s.data.toList o x ∧ Below w.heap.size w w'
theorem split_sp_any (s : ByteArray) (W : World) (hs : s.size ≤ 65536) (m : Int) (hm : W.cell? ⟨1, 0, none⟩ = some (.int .i64 m)) :
    Calls Tryz.prog 38 #[.string s, .string ⟨#[32]⟩] W fun e w' => e = .returned (.slice (some ⟨W.heap.size, 0, none⟩) (Lx.spS s).length (Lx.spS s).length) ∧ w' = W.alloc (.cells ((Lx.spS s).map Value.string).toArray 9) := by
  rw [Lx.spS_len]
  exact Tryz.strings_Split s ⟨#[32]⟩ m W (by omega) hm (by decide)
theorem zeroI (w : World) : (zeroValue 3).run Tryz.prog w = .ok (.int .i64 0) w := by kernel_rfl
namespace Lx
theorem RS.ex {w W : World} {b0 R E kb g : Nat} {P : List ByteArray} {i : Nat} {bad : Bool} {o : EvV} {k : Nat} (h : RS w W b0 R E kb g P i bad o k) : ∃ b, RS w W b0 R E kb g P i b o k ∧ b = bad := ⟨bad, h, rfl⟩
theorem reasons_names {W : World} (env : EEnv W) : IsNames W (some ⟨0, 0, none⟩) 7 reasonsL := by
  refine ⟨rfl, fun _ => ⟨_, 0, rfl, Nat.lt_of_lt_of_le g_rs_lt env.env.lt, fun i x hx => ?_⟩⟩
  rw [Nat.zero_add]
  have hi : i < 7 := (List.getElem?_eq_some_iff.1 hx).1
  rw [env.rs i hi]
  have : i = 0 ∨ i = 1 ∨ i = 2 ∨ i = 3 ∨ i = 4 ∨ i = 5 ∨ i = 6 := by omega
  rcases this with rfl | rfl | rfl | rfl | rfl | rfl | rfl <;> (obtain rfl := Option.some.inj hx; rfl)
end Lx
end Go.Proofs.YtmpcekpdnikghaaGreatDoor
