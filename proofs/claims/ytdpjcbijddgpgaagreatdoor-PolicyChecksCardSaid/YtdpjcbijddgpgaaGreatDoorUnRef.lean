/- The walks of the small functions of the reference of chapter 13: the units, and seeds. -/
import Derived.Test.YtdpjcbijddgpgaaGreatDoorProg
import Derived.Test.YtdpjcbijddgpgaaGreatDoorUnSpec
import Derived.Test.YtdpjcbijddgpgaaGreatDoorDigitsP
import Derived.WalkKit
import Derived.WalkSpells
import Derived.WalkLawsBesides
import Derived.BigQuiet
import Derived.BigGuardPart
import Derived.Lib.Hide
namespace Go.Proofs.YtdpjcbijddgpgaaGreatDoor
open Go.RowKit

theorem seconds_any (u : Nat) (hu : u < 4) (w : World) :
    Calls Tryz.prog 92 #[.int .i64 u] w fun e w' => e = .returned (.int .i64 (Lx.secs u : Nat)) ∧ Below w.heap.size w w' := by
  rcases (show u = 0 ∨ u = 1 ∨ u = 2 ∨ u = 3 by omega) with rfl | rfl | rfl | rfl
  all_goals
    go_enter Tryz.func92, Tryz.ntmps92
    go_wp2
    go_ret
    exact ⟨rfl, (Below.refl _ _).alloc (Nat.le_refl _) _⟩
theorem letter_any (u : Nat) (hu : u < 4) (w : World) :
    Calls Tryz.prog 91 #[.int .i64 u] w fun e w' => e = .returned (.int .u8 (Lx.letr u).toNat) ∧ w = w' := by
  rcases (show u = 0 ∨ u = 1 ∨ u = 2 ∨ u = 3 by omega) with rfl | rfl | rfl | rfl
  all_goals
    go_enter Tryz.func91, Tryz.ntmps91
    go_wp2
    go_ret
    exact ⟨rfl, rfl⟩
end Go.Proofs.YtdpjcbijddgpgaaGreatDoor
