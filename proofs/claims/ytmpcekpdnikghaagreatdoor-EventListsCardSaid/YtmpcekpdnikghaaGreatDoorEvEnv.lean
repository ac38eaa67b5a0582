/- What the walks of events are told of the listed variables. -/
import Derived.Test.YtmpcekpdnikghaaGreatDoorEnv
import Derived.Test.YtmpcekpdnikghaaGreatDoorEvLx
namespace Go.Proofs.YtmpcekpdnikghaaGreatDoor
open Go.RowKit

structure EEnv (w : World) : Prop where
  env : Env w
  rs : ∀ i : Nat, i < 7 → w.cell? ⟨0, i, none⟩ = some (.string ⟨(Lx.reasonW i).toArray⟩)
theorem g_rs_lt : 0 < Tryz.prog.globals.size := of_decide_eq_true (by kernel_rfl)
theorem EEnv.below {w w' : World} (h : EEnv w) (hb : Below w.heap.size w w') : EEnv w' :=
  ⟨h.env.below hb, fun i hi => (hb.cell (p := ⟨0, i, none⟩) (Nat.lt_of_lt_of_le g_rs_lt h.env.lt)).trans (h.rs i hi)⟩
end Go.Proofs.YtmpcekpdnikghaaGreatDoor
