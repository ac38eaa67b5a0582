/- What the walks of chapter 13 take of the package-level variables: the units too. -/
import Derived.Test.YtpjocfkolnfjiaaGreatDoorEnv
namespace Go.Proofs.YtpjocfkolnfjiaaGreatDoor
open Go.RowKit

def unitCells : List Value := [.int .u8 100, .int .i64 86400, .int .u8 104, .int .i64 3600, .int .u8 109, .int .i64 60, .int .u8 115, .int .i64 1]
structure UEnv (w : World) : Prop where
  env : Env w
  un : ∀ (j : Nat) (v : Value), unitCells[j]? = some v → w.cell? ⟨0, j, none⟩ = some v
  db : w.cell? ⟨6, 15, none⟩ = some (.int .u8 4)
theorem g_un_lt : 0 < Tryz.prog.globals.size := of_decide_eq_true (by kernel_rfl)
theorem g_db_lt : 6 < Tryz.prog.globals.size := of_decide_eq_true (by kernel_rfl)
theorem UEnv.below {w w' : World} (h : UEnv w) (hb : Below w.heap.size w w') : UEnv w' :=
  ⟨h.env.below hb, fun j v hj => (hb.cell (p := ⟨0, j, none⟩) (Nat.lt_of_lt_of_le g_un_lt h.env.lt)).trans (h.un j v hj),
    (hb.cell (p := ⟨6, 15, none⟩) (Nat.lt_of_lt_of_le g_db_lt h.env.lt)).trans h.db⟩
theorem UEnv.drewN {w : World} (h : UEnv w) (n : Nat) : UEnv (w.drewN n) := h.below ⟨rfl, rfl, rfl, Nat.le_refl _, fun _ _ => rfl⟩
theorem UEnv.lt {w : World} (h : UEnv w) : Tryz.prog.globals.size ≤ w.heap.size := h.env.lt
theorem UEnv.gun {w : World} (h : UEnv w) : 0 < w.heap.size := Nat.lt_of_lt_of_le g_un_lt h.env.lt
end Go.Proofs.YtpjocfkolnfjiaaGreatDoor
