/- What the walks take of the package-level variables: it stays through every call that keeps what lay below. -/
import Derived.Test.YtpjocfkolnfjiaaGreatDoorProg
import Derived.WalkKit
import Derived.WalkSpells
import Derived.WalkLawsBesides
import Derived.Lib.LaidTab
import Derived.Lib.ItoaNum
namespace Go.Proofs.YtpjocfkolnfjiaaGreatDoor
open Go.RowKit

structure Env (w : World) : Prop where
  pow : Lib.TabIs Tryz.prog w "internal/strconv.uint64pow10" .u64 Lib.pow10Tab
  rng : ∃ tp p, w.var? Tryz.prog "strconv.ErrRange" = some #[.iface tp p]
  syn : ∃ tp p, w.var? Tryz.prog "strconv.ErrSyntax" = some #[.iface tp p]
  mx : ∃ m, w.cell? ⟨1, 0, none⟩ = some (.int .i64 m)
  lt : Tryz.prog.globals.size ≤ w.heap.size

theorem g_pow : Tryz.prog.globalNamed "internal/strconv.uint64pow10" = some 4 := by kernel_rfl
theorem g_rng : Tryz.prog.globalNamed "strconv.ErrRange" = some 8 := by kernel_rfl
theorem g_syn : Tryz.prog.globalNamed "strconv.ErrSyntax" = some 7 := by kernel_rfl
theorem g_pow_lt : 4 < Tryz.prog.globals.size := of_decide_eq_true (by kernel_rfl)
theorem g_rng_lt : 8 < Tryz.prog.globals.size := of_decide_eq_true (by kernel_rfl)
theorem g_syn_lt : 7 < Tryz.prog.globals.size := of_decide_eq_true (by kernel_rfl)
theorem g_mx_lt : 1 < Tryz.prog.globals.size := of_decide_eq_true (by kernel_rfl)

theorem Env.keep {B : Nat} {w w' : World} (h : Env w) (hb : Below B w w') (hB : Tryz.prog.globals.size ≤ B) : Env w' := by
  refine ⟨var?_below hb g_pow (Nat.lt_of_lt_of_le g_pow_lt hB) h.pow, ?_, ?_, ?_, Nat.le_trans h.lt hb.size⟩
  · obtain ⟨tp, p, hv⟩ := h.rng
    exact ⟨tp, p, var?_below hb g_rng (Nat.lt_of_lt_of_le g_rng_lt hB) hv⟩
  · obtain ⟨tp, p, hv⟩ := h.syn
    exact ⟨tp, p, var?_below hb g_syn (Nat.lt_of_lt_of_le g_syn_lt hB) hv⟩
  · obtain ⟨m, hm⟩ := h.mx
    exact ⟨m, (hb.cell (p := ⟨1, 0, none⟩) (Nat.lt_of_lt_of_le g_mx_lt hB)).trans hm⟩
theorem Env.below {w w' : World} (h : Env w) (hb : Below w.heap.size w w') : Env w' := h.keep hb h.lt
theorem Env.drewN {w : World} (h : Env w) (n : Nat) : Env (w.drewN n) := h.below ⟨rfl, rfl, rfl, Nat.le_refl _, fun _ _ => rfl⟩
theorem Env.drew {w : World} (h : Env w) : Env w.drew := h.below ⟨rfl, rfl, rfl, Nat.le_refl _, fun _ _ => rfl⟩
theorem below_drewN (B : Nat) (w : World) (n : Nat) : Below B w (w.drewN n) := ⟨rfl, rfl, rfl, Nat.le_refl _, fun _ _ => rfl⟩
end Go.Proofs.YtpjocfkolnfjiaaGreatDoor
