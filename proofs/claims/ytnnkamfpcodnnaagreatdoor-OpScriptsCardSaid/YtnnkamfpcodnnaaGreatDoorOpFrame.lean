/- From what the rows list to what the walks take; a world for the rows' witnesses. -/
import Derived.Test.YtnnkamfpcodnnaaGreatDoorCards
import Derived.Test.YtnnkamfpcodnnaaGreatDoorTie
import Derived.Test.YtnnkamfpcodnnaaGreatDoorEnv
import Derived.WalkKit
import Derived.ProofKit
import Derived.OpenShut
import Derived.LaidMore
import Derived.Stop.LaidErr
import Derived.Deep.DeepHandedRow
import Derived.Deep.DeepWitnessRowRef
import Derived.Lib.LaidTab
import Derived.Shelf.Vars
namespace Go.Proofs.YtnnkamfpcodnnaaGreatDoor
open Go.ChangeShapes Go.WideShapes Go.ChangeAt Go.RowKit

theorem own : ownKnob Tryz.prog.godebug = none := by kernel_rfl
theorem laidOut : laidOutB Tryz.prog = true := by kernel_rfl
theorem g_pow_type : (Tryz.prog.globals[1]?).map (·.type) = some 128 := by kernel_rfl
theorem c_pow : Tryz.prog.cellsOf 128 = 20 := by kernel_rfl
theorem c_u64 : Tryz.prog.cellsOf 119 = 1 := by kernel_rfl
theorem g_rng_type : (Tryz.prog.globals[3]?).map (·.type) = some 55 := by kernel_rfl
theorem g_syn_type : (Tryz.prog.globals[2]?).map (·.type) = some 55 := by kernel_rfl
theorem c_es : Tryz.prog.cellsOf 148 = 1 := by kernel_rfl
theorem c_str : Tryz.prog.cellsOf 9 = 1 := by kernel_rfl
theorem star : "*" ++ "errors.errorString" = "*errors.errorString" := by decide
theorem rowEs (u : TypeId) (h : Tryz.prog.typeName? 3 u = some "*errors.errorString") : u = 146 :=
  typeName_ptr_named (nm := "errors.errorString") (by rw [star]; kernel_rfl) (by kernel_rfl) (by decide) u (by rw [star]; exact h)

theorem Lx.u8_of {c : Int} (h : (Lit.int .u8 c).wf = true) : ∃ c' : UInt8, c = (c'.toNat : Int) := by
  have := bounds_u8 h
  exact ⟨UInt8.ofNat c.toNat, by rw [UInt8.toNat_ofNat']; omega⟩

theorem heap_ge {W : World} (hsh : W.ShapedOpen Tryz.prog) : Tryz.prog.globals.size ≤ W.heap.size := by
  obtain ⟨o, _, h, _⟩ := hsh.2 Tryz.prog.globals.size (Nat.le_refl _) (of_decide_eq_true (by kernel_rfl))
  exact Nat.le_of_lt (Array.getElem?_eq_some_iff.1 h).1

/-- The five variables that the rows list, and the shape of the world, give the walks' premise. -/
theorem env_of {W : World} (h : laidMetH Tryz.prog Rows.opReadsRow.laid W) (hsh : W.ShapedOpen Tryz.prog) : Env W := by
  rw [MakeChecks.laidMetH_plain _ _ _ (by kernel_rfl)] at h
  have h3 : laidMet Tryz.prog (("internal/strconv.uint64pow10", Lib.tabData .u64 Lib.pow10Tab) :: ("strconv.ErrRange", Rows.laid_strconv_ErrRange) :: ("strconv.ErrSyntax", Rows.laid_strconv_ErrSyntax) :: []) W := h.tail.tail
  have h4 := h3.tail
  have h5 := h4.tail
  obtain ⟨a1, s1, hv1, -, -, -⟩ := laid_sentinel h4 g_rng g_rng_type Tryz.underlying55 rowEs Tryz.underlying146 Tryz.underlying148 rfl rfl Tryz.underlying9 c_es c_str
  obtain ⟨a2, s2, hv2, -, -, -⟩ := laid_sentinel h5 g_syn g_syn_type Tryz.underlying55 rowEs Tryz.underlying146 Tryz.underlying148 rfl rfl Tryz.underlying9 c_es c_str
  have hmx : ∃ m, W.cell? ⟨0, 0, none⟩ = some (.int .i64 m) := Go.Proofs.cell_of_shapedOpen_int (zero := #[.int .i64 0]) (t := 3) hsh (of_decide_eq_true (by kernel_rfl)) (by kernel_rfl) rfl (by kernel_rfl) (by kernel_rfl) Tryz.underlying3
  exact ⟨Lib.tabIs_of_head g_pow g_pow_type Tryz.underlying128 Tryz.underlying119 c_u64 c_pow h3, ⟨_, _, hv1⟩, ⟨_, _, hv2⟩, hmx, heap_ge hsh⟩

/-! The witness's world, for whatever arguments that bring no block of their own: the heap that the door's own run leaves. -/
set_option maxRecDepth 100000 in
theorem door_laid (os : Os) (args : Array Value) : laidMetH Tryz.prog Rows.opReadsRow.laid ((World.doorLaid Tryz.prog 72 os).forCall (fun _ _ => 0) ⟨#[], args, []⟩).memory := by
  rw [MakeChecks.laidMetH_plain _ _ _ (by kernel_rfl)]
  exact laidMet_of_run' 8 (by kernel_rfl) (by kernel_rfl)
theorem door_vars (os : Os) (args : Array Value) : ((World.doorLaid Tryz.prog 72 os).forCall (fun _ _ => 0) ⟨#[], args, []⟩).variablesRefB Tryz.checked.prog = true := by kernel_rfl
theorem door_rest (os : Os) (args : Array Value) : (((World.doorLaid Tryz.prog 72 os).forCall (fun _ _ => 0) ⟨#[], args, []⟩).heap.toList.drop Tryz.checked.prog.globals.size).take ((begin Tryz.checked.prog (fun _ _ => 0) default).world.heap.size - Tryz.checked.prog.globals.size) =
    (begin Tryz.checked.prog (fun _ _ => 0) default).world.heap.toList.drop Tryz.checked.prog.globals.size := by kernel_rfl
end Go.Proofs.YtnnkamfpcodnnaaGreatDoor
