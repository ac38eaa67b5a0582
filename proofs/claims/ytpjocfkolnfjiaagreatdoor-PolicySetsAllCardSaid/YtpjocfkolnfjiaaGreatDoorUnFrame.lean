/- From what the rows of chapter 13 list to what the walks take; a world for the rows' witnesses. -/
import Derived.Test.YtpjocfkolnfjiaaGreatDoorCards
import Derived.Test.YtpjocfkolnfjiaaGreatDoorTie
import Derived.Test.YtpjocfkolnfjiaaGreatDoorUnEnv
import Derived.WalkKit
import Derived.ProofKit
import Derived.OpenShut
import Derived.LaidMore
import Derived.ChangeSame
import Derived.Stop.LaidErr
import Derived.Deep.DeepHandedRow
import Derived.Deep.DeepWitnessRowRef
import Derived.Lib.LaidTab
import Derived.Lib.TrailingZeros
import Derived.Shelf.Vars
import Derived.Lay
namespace Go.Proofs.YtpjocfkolnfjiaaGreatDoor
open Go.ChangeShapes Go.WideShapes Go.ChangeAt Go.RowKit

theorem own : ownKnob Tryz.prog.godebug = none := by kernel_rfl
theorem laidOut : laidOutB Tryz.prog = true := by kernel_rfl
theorem g_pow_type : (Tryz.prog.globals[4]?).map (·.type) = some 160 := by kernel_rfl
theorem c_pow : Tryz.prog.cellsOf 160 = 20 := by kernel_rfl
theorem c_u64 : Tryz.prog.cellsOf 145 = 1 := by kernel_rfl
theorem g_db : Tryz.prog.globalNamed "math/bits.deBruijn64tab" = some 6 := by kernel_rfl
theorem g_db_type : (Tryz.prog.globals[6]?).map (·.type) = some 176 := by kernel_rfl
theorem c_db : Tryz.prog.cellsOf 176 = 64 := by kernel_rfl
theorem c_u8 : Tryz.prog.cellsOf 5 = 1 := by kernel_rfl
theorem g_un : Tryz.prog.globalNamed "wakeman/units.units" = some 0 := by kernel_rfl
theorem g_un_type : (Tryz.prog.globals[0]?).map (·.type) = some 135 := by kernel_rfl
theorem c_unit : Tryz.prog.cellsOf 134 = 2 := by kernel_rfl
theorem c_i64 : Tryz.prog.cellsOf 2 = 1 := by kernel_rfl
theorem g_rng_type : (Tryz.prog.globals[8]?).map (·.type) = some 93 := by kernel_rfl
theorem g_syn_type : (Tryz.prog.globals[7]?).map (·.type) = some 93 := by kernel_rfl
theorem c_es : Tryz.prog.cellsOf 185 = 1 := by kernel_rfl
theorem c_str : Tryz.prog.cellsOf 9 = 1 := by kernel_rfl
theorem star : "*" ++ "errors.errorString" = "*errors.errorString" := by decide
theorem rowEs (u : TypeId) (h : Tryz.prog.typeName? 3 u = some "*errors.errorString") : u = 183 :=
  typeName_ptr_named (nm := "errors.errorString") (by rw [star]; kernel_rfl) (by kernel_rfl) (by decide) u (by rw [star]; exact h)

theorem Lx.u8_of {c : Int} (h : (Lit.int .u8 c).wf = true) : ∃ c' : UInt8, c = (c'.toNat : Int) := by
  have := bounds_u8 h
  exact ⟨UInt8.ofNat c.toNat, by rw [UInt8.toNat_ofNat']; omega⟩

theorem heap_ge {W : World} (hsh : W.ShapedOpen Tryz.prog) : Tryz.prog.globals.size ≤ W.heap.size := by
  obtain ⟨o, _, h, _⟩ := hsh.2 Tryz.prog.globals.size (Nat.le_refl _) (of_decide_eq_true (by kernel_rfl))
  exact Nat.le_of_lt (Array.getElem?_eq_some_iff.1 h).1

/-- One unit, as it is laid. -/
theorem unit_cells {H : Type} {enc : TypeId × Value → H} {w : World} {base : Nat} {sp : Nat → Bool} {held : Bool} {fuel : Nat} {cs : List Value} {a b : Int} {x : DataW H × List MemPlace}
    (h : DataW.trod enc Tryz.prog w base sp held fuel 134 cs = some x) (hx : x.1 = .agg [.lit (.int .u8 a), .lit (.int .i64 b)]) : cs[0]? = some (.int .u8 a) ∧ cs[1]? = some (.int .i64 b) := by
  obtain ⟨y0, y1, n, rfl, hl, h0, h1⟩ := trod_struct2 Tryz.underlying134 h
  obtain ⟨n0, e0, r0, _⟩ := DataW.trod_int Tryz.underlying5 h0
  obtain ⟨n1, e1, r1, _⟩ := DataW.trod_int Tryz.underlying2 h1
  simp only [DataW.agg.injEq, List.cons.injEq, and_true] at hx
  rw [r0, r1] at hx
  simp only [DataW.lit.injEq, Lit.int.injEq, true_and] at hx
  obtain ⟨rfl, rfl⟩ := hx
  have k0 := congrArg (·[0]?) e0
  have k1 := congrArg (·[0]?) e1
  rw [c_u8] at k0
  rw [c_i64] at k1
  simp at k0 k1
  exact ⟨k0, k1⟩
theorem units_of {w : World} {rest : List (String × DataW Unit)} (h : laidMet Tryz.prog (("wakeman/units.units", Rows.laid_wakeman_units_units) :: rest) w) :
    ∀ (j : Nat) (v : Value), unitCells[j]? = some v → w.cell? ⟨0, j, none⟩ = some v := by
  obtain ⟨ps, ⟨g', t', cs, fuel, p, q, hg', ht', hvar, hd, _, _⟩, _⟩ := h
  obtain rfl := Option.some.inj (g_un.symm.trans hg')
  obtain rfl := Option.some.inj (g_un_type.symm.trans ht')
  obtain ⟨xs, m, _, hx, hl, hxl, hf⟩ := DataW.trod_array Tryz.underlying135 hd
  have hx1 : Rows.laid_wakeman_units_units = DataW.agg (xs.map (·.1)) := congrArg Prod.fst hx
  obtain ⟨y0, y1, y2, y3, rfl⟩ : ∃ y0 y1 y2 y3, xs = [y0, y1, y2, y3] := by
    match xs, hxl with
    | [y0, y1, y2, y3], _ => exact ⟨y0, y1, y2, y3, rfl⟩
  unfold Rows.laid_wakeman_units_units at hx1
  simp only [List.map_cons, List.map_nil, DataW.agg.injEq, List.cons.injEq, and_true] at hx1
  obtain ⟨e0, e1, e2, e3⟩ := hx1
  rw [c_unit] at hf
  have f0 := unit_cells (hf 0 (by omega)) e0.symm
  have f1 := unit_cells (hf 1 (by omega)) e1.symm
  have f2 := unit_cells (hf 2 (by omega)) e2.symm
  have f3 := unit_cells (hf 3 (by omega)) e3.symm
  simp at f0 f1 f2 f3
  have hcell := fun j => World.var?_cell g_un hvar j
  intro j v hj
  rw [hcell j]
  match j, hj with
  | 0, hj => simp [unitCells] at hj; subst hj; simpa using f0.1
  | 1, hj => simp [unitCells] at hj; subst hj; simpa using f0.2
  | 2, hj => simp [unitCells] at hj; subst hj; simpa using f1.1
  | 3, hj => simp [unitCells] at hj; subst hj; simpa using f1.2
  | 4, hj => simp [unitCells] at hj; subst hj; simpa using f2.1
  | 5, hj => simp [unitCells] at hj; subst hj; simpa using f2.2
  | 6, hj => simp [unitCells] at hj; subst hj; simpa using f3.1
  | 7, hj => simp [unitCells] at hj; subst hj; simpa using f3.2
  | j + 8, hj => simp [unitCells] at hj

theorem env_of {W : World} (h : laidMetH Tryz.prog Rows.policySetsAllRow.laid W) (hsh : W.ShapedOpen Tryz.prog) : UEnv W := by
  rw [MakeChecks.laidMetH_plain _ _ _ (by kernel_rfl)] at h
  have h1 : laidMet Tryz.prog (("math/bits.deBruijn64tab", Lib.tabData .u8 (Lib.deBruijn64tab.map fun n : Nat => (n : Int))) :: ("internal/strconv.uint64pow10", Lib.tabData .u64 Lib.pow10Tab) :: ("unicode/utf8.acceptRanges", Rows.laid_unicode_utf8_acceptRanges) :: ("strconv.ErrRange", Rows.laid_strconv_ErrRange) :: ("strconv.ErrSyntax", Rows.laid_strconv_ErrSyntax) :: ("wakeman/units.units", Rows.laid_wakeman_units_units) :: ("unicode/utf8.first", Rows.laid_unicode_utf8_first) :: []) W := h.tail
  have h2 := h1.tail
  have h4 := h2.tail.tail
  have h5 := h4.tail
  have h6 := h5.tail
  obtain ⟨a1, s1, hv1, -, -, -⟩ := laid_sentinel h4 g_rng g_rng_type Tryz.underlying93 rowEs Tryz.underlying183 Tryz.underlying185 rfl rfl Tryz.underlying9 c_es c_str
  obtain ⟨a2, s2, hv2, -, -, -⟩ := laid_sentinel h5 g_syn g_syn_type Tryz.underlying93 rowEs Tryz.underlying183 Tryz.underlying185 rfl rfl Tryz.underlying9 c_es c_str
  have hdb : Lib.TabIs Tryz.prog W "math/bits.deBruijn64tab" .u8 (Lib.deBruijn64tab.map fun n : Nat => (n : Int)) := Lib.tabIs_of_head g_db g_db_type Tryz.underlying176 Tryz.underlying5 c_u8 c_db h1
  have hmx : ∃ m, W.cell? ⟨1, 0, none⟩ = some (.int .i64 m) := Go.Proofs.cell_of_shapedOpen_int (zero := #[.int .i64 0]) (t := 3) hsh (of_decide_eq_true (by kernel_rfl)) (by kernel_rfl) rfl (by kernel_rfl) (by kernel_rfl) Tryz.underlying3
  exact ⟨⟨Lib.tabIs_of_head g_pow g_pow_type Tryz.underlying160 Tryz.underlying145 c_u64 c_pow h2, ⟨_, _, hv1⟩, ⟨_, _, hv2⟩, hmx, heap_ge hsh⟩, units_of h6,
    (World.var?_cell g_db hdb 15).trans (by rfl)⟩

/-! The witness's world, for whatever arguments that bring no block of their own: the listed variables laid by a law. -/
set_option maxRecDepth 100000 in
theorem door_laid (os : Os) (args : Array Value) : laidMetH Tryz.prog Rows.policySetsAllRow.laid ((World.laidAll Tryz.prog os Rows.policySetsAllRow.laid).forCall (fun _ _ => 0) ⟨#[], args, []⟩).memory := by
  rw [MakeChecks.laidMetH_plain _ _ _ (by kernel_rfl)]
  exact laidMet_laidAll _ (by kernel_rfl) (by kernel_rfl)
theorem door_vars (os : Os) (args : Array Value) : ((World.laidAll Tryz.prog os Rows.policySetsAllRow.laid).forCall (fun _ _ => 0) ⟨#[], args, []⟩).variablesRefB Tryz.checked.prog = true := by kernel_rfl
theorem door_rest (os : Os) (args : Array Value) : (((World.laidAll Tryz.prog os Rows.policySetsAllRow.laid).forCall (fun _ _ => 0) ⟨#[], args, []⟩).heap.toList.drop Tryz.checked.prog.globals.size).take ((begin Tryz.checked.prog (fun _ _ => 0) default).world.heap.size - Tryz.checked.prog.globals.size) =
    (begin Tryz.checked.prog (fun _ _ => 0) default).world.heap.toList.drop Tryz.checked.prog.globals.size := by kernel_rfl
end Go.Proofs.YtpjocfkolnfjiaaGreatDoor
