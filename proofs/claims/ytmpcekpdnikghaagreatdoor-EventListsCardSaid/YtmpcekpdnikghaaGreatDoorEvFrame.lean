/- From what the rows of chapter 36 list to what the walks take; a world for the rows' witnesses. -/
import Derived.Test.YtmpcekpdnikghaaGreatDoorCards
import Derived.Test.YtmpcekpdnikghaaGreatDoorTie
import Derived.Test.YtmpcekpdnikghaaGreatDoorEvEnv
import Derived.WalkKit
import Derived.ProofKit
import Derived.OpenShut
import Derived.LaidMore
import Derived.ChangeSame
import Derived.Stop.LaidErr
import Derived.Deep.DeepHandedRow
import Derived.Deep.DeepWitnessRowRef
import Derived.Lib.LaidTab
import Derived.Shelf.Vars
import Derived.Lay
namespace Go.Proofs.YtmpcekpdnikghaaGreatDoor
open Go.ChangeShapes Go.WideShapes Go.ChangeAt Go.RowKit

theorem own : ownKnob Tryz.prog.godebug = none := by kernel_rfl
theorem laidOut : laidOutB Tryz.prog = true := by kernel_rfl
theorem g_pow_type : (Tryz.prog.globals[2]?).map (·.type) = some 124 := by kernel_rfl
theorem c_pow : Tryz.prog.cellsOf 124 = 20 := by kernel_rfl
theorem c_u64 : Tryz.prog.cellsOf 108 = 1 := by kernel_rfl
theorem g_rs : Tryz.prog.globalNamed "wakeman/event.reasons" = some 0 := by kernel_rfl
theorem g_rs_type : (Tryz.prog.globals[0]?).map (·.type) = some 76 := by kernel_rfl
theorem g_rng_type : (Tryz.prog.globals[6]?).map (·.type) = some 57 := by kernel_rfl
theorem g_syn_type : (Tryz.prog.globals[5]?).map (·.type) = some 57 := by kernel_rfl
theorem c_es : Tryz.prog.cellsOf 142 = 1 := by kernel_rfl
theorem c_str : Tryz.prog.cellsOf 9 = 1 := by kernel_rfl
theorem star : "*" ++ "errors.errorString" = "*errors.errorString" := by decide
theorem rowEs (u : TypeId) (h : Tryz.prog.typeName? 3 u = some "*errors.errorString") : u = 140 :=
  typeName_ptr_named (nm := "errors.errorString") (by rw [star]; kernel_rfl) (by kernel_rfl) (by decide) u (by rw [star]; exact h)

theorem Lx.u8_of {c : Int} (h : (Lit.int .u8 c).wf = true) : ∃ c' : UInt8, c = (c'.toNat : Int) := by
  have := bounds_u8 h
  exact ⟨UInt8.ofNat c.toNat, by rw [UInt8.toNat_ofNat']; omega⟩

theorem heap_ge {W : World} (hsh : W.ShapedOpen Tryz.prog) : Tryz.prog.globals.size ≤ W.heap.size := by
  obtain ⟨o, _, h, _⟩ := hsh.2 Tryz.prog.globals.size (Nat.le_refl _) (of_decide_eq_true (by kernel_rfl))
  exact Nat.le_of_lt (Array.getElem?_eq_some_iff.1 h).1

theorem str_cell {H : Type} {enc : TypeId × Value → H} {w : World} {base : Nat} {sp : Nat → Bool} {held : Bool} {fuel : Nat} {cs : List Value} {l : List UInt8} {x : DataW H × List MemPlace}
    (h : DataW.trod enc Tryz.prog w base sp held fuel 9 cs = some x) (hx : x.1 = .lit (.string l)) : cs[0]? = some (.string ⟨l.toArray⟩) := by
  obtain ⟨s, rfl, rfl, _⟩ := DataW.trod_string Tryz.underlying9 h
  simp only [DataW.lit.injEq, Lit.string.injEq] at hx
  subst hx
  rfl
theorem reasons_of {w : World} {rest : List (String × DataW Unit)} (h : laidMet Tryz.prog (("wakeman/event.reasons", Rows.laid_wakeman_event_reasons) :: rest) w) :
    ∀ i : Nat, i < 7 → w.cell? ⟨0, i, none⟩ = some (.string ⟨(Lx.reasonW i).toArray⟩) := by
  obtain ⟨ps, ⟨g', t', cs, fuel, p, q, hg', ht', hvar, hd, _, _⟩, _⟩ := h
  obtain rfl := Option.some.inj (g_rs.symm.trans hg')
  obtain rfl := Option.some.inj (g_rs_type.symm.trans ht')
  obtain ⟨xs, m, _, hx, hl, hxl, hf⟩ := DataW.trod_array Tryz.underlying76 hd
  have hx1 : Rows.laid_wakeman_event_reasons = DataW.agg (xs.map (·.1)) := congrArg Prod.fst hx
  obtain ⟨y0, y1, y2, y3, y4, y5, y6, rfl⟩ : ∃ y0 y1 y2 y3 y4 y5 y6, xs = [y0, y1, y2, y3, y4, y5, y6] := by
    match xs, hxl with
    | [y0, y1, y2, y3, y4, y5, y6], _ => exact ⟨y0, y1, y2, y3, y4, y5, y6, rfl⟩
  unfold Rows.laid_wakeman_event_reasons at hx1
  simp only [List.map_cons, List.map_nil, DataW.agg.injEq, List.cons.injEq, and_true] at hx1
  obtain ⟨e0, e1, e2, e3, e4, e5, e6⟩ := hx1
  rw [c_str] at hf
  have f0 := str_cell (hf 0 (by omega)) e0.symm
  have f1 := str_cell (hf 1 (by omega)) e1.symm
  have f2 := str_cell (hf 2 (by omega)) e2.symm
  have f3 := str_cell (hf 3 (by omega)) e3.symm
  have f4 := str_cell (hf 4 (by omega)) e4.symm
  have f5 := str_cell (hf 5 (by omega)) e5.symm
  have f6 := str_cell (hf 6 (by omega)) e6.symm
  simp at f0 f1 f2 f3 f4 f5 f6
  have hcell := fun j => World.var?_cell g_rs hvar j
  intro i hi
  rw [hcell i]
  match i, hi with
  | 0, _ => simpa [Lx.reasonW] using f0
  | 1, _ => simpa [Lx.reasonW] using f1
  | 2, _ => simpa [Lx.reasonW] using f2
  | 3, _ => simpa [Lx.reasonW] using f3
  | 4, _ => simpa [Lx.reasonW] using f4
  | 5, _ => simpa [Lx.reasonW] using f5
  | 6, _ => simpa [Lx.reasonW] using f6

theorem env_of {W : World} (h : laidMetH Tryz.prog Rows.eventReadsRow.laid W) (hsh : W.ShapedOpen Tryz.prog) : EEnv W := by
  rw [MakeChecks.laidMetH_plain _ _ _ (by kernel_rfl)] at h
  have h3 : laidMet Tryz.prog (("internal/strconv.uint64pow10", Lib.tabData .u64 Lib.pow10Tab) :: ("unicode/utf8.acceptRanges", Rows.laid_unicode_utf8_acceptRanges) :: ("strconv.ErrRange", Rows.laid_strconv_ErrRange) :: ("strconv.ErrSyntax", Rows.laid_strconv_ErrSyntax) :: ("wakeman/event.reasons", Rows.laid_wakeman_event_reasons) :: ("unicode/utf8.first", Rows.laid_unicode_utf8_first) :: []) W := h.tail.tail
  have h4 := h3.tail.tail
  have h5 := h4.tail
  have h6 := h5.tail
  obtain ⟨a1, s1, hv1, -, -, -⟩ := laid_sentinel h4 g_rng g_rng_type Tryz.underlying57 rowEs Tryz.underlying140 Tryz.underlying142 rfl rfl Tryz.underlying9 c_es c_str
  obtain ⟨a2, s2, hv2, -, -, -⟩ := laid_sentinel h5 g_syn g_syn_type Tryz.underlying57 rowEs Tryz.underlying140 Tryz.underlying142 rfl rfl Tryz.underlying9 c_es c_str
  have hmx : ∃ m, W.cell? ⟨1, 0, none⟩ = some (.int .i64 m) := Go.Proofs.cell_of_shapedOpen_int (zero := #[.int .i64 0]) (t := 3) hsh (of_decide_eq_true (by kernel_rfl)) (by kernel_rfl) rfl (by kernel_rfl) (by kernel_rfl) Tryz.underlying3
  exact ⟨⟨Lib.tabIs_of_head g_pow g_pow_type Tryz.underlying124 Tryz.underlying108 c_u64 c_pow h3, ⟨_, _, hv1⟩, ⟨_, _, hv2⟩, hmx, heap_ge hsh⟩, reasons_of h6⟩

/-! The witness's world, for whatever arguments that bring no block of their own: the listed variables laid by a law. -/
set_option maxRecDepth 100000 in
theorem door_laid (os : Os) (args : Array Value) : laidMetH Tryz.prog Rows.eventReadsRow.laid ((World.laidAll Tryz.prog os Rows.eventReadsRow.laid).forCall (fun _ _ => 0) ⟨#[], args, []⟩).memory := by
  rw [MakeChecks.laidMetH_plain _ _ _ (by kernel_rfl)]
  exact laidMet_laidAll _ (by kernel_rfl) (by kernel_rfl)
theorem door_vars (os : Os) (args : Array Value) : ((World.laidAll Tryz.prog os Rows.eventReadsRow.laid).forCall (fun _ _ => 0) ⟨#[], args, []⟩).variablesRefB Tryz.checked.prog = true := by kernel_rfl
theorem door_rest (os : Os) (args : Array Value) : (((World.laidAll Tryz.prog os Rows.eventReadsRow.laid).forCall (fun _ _ => 0) ⟨#[], args, []⟩).heap.toList.drop Tryz.checked.prog.globals.size).take ((begin Tryz.checked.prog (fun _ _ => 0) default).world.heap.size - Tryz.checked.prog.globals.size) =
    (begin Tryz.checked.prog (fun _ _ => 0) default).world.heap.toList.drop Tryz.checked.prog.globals.size := by kernel_rfl
end Go.Proofs.YtmpcekpdnikghaaGreatDoor
