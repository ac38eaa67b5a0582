/- The walk of lex.Lines: the lines that it returns lie in a row of its own. -/
import Derived.RangeFuncNested
import Derived.RangeFuncBound
import Derived.RangeFuncCalls
import Derived.RangeFuncLeaves
import Derived.RangeFuncBox
import Derived.Shelf.Abstract
import Derived.Shelf.RegionOpen
import Derived.WalkKit
import Derived.OwnWalkIn
import Derived.TacticsInMore
import Derived.LoopNIn
import Derived.LoopIn
import Derived.Maps.AppendAt
import Derived.Lib.Hide
import Derived.Test.YtmpcekpdnikghaaGreatDoorProg
import Derived.Test.YtmpcekpdnikghaaGreatDoorLx
import Derived.Test.YtmpcekpdnikghaaGreatDoorPiecesLx
import Derived.Test.YtmpcekpdnikghaaGreatDoorPieces
namespace Go.Proofs.YtmpcekpdnikghaaGreatDoor
open Go.RowKit Go.Shelf
attribute [local go_sem] Oper.semAt_some

namespace Lx
/-- The lines among the pieces. -/
def linesOf (n : Nat) (ps : List (Nat × ByteArray)) : List (Nat × ByteArray) := ps.filter fun x => decide (x.1 < n)
/-- The cells of lines. -/
def lineCells (l : List (Nat × ByteArray)) : List Value := l.zipIdx.flatMap fun x => [.int .i64 ((x.2 : Int) + 1), .int .i64 (x.1.1 : Int), .string x.1.2]
theorem lineCells_snoc (l : List (Nat × ByteArray)) (x : Nat × ByteArray) : lineCells (l ++ [x]) = lineCells l ++ [.int .i64 ((l.length : Int) + 1), .int .i64 (x.1 : Int), .string x.2] := by
  simp [lineCells, List.zipIdx_append]
theorem lineCells_length (l : List (Nat × ByteArray)) : (lineCells l).length = l.length * 3 := by
  have : ∀ (m : List ((Nat × ByteArray) × Nat)), (m.flatMap fun x => ([.int .i64 ((x.2 : Int) + 1), .int .i64 (x.1.1 : Int), .string x.1.2] : List Value)).length = m.length * 3 := by
    intro m; induction m with
    | nil => rfl
    | cons a m ih => simp only [List.flatMap_cons, List.length_append, ih, List.length_cons, List.length_nil]; omega
  rw [lineCells, this, List.length_zipIdx]
theorem linesOf_hit (n : Nat) (ps : List (Nat × ByteArray)) (x : Nat × ByteArray) (h : x.1 < n) : linesOf n (ps ++ [x]) = linesOf n ps ++ [x] := by
  simp [linesOf, h]
theorem linesOf_miss (n : Nat) (ps : List (Nat × ByteArray)) (x : Nat × ByteArray) (h : ¬ x.1 < n) : linesOf n (ps ++ [x]) = linesOf n ps := by
  simp [linesOf, h]
theorem slice_of_row {w : World} {base : Nat} {e : TypeId} {size : Nat} {v : Value} {n : Nat} {xs : List Value} (h : w.ownsRow base e size v n xs) : ∃ ad cap, v = .slice ad n cap := by
  rcases h.2 with ⟨rfl, h0⟩ | ⟨g, cap, _, rfl, _⟩
  · exact ⟨none, 0, by simp_all⟩
  · exact ⟨_, cap, rfl⟩
theorem cell_three_new (w : World) (a b c : Value) (t : TypeId) : ∀ j u, [a, b, c][j]? = some u → (w.alloc (.cells #[a, b, c] t)).cell? ((⟨w.heap.size, 0, none⟩ : Addr).add j) = some u := by
  intro j u hj
  match j, hj with
  | 0, hj => simp at hj; subst hj; simp [Addr.add]
  | 1, hj => simp at hj; subst hj; simp [Addr.add]
  | 2, hj => simp at hj; subst hj; simp [Addr.add]
end Lx

theorem kpP_putObj {B l : Nat} {W : World} {o' : Obj} (h : B + 1 < l) : KpP B W (W.putObj l o') :=
  ⟨World.cell?_of_block (World.putObj_heap_other (by show B ≠ l; omega)), World.cell?_of_block (World.putObj_heap_other (by show B + 1 ≠ l; omega))⟩
theorem infoLine : (Tryz.prog.info? 51).map (fun i => (i.zero, i.size, i.bytes)) = some (some (.agg #[.int .i64 0, .int .i64 0, .string ⟨#[]⟩]), 3, 32) := by kernel_rfl

set_option maxRecDepth 100000 in
set_option maxHeartbeats 1000000 in
theorem lines_in (s : ByteArray) (w : World) (hs : s.size ≤ 65536) :
    CallsIn Fence.wide 9 Tryz.prog 29 #[.string s] w fun e W' => ∃ v, e = .returned (.tuple #[v, .int .i64 0]) ∧
      W'.ownsRow w.heap.size 51 3 v (Lx.linesOf s.size (Lx.pieces s isLF)).length (Lx.lineCells (Lx.linesOf s.size (Lx.pieces s isLF))) ∧ Below w.heap.size w W' := by
  obtain ⟨i0, hi, hz0, hz1, hz2⟩ := info_parts infoLine
  refine callsIn_of_wp_marks Tryz.func29 rfl trivial ?_ rfl
  simp only [Tryz.ntmps29, List.size_toArray, List.length_cons, List.length_nil, Nat.reduceAdd, Nat.reduceSub, Array.replicate_succ, Array.replicate_zero, List.push_toArray, List.append_toArray, List.nil_append, List.cons_append]
  gi_wp2_with (refine ⟨trivial, ?_⟩; gi_at_call 48; refine (callsIn_wide.2 (pieces_any _ _ _)).mono ?_; rintro e w' ⟨rfl, rfl⟩)
  have b0 := Boxed.new w 9 (.string s)
  have b1 := Boxed.new (w.alloc (.cells #[.string s] 9)) 47 (.slice none 0 0)
  have b2 := Boxed.new ((w.alloc (.cells #[.string s] 9)).alloc (.cells #[.slice none 0 0] 47)) 9 (.string s)
  have b3 := Boxed.new (((w.alloc (.cells #[.string s] 9)).alloc (.cells #[.slice none 0 0] 47)).alloc (.cells #[.string s] 9)) 84 (.func (.func 49) #[] #[])
  simp only [World.size_alloc] at b1 b2 b3
  have hB0 : Below w.heap.size w ((((w.alloc (.cells #[.string s] 9)).alloc (.cells #[.slice none 0 0] 47)).alloc (.cells #[.string s] 9)).alloc (.cells #[.func (.func 49) #[] #[]] 84)) :=
    ((((Below.refl _ w).alloc (Nat.le_refl _) _).alloc (by simp) _).alloc (by simp; omega) _).alloc (by simp; omega) _
  have hseq : ∀ w0, w0 = ((((w.alloc (.cells #[.string s] 9)).alloc (.cells #[.slice none 0 0] 47)).alloc (.cells #[.string s] 9)).alloc (.cells #[.func (.func 49) #[] #[]] 84)) →
      SeqStopsK Fence.wide (9 - 1) Tryz.prog 62 #[.pointer (some ⟨w.heap.size + 2, 0, none⟩), .pointer (some ⟨w.heap.size + 2 + 1, 0, none⟩)] encP (KpP (w.heap.size + 2)) (fun xs => xs = Lx.pieces s isLF) (fun _ => True) (s.size + 1) w0 := by
    rintro w0 rfl l J Jx W hW hJ _ hY h0
    exact lines_iter 8 (by omega) l (w.heap.size + 2) s (by omega) J Jx W hJ hY ((hW.cell (p := ⟨w.heap.size + 2, 0, none⟩) (by simp)).trans (b2.alloc _).cell) ((hW.cell (p := ⟨w.heap.size + 2 + 1, 0, none⟩) (by simp)).trans b3.cell) h0
  refine wpIn_rangeFunc_ownG rfl (by omega) (gf := 62) (lb := #[.pointer (some ⟨w.heap.size + 2, 0, none⟩), .pointer (some ⟨w.heap.size + 2 + 1, 0, none⟩)]) rfl trivial (enters_of Tryz.func62 (by kernel_rfl) rfl)
    (hseq _ rfl) (fun h k => ⟨k.1.trans h.1, k.2.trans h.2⟩) (fun W l o o' hl h ho _ => kpP_putObj (by simp at hl; omega)) (Below.refl _ _) (fun _ => rfl)
    (fun pre W => (((∃ v, Boxed W (w.heap.size + 1) 47 v ∧ W.ownsRow w.heap.size 51 3 v (Lx.linesOf s.size pre).length (Lx.lineCells (Lx.linesOf s.size pre)) ∧ True) ∧ Boxed W w.heap.size 9 (.string s)) ∧ (Boxed W (w.heap.size + 2) 9 (.string s) ∧ Boxed W (w.heap.size + 2 + 1) 84 (.func (.func 49) #[] #[]))) ∧ Below w.heap.size w W)
    (fun _ _ _ => False)
    (OwnFrom.and (OwnFrom.and (OwnFrom.and (Own.from (holdsRow_own w.heap.size (w.heap.size + 1) 47 51 3 (fun pre => (Lx.linesOf s.size pre).length) (fun pre => Lx.lineCells (Lx.linesOf s.size pre)) (fun pre v => True)) _) (Own.from (boxed_own _ _ _) _)) (OwnFrom.and (Own.from (boxed_own _ _ _) _) (Own.from (boxed_own _ _ _) _))) (ownFrom_below (Nat.le_refl _) (by simp; omega)))
    (fun _ _ _ _ _ hs _ _ => hs)
    ⟨⟨⟨⟨_, (b1.alloc _).alloc _, World.ownsRow_nil _ _ _ _, trivial⟩, ((b0.alloc _).alloc _).alloc _⟩, b2.alloc _, b3⟩, hB0⟩
    (fun x => { tmps := #[.string s, .pointer (some ⟨w.heap.size, 0, none⟩), .slice none 0 0, .int .i64 0, .pointer (some ⟨w.heap.size + 1, 0, none⟩), .int .i64 (x.1 : Int), .string x.2, .string s, .int .i64 s.size, .bool (decide (65536 < (s.size : Int))), .string s, .func (.func 62) #[] #[.pointer (some ⟨w.heap.size + 2, 0, none⟩), .pointer (some ⟨w.heap.size + 2 + 1, 0, none⟩)], .int .i64 (x.1 : Int), .string x.2, undef, undef, undef, undef, undef, undef, undef, undef, undef, undef, undef, undef, undef, undef], defers := [] }) ?assign ?body ?done ?stop
  case assign =>
    intro l x W K hK
    gi_wp2
    exact hK
  case body =>
    rintro l pre x W ⟨⟨⟨⟨v, hv, hrow, _⟩, hb0⟩, hb2, hb3⟩, hB⟩ hlt
    have hc := hv.cell
    have hcs := hb0.cell
    have hf := hv.frozen
    have hpl : (Lx.linesOf s.size pre).length ≤ pre.length := List.length_filter_le _ _
    by_cases hx : x.1 < s.size
    · have hxb : (x.1 : Int) < (s.size : Int) := by omega
      have hsn := Lx.linesOf_hit s.size pre x hx
      have hln := Lx.lineCells_snoc (Lx.linesOf s.size pre) x
      obtain ⟨m, hm⟩ : ∃ m, (Lx.linesOf s.size pre).length = m := ⟨_, rfl⟩
      rw [hm] at hrow hpl hln
      have hlen : ∃ ad cap, v = .slice ad m cap := Lx.slice_of_row hrow
      obtain ⟨ad, cap, rfl⟩ := hlen
      have Hsn := Lib.hid hsn
      have Hln := Lib.hid hln
      have Hm := Lib.hid hm
      clear hsn hln hm hx
      gi_wp2_with (gi_at_builtin; refine wpListIn_append_own _ rfl _ _ 47 rfl w.heap.size 51 i0 _ 3 32 Tryz.underlying47 hi hz0 hz1 hz2 rfl (by decide) _ _ _ rfl (hrow.alloc _) ⟨W.heap.size, 0, none⟩ 1 1 [.int .i64 ((m : Int) + 1), .int .i64 (x.1 : Int), .string x.2] rfl rfl (Lx.cell_three_new _ _ _ _ _) (by simp [Value.oneCell']) (by unfold maxLen; omega) (by omega) (by have := hB.size; simp; omega) ?_; intro v' w1 hown' hgrow _; obtain ⟨g', cap', rfl⟩ := ownsRow_succ hown'; obtain ⟨hv1, hv2, hr2, hk2, hb2'⟩ := hv.appended (by decide) hrow hB.size (by omega) hown' hgrow; have hc1 := hv1.cell; have hf1 := hv1.frozen)
      have k0 := ((hb0.alloc (.cells #[.int .i64 ((m : Int) + 1), .int .i64 (x.1 : Int), .string x.2] 51)).kept hgrow (hb0.not_row (by decide) hrow)).other (B' := w.heap.size + 1) (by omega) (.slice (some ⟨g', 0, none⟩) (m + 1) cap')
      have k2 := ((hb2.alloc (.cells #[.int .i64 ((m : Int) + 1), .int .i64 (x.1 : Int), .string x.2] 51)).kept hgrow (hb2.not_row (by decide) hrow)).other (B' := w.heap.size + 1) (by omega) (.slice (some ⟨g', 0, none⟩) (m + 1) cap')
      have k3 := ((hb3.alloc (.cells #[.int .i64 ((m : Int) + 1), .int .i64 (x.1 : Int), .string x.2] 51)).kept hgrow (hb3.not_row (by decide) hrow)).other (B' := w.heap.size + 1) (by omega) (.slice (some ⟨g', 0, none⟩) (m + 1) cap')
      refine ⟨hk2.from _, ⟨k2.cell.trans hb2.cell.symm, k3.cell.trans hb3.cell.symm⟩, ⟨⟨⟨⟨_, hv2, ?_, trivial⟩, k0⟩, k2, k3⟩, hB.trans hb2'⟩⟩
      rw [Hsn.out, Hln.out, List.length_append, Hm.out]
      exact hr2
    · have hxb : (s.size : Int) ≤ (x.1 : Int) := by omega
      have hsn := Lx.linesOf_miss s.size pre x hx
      have Hsn := Lib.hid hsn
      clear hsn hx
      gi_wp2
      refine ⟨KeepsFrom.refl _ _, ⟨rfl, rfl⟩, ?_⟩
      exact ⟨⟨⟨⟨v, hv, by rw [Hsn.out]; exact hrow, trivial⟩, hb0⟩, hb2, hb3⟩, hB⟩
  case done =>
    rintro D ys W hD rfl ⟨⟨⟨⟨v, hv, hrow, _⟩, hb0⟩, hb2, hb3⟩, hB⟩ hK
    have hc := hv.cell
    gi_wp2
    refine ⟨by simp, .inl ⟨_, _, rfl, run_takeDeferred hK, ?_⟩⟩
    exact ⟨_, results_tmp2 rfl _ _ _, v, rfl, ownsRow_putObj hrow _ hK rfl, hB.trans (belowK_b (w := w) (Nat.le_refl _) W D _ _ (by simp at hD; omega) hK rfl rfl)⟩
  case stop =>
    rintro D c pre W _ _ h _
    exact h.elim

theorem lines_any (s : ByteArray) (w : World) (hs : s.size ≤ 65536) :
    Calls Tryz.prog 29 #[.string s] w fun e W' => ∃ v, e = .returned (.tuple #[v, .int .i64 0]) ∧
      W'.ownsRow w.heap.size 51 3 v (Lx.linesOf s.size (Lx.pieces s isLF)).length (Lx.lineCells (Lx.linesOf s.size (Lx.pieces s isLF))) ∧ Below w.heap.size w W' :=
  callsIn_wide.1 (lines_in s w hs)

theorem lines_long (s : ByteArray) (w : World) (hs : 65536 < s.size) :
    Calls Tryz.prog 29 #[.string s] w fun e W' => e = .returned (.tuple #[.slice none 0 0, .int .i64 11]) ∧ Below w.heap.size w W' := by
  have hs2 : (65536 : Int) < (s.size : Int) := by omega
  go_enter Tryz.func29, Tryz.ntmps29
  go_wp2
  go_ret2
  exact ⟨rfl, (Below.refl _ w).alloc (Nat.le_refl _) _⟩
end Go.Proofs.YtmpcekpdnikghaaGreatDoor
