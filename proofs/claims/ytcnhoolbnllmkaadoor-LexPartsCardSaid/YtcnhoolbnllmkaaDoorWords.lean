/- The walk of lex.Words: the words that it returns lie in a row of its own. -/
import Derived.RangeFuncNested
import Derived.RangeFuncBound
import Derived.RangeFuncCalls
import Derived.RangeFuncLeaves
import Derived.RangeFuncBox
import Derived.Shelf.Abstract
import Derived.Shelf.RegionOpen
import Derived.WalkKit
import Derived.OwnWalkIn
import Derived.TacticsInMore
import Derived.LoopNIn
import Derived.LoopIn
import Derived.Maps.AppendAt
import Derived.Lib.Hide
import Derived.Test.YtcnhoolbnllmkaaDoorProg
import Derived.Test.YtcnhoolbnllmkaaDoorLx
import Derived.Test.YtcnhoolbnllmkaaDoorPiecesLx
import Derived.Test.YtcnhoolbnllmkaaDoorPieces
import Derived.Test.YtcnhoolbnllmkaaDoorLines
namespace Go.Proofs.YtcnhoolbnllmkaaDoor
open Go.RowKit Go.Shelf
attribute [local go_sem] Oper.semAt_some

namespace Lx
/-- The words among the pieces. -/
def wordsOf (ps : List (Nat × ByteArray)) : List (Nat × ByteArray) := ps.filter fun x => decide (x.2.size ≠ 0)
/-- The cells of words. -/
def wordCells (l : List (Nat × ByteArray)) : List Value := l.flatMap fun x => [.int .i64 (x.1 : Int), .string x.2]
theorem wordCells_snoc (l : List (Nat × ByteArray)) (x : Nat × ByteArray) : wordCells (l ++ [x]) = wordCells l ++ [.int .i64 (x.1 : Int), .string x.2] := by
  simp [wordCells]
theorem wordCells_length (l : List (Nat × ByteArray)) : (wordCells l).length = l.length * 2 := by
  induction l with
  | nil => rfl
  | cons a m ih => unfold wordCells at *; simp only [List.flatMap_cons, List.length_append, ih, List.length_cons, List.length_nil]; omega
theorem wordsOf_hit (ps : List (Nat × ByteArray)) (x : Nat × ByteArray) (h : x.2.size ≠ 0) : wordsOf (ps ++ [x]) = wordsOf ps ++ [x] := by
  rw [wordsOf, List.filter_append, List.filter_cons_of_pos (by simpa using h)]; rfl
theorem wordsOf_miss (ps : List (Nat × ByteArray)) (x : Nat × ByteArray) (h : x.2.size = 0) : wordsOf (ps ++ [x]) = wordsOf ps := by
  rw [wordsOf, List.filter_append, List.filter_cons_of_neg (by simpa using h)]; simp [wordsOf]
theorem cell_two_new (w : World) (a b : Value) (t : TypeId) : ∀ j u, [a, b][j]? = some u → (w.alloc (.cells #[a, b] t)).cell? ((⟨w.heap.size, 0, none⟩ : Addr).add j) = some u := by
  intro j u hj
  match j, hj with
  | 0, hj => simp at hj; subst hj; simp [Addr.add]
  | 1, hj => simp at hj; subst hj; simp [Addr.add]
theorem strne' {s : ByteArray} (h : s.size ≠ 0) : s.toList.isEmpty = false := by
  rw [Lib.toList_data]
  cases h2 : s.data.toList with
  | nil => exact absurd (by rw [Lib.size_eq, h2]; rfl) h
  | cons a l => rfl
theorem streq' {s : ByteArray} (h : s.size = 0) : s.toList.isEmpty = true := by
  rw [Lib.toList_data, show s.data.toList = [] from List.eq_nil_of_length_eq_zero (by rw [← Lib.size_eq]; exact h)]; rfl
end Lx

theorem infoWord : (Tryd.prog.info? 27).map (fun i => (i.zero, i.size, i.bytes)) = some (some (.agg #[.int .i64 0, .string ⟨#[]⟩]), 2, 24) := by kernel_rfl

set_option maxRecDepth 100000 in
set_option maxHeartbeats 1000000 in
theorem words_in (s : ByteArray) (w : World) (hs : s.size ≤ 65536) :
    CallsIn Fence.wide 9 Tryd.prog 5 #[.string s] w fun e W' => ∃ v, e = .returned v ∧
      W'.ownsRow w.heap.size 27 2 v (Lx.wordsOf (Lx.pieces s isBlank)).length (Lx.wordCells (Lx.wordsOf (Lx.pieces s isBlank))) ∧ Below w.heap.size w W' := by
  obtain ⟨i0, hi, hz0, hz1, hz2⟩ := info_parts infoWord
  refine callsIn_of_wp_marks Tryd.func5 rfl trivial ?_ rfl
  simp only [Tryd.ntmps5, List.size_toArray, List.length_cons, List.length_nil, Nat.reduceAdd, Nat.reduceSub, Array.replicate_succ, Array.replicate_zero, List.push_toArray, List.append_toArray, List.nil_append, List.cons_append]
  gi_wp2_with (refine ⟨trivial, ?_⟩; gi_at_call 16; refine (callsIn_wide.2 (pieces_any _ _ _)).mono ?_; rintro e w' ⟨rfl, rfl⟩)
  have b1 := Boxed.new w 23 (.slice none 0 0)
  have b2 := Boxed.new (w.alloc (.cells #[.slice none 0 0] 23)) 9 (.string s)
  have b3 := Boxed.new ((w.alloc (.cells #[.slice none 0 0] 23)).alloc (.cells #[.string s] 9)) 50 (.func (.func 17) #[] #[])
  simp only [World.size_alloc] at b1 b2 b3
  have hB0 : Below w.heap.size w (((w.alloc (.cells #[.slice none 0 0] 23)).alloc (.cells #[.string s] 9)).alloc (.cells #[.func (.func 17) #[] #[]] 50)) :=
    (((Below.refl _ w).alloc (Nat.le_refl _) _).alloc (by simp) _).alloc (by simp; omega) _
  have hseq : ∀ w0, w0 = (((w.alloc (.cells #[.slice none 0 0] 23)).alloc (.cells #[.string s] 9)).alloc (.cells #[.func (.func 17) #[] #[]] 50)) →
      SeqStopsK Fence.wide (9 - 1) Tryd.prog 39 #[.pointer (some ⟨w.heap.size + 1, 0, none⟩), .pointer (some ⟨w.heap.size + 1 + 1, 0, none⟩)] encP (KpP (w.heap.size + 1)) (fun xs => xs = Lx.pieces s isBlank) (fun _ => True) (s.size + 1) w0 := by
    rintro w0 rfl l J Jx W hW hJ _ hY h0
    exact words_iter 8 (by omega) l (w.heap.size + 1) s (by omega) J Jx W hJ hY ((hW.cell (p := ⟨w.heap.size + 1, 0, none⟩) (by simp)).trans (b2.alloc _).cell) ((hW.cell (p := ⟨w.heap.size + 1 + 1, 0, none⟩) (by simp)).trans b3.cell) h0
  refine wpIn_rangeFunc_ownG rfl (by omega) (gf := 39) (lb := #[.pointer (some ⟨w.heap.size + 1, 0, none⟩), .pointer (some ⟨w.heap.size + 1 + 1, 0, none⟩)]) rfl trivial (enters_of Tryd.func39 (by kernel_rfl) rfl)
    (hseq _ rfl) (fun h k => ⟨k.1.trans h.1, k.2.trans h.2⟩) (fun W l o o' hl h ho _ => kpP_putObj (by simp at hl; omega)) (Below.refl _ _) (fun _ => rfl)
    (fun pre W => ((∃ v, Boxed W w.heap.size 23 v ∧ W.ownsRow w.heap.size 27 2 v (Lx.wordsOf pre).length (Lx.wordCells (Lx.wordsOf pre)) ∧ True) ∧ (Boxed W (w.heap.size + 1) 9 (.string s) ∧ Boxed W (w.heap.size + 1 + 1) 50 (.func (.func 17) #[] #[]))) ∧ Below w.heap.size w W)
    (fun _ _ _ => False)
    (OwnFrom.and (OwnFrom.and (Own.from (holdsRow_own w.heap.size w.heap.size 23 27 2 (fun pre => (Lx.wordsOf pre).length) (fun pre => Lx.wordCells (Lx.wordsOf pre)) (fun pre v => True)) _) (OwnFrom.and (Own.from (boxed_own _ _ _) _) (Own.from (boxed_own _ _ _) _))) (ownFrom_below (Nat.le_refl _) (by simp; omega)))
    (fun _ _ _ _ _ hs _ _ => hs)
    ⟨⟨⟨_, (b1.alloc _).alloc _, World.ownsRow_nil _ _ _ _, trivial⟩, b2.alloc _, b3⟩, hB0⟩
    (fun x => { tmps := #[.string s, undef, .slice none 0 0, .pointer (some ⟨w.heap.size, 0, none⟩), .int .i64 (x.1 : Int), .string x.2, .string s, .func (.func 39) #[] #[.pointer (some ⟨w.heap.size + 1, 0, none⟩), .pointer (some ⟨w.heap.size + 1 + 1, 0, none⟩)], .int .i64 (x.1 : Int), .string x.2, undef, undef, undef, undef, undef, undef, undef, undef, undef], defers := [] }) ?assign ?body ?done ?stop
  case assign =>
    intro l x W K hK
    gi_wp2
    exact hK
  case body =>
    rintro l pre x W ⟨⟨⟨v, hv, hrow, _⟩, hb2, hb3⟩, hB⟩ hlt
    have hc := hv.cell
    have hf := hv.frozen
    have hpl : (Lx.wordsOf pre).length ≤ pre.length := List.length_filter_le _ _
    by_cases hx : x.2.size ≠ 0
    · have hxb := Lx.strne' hx
      have hsn := Lx.wordsOf_hit pre x hx
      have hln := Lx.wordCells_snoc (Lx.wordsOf pre) x
      obtain ⟨m, hm⟩ : ∃ m, (Lx.wordsOf pre).length = m := ⟨_, rfl⟩
      rw [hm] at hrow hpl
      have hlen : ∃ ad cap, v = .slice ad m cap := Lx.slice_of_row hrow
      obtain ⟨ad, cap, rfl⟩ := hlen
      have Hsn := Lib.hid hsn
      have Hln := Lib.hid hln
      have Hm := Lib.hid hm
      clear hsn hln hm hx
      gi_wp2_with (gi_at_builtin; refine wpListIn_append_own _ rfl _ _ 23 rfl w.heap.size 27 i0 _ 2 24 Tryd.underlying23 hi hz0 hz1 hz2 rfl (by decide) _ _ _ rfl (hrow.alloc _) ⟨W.heap.size, 0, none⟩ 1 1 [.int .i64 (x.1 : Int), .string x.2] rfl rfl (Lx.cell_two_new _ _ _ _) (by simp [Value.oneCell']) (by unfold maxLen; omega) (by omega) (by have := hB.size; simp; omega) ?_; intro v' w1 hown' hgrow _; obtain ⟨g', cap', rfl⟩ := ownsRow_succ hown'; obtain ⟨hv1, hv2, hr2, hk2, hb2'⟩ := hv.appended (by decide) hrow hB.size (Nat.le_refl _) hown' hgrow; have hc1 := hv1.cell; have hf1 := hv1.frozen)
      have k2 := ((hb2.alloc (.cells #[.int .i64 (x.1 : Int), .string x.2] 27)).kept hgrow (hb2.not_row (by decide) hrow)).other (B' := w.heap.size) (by omega) (.slice (some ⟨g', 0, none⟩) (m + 1) cap')
      have k3 := ((hb3.alloc (.cells #[.int .i64 (x.1 : Int), .string x.2] 27)).kept hgrow (hb3.not_row (by decide) hrow)).other (B' := w.heap.size) (by omega) (.slice (some ⟨g', 0, none⟩) (m + 1) cap')
      refine ⟨hk2.from _, ⟨k2.cell.trans hb2.cell.symm, k3.cell.trans hb3.cell.symm⟩, ⟨⟨⟨_, hv2, ?_, trivial⟩, k2, k3⟩, hB.trans hb2'⟩⟩
      rw [Hsn.out, Hln.out, List.length_append, Hm.out]
      exact hr2
    · have hxb := Lx.streq' (s := x.2) (by omega)
      have hsn := Lx.wordsOf_miss pre x (by omega)
      have Hsn := Lib.hid hsn
      clear hsn hx
      gi_wp2
      refine ⟨KeepsFrom.refl _ _, ⟨rfl, rfl⟩, ?_⟩
      exact ⟨⟨⟨v, hv, by rw [Hsn.out]; exact hrow, trivial⟩, hb2, hb3⟩, hB⟩
  case done =>
    rintro D ys W hD rfl ⟨⟨⟨v, hv, hrow, _⟩, hb2, hb3⟩, hB⟩ hK
    have hc := hv.cell
    gi_wp2
    refine ⟨by simp, .inl ⟨_, _, rfl, run_takeDeferred hK, ?_⟩⟩
    exact ⟨_, results_tmp rfl _ _ _, v, rfl, ownsRow_putObj hrow _ hK rfl, hB.trans (belowK_b (w := w) (Nat.le_refl _) W D _ _ (by simp at hD; omega) hK rfl rfl)⟩
  case stop =>
    rintro D c pre W _ _ h _
    exact h.elim

theorem words_any (s : ByteArray) (w : World) (hs : s.size ≤ 65536) :
    Calls Tryd.prog 5 #[.string s] w fun e W' => ∃ v, e = .returned v ∧
      W'.ownsRow w.heap.size 27 2 v (Lx.wordsOf (Lx.pieces s isBlank)).length (Lx.wordCells (Lx.wordsOf (Lx.pieces s isBlank))) ∧ Below w.heap.size w W' :=
  callsIn_wide.1 (words_in s w hs)
end Go.Proofs.YtcnhoolbnllmkaaDoor
