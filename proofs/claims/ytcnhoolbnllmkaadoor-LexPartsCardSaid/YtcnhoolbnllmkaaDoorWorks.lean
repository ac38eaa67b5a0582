/- The walk of works, the examples of the chapter that every law of it runs: true. -/
import Derived.Test.YtcnhoolbnllmkaaDoorProg
import Derived.Test.YtcnhoolbnllmkaaDoorLx
import Derived.Test.YtcnhoolbnllmkaaDoorNum
import Derived.Test.YtcnhoolbnllmkaaDoorEnv
import Derived.Test.YtcnhoolbnllmkaaDoorCut
import Derived.Test.YtcnhoolbnllmkaaDoorNumber
import Derived.Test.YtcnhoolbnllmkaaDoorPlace
import Derived.Test.YtcnhoolbnllmkaaDoorDigits
import Derived.Test.YtcnhoolbnllmkaaDoorLines
import Derived.Test.YtcnhoolbnllmkaaDoorWords
import Derived.Laws.OwnMore
import Derived.BigGuardPart
namespace Go.Proofs.YtcnhoolbnllmkaaDoor
open Go.RowKit

namespace Lx
theorem ex_lines : linesOf 5 (pieces ⟨#[97, 98, 10, 10, 99]⟩ isLF) = [(0, ⟨#[97, 98]⟩), (3, ⟨#[]⟩), (4, ⟨#[99]⟩)] := by kernel_rfl
theorem ex_words : wordsOf (pieces ⟨#[32, 97, 98, 9, 32, 99]⟩ isBlank) = [(1, ⟨#[97, 98]⟩), (5, ⟨#[99]⟩)] := by kernel_rfl
theorem ex_cutA : cutA ⟨#[97, 61, 98, 61, 99]⟩ 61 = ⟨#[97]⟩ := by kernel_rfl
theorem ex_cutB : cutB ⟨#[97, 61, 98, 61, 99]⟩ 61 = ⟨#[98, 61, 99]⟩ := by kernel_rfl
theorem ex_cutIs : cutIs ⟨#[97, 61, 98, 61, 99]⟩ 61 = true := by kernel_rfl
theorem ex_num : numRes [45, 49, 50] = -12 := by kernel_rfl
theorem ex_numE : numErr [45, 49, 50] = 0 := by kernel_rfl
theorem ex_num7 : numRes [48, 48, 55] = 0 := by kernel_rfl
theorem ex_num7E : numErr [48, 48, 55] = 10 := by kernel_rfl
theorem ex_line : lineAt ⟨#[97, 98, 10, 99, 100]⟩ 4 = 2 := by kernel_rfl
theorem ex_col : colAt ⟨#[97, 98, 10, 99, 100]⟩ 4 = 2 := by kernel_rfl
theorem ex_itoa : Lib.itoa (-12) = [45, 49, 50] := by decide +kernel
theorem row_cell {w : World} {base : Nat} {e : TypeId} {size n cap g : Nat} {xs : List Value} (h : w.ownsRow base e size (.slice (some ⟨g, 0, none⟩) n cap) n xs) (j : Nat) (u : Value) (hj : xs[j]? = some u) : w.cell? ⟨g, j, none⟩ = some u := by
  have := h.cells (g := g) rfl j u hj
  rw [← this]
  unfold Addr.add
  split
  · rename_i h0; subst h0; rfl
  · simp
theorem row_lt {w : World} {g j : Nat} {u : Value} (h : w.cell? ⟨g, j, none⟩ = some u) : g < w.heap.size := by
  rcases Nat.lt_or_ge g w.heap.size with hl | hl
  · exact hl
  · unfold World.cell? at h; rw [Array.getElem?_eq_none hl] at h; cases h
end Lx

set_option maxRecDepth 100000 in
set_option maxHeartbeats 1600000 in
theorem works_any (w : World) (env : Env w) :
    Calls Tryd.prog 4 #[] w fun e w' => e = .returned (.bool true) ∧ Below w.heap.size w w' := by
  have hL := lines_any ⟨#[97, 98, 10, 10, 99]⟩ w (by decide)
  have e1 : (⟨#[97, 98, 10, 10, 99]⟩ : ByteArray).size = 5 := rfl
  rw [e1, Lx.ex_lines] at hL
  clear e1
  go_enter Tryd.func4, Tryd.ntmps4
  go_wp2_with fail
  refine hL.mono ?_
  rintro e w1 ⟨v, rfl, hown1, hb1⟩
  clear hL
  obtain ⟨g1, cap1, rfl⟩ := ownsRow_succ (k := 2) hown1
  have c16 : w1.cell? ⟨g1, 6, none⟩ = some (.int .i64 3) := Lx.row_cell hown1 6 _ rfl
  have c17 : w1.cell? ⟨g1, 7, none⟩ = some (.int .i64 4) := Lx.row_cell hown1 7 _ rfl
  have c18 : w1.cell? ⟨g1, 8, none⟩ = some (.string ⟨#[99]⟩) := Lx.row_cell hown1 8 _ rfl
  have lt1 := Lx.row_lt c16
  have env1 := env.below hb1
  clear hown1 env
  have hW := words_any ⟨#[32, 97, 98, 9, 32, 99]⟩ w1 (by decide)
  rw [Lx.ex_words] at hW
  go_wp2_with fail
  refine hW.mono ?_
  rintro e w2 ⟨v, rfl, hown2, hb2⟩
  clear hW
  obtain ⟨g2, cap2, rfl⟩ := ownsRow_succ (k := 1) hown2
  have c22 : w2.cell? ⟨g2, 2, none⟩ = some (.int .i64 5) := Lx.row_cell hown2 2 _ rfl
  have c23 : w2.cell? ⟨g2, 3, none⟩ = some (.string ⟨#[99]⟩) := Lx.row_cell hown2 3 _ rfl
  have lt2 := Lx.row_lt c22
  have env2 := env1.below hb2
  replace c16 := (hb2.cell (p := ⟨g1, 6, none⟩) lt1).trans c16
  replace c17 := (hb2.cell (p := ⟨g1, 7, none⟩) lt1).trans c17
  replace c18 := (hb2.cell (p := ⟨g1, 8, none⟩) lt1).trans c18
  have hb2' : Below w.heap.size w w2 := hb1.trans (hb2.mono hb1.size)
  have lt1' : g1 < w2.heap.size := Nat.lt_of_lt_of_le lt1 hb2.size
  clear hown2 env1 hb1 hb2
  have hC := cut_any ⟨#[97, 61, 98, 61, 99]⟩ 61 w2 (by decide)
  rw [Lx.ex_cutA, Lx.ex_cutB, Lx.ex_cutIs] at hC
  go_wp2_with fail
  refine hC.mono ?_
  rintro e w3 ⟨rfl, nq, rfl⟩
  clear hC
  have hN := number_any ⟨#[45, 49, 50]⟩ (w2.drewN nq) (by decide) (env2.drewN nq)
  rw [Lx.ex_num, Lx.ex_numE] at hN
  go_wp2_with fail
  refine hN.mono ?_
  rintro e w4 ⟨rfl, hb4⟩
  clear hN
  have env4 := (env2.drewN nq).below hb4
  have hb4' : Below w.heap.size w w4 := hb2'.trans ((below_drewN _ w2 nq).trans (hb4.mono hb2'.size))
  replace c16 := (hb4.cell (p := ⟨g1, 6, none⟩) lt1').trans c16
  replace c17 := (hb4.cell (p := ⟨g1, 7, none⟩) lt1').trans c17
  replace c18 := (hb4.cell (p := ⟨g1, 8, none⟩) lt1').trans c18
  replace c22 := (hb4.cell (p := ⟨g2, 2, none⟩) lt2).trans c22
  replace c23 := (hb4.cell (p := ⟨g2, 3, none⟩) lt2).trans c23
  replace lt1 := Lx.row_lt c16
  replace lt2 := Lx.row_lt c22
  clear env2 hb4 hb2' lt1'
  have hN := number_any ⟨#[48, 48, 55]⟩ w4 (by decide) env4
  rw [Lx.ex_num7, Lx.ex_num7E] at hN
  go_wp2_with fail
  refine hN.mono ?_
  rintro e w5 ⟨rfl, hb5⟩
  clear hN
  have env5 := env4.below hb5
  have hb5' : Below w.heap.size w w5 := hb4'.trans (hb5.mono hb4'.size)
  replace c16 := (hb5.cell (p := ⟨g1, 6, none⟩) lt1).trans c16
  replace c17 := (hb5.cell (p := ⟨g1, 7, none⟩) lt1).trans c17
  replace c18 := (hb5.cell (p := ⟨g1, 8, none⟩) lt1).trans c18
  replace c22 := (hb5.cell (p := ⟨g2, 2, none⟩) lt2).trans c22
  replace c23 := (hb5.cell (p := ⟨g2, 3, none⟩) lt2).trans c23
  clear env4 hb5 hb4' lt1 lt2
  have hP := place_in ⟨#[97, 98, 10, 99, 100]⟩ 4 w5 (by decide) (by decide)
  rw [Lx.ex_line, Lx.ex_col] at hP
  go_wp2_with fail
  refine hP.mono ?_
  rintro e w6 ⟨rfl, rfl⟩
  clear hP
  have hD := digits_any (-12) w5 (by decide) (by decide) env5
  rw [Lx.ex_itoa] at hD
  go_wp2_with fail
  refine hD.mono ?_
  rintro e w7 ⟨rfl, hb7⟩
  clear hD
  go_wp2_with fail
  go_ret
  exact ⟨rfl, hb5'.trans (hb7.mono hb5'.size)⟩
end Go.Proofs.YtcnhoolbnllmkaaDoor
