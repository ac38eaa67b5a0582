/- The walk of LexBack. -/
import Derived.Test.YtlcldmhajnmkdaaDoorLines
import Derived.Test.YtlcldmhajnmkdaaDoorPlace
import Derived.Test.YtlcldmhajnmkdaaDoorBackLx
import Derived.Test.YtlcldmhajnmkdaaDoorRead
import Derived.Test.YtlcldmhajnmkdaaDoorJoinsWalk
namespace Go.Proofs.YtlcldmhajnmkdaaDoor
open Go.RowKit

namespace Lx
theorem no_lf (s : ByteArray) (h : (10 : UInt8) ∉ s.data.toList) : decide (0 ≤ Lib.indexByte s.data.toList 10) = false := by
  rw [decide_eq_false_iff_not, indexByte_idx]
  have : ¬ s.data.toList.findIdx (· == (10 : UInt8)) < s.data.toList.length := by
    rw [List.findIdx_lt_length]; rintro ⟨x, hx, e⟩
    rw [beq_iff_eq] at e; subst e; exact h hx
  rw [if_neg this]; decide
theorem cell_two_strs (w : World) (a b : Value) (t : TypeId) : ∀ j u, [a, b][j]? = some u → (w.alloc (.cells #[a, b] t)).cell? ((⟨w.heap.size, 0, none⟩ : Addr).add j) = some u := by
  intro j u hj
  match j, hj with
  | 0, hj => simp at hj; subst hj; simp [Addr.add]
  | 1, hj => simp at hj; subst hj; simp [Addr.add]
end Lx

set_option maxRecDepth 100000 in
set_option maxHeartbeats 1600000 in
theorem back_main (s : ByteArray) (hsm0 : s.size ≤ 5000) (w : World) (env : Env w) :
    Calls Tryd.prog 11 #[.string s] w fun e w' => e = .returned (.bool true) ∧ Below w.heap.size w w' := by
  have hsm : (s.size : Int) ≤ 5000 := by omega
  obtain ⟨i0, hi, hz0, hz1, hz2⟩ := info_parts infoStr
  obtain ⟨hG, _⟩ := Lx.lines_good s
  have hJ := Lx.back_joined s hsm0
  have hlen : (Lx.linesOf s.size (Lx.pieces s isLF)).length ≤ 5001 := by
    have := Lx.pieces_le s isLF
    have := List.length_filter_le (fun x : Nat × ByteArray => decide (x.1 < s.size)) (Lx.pieces s isLF)
    unfold Lx.linesOf; omega
  have HL := lines_any s w (by omega)
  generalize hLL : Lx.linesOf s.size (Lx.pieces s isLF) = L at *
  obtain ⟨m, hm⟩ : ∃ m, L.length = m := ⟨_, rfl⟩
  rw [hm] at HL hlen
  have HG := Lib.hid hG
  have HJ := Lib.hid hJ
  have Hm := Lib.hid hm
  clear hG hJ hm hLL
  go_enter Tryd.func11, Tryd.ntmps11
  go_wp2_with fail
  refine HL.mono ?_
  rintro e w1 ⟨v1, rfl, hown1, hb1⟩
  obtain ⟨A1, c1, rfl⟩ := Lx.slice_of_row hown1
  have hread := Lib.hid (Lx.row_read hown1)
  have env1 := env.below hb1
  clear hown1
  go_wp2_with fail
  go_loopw [5, 6, 27] (fun n t i wr => ∃ k : Nat, k ≤ m ∧ i = .int .i64 k ∧ n = .int .i64 (Lx.atTo (L.take k) : Int) ∧ Lx.atTo (L.take k) ≤ 5001 ∧ wr.ownsRow w1.heap.size 9 1 t (k * 2) ((Lx.backTexts (L.take k)).map Value.string) ∧ Below w1.heap.size w1 wr) (fun _ _ i _ => m - (intOf i).toNat)
  case atStart => exact ⟨0, Nat.zero_le _, rfl, rfl, by simp [Lx.atTo], ⟨rfl, .inl ⟨rfl, rfl⟩⟩, Below.refl _ _⟩
  case round =>
    obtain ⟨k, hk, rfl, rfl, hat, hrow, hbel⟩ := hrel
    obtain ⟨ad, cap, rfl⟩ := Lx.slice_of_row hrow
    by_cases hlt : k < m
    · obtain ⟨x, hx⟩ : ∃ x, L[k]? = some x := ⟨_, List.getElem?_eq_getElem (by rw [Hm.out]; exact hlt)⟩
      obtain ⟨g1, rfl, lt1, hc1⟩ := hread.out (by omega)
      obtain ⟨q0, q1, q2⟩ := Lx.lineCells_get L k x hx
      have r0 := (hbel.cell (p := ⟨g1, k * 3, none⟩) lt1).trans (hc1 _ _ q0)
      have r1 := (hbel.cell (p := ⟨g1, k * 3 + 1, none⟩) lt1).trans (hc1 _ _ q1)
      have r2 := (hbel.cell (p := ⟨g1, k * 3 + 2, none⟩) lt1).trans (hc1 _ _ q2)
      obtain ⟨x1, x2⟩ := x
      obtain ⟨p1, p2, p3, p4, p5⟩ := HG.out k _ hx
      have p1' : x1 = Lx.atTo (L.take k) := p1
      subst p1'
      have hno := Lx.no_lf x2 p2
      have htk : L.take (k + 1) = L.take k ++ [(Lx.atTo (L.take k), x2)] := by
        obtain ⟨hk', hv⟩ := List.getElem?_eq_some_iff.1 hx
        rw [List.take_succ_eq_append_getElem hk', hv]
      have hp3 : Lx.atTo (L.take k) + x2.size ≤ s.size := p3
      have hki : (k : Int) < (m : Int) := by omega
      have HC := Lib.hid (fun W => Tryd.strings_Contains_one x2 10 W)
      have HP := Lib.hid (fun W => place_in s (Lx.atTo (L.take k)) W (by omega) (by omega))
      simp only [hno] at HC
      simp only [p4, p5] at HP
      have Htk := Lib.hid htk
      have Hrow := Lib.hid hrow
      clear q0 q1 q2 hc1 p1 p2 p3 p4 p5 hno htk hrow hx
      go_wp2_with fail
      refine (HC.out _).mono ?_
      rintro e w2 ⟨rfl, rfl⟩
      go_wp2_with fail
      refine (HP.out _).mono ?_
      rintro e w2 ⟨rfl, rfl⟩
      go_wp2_with (at_builtin; refine wpList_append_own _ rfl _ _ 53 rfl w1.heap.size 9 i0 _ 1 16 Tryd.underlying53 hi hz0 hz1 hz2 rfl (by decide) _ _ _ rfl ((Hrow.out.alloc _).alloc _) ⟨wr.heap.size + 1, 0, none⟩ 2 2 [.string x2, .string ⟨#[10]⟩] rfl rfl (by have := Lx.cell_two_strs (wr.alloc (.cells #[.int .i64 ((k : Int) + 1), .int .i64 (Lx.atTo (L.take k) : Int), .string x2] 31)) (.string x2) (.string ⟨#[10]⟩) 9; rwa [World.size_alloc] at this) (by simp [Value.oneCell']) (by unfold maxLen; omega) (by omega) (by have := hbel.size; simp; omega) ?_)
      intro v' w2 hown' hgrow _
      have hb' := ((hbel.alloc hbel.size (.cells #[.int .i64 ((k : Int) + 1), .int .i64 (Lx.atTo (L.take k) : Int), .string x2] 31)).alloc (by have := hbel.size; simp; omega) (.cells #[.string x2, .string ⟨#[10]⟩] 9)).grown hgrow (by have := hbel.size; simp; omega) (Lx.own_base Hrow.out)
      have hs1 : Lx.atTo (L.take (k + 1)) = Lx.atTo (L.take k) + (x2.size + 1) := by rw [Htk.out, Lx.atTo_snoc]
      have hs2 : (Lx.backTexts (L.take (k + 1))).map Value.string = (Lx.backTexts (L.take k)).map Value.string ++ [.string x2, .string ⟨#[10]⟩] := by rw [Htk.out, Lx.backTexts_snoc, List.map_append]; rfl
      have Hs1 := Lib.hid hs1
      have Hs2 := Lib.hid hs2
      clear hgrow hs1 hs2
      go_wp2_with fail
      go_roundw
      case rel => exact ⟨k + 1, by omega, by go_num, by rw [Hs1.out]; go_num, by rw [Hs1.out]; omega, by rw [Hs2.out, Nat.add_mul]; exact hown', hb'⟩
      case measure => simp [intOf]; omega
    · obtain rfl : k = m := by omega
      have htm : L.take k = L := List.take_of_length_le (by rw [Hm.out]; exact Nat.le_refl _)
      rw [htm] at hrow hat
      have Htm := Lib.hid htm
      clear htm
      have hbs : (Lx.backTexts L).length = k * 2 := by rw [Lx.backTexts_len, Hm.out]
      have hbl : ∀ y ∈ Lx.backTexts L, y.size ≤ 1000000000 := by
        intro y hy
        unfold Lx.backTexts at hy
        rw [List.mem_flatMap] at hy
        obtain ⟨x, hx, hy⟩ := hy
        obtain ⟨j, hj⟩ := List.getElem?_of_mem hx
        have h3 : x.1 + x.2.size ≤ s.size := (HG.out j x hj).2.2.1
        rcases List.mem_cons.1 hy with rfl | hy
        · omega
        · rw [List.mem_singleton] at hy; subst hy; decide
      have hcall : Calls Tryd.prog 31 #[.slice ad (k * 2) cap, .string ⟨#[]⟩] wr fun e w' => e = .returned (.tuple #[.string (Lx.backS s), .int .i64 0]) ∧ Below wr.heap.size wr w' := by
        by_cases h0 : k = 0
        · subst h0
          have hl : L = [] := List.eq_nil_of_length_eq_zero Hm.out
          have e1 := HJ.out.1
          rw [hl] at e1
          rw [show Lx.backS s = ⟨#[]⟩ from e1.symm.trans (by decide)]
          rw [Nat.zero_mul]
          exact join_none ⟨#[]⟩ ad cap wr
        · obtain ⟨g, c', hv, ltg, hcg⟩ := Lx.row_pos hrow (by omega)
          injection hv with hv1 hv2 hv3
          subst hv1 hv3
          have := join_any (Lx.backTexts L) ⟨#[]⟩ g 0 (k * 2) cap wr hbs (by omega) (by omega) ltg (fun j x hx => by rw [Nat.zero_add]; exact hcg j _ (by rw [List.getElem?_map, hx]; rfl)) hbl (by decide)
          rw [HJ.out.1, HJ.out.2] at this
          exact this
      have Hcall := Lib.hid hcall
      clear hbs hbl hcall hrow
      go_wp2_with fail
      refine Hcall.out.mono ?_
      rintro e w2 ⟨rfl, hb2⟩
      have hb3 := hb1.trans ((hbel.mono hb1.size).trans (hb2.mono (Nat.le_trans hb1.size hbel.size)))
      have env2 := env.below hb3
      have HW := Lib.hid (works_any w2 env2)
      have HS := Lib.hid (fun W => Tryd.strings_HasSuffix s ⟨#[10]⟩ W (by omega))
      by_cases hz : s.size = 0
      · obtain rfl : s = ⟨#[]⟩ := by
          apply ByteArray.ext; apply Array.toList_inj.1; exact List.eq_nil_of_length_eq_zero (by rw [← Lib.size_eq]; exact hz)
        have e1 : Lx.backS ⟨#[]⟩ = ⟨#[]⟩ := by decide
        simp only [e1]
        go_wp2_with fail
        refine HW.out.mono ?_
        rintro e w4 ⟨rfl, hb4⟩
        go_wp2_with fail
        go_ret
        exact ⟨rfl, hb3.trans (hb4.mono hb3.size)⟩
      · have hne : ¬ s.toList = [] := by
          intro h; have := Lx.size_of_ne (s := s); rw [Lib.toList_data] at h; apply hz; rw [Lib.size_eq, h]; rfl
        have h0b : s.toList.isEmpty = false := by simpa using hne
        by_cases he : Lx.endsLF s = true
        · have e1 : Lx.backS s = s := if_pos (.inr he)
          have e2 : Lib.hasSuffix s.data.toList (⟨#[10]⟩ : ByteArray).data.toList = true := he
          simp only [e1]
          simp only [e2] at HS
          go_wp2_with fail
          refine (HS.out _).mono ?_
          rintro e w4 ⟨rfl, rfl⟩
          go_wp2_with fail
          refine HW.out.mono ?_
          rintro e w4 ⟨rfl, hb4⟩
          go_wp2_with fail
          go_ret
          exact ⟨rfl, hb3.trans (hb4.mono hb3.size)⟩
        · have e1 : Lx.backS s = s ++ ⟨#[10]⟩ := if_neg (by rintro (h | h); exact hz h; exact he h)
          have e2 : Lib.hasSuffix s.data.toList (⟨#[10]⟩ : ByteArray).data.toList = false := by simpa [Lx.endsLF] using he
          simp only [e1]
          simp only [e2] at HS
          go_wp2_with fail
          refine (HS.out _).mono ?_
          rintro e w4 ⟨rfl, rfl⟩
          go_wp2_with fail
          refine HW.out.mono ?_
          rintro e w4 ⟨rfl, hb4⟩
          go_wp2_with fail
          go_ret
          exact ⟨rfl, hb3.trans (hb4.mono hb3.size)⟩
end Go.Proofs.YtlcldmhajnmkdaaDoor
