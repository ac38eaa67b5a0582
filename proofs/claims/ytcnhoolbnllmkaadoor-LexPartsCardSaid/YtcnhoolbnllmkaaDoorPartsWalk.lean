/- The walk of LexParts. -/
import Derived.Test.YtcnhoolbnllmkaaDoorPartsLx
import Derived.Test.YtcnhoolbnllmkaaDoorAny
import Derived.Test.YtcnhoolbnllmkaaDoorWords
import Derived.Test.YtcnhoolbnllmkaaDoorJoin
import Derived.Test.YtcnhoolbnllmkaaDoorRead
import Derived.Test.YtcnhoolbnllmkaaDoorWorks
import Derived.Test.YtcnhoolbnllmkaaDoorRow
import Derived.Deep.RegionHeld3
import Derived.Deep.RegionWith
import Derived.Lib.Repeat
namespace Go.Proofs.YtcnhoolbnllmkaaDoor
open Go.RowKit

namespace Lx
theorem blanks_all {s : ByteArray} {a b : Nat} (h : Blanks s a b) : (s.extract a b).data.toList.all ([32, 9].contains ·) = true := by
  rw [List.all_eq_true]
  intro c hc
  have := h c hc
  unfold isBlank at this
  rw [Bool.or_eq_true, beq_iff_eq, beq_iff_eq] at this
  rcases this with h | h
  · rw [show c = 32 from UInt8.toNat_inj.1 h]; decide
  · rw [show c = 9 from UInt8.toNat_inj.1 h]; decide
theorem noblank {x : ByteArray} (h : ∀ c ∈ x.data.toList, isBlank c = false) : ∀ b ∈ x.data.toList, b ≠ 32 ∧ b ≠ 9 := by
  intro b hb
  have := h b hb
  constructor <;> (intro e; subst e; revert this; decide)
theorem sep_facts (r : Nat) (hr : r < 20) (R : ByteArray) (hR : R.data.toList = Lib.repeatL [9] r) : (⟨#[32]⟩ ++ R : ByteArray).size ≤ 20 ∧ (⟨#[32]⟩ ++ R : ByteArray).size ≠ 0 ∧ ∀ c ∈ (⟨#[32]⟩ ++ R : ByteArray).data.toList, isBlank c = true := by
  have hs : R.size = r := by rw [Lib.size_eq, hR, Lib.repeatL_length]; simp
  have h1 : (⟨#[32]⟩ : ByteArray).size = 1 := rfl
  refine ⟨by rw [ByteArray.size_append]; omega, by rw [ByteArray.size_append]; omega, ?_⟩
  intro c hc
  rw [ByteArray.data_append, Array.toList_append, List.mem_append, hR] at hc
  rcases hc with h | h
  · have : c = 32 := by simpa using h
    subst this; decide
  · have hm : ∀ (n : Nat) (c : UInt8), c ∈ Lib.repeatL [9] n → c = 9 := by
      intro n
      induction n with
      | zero => intro c h; cases h
      | succ n ih =>
        intro c h
        rw [Lib.repeatL, List.mem_append] at h
        rcases h with h | h
        · simpa using h
        · exact ih c h
    rw [hm r c h]; decide
theorem wtexts_len (l : List (Nat × ByteArray)) : (wtexts l).length = l.length := by unfold wtexts; rw [List.length_map]
theorem wtexts_get (l : List (Nat × ByteArray)) (k : Nat) (x : Nat × ByteArray) (h : l[k]? = some x) : (wtexts l)[k]? = some x.2 := by unfold wtexts; rw [List.getElem?_map, h]; rfl
theorem ownBelow {w w' : World} {base : Nat} {e : TypeId} {size n : Nat} {v : Value} {xs : List Value} (h : w.ownsRow base e size v n xs) (hb : Below w.heap.size w w') : w'.ownsRow base e size v n xs := by
  refine ⟨h.1, ?_⟩
  rcases h.2 with h0 | ⟨g, cap, cur, h1, h2, h3, h4⟩
  · exact .inl h0
  · exact .inr ⟨g, cap, cur, h1, h2, (hb.block g (Array.getElem?_eq_some_iff.1 h3).1).trans h3, h4⟩
end Lx

set_option maxRecDepth 100000 in
set_option maxHeartbeats 6400000 in
theorem parts_main (s : ByteArray) (hsm0 : s.size ≤ 2000) (t : Nat) (ht : t ≤ 255) (w : World) (env : Env w) :
    Calls Tryd.prog 3 #[.string s, .int .u8 t] w fun e w' => e = .returned (.bool true) ∧ Below w.heap.size w w' := by
  have hsm : (s.size : Int) ≤ 2000 := by omega
  have hti : (t : Int) ≤ 255 := by omega
  obtain ⟨i0, hi, hz0, hz1, hz2⟩ := info_parts infoS
  obtain ⟨hG, hEnd, hLast⟩ := Lx.words_good s
  obtain ⟨r, hr⟩ : ∃ r : Nat, r = t % 20 := ⟨_, rfl⟩
  have hri : (t : Int) % 20 = (r : Int) := by omega
  have hr20 : r < 20 := by omega
  obtain ⟨R, hR⟩ : ∃ R : ByteArray, R = ⟨(Lib.repeatL (⟨#[9]⟩ : ByteArray).data.toList r).toArray⟩ := ⟨_, rfl⟩
  have HR := Lib.hid (fun W => Tryd.strings_Repeat ⟨#[9]⟩ r W (by omega) (by show 1 * r ≤ _; omega))
  rw [← hR] at HR
  have hRl : R.data.toList = Lib.repeatL [9] r := by rw [hR]
  obtain ⟨sp1, sp2, sp3⟩ := Lx.sep_facts r hr20 R hRl
  have hRs : R.size ≤ 20 := by rw [ByteArray.size_append] at sp1; omega
  obtain ⟨hJfit, hJw, hJe⟩ := Lx.join_words s (⟨#[32]⟩ ++ R) hsm0 sp1 sp2 sp3
  have hlen : (Lx.wordsOf (Lx.pieces s isBlank)).length ≤ 2001 := by
    have := Lx.pieces_le s isBlank
    have := List.length_filter_le (fun x : Nat × ByteArray => decide (x.2.size ≠ 0)) (Lx.pieces s isBlank)
    unfold Lx.wordsOf; omega
  have HWd := Lib.hid (words_any s w (by omega))
  have hnone : (Lx.wordsOf (Lx.pieces s isBlank)).length = 0 → Lx.joinS (Lx.wtexts (Lx.wordsOf (Lx.pieces s isBlank))) (⟨#[32]⟩ ++ R) = ⟨#[]⟩ := by
    intro h
    rw [List.eq_nil_of_length_eq_zero h]; rfl
  generalize hLL : Lx.wordsOf (Lx.pieces s isBlank) = L at *
  obtain ⟨J, hJ⟩ : ∃ J, J = Lx.joinS (Lx.wtexts L) (⟨#[32]⟩ ++ R) := ⟨_, rfl⟩
  rw [← hJ] at hJw hnone
  have hJs : J.size ≤ 65536 := by
    rw [hJ, Lib.size_eq]
    unfold Lx.joinS
    rw [if_pos hJfit]; exact hJfit
  have HW2 := Lib.hid (fun W => words_any J W hJs)
  generalize hL2 : Lx.wordsOf (Lx.pieces J isBlank) = L2 at *
  obtain ⟨m, hm⟩ : ∃ m, L.length = m := ⟨_, rfl⟩
  have hm2 : L2.length = m := by
    have := congrArg List.length hJw
    rw [Lx.wtexts_len, Lx.wtexts_len] at this; omega
  rw [hm] at HWd hlen
  rw [hm2] at HW2
  have HG := Lib.hid hG
  have Hm := Lib.hid hm
  have Hm2 := Lib.hid hm2
  have HJw := Lib.hid hJw
  have HJ := Lib.hid hJ
  have HJe := Lib.hid hJe
  have Hnone := Lib.hid hnone
  have HTl := Lib.hid (fun W => trim_blanks (s.extract (Lx.endOf L) s.size) (by rw [ByteArray.size_extract]; omega) (Lx.blanks_all hLast) W)
  have hends : Lx.endOf L ≤ 2000 := by omega
  have HEnd := Lib.hid hEnd
  clear hG hLast hJw hJe hm hm2 hR hRl sp1 sp2 sp3 hJfit hLL hL2 hJ hr hnone hEnd
  go_enter Tryd.func3, Tryd.ntmps3
  go_wp2_with fail
  refine HWd.out.mono ?_
  rintro e w1 ⟨v1, rfl, hown1, hb1⟩
  obtain ⟨A1, c1, rfl⟩ := Lx.slice_of_row hown1
  have hread := Lib.hid (Lx.row_read hown1)
  clear hown1
  go_wp2_with fail
  go_loopw [6, 7, 23] (fun a tx i wr => ∃ k : Nat, k ≤ m ∧ i = .int .i64 k ∧ a = .int .i64 (Lx.endOf (L.take k) : Int) ∧ Lx.endOf (L.take k) ≤ s.size ∧ wr.ownsRow w1.heap.size 9 1 tx k ((Lx.wtexts (L.take k)).map Value.string) ∧ Below w1.heap.size w1 wr) (fun _ _ i _ => m - (intOf i).toNat)
  case atStart => exact ⟨0, Nat.zero_le _, rfl, rfl, Nat.zero_le _, ⟨rfl, .inl ⟨rfl, rfl⟩⟩, Below.refl _ _⟩
  case round =>
    obtain ⟨k, hk, rfl, rfl, hat, hrow, hbel⟩ := hrel
    obtain ⟨ad, cap, rfl⟩ := Lx.slice_of_row hrow
    by_cases hlt : k < m
    · obtain ⟨x, hx⟩ : ∃ x, L[k]? = some x := ⟨_, List.getElem?_eq_getElem (by rw [Hm.out]; exact hlt)⟩
      obtain ⟨g1, rfl, lt1, hc1⟩ := hread.out (by omega)
      obtain ⟨q0, q1⟩ := Lx.wordCells_get L k x hx
      have r0 := (hbel.cell (p := ⟨g1, k * 2, none⟩) lt1).trans (hc1 _ _ q0)
      have r1 := (hbel.cell (p := ⟨g1, k * 2 + 1, none⟩) lt1).trans (hc1 _ _ q1)
      obtain ⟨x1, x2⟩ := x
      obtain ⟨p1, p2, p3, p4, p5, p6, p7⟩ := HG.out k _ hx
      have htk : L.take (k + 1) = L.take k ++ [(x1, x2)] := by
        obtain ⟨hk', hv⟩ := List.getElem?_eq_some_iff.1 hx
        rw [List.take_succ_eq_append_getElem hk', hv]
      have he1 : Lx.endOf (L.take (k + 1)) = x1 + x2.size := by rw [htk, Lx.endOf_snoc]
      have he2 : (Lx.wtexts (L.take (k + 1))).map Value.string = (Lx.wtexts (L.take k)).map Value.string ++ [.string x2] := by rw [htk, Lx.wtexts_snoc, List.map_append]; rfl
      have p3' : x1 + x2.size ≤ s.size := p3
      have p5' : Lx.endOf (L.take k) ≤ x1 := p5
      have p7' : 0 < k → Lx.endOf (L.take k) < x1 := p7
      have p1' : x2.size ≠ 0 := p1
      have HCA := Lib.hid (fun W => contains_any_none x2 (by omega) (Lx.noblank p2) W)
      have hpf := Lx.word_prefix s x2 x1 p4 p3
      have HHP := Lib.hid (fun W => Tryd.strings_HasPrefix (s.extract x1 s.size) x2 W)
      simp only [hpf] at HHP
      have HTr := Lib.hid (fun W => trim_blanks (s.extract (Lx.endOf (L.take k)) x1) (by rw [ByteArray.size_extract]; omega) (Lx.blanks_all p6) W)
      have He1 := Lib.hid he1
      have He2 := Lib.hid he2
      have Hrow := Lib.hid hrow
      have hx2b := Lx.strne p1'
      clear q0 q1 hc1 p1 p2 p3 p4 p5 p6 p7 hpf htk he1 he2 hrow hx
      obtain ⟨a, ha⟩ : ∃ a, a = Lx.endOf (L.take k) := ⟨_, rfl⟩
      rw [← ha] at p5' p7' hat HTr ⊢
      have Ha := Lib.hid ha
      clear ha
      have hki : (k : Int) < (m : Int) := by omega
      have t1 : (a : Int) ≤ (x1 : Int) := by omega
      have t2 : (x1 : Int) ≤ (s.size : Int) := by omega
      have hb9 := hbel.alloc hbel.size (.cells #[.int .i64 (x1 : Int), .string x2] 27)
      have hl9 : wr.heap.size < (wr.alloc (.cells #[.int .i64 (x1 : Int), .string x2] 27)).heap.size := by rw [World.size_alloc]; omega
      have hc90 : (wr.alloc (.cells #[.int .i64 (x1 : Int), .string x2] 27)).cell? ⟨wr.heap.size, 0, none⟩ = some (.int .i64 (x1 : Int)) := by simp
      have hc91 : (wr.alloc (.cells #[.int .i64 (x1 : Int), .string x2] 27)).cell? ⟨wr.heap.size, 1, none⟩ = some (.string x2) := by simp
      have Hrow9 := Lib.hid (Hrow.out.alloc (.cells #[.int .i64 (x1 : Int), .string x2] 27))
      have d1 : decide (x1 < a) = false := decide_eq_false (by omega)
      have d2 : decide (s.size < x1) = false := decide_eq_false (by omega)
      by_cases hk0 : k = 0
      case' pos =>
        have d3 : decide (0 < k) = false := decide_eq_false (by omega)
        have d4 : ¬ 0 < k := by omega
        have d5 : decide ((0 : Int) < (k : Int)) = false := decide_eq_false (by omega)
        clear p7' hk0
        go_wp2_with fail
      case' neg =>
        have d3 : 0 < k := by omega
        have d4 : ((x1 : Int) == (a : Int)) = false := by have := p7' d3; rw [beq_eq_false_iff_ne]; omega
        clear p7' hk0
        go_wp2_with fail
      case' pos =>
        refine wp_region_held_drew (S := (fun wx => wx.cell? ⟨wr.heap.size, 0, none⟩ = some (.int .i64 (x1 : Int)) ∧ wx.cell? ⟨wr.heap.size, 1, none⟩ = some (.string x2))) (by kernel_rfl) ?_ (fun hHeld => ?_)
        · go_keep
        refine' wpAnyH_take (i := 0) (oi := _) (v := _) ?hi0 (by kernel_rfl) (by kernel_rfl) (by kernel_rfl) ?hq0 ?hy0 (by assumption) ?re0
        case hi0 => simp only [List.getElem?_toArray, List.getElem?_cons_zero]; rfl
        case hq0 => exact fun _ _ _ h => h
        case hy0 =>
          refine Or.inl ⟨by rfl, ?_⟩
          intro w hSw; (try dsimp only at hSw); go_simp; try with_reducible rfl
        try simp only [Act.put, List.setIfInBounds_toArray, List.set_cons_zero, List.set_cons_succ]
        refine' wpAnyH_take (i := 1) (oi := _) (v := _) ?hi1 (by kernel_rfl) (by kernel_rfl) (by kernel_rfl) ?hq1 ?hy1 (by assumption) ?re1
        case hi1 => simp only [List.getElem?_toArray, List.getElem?_cons_succ, List.getElem?_cons_zero]; rfl
        case hq1 => exact fun _ _ _ h => h
        case hy1 =>
          refine Or.inl ⟨by rfl, ?_⟩
          intro w hSw; (try dsimp only at hSw); go_simp; try with_reducible rfl
        try simp only [Act.put, List.setIfInBounds_toArray, List.set_cons_zero, List.set_cons_succ]
        refine' wpAnyH_take (i := 2) (oi := _) (v := _) ?hi2 (by kernel_rfl) (by kernel_rfl) (by kernel_rfl) ?hq2 ?hy2 (by assumption) ?re2
        case hi2 => simp only [List.getElem?_toArray, List.getElem?_cons_succ, List.getElem?_cons_zero]; rfl
        case hq2 => exact fun _ _ _ h => h
        case hy2 =>
          refine Or.inl ⟨by rfl, ?_⟩
          intro w hSw; (try dsimp only at hSw); go_simp; try with_reducible rfl
        try simp only [Act.put, List.setIfInBounds_toArray, List.set_cons_zero, List.set_cons_succ]
        refine' wpAnyH_take (i := 3) (oi := _) (v := _) ?hi3 (by kernel_rfl) (by kernel_rfl) (by kernel_rfl) ?hq3 ?hy3 (by assumption) ?re3
        case hi3 => simp only [List.getElem?_toArray, List.getElem?_cons_succ, List.getElem?_cons_zero]; rfl
        case hq3 => exact fun _ _ _ h => h
        case hy3 =>
          refine Or.inl ⟨by rfl, ?_⟩
          intro w hSw; (try dsimp only at hSw); go_simp; try with_reducible rfl
        try simp only [Act.put, List.setIfInBounds_toArray, List.set_cons_zero, List.set_cons_succ]
        refine' wpAnyH_take (i := 4) (oi := _) (v := _) ?hi4 (by kernel_rfl) (by kernel_rfl) (by kernel_rfl) ?hq4 ?hy4 (by assumption) ?re4
        case hi4 => simp only [List.getElem?_toArray, List.getElem?_cons_succ, List.getElem?_cons_zero]; rfl
        case hq4 => exact fun _ _ _ h => h
        case hy4 =>
          refine Or.inl ⟨by rfl, ?_⟩
          intro w hSw; (try dsimp only at hSw); go_simp; try with_reducible rfl
        try simp only [Act.put, List.setIfInBounds_toArray, List.set_cons_zero, List.set_cons_succ]
        refine' wpAnyH_take (i := 5) (oi := _) (v := _) ?hi5 (by kernel_rfl) (by kernel_rfl) (by kernel_rfl) ?hq5 ?hy5 (by assumption) ?re5
        case hi5 => simp only [List.getElem?_toArray, List.getElem?_cons_succ, List.getElem?_cons_zero]; rfl
        case hq5 => exact fun _ _ _ h => h
        case hy5 =>
          refine Or.inl ⟨by rfl, ?_⟩
          intro w hSw; (try dsimp only at hSw); go_simp; try with_reducible rfl
        try simp only [Act.put, List.setIfInBounds_toArray, List.set_cons_zero, List.set_cons_succ]
        refine' wpAnyH_take (i := 6) (oi := _) (v := _) ?hi6 (by kernel_rfl) (by kernel_rfl) (by kernel_rfl) ?hq6 ?hy6 (by assumption) ?re6
        case hi6 => simp only [List.getElem?_toArray, List.getElem?_cons_succ, List.getElem?_cons_zero]; rfl
        case hq6 => exact fun _ _ _ h => h
        case hy6 =>
          refine Or.inl ⟨by rfl, ?_⟩
          intro w hSw; (try dsimp only at hSw); go_simp; try with_reducible rfl
        try simp only [Act.put, List.setIfInBounds_toArray, List.set_cons_zero, List.set_cons_succ]
        refine' wpAnyH_take (i := 7) (oi := _) (v := _) ?hi7 (by kernel_rfl) (by kernel_rfl) (by kernel_rfl) ?hq7 ?hy7 (by assumption) ?re7
        case hi7 => simp only [List.getElem?_toArray, List.getElem?_cons_succ, List.getElem?_cons_zero]; rfl
        case hq7 => exact fun _ _ _ h => h
        case hy7 =>
          refine Or.inl ⟨by rfl, ?_⟩
          intro w hSw; (try dsimp only at hSw); go_simp; try with_reducible rfl
        try simp only [Act.put, List.setIfInBounds_toArray, List.set_cons_zero, List.set_cons_succ]
        refine' wpAnyH_take (i := 8) (oi := _) (v := _) ?hi8 (by kernel_rfl) (by kernel_rfl) (by kernel_rfl) ?hq8 ?hy8 (by assumption) ?re8
        case hi8 => simp only [List.getElem?_toArray, List.getElem?_cons_succ, List.getElem?_cons_zero]; rfl
        case hq8 => exact fun _ _ _ h => h
        case hy8 =>
          refine Or.inl ⟨by rfl, ?_⟩
          intro w hSw; (try dsimp only at hSw); go_simp; try with_reducible rfl
        try simp only [Act.put, List.setIfInBounds_toArray, List.set_cons_zero, List.set_cons_succ]
        refine' wpAnyH_take (i := 9) (oi := _) (v := _) ?hi9 (by kernel_rfl) (by kernel_rfl) (by kernel_rfl) ?hq9 ?hy9 (by assumption) ?re9
        case hi9 => simp only [List.getElem?_toArray, List.getElem?_cons_succ, List.getElem?_cons_zero]; rfl
        case hq9 => exact fun _ _ _ h => h
        case hy9 =>
          refine Or.inl ⟨by rfl, ?_⟩
          intro w hSw; (try dsimp only at hSw); go_simp; try with_reducible rfl
        try simp only [Act.put, List.setIfInBounds_toArray, List.set_cons_zero, List.set_cons_succ]
        refine' wpAnyH_take (i := 10) (oi := _) (v := _) ?hi10 (by kernel_rfl) (by kernel_rfl) (by kernel_rfl) ?hq10 ?hy10 (by assumption) ?re10
        case hi10 => simp only [List.getElem?_toArray, List.getElem?_cons_succ, List.getElem?_cons_zero]; rfl
        case hq10 => exact fun _ _ _ h => h
        case hy10 =>
          refine Or.inl ⟨by rfl, ?_⟩
          intro w hSw; (try dsimp only at hSw); go_simp; try with_reducible rfl
        try simp only [Act.put, List.setIfInBounds_toArray, List.set_cons_zero, List.set_cons_succ]
        refine' wpAnyH_take (i := 11) (oi := _) (v := _) ?hi11 (by kernel_rfl) (by kernel_rfl) (by kernel_rfl) ?hq11 ?hy11 (by assumption) ?re11
        case hi11 => simp only [List.getElem?_toArray, List.getElem?_cons_succ, List.getElem?_cons_zero]; rfl
        case hq11 => exact fun _ _ _ h => h
        case hy11 =>
          refine Or.inl ⟨by rfl, ?_⟩
          intro w hSw; (try dsimp only at hSw); go_simp; try with_reducible rfl
        try simp only [Act.put, List.setIfInBounds_toArray, List.set_cons_zero, List.set_cons_succ]
        refine' wpAnyH_take (i := 12) (oi := _) (v := _) ?hi12 (by kernel_rfl) (by kernel_rfl) (by kernel_rfl) ?hq12 ?hy12 (by assumption) ?re12
        case hi12 => simp only [List.getElem?_toArray, List.getElem?_cons_succ, List.getElem?_cons_zero]; rfl
        case hq12 => exact fun _ _ _ h => h
        case hy12 =>
          refine Or.inl ⟨by rfl, ?_⟩
          intro w hSw; (try dsimp only at hSw); go_simp; try with_reducible rfl
        try simp only [Act.put, List.setIfInBounds_toArray, List.set_cons_zero, List.set_cons_succ]
        refine' wpAnyH_take (i := 13) (oi := _) (v := _) ?hi13 (by kernel_rfl) (by kernel_rfl) (by kernel_rfl) ?hq13 ?hy13 (by assumption) ?re13
        case hi13 => simp only [List.getElem?_toArray, List.getElem?_cons_succ, List.getElem?_cons_zero]; rfl
        case hq13 => exact fun _ _ _ h => h
        case hy13 =>
          refine Or.inl ⟨by rfl, ?_⟩
          intro w hSw; (try dsimp only at hSw); go_simp; try with_reducible rfl
        try simp only [Act.put, List.setIfInBounds_toArray, List.set_cons_zero, List.set_cons_succ]
        refine' wpAnyH_take (i := 14) (oi := _) (v := _) ?hi14 (by kernel_rfl) (by kernel_rfl) (by kernel_rfl) ?hq14 ?hy14 (by assumption) ?re14
        case hi14 => simp only [List.getElem?_toArray, List.getElem?_cons_succ, List.getElem?_cons_zero]; rfl
        case hq14 => exact fun _ _ _ h => h
        case hy14 =>
          refine Or.inl ⟨by rfl, ?_⟩
          intro w hSw; (try dsimp only at hSw); go_simp; try with_reducible rfl
        try simp only [Act.put, List.setIfInBounds_toArray, List.set_cons_zero, List.set_cons_succ]
        refine' wpAnyH_take (i := 15) (oi := _) (v := _) ?hi15 (by kernel_rfl) (by kernel_rfl) (by kernel_rfl) ?hq15 ?hy15 (by assumption) ?re15
        case hi15 => simp only [List.getElem?_toArray, List.getElem?_cons_succ, List.getElem?_cons_zero]; rfl
        case hq15 => exact fun _ _ _ h => h
        case hy15 =>
          refine Or.inl ⟨by rfl, ?_⟩
          intro w hSw; (try dsimp only at hSw); go_simp; try with_reducible rfl
        try simp only [Act.put, List.setIfInBounds_toArray, List.set_cons_zero, List.set_cons_succ]
        refine' wpAnyH_take (i := 16) (oi := _) (v := _) ?hi16 (by kernel_rfl) (by kernel_rfl) (by kernel_rfl) ?hq16 ?hy16 (by assumption) ?re16
        case hi16 => simp only [List.getElem?_toArray, List.getElem?_cons_succ, List.getElem?_cons_zero]; rfl
        case hq16 => exact fun _ _ _ h => h
        case hy16 =>
          refine Or.inl ⟨by rfl, ?_⟩
          intro w hSw; (try dsimp only at hSw); go_simp; try with_reducible rfl
        try simp only [Act.put, List.setIfInBounds_toArray, List.set_cons_zero, List.set_cons_succ]
        refine' wpAnyH_take (i := 17) (oi := _) (v := _) ?hi17 (by kernel_rfl) (by kernel_rfl) (by kernel_rfl) ?hq17 ?hy17 (by assumption) ?re17
        case hi17 => simp only [List.getElem?_toArray, List.getElem?_cons_succ, List.getElem?_cons_zero]; rfl
        case hq17 => exact fun _ _ _ h => h
        case hy17 =>
          refine Or.inl ⟨by rfl, ?_⟩
          intro w hSw; (try dsimp only at hSw); go_simp; try with_reducible rfl
        try simp only [Act.put, List.setIfInBounds_toArray, List.set_cons_zero, List.set_cons_succ]
        refine' wpAnyH_take (i := 18) (oi := _) (v := _) ?hi18 (by kernel_rfl) (by kernel_rfl) (by kernel_rfl) ?hq18 ?hy18 (by assumption) ?re18
        case hi18 => simp only [List.getElem?_toArray, List.getElem?_cons_succ, List.getElem?_cons_zero]; rfl
        case hq18 => exact fun _ _ _ h => h
        case hy18 =>
          refine Or.inl ⟨by rfl, ?_⟩
          intro w hSw; (try dsimp only at hSw); go_simp; try with_reducible rfl
        try simp only [Act.put, List.setIfInBounds_toArray, List.set_cons_zero, List.set_cons_succ]
        refine wpAnyH_ready (rs := [19]) (by kernel_rfl) (by simp) ?_
        refine' AllReadyH.cons (o := _) ?hi19 (fun K hK => ?st19) AllReadyH.nil
        case hi19 => simp only [List.getElem?_toArray, List.getElem?_cons_succ, List.getElem?_cons_zero]; rfl
        go_simp
        (go_at_call 6; refine (HCA.out _).mono ?_; rintro e w3 ⟨rfl, c3⟩; have s30 : w3.cell? ⟨wr.heap.size, 0, none⟩ = some (.int .i64 (x1 : Int)) := (c3.cell (p := ⟨wr.heap.size, 0, none⟩) (by simp)).trans (by simp); have s31 : w3.cell? ⟨wr.heap.size, 1, none⟩ = some (.string x2) := (c3.cell (p := ⟨wr.heap.size, 1, none⟩) (by simp)).trans (by simp); have l3 : wr.heap.size < w3.heap.size := Nat.lt_of_lt_of_le (by simp) c3.size)
        try go_wp2_with fail
        refine hK.out _ _ ?_ (fun hHeld => ?_)
        · go_keep
        clear hK K
        try simp only [Act.put, List.setIfInBounds_toArray, List.set_cons_zero, List.set_cons_succ]
        refine' wpAnyH_take (i := 20) (oi := _) (v := _) ?hi20 (by kernel_rfl) (by kernel_rfl) (by kernel_rfl) ?hq20 ?hy20 (by assumption) ?re20
        case hi20 => simp only [List.getElem?_toArray, List.getElem?_cons_succ, List.getElem?_cons_zero]; rfl
        case hq20 => exact fun _ _ _ h => h
        case hy20 =>
          refine Or.inl ⟨by rfl, ?_⟩
          intro w hSw; (try dsimp only at hSw); go_simp; try with_reducible rfl
        try simp only [Act.put, List.setIfInBounds_toArray, List.set_cons_zero, List.set_cons_succ]
        refine' wpAnyH_take (i := 21) (oi := _) (v := _) ?hi21 (by kernel_rfl) (by kernel_rfl) (by kernel_rfl) ?hq21 ?hy21 (by assumption) ?re21
        case hi21 => simp only [List.getElem?_toArray, List.getElem?_cons_succ, List.getElem?_cons_zero]; rfl
        case hq21 => exact fun _ _ _ h => h
        case hy21 =>
          refine Or.inl ⟨by rfl, ?_⟩
          intro w hSw; (try dsimp only at hSw); go_simp; try with_reducible rfl
        try simp only [Act.put, List.setIfInBounds_toArray, List.set_cons_zero, List.set_cons_succ]
        refine' wpAnyH_take (i := 22) (oi := _) (v := _) ?hi22 (by kernel_rfl) (by kernel_rfl) (by kernel_rfl) ?hq22 ?hy22 (by assumption) ?re22
        case hi22 => simp only [List.getElem?_toArray, List.getElem?_cons_succ, List.getElem?_cons_zero]; rfl
        case hq22 => exact fun _ _ _ h => h
        case hy22 =>
          refine Or.inl ⟨by rfl, ?_⟩
          intro w hSw; (try dsimp only at hSw); go_simp; try with_reducible rfl
        try simp only [Act.put, List.setIfInBounds_toArray, List.set_cons_zero, List.set_cons_succ]
        refine' wpAnyH_take (i := 23) (oi := _) (v := _) ?hi23 (by kernel_rfl) (by kernel_rfl) (by kernel_rfl) ?hq23 ?hy23 (by assumption) ?re23
        case hi23 => simp only [List.getElem?_toArray, List.getElem?_cons_succ, List.getElem?_cons_zero]; rfl
        case hq23 => exact fun _ _ _ h => h
        case hy23 =>
          refine Or.inl ⟨by rfl, ?_⟩
          intro w hSw; (try dsimp only at hSw); go_simp; try with_reducible rfl
        try simp only [Act.put, List.setIfInBounds_toArray, List.set_cons_zero, List.set_cons_succ]
        refine' wpAnyH_take (i := 24) (oi := _) (v := _) ?hi24 (by kernel_rfl) (by kernel_rfl) (by kernel_rfl) ?hq24 ?hy24 (by assumption) ?re24
        case hi24 => simp only [List.getElem?_toArray, List.getElem?_cons_succ, List.getElem?_cons_zero]; rfl
        case hq24 => exact fun _ _ _ h => h
        case hy24 =>
          refine Or.inl ⟨by rfl, ?_⟩
          intro w hSw; (try dsimp only at hSw); go_simp; try with_reducible rfl
        try simp only [Act.put, List.setIfInBounds_toArray, List.set_cons_zero, List.set_cons_succ]
        refine' wpAnyH_take (i := 25) (oi := _) (v := _) ?hi25 (by kernel_rfl) (by kernel_rfl) (by kernel_rfl) ?hq25 ?hy25 (by assumption) ?re25
        case hi25 => simp only [List.getElem?_toArray, List.getElem?_cons_succ, List.getElem?_cons_zero]; rfl
        case hq25 => exact fun _ _ _ h => h
        case hy25 =>
          refine Or.inl ⟨by rfl, ?_⟩
          intro w hSw; (try dsimp only at hSw); go_simp; try with_reducible rfl
        try simp only [Act.put, List.setIfInBounds_toArray, List.set_cons_zero, List.set_cons_succ]
        refine' wpAnyH_take (i := 26) (oi := _) (v := _) ?hi26 (by kernel_rfl) (by kernel_rfl) (by kernel_rfl) ?hq26 ?hy26 (by assumption) ?re26
        case hi26 => simp only [List.getElem?_toArray, List.getElem?_cons_succ, List.getElem?_cons_zero]; rfl
        case hq26 => exact fun _ _ _ h => h
        case hy26 =>
          refine Or.inl ⟨by rfl, ?_⟩
          intro w hSw; (try dsimp only at hSw); go_simp; try with_reducible rfl
        try simp only [Act.put, List.setIfInBounds_toArray, List.set_cons_zero, List.set_cons_succ]
        refine' wpAnyH_take (i := 27) (oi := _) (v := _) ?hi27 (by kernel_rfl) (by kernel_rfl) (by kernel_rfl) ?hq27 ?hy27 (by assumption) ?re27
        case hi27 => simp only [List.getElem?_toArray, List.getElem?_cons_succ, List.getElem?_cons_zero]; rfl
        case hq27 => exact fun _ _ _ h => h
        case hy27 =>
          refine Or.inl ⟨by rfl, ?_⟩
          intro w hSw; (try dsimp only at hSw); go_simp; try with_reducible rfl
        try simp only [Act.put, List.setIfInBounds_toArray, List.set_cons_zero, List.set_cons_succ]
        refine wpAnyH_ready (rs := [28]) (by kernel_rfl) (by simp) ?_
        refine' AllReadyH.cons (o := _) ?hi28 (fun K hK => ?st28) AllReadyH.nil
        case hi28 => simp only [List.getElem?_toArray, List.getElem?_cons_succ, List.getElem?_cons_zero]; rfl
        go_simp
        (go_at_call 7; refine (HHP.out _).mono ?_; rintro e w4 ⟨rfl, rfl⟩)
        try go_wp2_with fail
        refine hK.out _ _ ?_ (fun hHeld => ?_)
        · go_keep
        clear hK K
        try simp only [Act.put, List.setIfInBounds_toArray, List.set_cons_zero, List.set_cons_succ]
        refine' wpAnyH_take (i := 29) (oi := _) (v := _) ?hi29 (by kernel_rfl) (by kernel_rfl) (by kernel_rfl) ?hq29 ?hy29 (by assumption) ?re29
        case hi29 => simp only [List.getElem?_toArray, List.getElem?_cons_succ, List.getElem?_cons_zero]; rfl
        case hq29 => exact fun _ _ _ h => h
        case hy29 =>
          refine Or.inl ⟨by rfl, ?_⟩
          intro w hSw; (try dsimp only at hSw); go_simp; try with_reducible rfl
        try simp only [Act.put, List.setIfInBounds_toArray, List.set_cons_zero, List.set_cons_succ]
        refine' wpAnyH_take (i := 30) (oi := _) (v := _) ?hi30 (by kernel_rfl) (by kernel_rfl) (by kernel_rfl) ?hq30 ?hy30 (by assumption) ?re30
        case hi30 => simp only [List.getElem?_toArray, List.getElem?_cons_succ, List.getElem?_cons_zero]; rfl
        case hq30 => exact fun _ _ _ h => h
        case hy30 =>
          refine Or.inl ⟨by rfl, ?_⟩
          intro w hSw; (try dsimp only at hSw); go_simp; try with_reducible rfl
        try simp only [Act.put, List.setIfInBounds_toArray, List.set_cons_zero, List.set_cons_succ]
        refine' wpAnyH_take (i := 31) (oi := _) (v := _) ?hi31 (by kernel_rfl) (by kernel_rfl) (by kernel_rfl) ?hq31 ?hy31 (by assumption) ?re31
        case hi31 => simp only [List.getElem?_toArray, List.getElem?_cons_succ, List.getElem?_cons_zero]; rfl
        case hq31 => exact fun _ _ _ h => h
        case hy31 =>
          refine Or.inl ⟨by rfl, ?_⟩
          intro w hSw; (try dsimp only at hSw); go_simp; try with_reducible rfl
        try simp only [Act.put, List.setIfInBounds_toArray, List.set_cons_zero, List.set_cons_succ]
        refine' wpAnyH_take (i := 32) (oi := _) (v := _) ?hi32 (by kernel_rfl) (by kernel_rfl) (by kernel_rfl) ?hq32 ?hy32 (by assumption) ?re32
        case hi32 => simp only [List.getElem?_toArray, List.getElem?_cons_succ, List.getElem?_cons_zero]; rfl
        case hq32 => exact fun _ _ _ h => h
        case hy32 =>
          refine Or.inl ⟨by rfl, ?_⟩
          intro w hSw; (try dsimp only at hSw); go_simp; try with_reducible rfl
        try simp only [Act.put, List.setIfInBounds_toArray, List.set_cons_zero, List.set_cons_succ]
        refine' wpAnyH_take (i := 33) (oi := _) (v := _) ?hi33 (by kernel_rfl) (by kernel_rfl) (by kernel_rfl) ?hq33 ?hy33 (by assumption) ?re33
        case hi33 => simp only [List.getElem?_toArray, List.getElem?_cons_succ, List.getElem?_cons_zero]; rfl
        case hq33 => exact fun _ _ _ h => h
        case hy33 =>
          refine Or.inl ⟨by rfl, ?_⟩
          intro w hSw; (try dsimp only at hSw); go_simp; try with_reducible rfl
        try simp only [Act.put, List.setIfInBounds_toArray, List.set_cons_zero, List.set_cons_succ]
        refine' wpAnyH_take (i := 34) (oi := _) (v := _) ?hi34 (by kernel_rfl) (by kernel_rfl) (by kernel_rfl) ?hq34 ?hy34 (by assumption) ?re34
        case hi34 => simp only [List.getElem?_toArray, List.getElem?_cons_succ, List.getElem?_cons_zero]; rfl
        case hq34 => exact fun _ _ _ h => h
        case hy34 =>
          refine Or.inl ⟨by rfl, ?_⟩
          intro w hSw; (try dsimp only at hSw); go_simp; try with_reducible rfl
        try simp only [Act.put, List.setIfInBounds_toArray, List.set_cons_zero, List.set_cons_succ]
        refine' wpAnyH_take (i := 35) (oi := _) (v := _) ?hi35 (by kernel_rfl) (by kernel_rfl) (by kernel_rfl) ?hq35 ?hy35 (by assumption) ?re35
        case hi35 => simp only [List.getElem?_toArray, List.getElem?_cons_succ, List.getElem?_cons_zero]; rfl
        case hq35 => exact fun _ _ _ h => h
        case hy35 =>
          refine Or.inl ⟨by rfl, ?_⟩
          intro w hSw; (try dsimp only at hSw); go_simp; try with_reducible rfl
        try simp only [Act.put, List.setIfInBounds_toArray, List.set_cons_zero, List.set_cons_succ]
        refine' wpAnyH_take (i := 36) (oi := _) (v := _) ?hi36 (by kernel_rfl) (by kernel_rfl) (by kernel_rfl) ?hq36 ?hy36 (by assumption) ?re36
        case hi36 => simp only [List.getElem?_toArray, List.getElem?_cons_succ, List.getElem?_cons_zero]; rfl
        case hq36 => exact fun _ _ _ h => h
        case hy36 =>
          refine Or.inl ⟨by rfl, ?_⟩
          intro w hSw; (try dsimp only at hSw); go_simp; try with_reducible rfl
        try simp only [Act.put, List.setIfInBounds_toArray, List.set_cons_zero, List.set_cons_succ]
        refine wpAnyH_ready (rs := [37]) (by kernel_rfl) (by simp) ?_
        refine' AllReadyH.cons (o := _) ?hi37 (fun K hK => ?st37) AllReadyH.nil
        case hi37 => simp only [List.getElem?_toArray, List.getElem?_cons_succ, List.getElem?_cons_zero]; rfl
        go_simp
        (go_at_call 8; refine (HTr.out _).mono ?_; rintro e w5 ⟨rfl, c5⟩; have s50 : w5.cell? ⟨wr.heap.size, 0, none⟩ = some (.int .i64 (x1 : Int)) := (c5.cell (p := ⟨wr.heap.size, 0, none⟩) (by simpa using l3)).trans (by simp [s30]); have s51 : w5.cell? ⟨wr.heap.size, 1, none⟩ = some (.string x2) := (c5.cell (p := ⟨wr.heap.size, 1, none⟩) (by simpa using l3)).trans (by simp [s31]))
        try go_wp2_with fail
        refine hK.out _ _ ?_ (fun hHeld => ?_)
        · go_keep
        clear hK K
        try simp only [Act.put, List.setIfInBounds_toArray, List.set_cons_zero, List.set_cons_succ]
        refine' wpAnyH_take (i := 38) (oi := _) (v := _) ?hi38 (by kernel_rfl) (by kernel_rfl) (by kernel_rfl) ?hq38 ?hy38 (by assumption) ?re38
        case hi38 => simp only [List.getElem?_toArray, List.getElem?_cons_succ, List.getElem?_cons_zero]; rfl
        case hq38 => exact fun _ _ _ h => h
        case hy38 =>
          refine Or.inl ⟨by rfl, ?_⟩
          intro w hSw; (try dsimp only at hSw); go_simp; try with_reducible rfl
        try simp only [Act.put, List.setIfInBounds_toArray, List.set_cons_zero, List.set_cons_succ]
        refine' wpAnyH_take (i := 39) (oi := _) (v := _) ?hi39 (by kernel_rfl) (by kernel_rfl) (by kernel_rfl) ?hq39 ?hy39 (by assumption) ?re39
        case hi39 => simp only [List.getElem?_toArray, List.getElem?_cons_succ, List.getElem?_cons_zero]; rfl
        case hq39 => exact fun _ _ _ h => h
        case hy39 =>
          refine Or.inl ⟨by rfl, ?_⟩
          intro w hSw; (try dsimp only at hSw); go_simp; try with_reducible rfl
        try simp only [Act.put, List.setIfInBounds_toArray, List.set_cons_zero, List.set_cons_succ]
        refine' wpAnyH_take (i := 40) (oi := _) (v := _) ?hi40 (by kernel_rfl) (by kernel_rfl) (by kernel_rfl) ?hq40 ?hy40 (by assumption) ?re40
        case hi40 => simp only [List.getElem?_toArray, List.getElem?_cons_succ, List.getElem?_cons_zero]; rfl
        case hq40 => exact fun _ _ _ h => h
        case hy40 =>
          refine Or.inl ⟨by rfl, ?_⟩
          intro w hSw; (try dsimp only at hSw); go_simp; try with_reducible rfl
        try simp only [Act.put, List.setIfInBounds_toArray, List.set_cons_zero, List.set_cons_succ]
        refine' wpAnyH_take (i := 41) (oi := _) (v := _) ?hi41 (by kernel_rfl) (by kernel_rfl) (by kernel_rfl) ?hq41 ?hy41 (by assumption) ?re41
        case hi41 => simp only [List.getElem?_toArray, List.getElem?_cons_succ, List.getElem?_cons_zero]; rfl
        case hq41 => exact fun _ _ _ h => h
        case hy41 =>
          refine Or.inl ⟨by rfl, ?_⟩
          intro w hSw; (try dsimp only at hSw); go_simp; try with_reducible rfl
        try simp only [Act.put, List.setIfInBounds_toArray, List.set_cons_zero, List.set_cons_succ]
        refine' wpAnyH_take (i := 42) (oi := _) (v := _) ?hi42 (by kernel_rfl) (by kernel_rfl) (by kernel_rfl) ?hq42 ?hy42 (by assumption) ?re42
        case hi42 => simp only [List.getElem?_toArray, List.getElem?_cons_succ, List.getElem?_cons_zero]; rfl
        case hq42 => exact fun _ _ _ h => h
        case hy42 =>
          refine Or.inl ⟨by rfl, ?_⟩
          intro w hSw; (try dsimp only at hSw); go_simp; try with_reducible rfl
        try simp only [Act.put, List.setIfInBounds_toArray, List.set_cons_zero, List.set_cons_succ]
        refine' wpAnyH_take (i := 43) (oi := _) (v := _) ?hi43 (by kernel_rfl) (by kernel_rfl) (by kernel_rfl) ?hq43 ?hy43 (by assumption) ?re43
        case hi43 => simp only [List.getElem?_toArray, List.getElem?_cons_succ, List.getElem?_cons_zero]; rfl
        case hq43 => exact fun _ _ _ h => h
        case hy43 =>
          refine Or.inl ⟨by rfl, ?_⟩
          intro w hSw; (try dsimp only at hSw); go_simp; try with_reducible rfl
        try simp only [Act.put, List.setIfInBounds_toArray, List.set_cons_zero, List.set_cons_succ]
        refine' wpAnyH_take (i := 44) (oi := _) (v := _) ?hi44 (by kernel_rfl) (by kernel_rfl) (by kernel_rfl) ?hq44 ?hy44 (by assumption) ?re44
        case hi44 => simp only [List.getElem?_toArray, List.getElem?_cons_succ, List.getElem?_cons_zero]; rfl
        case hq44 => exact fun _ _ _ h => h
        case hy44 =>
          refine Or.inl ⟨by rfl, ?_⟩
          intro w hSw; (try dsimp only at hSw); go_simp; try with_reducible rfl
        try simp only [Act.put, List.setIfInBounds_toArray, List.set_cons_zero, List.set_cons_succ]
        refine' wpAnyH_take (i := 45) (oi := _) (v := undef) ?hi45 (by kernel_rfl) (by kernel_rfl) (by kernel_rfl) ?hq45 ?hy45 (by assumption) ?re45
        case hi45 => simp only [List.getElem?_toArray, List.getElem?_cons_succ, List.getElem?_cons_zero]; rfl
        case hq45 => exact fun _ _ _ h => h
        case hy45 => exact Or.inr ⟨by rfl, rfl⟩
        try simp only [Act.put, List.setIfInBounds_toArray, List.set_cons_zero, List.set_cons_succ]
        refine' wpAnyH_take (i := 46) (oi := _) (v := undef) ?hi46 (by kernel_rfl) (by kernel_rfl) (by kernel_rfl) ?hq46 ?hy46 (by assumption) ?re46
        case hi46 => simp only [List.getElem?_toArray, List.getElem?_cons_succ, List.getElem?_cons_zero]; rfl
        case hq46 => exact fun _ _ _ h => h
        case hy46 => exact Or.inr ⟨by rfl, rfl⟩
        try simp only [Act.put, List.setIfInBounds_toArray, List.set_cons_zero, List.set_cons_succ]
        refine' wpAnyH_take (i := 47) (oi := _) (v := undef) ?hi47 (by kernel_rfl) (by kernel_rfl) (by kernel_rfl) ?hq47 ?hy47 (by assumption) ?re47
        case hi47 => simp only [List.getElem?_toArray, List.getElem?_cons_succ, List.getElem?_cons_zero]; rfl
        case hq47 => exact fun _ _ _ h => h
        case hy47 => exact Or.inr ⟨by rfl, rfl⟩
        try simp only [Act.put, List.setIfInBounds_toArray, List.set_cons_zero, List.set_cons_succ]
        refine' wpAnyH_take (i := 48) (oi := _) (v := undef) ?hi48 (by kernel_rfl) (by kernel_rfl) (by kernel_rfl) ?hq48 ?hy48 (by assumption) ?re48
        case hi48 => simp only [List.getElem?_toArray, List.getElem?_cons_succ, List.getElem?_cons_zero]; rfl
        case hq48 => exact fun _ _ _ h => h
        case hy48 => exact Or.inr ⟨by rfl, rfl⟩
        try simp only [Act.put, List.setIfInBounds_toArray, List.set_cons_zero, List.set_cons_succ]
        refine' wpAnyH_take (i := 49) (oi := _) (v := _) ?hi49 (by kernel_rfl) (by kernel_rfl) (by kernel_rfl) ?hq49 ?hy49 (by assumption) ?re49
        case hi49 => simp only [List.getElem?_toArray, List.getElem?_cons_succ, List.getElem?_cons_zero]; rfl
        case hq49 => exact fun _ _ _ h => h
        case hy49 =>
          refine Or.inl ⟨by rfl, ?_⟩
          intro w hSw; (try dsimp only at hSw); go_simp; try with_reducible rfl
        try simp only [Act.put, List.setIfInBounds_toArray, List.set_cons_zero, List.set_cons_succ]
        refine' wpAnyH_take (i := 50) (oi := _) (v := _) ?hi50 (by kernel_rfl) (by kernel_rfl) (by kernel_rfl) ?hq50 ?hy50 (by assumption) ?re50
        case hi50 => simp only [List.getElem?_toArray, List.getElem?_cons_succ, List.getElem?_cons_zero]; rfl
        case hq50 => exact fun _ _ _ h => h
        case hy50 =>
          refine Or.inl ⟨by rfl, ?_⟩
          intro w hSw; (try dsimp only at hSw); go_simp; try with_reducible rfl
        try simp only [Act.put, List.setIfInBounds_toArray, List.set_cons_zero, List.set_cons_succ]
        refine wpAnyH_done (by kernel_rfl) ?_ _
      case' neg =>
        go_region_held3 (fun wx => wx.cell? ⟨wr.heap.size, 0, none⟩ = some (.int .i64 (x1 : Int)) ∧ wx.cell? ⟨wr.heap.size, 1, none⟩ = some (.string x2)) (go_keep)
          (first
            | (go_at_call 6; refine (HCA.out _).mono ?_; rintro e w3 ⟨rfl, c3⟩; have s30 : w3.cell? ⟨wr.heap.size, 0, none⟩ = some (.int .i64 (x1 : Int)) := (c3.cell (p := ⟨wr.heap.size, 0, none⟩) (by simp)).trans (by simp); have s31 : w3.cell? ⟨wr.heap.size, 1, none⟩ = some (.string x2) := (c3.cell (p := ⟨wr.heap.size, 1, none⟩) (by simp)).trans (by simp); have l3 : wr.heap.size < w3.heap.size := Nat.lt_of_lt_of_le (by simp) c3.size)
            | (go_at_call 7; refine (HHP.out _).mono ?_; rintro e w4 ⟨rfl, rfl⟩)
            | (go_at_call 8; refine (HTr.out _).mono ?_; rintro e w5 ⟨rfl, c5⟩; have s50 : w5.cell? ⟨wr.heap.size, 0, none⟩ = some (.int .i64 (x1 : Int)) := (c5.cell (p := ⟨wr.heap.size, 0, none⟩) (by simpa using l3)).trans (by simp [s30]); have s51 : w5.cell? ⟨wr.heap.size, 1, none⟩ = some (.string x2) := (c5.cell (p := ⟨wr.heap.size, 1, none⟩) (by simpa using l3)).trans (by simp [s31])))
      all_goals
        have b30 := (hb9.trans ((below_drewN w1.heap.size _ 1).mono (Nat.le_refl _))).trans (c3.mono hb9.size)
        have Hrow5 := Lib.hid (Lx.ownBelow (Lx.ownBelow (Lx.ownDrew Hrow9.out 1) c3) c5)
        have b50 := b30.trans (c5.mono b30.size)
        clear s30 s31 l3 c3 c5 b30 r0 r1 hc90 hc91
        go_wp2_with (at_builtin; refine wpList_append_own _ rfl _ _ 25 rfl w1.heap.size 9 i0 _ 1 16 Tryd.underlying25 hi hz0 hz1 hz2 rfl (by decide) _ _ _ rfl (Hrow5.out.alloc _) ⟨w5.heap.size, 0, none⟩ 1 1 [.string x2] rfl rfl (Lx.cellNew w5 (.string x2) 9) (by simp [Value.oneCell']) (by unfold maxLen; omega) (by omega) (by have := b50.size; simp; omega) ?_)
        intro v' w6 hown' hgrow _
        have hb6 := (b50.alloc b50.size (.cells #[.string x2] 9)).grown hgrow (by have := b50.size; simp; omega) (Lx.ownBase Hrow5.out)
        clear hgrow
        go_wp2_with fail
        go_roundw
        case rel => exact ⟨k + 1, by omega, by go_num, by rw [He1.out]; go_num, by rw [He1.out]; omega, by rw [He2.out]; exact hown', hb6⟩
        case measure => simp [intOf]; omega
    · obtain rfl : k = m := by omega
      have htm : L.take k = L := List.take_of_length_le (by rw [Hm.out]; exact Nat.le_refl _)
      rw [htm] at hrow hat ⊢
      have hwl : (Lx.wtexts L).length = k := by rw [Lx.wtexts_len, Hm.out]
      have hcall : ∀ W, Below wr.heap.size wr W → Calls Tryd.prog 9 #[.slice ad k cap, .string (⟨#[32]⟩ ++ R)] W fun e w' => e = .returned (.tuple #[.string J, .int .i64 0]) ∧ Below W.heap.size W w' := by
        intro W hWW
        by_cases h0 : k = 0
        · subst h0
          rw [Hnone.out Hm.out]
          exact join_none _ ad cap W
        · obtain ⟨g, c', hv, ltg, hcg⟩ := Lx.ownPos hrow (by omega)
          injection hv with hv1 hv2 hv3
          subst hv1 hv3
          have := join_any (Lx.wtexts L) (⟨#[32]⟩ ++ R) g 0 k cap W hwl (by omega) (by omega) (Nat.lt_of_lt_of_le ltg hWW.size) (fun j x hx => by rw [Nat.zero_add]; exact (hWW.cell (p := ⟨g, j, none⟩) ltg).trans (hcg j _ (by rw [List.getElem?_map, hx]; rfl))) (by
            intro y hy
            unfold Lx.wtexts at hy
            obtain ⟨z, hz, rfl⟩ := List.mem_map.1 hy
            obtain ⟨j, hj⟩ := List.getElem?_of_mem hz
            have h3 : z.1 + z.2.size ≤ s.size := (HG.out j z hj).2.2.1
            omega) (by rw [ByteArray.size_append]; show 1 + R.size ≤ _; omega)
          rw [← HJ.out, HJe.out] at this
          exact this
      have htx : 0 < k → ∃ g, ad = some ⟨g, 0, none⟩ ∧ g < wr.heap.size ∧ ∀ j x, L[j]? = some x → wr.cell? ⟨g, j, none⟩ = some (.string x.2) := by
        intro h0
        obtain ⟨g, c', hv, ltg, hcg⟩ := Lx.ownPos hrow h0
        injection hv with hv1 hv2 hv3
        exact ⟨g, hv1, ltg, fun j x hx => hcg j _ (by rw [List.getElem?_map, Lx.wtexts_get L j x hx]; rfl)⟩
      have Hcall := Lib.hid hcall
      have Htx := Lib.hid htx
      have b1 := hb1.trans (hbel.mono hb1.size)
      obtain ⟨E, hE⟩ : ∃ E, E = Lx.endOf L := ⟨_, rfl⟩
      rw [← hE] at hat HTl ⊢
      have hEi : (E : Int) ≤ (s.size : Int) := by omega
      have zsp : (⟨#[32]⟩ : ByteArray).size = 1 := rfl
      clear hE hrow hwl hcall htx htm HEnd hends hread
      go_wp2_with fail
      refine (HTl.out _).mono ?_
      rintro e w3 ⟨rfl, c3⟩
      go_wp2_with fail
      refine (HR.out _).mono ?_
      rintro e w4 ⟨rfl, c4⟩
      have d4 := c3.trans (c4.mono c3.size)
      go_wp2_with fail
      refine (Hcall.out _ d4).mono ?_
      rintro e w5 ⟨rfl, c5⟩
      have d5 := d4.trans (c5.mono d4.size)
      clear c3 c4 c5 d4
      go_wp2_with fail
      refine (HW2.out _).mono ?_
      rintro e w6 ⟨v2, rfl, hown2, c6⟩
      obtain ⟨A2, c2, rfl⟩ := Lx.slice_of_row hown2
      have hread2 := Lib.hid (Lx.row_read hown2)
      have d6 := d5.trans (c6.mono d5.size)
      have b6 := b1.trans (d6.mono b1.size)
      clear hown2 c6 d5 b1
      go_wp2_with fail
      go_loopw [118] (fun i wr => ∃ q : Nat, q ≤ k ∧ i = .int .i64 q ∧ Below w6.heap.size w6 wr) (fun i _ => k - (intOf i).toNat)
      case atStart => exact ⟨0, Nat.zero_le _, rfl, Below.refl _ _⟩
      case round =>
        obtain ⟨q, hq, rfl, hbq⟩ := hrel
        have hbw := b6.trans (hbq.mono b6.size)
        by_cases hql : q < k
        · obtain ⟨y, hy⟩ : ∃ y, L2[q]? = some y := ⟨_, List.getElem?_eq_getElem (by rw [Hm2.out]; exact hql)⟩
          obtain ⟨x, hx⟩ : ∃ x, L[q]? = some x := ⟨_, List.getElem?_eq_getElem (by rw [Hm.out]; exact hql)⟩
          have hyx : y.2 = x.2 := by
            have e1 := Lx.wtexts_get L2 q y hy
            rw [HJw.out, Lx.wtexts_get L q x hx] at e1
            exact (Option.some.inj e1).symm
          obtain ⟨g2, rfl, lt2, hc2⟩ := hread2.out (by omega)
          obtain ⟨g, rfl, ltg, hcg⟩ := Htx.out (by omega)
          obtain ⟨q0, q1⟩ := Lx.wordCells_get L2 q y hy
          have r0 := (hbq.cell (p := ⟨g2, q * 2, none⟩) lt2).trans (hc2 _ _ q0)
          have r1 := (hbq.cell (p := ⟨g2, q * 2 + 1, none⟩) lt2).trans (hc2 _ _ q1)
          have r2 := ((d6.trans (hbq.mono d6.size)).cell (p := ⟨g, q, none⟩) ltg).trans (hcg q x hx)
          rw [hyx] at r1
          have r3 := (((Below.refl wr.heap.size wr).alloc (Nat.le_refl _) (.cells #[.int .i64 (y.1 : Int), .string x.2] 27)).cell (p := ⟨g, q, none⟩) (Nat.lt_of_lt_of_le ltg (Nat.le_trans d6.size hbq.size))).trans r2
          have hq2 : (q : Int) < (k : Int) := by omega
          generalize y.1 = y1 at r0 r3
          generalize x.2 = x2 at r1 r2 r3
          clear q0 q1 hc2 hcg hx hy hyx
          have hb7 := hbq.alloc hbq.size (.cells #[.int .i64 (y1 : Int), .string x2] 27)
          go_wp2_with fail
          go_quiet (fail)
          rename_i nq
          go_wp2_with fail
          go_roundw
          case rel => exact ⟨q + 1, by omega, by go_num, hb7.trans ((below_drewN w6.heap.size _ nq).mono (Nat.le_refl _))⟩
          case measure => simp [intOf]; omega
        · obtain rfl : q = k := by omega
          have HW := Lib.hid (works_any wr (env.below hbw))
          go_wp2_with fail
          refine HW.out.mono ?_
          rintro e w7 ⟨rfl, hb7⟩
          go_wp2_with fail
          go_ret
          exact ⟨rfl, hbw.trans (hb7.mono hbw.size)⟩
end Go.Proofs.YtcnhoolbnllmkaaDoor
