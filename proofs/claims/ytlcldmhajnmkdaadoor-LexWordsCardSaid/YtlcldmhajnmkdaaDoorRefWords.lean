/- The walk of the reference of lex.Words: the same words. -/
import Derived.Test.YtlcldmhajnmkdaaDoorProg
import Derived.Test.YtlcldmhajnmkdaaDoorLx
import Derived.Test.YtlcldmhajnmkdaaDoorPiecesLx
import Derived.Test.YtlcldmhajnmkdaaDoorLines
import Derived.Test.YtlcldmhajnmkdaaDoorWords
import Derived.Test.YtlcldmhajnmkdaaDoorRefLines
import Derived.WalkKit
import Derived.WalkSpells
import Derived.WalkLawsBesides
import Derived.BigGuardPart
import Derived.Lib.Hide
namespace Go.Proofs.YtlcldmhajnmkdaaDoor
open Go.RowKit

namespace Lx
theorem fromAt_lt_iff (s : ByteArray) (p : UInt8 → Bool) (k : Nat) (h : k ≤ s.size) : (s.extract (fromAt s p k) k).size ≠ 0 ↔ fromAt s p k < k := by
  have := fromAt_le s p k
  rw [Lib.size_eq, Lib.extract_data, List.length_take, List.length_drop, ← Lib.size_eq]
  omega
/-- The words that the reference has before it looks at place k. -/
def refW (s : ByteArray) (k : Nat) : List (Nat × ByteArray) := if k ≤ s.size then wordsOf (piecesTo s isBlank k) else wordsOf (pieces s isBlank)
theorem refW_in (s : ByteArray) (k : Nat) (h : k ≤ s.size) : refW s k = wordsOf (piecesTo s isBlank k) := if_pos h
theorem refW_out (s : ByteArray) : refW s (s.size + 1) = wordsOf (pieces s isBlank) := if_neg (by omega)
theorem refW_hit (s : ByteArray) (k : Nat) (hk : k < s.size) (h : isBlank s[k] = true) (h2 : fromAt s isBlank k < k) : refW s (k + 1) = refW s k ++ [(fromAt s isBlank k, s.extract (fromAt s isBlank k) k)] := by
  rw [refW_in s _ (by omega), refW_in s k (by omega), (from_hit s isBlank k hk h).2, wordsOf_hit _ _ ((fromAt_lt_iff s isBlank k (by omega)).2 h2)]
theorem refW_skip (s : ByteArray) (k : Nat) (hk : k < s.size) (h : isBlank s[k] = true) (h2 : ¬ fromAt s isBlank k < k) : refW s (k + 1) = refW s k := by
  rw [refW_in s _ (by omega), refW_in s k (by omega), (from_hit s isBlank k hk h).2, wordsOf_miss _ _ (by
    rcases Nat.eq_zero_or_pos (s.extract (fromAt s isBlank k) k).size with h3 | h3
    · exact h3
    · exact absurd ((fromAt_lt_iff s isBlank k (by omega)).1 (by omega)) h2)]
theorem refW_miss (s : ByteArray) (k : Nat) (hk : k < s.size) (h : isBlank s[k] = false) : refW s (k + 1) = refW s k := by
  rw [refW_in s _ (by omega), refW_in s k (by omega), (from_miss s isBlank k hk h).2]
theorem refW_last (s : ByteArray) (h2 : fromAt s isBlank s.size < s.size) : refW s (s.size + 1) = refW s s.size ++ [(fromAt s isBlank s.size, s.extract (fromAt s isBlank s.size) s.size)] := by
  rw [refW_out, refW_in s _ (Nat.le_refl _), pieces, wordsOf_hit _ _ ((fromAt_lt_iff s isBlank s.size (Nat.le_refl _)).2 h2)]
theorem refW_none (s : ByteArray) (h2 : ¬ fromAt s isBlank s.size < s.size) : refW s (s.size + 1) = refW s s.size := by
  rw [refW_out, refW_in s _ (Nat.le_refl _), pieces, wordsOf_miss _ _ (by
    rcases Nat.eq_zero_or_pos (s.extract (fromAt s isBlank s.size) s.size).size with h3 | h3
    · exact h3
    · exact absurd ((fromAt_lt_iff s isBlank s.size (Nat.le_refl _)).1 (by omega)) h2)]
theorem refW_le (s : ByteArray) (k : Nat) (h : k ≤ s.size) : (refW s k).length ≤ s.size := by
  rw [refW_in s k h]
  have := piecesTo_le s isBlank k
  have h2 : (wordsOf (piecesTo s isBlank k)).length ≤ (piecesTo s isBlank k).length := List.length_filter_le _ _
  omega
end Lx

theorem infoRefWord : (Tryd.prog.info? 40).map (fun i => (i.zero, i.size, i.bytes)) = some (some (.agg #[.int .i64 0, .string ⟨#[]⟩]), 2, 24) := by kernel_rfl

theorem ref_blank_any (c : UInt8) (w : World) : Calls Tryd.prog 43 #[.int .u8 c.toNat] w fun e w' => e = .returned (.bool (isBlank c)) ∧ w = w' := by
  by_cases h1 : (c.toNat : Int) = 32
  · have hb : ((c.toNat : Int) == 32) = true := by rw [h1]; rfl
    go_enter Tryd.func43, Tryd.ntmps43
    go_wp2
    go_ret
    exact ⟨Lx.ret_bool (by unfold isBlank; rw [show c.toNat = 32 from (by omega)]; rfl), rfl⟩
  · have hb : ((c.toNat : Int) == 32) = false := by rw [beq_eq_false_iff_ne]; exact h1
    go_enter Tryd.func43, Tryd.ntmps43
    go_wp2
    go_ret
    exact ⟨Lx.ret_bool (by unfold isBlank; rw [show (c.toNat == 32) = false from (by rw [beq_eq_false_iff_ne]; omega), Bool.false_or, Bool.eq_iff_iff, beq_iff_eq, beq_iff_eq]; omega), rfl⟩

set_option maxRecDepth 100000 in
set_option maxHeartbeats 1600000 in
theorem ref_words_any (s : ByteArray) (w : World) (hs : s.size ≤ 65536) :
    Calls Tryd.prog 19 #[.string s] w fun e W' => ∃ v, e = .returned v ∧
      W'.ownsRow w.heap.size 40 2 v (Lx.wordsOf (Lx.pieces s isBlank)).length (Lx.wordCells (Lx.wordsOf (Lx.pieces s isBlank))) ∧ Below w.heap.size w W' := by
  obtain ⟨i0, hi, hz0, hz1, hz2⟩ := info_parts infoRefWord
  go_enter Tryd.func19, Tryd.ntmps19
  go_wp2
  go_loopw [3, 4, 5] (fun v f i wr => ∃ k : Nat, k ≤ s.size + 1 ∧ i = .int .i64 k ∧ (k ≤ s.size → f = .int .i64 (Lx.fromAt s isBlank k)) ∧ wr.ownsRow w.heap.size 40 2 v (Lx.refW s k).length (Lx.wordCells (Lx.refW s k)) ∧ Below w.heap.size w wr)
    (fun _ _ i _ => s.size + 1 - (intOf i).toNat)
  case atStart => exact ⟨0, Nat.zero_le _, rfl, fun _ => rfl, World.ownsRow_nil _ _ _ _, Below.refl _ _⟩
  case round =>
    obtain ⟨k, hk, rfl, hf, hrow, hbel⟩ := hrel
    by_cases hle : k ≤ s.size
    · obtain rfl := hf hle
      clear hf
      have hfl := Lx.fromAt_le s isBlank k
      have hml := Lx.refW_le s k hle
      obtain ⟨m, hm⟩ : ∃ m, (Lx.refW s k).length = m := ⟨_, rfl⟩
      have hln := fun x => Lx.wordCells_snoc (Lx.refW s k) x
      rw [hm] at hrow hml
      obtain ⟨ad, cap, rfl⟩ := Lx.slice_of_row hrow
      have Hln := Lib.hid hln
      have Hm := Lib.hid hm
      clear hln hm
      by_cases hlt : k < s.size
      · have hne : ((k : Int) == (s.size : Int)) = false := by rw [beq_eq_false_iff_ne]; omega
        have hcall := ref_blank_any s[k] wr
        by_cases hc : isBlank s[k] = true
        · rw [hc] at hcall
          have hff := (Lx.from_hit s isBlank k hlt hc).1
          by_cases hl : Lx.fromAt s isBlank k < k
          · have hr := Lx.refW_hit s k hlt hc hl
            have hlb : ((Lx.fromAt s isBlank k : Nat) : Int) < ((k : Nat) : Int) := by omega
            have Hr := Lib.hid hr
            have Hff := Lib.hid hff
            have Hcall := Lib.hid hcall
            clear hr hc hff hcall
            go_wp2_with (first | (go_at_call 43; refine Hcall.out.mono ?_; rintro e w' ⟨rfl, rfl⟩) | (at_builtin; refine wpList_append_own _ rfl _ _ 36 rfl w.heap.size 40 i0 _ 2 24 Tryd.underlying36 hi hz0 hz1 hz2 rfl (by decide) _ _ _ rfl (hrow.alloc _) ⟨wr.heap.size, 0, none⟩ 1 1 [.int .i64 (Lx.fromAt s isBlank k : Int), .string (s.extract (Lx.fromAt s isBlank k) k)] rfl rfl (Lx.cell_two_new _ _ _ _) (by simp [Value.oneCell']) (by unfold maxLen; omega) (by omega) (by have := hbel.size; simp; omega) ?_))
            · intro v' w1 hown' hgrow _
              have hb' := (hbel.alloc hbel.size (.cells #[.int .i64 (Lx.fromAt s isBlank k : Int), .string (s.extract (Lx.fromAt s isBlank k) k)] 40)).grown hgrow (by have := hbel.size; simp; omega) (Lx.own_base hrow)
              go_wp2
              go_roundw
              case rel => exact ⟨k + 1, by omega, by go_num, fun _ => by rw [Hff.out]; go_num, by rw [Hr.out, Hln.out, List.length_append, Hm.out]; exact hown', hb'⟩
              case measure => simp [intOf]; try omega
          · have hr := Lx.refW_skip s k hlt hc hl
            have hlb : ((k : Nat) : Int) ≤ ((Lx.fromAt s isBlank k : Nat) : Int) := by omega
            have Hr := Lib.hid hr
            have Hff := Lib.hid hff
            have Hcall := Lib.hid hcall
            clear hr hc hff hcall hl
            go_wp2_with (go_at_call 43; refine Hcall.out.mono ?_; rintro e w' ⟨rfl, rfl⟩)
            go_roundw
            case rel => exact ⟨k + 1, by omega, by go_num, fun _ => by rw [Hff.out]; go_num, by rw [Hr.out, Hm.out]; exact hrow, hbel⟩
            case measure => simp [intOf]; try omega
        · have hc' : isBlank s[k] = false := by simpa using hc
          rw [hc'] at hcall
          have hff := (Lx.from_miss s isBlank k hlt hc').1
          have hr := Lx.refW_miss s k hlt hc'
          have Hr := Lib.hid hr
          have Hff := Lib.hid hff
          have Hcall := Lib.hid hcall
          clear hr hc hff hcall hc'
          go_wp2_with (go_at_call 43; refine Hcall.out.mono ?_; rintro e w' ⟨rfl, rfl⟩)
          go_roundw
          case rel => exact ⟨k + 1, by omega, by go_num, fun _ => by rw [Hff.out], by rw [Hr.out, Hm.out]; exact hrow, hbel⟩
          case measure => simp [intOf]; try omega
      · obtain rfl : k = s.size := by omega
        by_cases hlast : Lx.fromAt s isBlank s.size < s.size
        · have hr := Lx.refW_last s hlast
          have hlb : ((Lx.fromAt s isBlank s.size : Nat) : Int) < ((s.size : Nat) : Int) := by omega
          have Hr := Lib.hid hr
          clear hr
          go_wp2_with (at_builtin; refine wpList_append_own _ rfl _ _ 36 rfl w.heap.size 40 i0 _ 2 24 Tryd.underlying36 hi hz0 hz1 hz2 rfl (by decide) _ _ _ rfl (hrow.alloc _) ⟨wr.heap.size, 0, none⟩ 1 1 [.int .i64 (Lx.fromAt s isBlank s.size : Int), .string (s.extract (Lx.fromAt s isBlank s.size) s.size)] rfl rfl (Lx.cell_two_new _ _ _ _) (by simp [Value.oneCell']) (by unfold maxLen; omega) (by omega) (by have := hbel.size; simp; omega) ?_)
          · intro v' w1 hown' hgrow _
            have hb' := (hbel.alloc hbel.size (.cells #[.int .i64 (Lx.fromAt s isBlank s.size : Int), .string (s.extract (Lx.fromAt s isBlank s.size) s.size)] 40)).grown hgrow (by have := hbel.size; simp; omega) (Lx.own_base hrow)
            go_wp2
            go_roundw
            case rel => exact ⟨s.size + 1, by omega, by go_num, fun h => by omega, by rw [Hr.out, Hln.out, List.length_append, Hm.out]; exact hown', hb'⟩
            case measure => simp [intOf]; try omega
        · have hr := Lx.refW_none s hlast
          have hlb : ((s.size : Nat) : Int) ≤ ((Lx.fromAt s isBlank s.size : Nat) : Int) := by omega
          have Hr := Lib.hid hr
          clear hr hlast
          go_wp2
          go_roundw
          case rel => exact ⟨s.size + 1, by omega, by go_num, fun h => by omega, by rw [Hr.out, Hm.out]; exact hrow, hbel⟩
          case measure => simp [intOf]; try omega
    · obtain rfl : k = s.size + 1 := by omega
      rw [Lx.refW_out] at hrow
      have Hrow := Lib.hid hrow
      clear hrow hf
      go_wp2
      go_ret
      exact ⟨_, rfl, Hrow.out, hbel⟩
end Go.Proofs.YtlcldmhajnmkdaaDoor
