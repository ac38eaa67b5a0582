/- The walk of the reference of lex.Lines: the same lines. -/
import Derived.Test.YtlcldmhajnmkdaaDoorProg
import Derived.Test.YtlcldmhajnmkdaaDoorLx
import Derived.Test.YtlcldmhajnmkdaaDoorPiecesLx
import Derived.Test.YtlcldmhajnmkdaaDoorLines
import Derived.Test.YtlcldmhajnmkdaaDoorWords
import Derived.WalkKit
import Derived.WalkSpells
import Derived.WalkLawsBesides
import Derived.BigGuardPart
import Derived.Lib.Hide
namespace Go.Proofs.YtlcldmhajnmkdaaDoor
open Go.RowKit

namespace Lx
theorem piecesTo_lt (s : ByteArray) (p : UInt8 → Bool) (n : Nat) : ∀ k, k ≤ n → ∀ x ∈ piecesTo s p k, x.1 < n
  | 0, _, x, hx => by simp [piecesTo] at hx
  | k + 1, h, x, hx => by
    rw [piecesTo] at hx
    split at hx
    · rw [List.mem_append] at hx
      rcases hx with hx | hx
      · exact piecesTo_lt s p n k (by omega) x hx
      · have := fromAt_le s p k
        simp at hx; rw [hx]; show fromAt s p k < n; omega
    · exact piecesTo_lt s p n k (by omega) x hx
theorem linesOf_piecesTo (s : ByteArray) : linesOf s.size (piecesTo s isLF s.size) = piecesTo s isLF s.size := by
  rw [linesOf, List.filter_eq_self]
  intro x hx
  exact decide_eq_true (piecesTo_lt s isLF s.size s.size (Nat.le_refl _) x hx)
/-- The lines that the reference has before it looks at place k. -/
def refTo (s : ByteArray) (k : Nat) : List (Nat × ByteArray) := if k ≤ s.size then piecesTo s isLF k else linesOf s.size (pieces s isLF)
theorem refTo_in (s : ByteArray) (k : Nat) (h : k ≤ s.size) : refTo s k = piecesTo s isLF k := if_pos h
theorem refTo_out (s : ByteArray) : refTo s (s.size + 1) = linesOf s.size (pieces s isLF) := if_neg (by omega)
theorem refTo_last (s : ByteArray) (h : fromAt s isLF s.size < s.size) : refTo s (s.size + 1) = refTo s s.size ++ [(fromAt s isLF s.size, s.extract (fromAt s isLF s.size) s.size)] := by
  rw [refTo_out, refTo_in s _ (Nat.le_refl _), pieces, linesOf_hit _ _ _ h, linesOf_piecesTo]
theorem refTo_none (s : ByteArray) (h : ¬ fromAt s isLF s.size < s.size) : refTo s (s.size + 1) = refTo s s.size := by
  rw [refTo_out, refTo_in s _ (Nat.le_refl _), pieces, linesOf_miss _ _ _ h, linesOf_piecesTo]
theorem refTo_le (s : ByteArray) (k : Nat) (h : k ≤ s.size) : (refTo s k).length ≤ s.size := by
  rw [refTo_in s k h]; have := piecesTo_le s isLF k; omega
theorem isLF_iff (c : UInt8) : isLF c = true ↔ (c.toNat : Int) = 10 := by
  unfold isLF; rw [beq_iff_eq]; omega
theorem own_base {w : World} {base : Nat} {e : TypeId} {size n : Nat} {v : Value} {xs : List Value} (h : w.ownsRow base e size v n xs) : ∀ g, v.ownBlock = some g → base ≤ g := by
  intro g hg
  rcases h.2 with ⟨rfl, _⟩ | ⟨g', cap, cur, rfl, hb, _⟩
  · simp [Value.ownBlock] at hg
  · have : g' = g := by simpa [Value.ownBlock] using hg
    omega
end Lx

theorem infoRefLine : (Tryd.prog.info? 32).map (fun i => (i.zero, i.size, i.bytes)) = some (some (.agg #[.int .i64 0, .int .i64 0, .string ⟨#[]⟩]), 3, 32) := by kernel_rfl

set_option maxRecDepth 100000 in
set_option maxHeartbeats 1600000 in
theorem ref_lines_any (s : ByteArray) (w : World) (hs : s.size ≤ 65536) :
    Calls Tryd.prog 17 #[.string s] w fun e W' => ∃ v, e = .returned (.tuple #[v, .int .i64 0]) ∧
      W'.ownsRow w.heap.size 32 3 v (Lx.linesOf s.size (Lx.pieces s isLF)).length (Lx.lineCells (Lx.linesOf s.size (Lx.pieces s isLF))) ∧ Below w.heap.size w W' := by
  obtain ⟨i0, hi, hz0, hz1, hz2⟩ := info_parts infoRefLine
  go_enter Tryd.func17, Tryd.ntmps17
  go_wp2
  go_loopw [4, 5, 6] (fun v f i wr => ∃ k : Nat, k ≤ s.size + 1 ∧ i = .int .i64 k ∧ (k ≤ s.size → f = .int .i64 (Lx.fromAt s isLF k)) ∧ wr.ownsRow w.heap.size 32 3 v (Lx.refTo s k).length (Lx.lineCells (Lx.refTo s k)) ∧ Below w.heap.size w wr)
    (fun _ _ i _ => s.size + 1 - (intOf i).toNat)
  case atStart => exact ⟨0, Nat.zero_le _, rfl, fun _ => rfl, World.ownsRow_nil _ _ _ _, Below.refl _ _⟩
  case round =>
    obtain ⟨k, hk, rfl, hf, hrow, hbel⟩ := hrel
    by_cases hle : k ≤ s.size
    · obtain rfl := hf hle
      clear hf
      have hfl := Lx.fromAt_le s isLF k
      have hml := Lx.refTo_le s k hle
      obtain ⟨m, hm⟩ : ∃ m, (Lx.refTo s k).length = m := ⟨_, rfl⟩
      have hln := fun x => Lx.lineCells_snoc (Lx.refTo s k) x
      rw [hm] at hrow hml
      obtain ⟨ad, cap, rfl⟩ := Lx.slice_of_row hrow
      have Hln := Lib.hid hln
      have Hm := Lib.hid hm
      clear hln hm
      by_cases hlt : k < s.size
      · by_cases hc : isLF s[k] = true
        · have hr := Lx.from_hit s isLF k hlt hc
          have hcb : ((s[k].toNat : Int) == 10) = true := by rw [beq_iff_eq]; exact (Lx.isLF_iff _).1 hc
          have Hr := Lib.hid hr
          clear hr hc
          go_wp2_with (at_builtin; refine wpList_append_own _ rfl _ _ 27 rfl w.heap.size 32 i0 _ 3 32 Tryd.underlying27 hi hz0 hz1 hz2 rfl (by decide) _ _ _ rfl (hrow.alloc _) ⟨wr.heap.size, 0, none⟩ 1 1 [.int .i64 ((m : Int) + 1), .int .i64 (Lx.fromAt s isLF k : Int), .string (s.extract (Lx.fromAt s isLF k) k)] rfl rfl (Lx.cell_three_new _ _ _ _ _) (by simp [Value.oneCell']) (by unfold maxLen; omega) (by omega) (by have := hbel.size; simp; omega) ?_)
          · intro v' w1 hown' hgrow _
            have hb' := (hbel.alloc hbel.size (.cells #[.int .i64 ((m : Int) + 1), .int .i64 (Lx.fromAt s isLF k : Int), .string (s.extract (Lx.fromAt s isLF k) k)] 32)).grown hgrow (by have := hbel.size; simp; omega) (Lx.own_base hrow)
            go_wp2
            go_roundw
            case rel => exact ⟨k + 1, by omega, by go_num, fun _ => by rw [Hr.out.1]; go_num, by rw [Lx.refTo_in s _ (by omega), Hr.out.2, ← Lx.refTo_in s k (by omega), Hln.out, List.length_append, Hm.out]; exact hown', hb'⟩
            case measure => simp [intOf]; try omega
        · have hc' : isLF s[k] = false := by simpa using hc
          have hr := Lx.from_miss s isLF k hlt hc'
          have hcb : ((s[k].toNat : Int) == 10) = false := by rw [beq_eq_false_iff_ne]; intro e; exact hc ((Lx.isLF_iff _).2 e)
          have hne : ((k : Int) == (s.size : Int)) = false := by rw [beq_eq_false_iff_ne]; omega
          have Hr := Lib.hid hr
          clear hr hc hc'
          go_wp2
          go_roundw
          case rel => exact ⟨k + 1, by omega, by go_num, fun _ => by rw [Hr.out.1], by rw [Lx.refTo_in s _ (by omega), Hr.out.2, ← Lx.refTo_in s k (by omega), Hm.out]; exact hrow, hbel⟩
          case measure => simp [intOf]; try omega
      · obtain rfl : k = s.size := by omega
        by_cases hlast : Lx.fromAt s isLF s.size < s.size
        · have hr := Lx.refTo_last s hlast
          have hlb : ((Lx.fromAt s isLF s.size : Nat) : Int) < ((s.size : Nat) : Int) := by omega
          have Hr := Lib.hid hr
          clear hr
          go_wp2_with (at_builtin; refine wpList_append_own _ rfl _ _ 27 rfl w.heap.size 32 i0 _ 3 32 Tryd.underlying27 hi hz0 hz1 hz2 rfl (by decide) _ _ _ rfl (hrow.alloc _) ⟨wr.heap.size, 0, none⟩ 1 1 [.int .i64 ((m : Int) + 1), .int .i64 (Lx.fromAt s isLF s.size : Int), .string (s.extract (Lx.fromAt s isLF s.size) s.size)] rfl rfl (Lx.cell_three_new _ _ _ _ _) (by simp [Value.oneCell']) (by unfold maxLen; omega) (by omega) (by have := hbel.size; simp; omega) ?_)
          · intro v' w1 hown' hgrow _
            have hb' := (hbel.alloc hbel.size (.cells #[.int .i64 ((m : Int) + 1), .int .i64 (Lx.fromAt s isLF s.size : Int), .string (s.extract (Lx.fromAt s isLF s.size) s.size)] 32)).grown hgrow (by have := hbel.size; simp; omega) (Lx.own_base hrow)
            go_wp2
            go_roundw
            case rel => exact ⟨s.size + 1, by omega, by go_num, fun h => by omega, by rw [Hr.out, Hln.out, List.length_append, Hm.out]; exact hown', hb'⟩
            case measure => simp [intOf]; try omega
        · have hr := Lx.refTo_none s hlast
          have hlb : ((s.size : Nat) : Int) ≤ ((Lx.fromAt s isLF s.size : Nat) : Int) := by omega
          have Hr := Lib.hid hr
          clear hr hlast
          go_wp2
          go_roundw
          case rel => exact ⟨s.size + 1, by omega, by go_num, fun h => by omega, by rw [Hr.out, Hm.out]; exact hrow, hbel⟩
          case measure => simp [intOf]; try omega
    · obtain rfl : k = s.size + 1 := by omega
      rw [Lx.refTo_out] at hrow
      have Hrow := Lib.hid hrow
      clear hrow hf
      go_wp2
      go_ret2
      exact ⟨_, rfl, Hrow.out, hbel⟩

theorem ref_lines_long (s : ByteArray) (w : World) (hs : 65536 < s.size) :
    Calls Tryd.prog 17 #[.string s] w fun e W' => e = .returned (.tuple #[.slice none 0 0, .int .i64 11]) ∧ w = W' := by
  have hs2 : (65536 : Int) < (s.size : Int) := by omega
  go_enter Tryd.func17, Tryd.ntmps17
  go_wp2
  go_ret2
  exact ⟨rfl, rfl⟩
end Go.Proofs.YtlcldmhajnmkdaaDoor
