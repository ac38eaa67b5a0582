/- The walks of lex.pieces and of the iterator that it returns: it gives the pieces of a text in their order. -/
import Derived.RangeFuncNested
import Derived.RangeFuncBound
import Derived.RangeFuncCalls
import Derived.RangeFuncLeaves
import Derived.RangeFuncBox
import Derived.Shelf.Abstract
import Derived.Shelf.RegionOpen
import Derived.WalkKit
import Derived.OwnWalkIn
import Derived.TacticsInMore
import Derived.LoopNIn
import Derived.LoopIn
import Derived.Sort.QuietIn
import Derived.Maps.AppendAt
import Derived.Lib.Hide
import Derived.Test.YtmpcekpdnikghaaGreatDoorProg
import Derived.Test.YtmpcekpdnikghaaGreatDoorLx
import Derived.Test.YtmpcekpdnikghaaGreatDoorPiecesLx
namespace Go.Proofs.YtmpcekpdnikghaaGreatDoor
open Go.RowKit Go.Shelf
attribute [local go_sem] Oper.semAt_some

abbrev encP (x : Nat × ByteArray) : Array Value := #[.int .i64 (x.1 : Int), .string x.2]
/-- What a round keeps of the iterator's two boxes. -/
def KpP (B : Nat) (W W' : World) : Prop := W'.cell? ⟨B, 0, none⟩ = W.cell? ⟨B, 0, none⟩ ∧ W'.cell? ⟨B + 1, 0, none⟩ = W.cell? ⟨B + 1, 0, none⟩

def isLF (c : UInt8) : Bool := c.toNat == 10
def isBlank (c : UInt8) : Bool := c.toNat == 32 || c.toNat == 9

theorem lf_any (c : UInt8) (w : World) : Calls Tryz.prog 49 #[.int .u8 c.toNat] w fun e w' => e = .returned (.bool (isLF c)) ∧ w' = w := by
  go_enter Tryz.func49, Tryz.ntmps49
  go_wp2
  go_ret
  exact ⟨Lx.ret_bool (by unfold isLF; rw [Bool.eq_iff_iff, beq_iff_eq, beq_iff_eq]; omega), rfl⟩

set_option maxRecDepth 100000 in
set_option maxHeartbeats 1000000 in
theorem lines_iter (n : Nat) (hn : 2 ≤ n) (l B : Nat) (s : ByteArray) (hs : s.size ≤ 1000000000) (J Jx : List (Nat × ByteArray) → World → Prop)
    (W : World) (hJab : AbidesFrom W.heap.size J)
    (hY : ∀ pre x W, J pre W → pre.length < s.size + 1 → YieldAt Fence.wide (n - 1) Tryz.prog l (encP x) W fun e W' =>
      (e = .returned (.bool true) ∧ J (pre ++ [x]) W' ∧ KpP B W W') ∨ (e = .returned (.bool false) ∧ Jx (pre ++ [x]) W'))
    (h1 : W.cell? ⟨B, 0, none⟩ = some (.string s)) (h2 : W.cell? ⟨B + 1, 0, none⟩ = some (.func (.func 49) #[] #[])) (h0 : J [] W) :
    CallsIn Fence.wide n Tryz.prog 62 #[.func (.yield l) #[] #[], .pointer (some ⟨B, 0, none⟩), .pointer (some ⟨B + 1, 0, none⟩)] W fun e W' => (∃ v, e = .returned v) ∧
      ((∃ ys, ys = Lx.pieces s isLF ∧ J ys W') ∨ (∃ pre, True ∧ Jx pre W')) := by
  refine callsIn_of_wp Tryz.func62 rfl trivial ?_ rfl
  simp only [Tryz.ntmps62, List.size_toArray, List.length_cons, List.length_nil, Nat.reduceAdd, Nat.reduceSub, Array.replicate_succ, Array.replicate_zero, List.push_toArray, List.append_toArray, List.nil_append, List.cons_append]
  gi_wp2
  gi_loopw [4, 8] (fun f i wr => ∃ k : Nat, k ≤ s.size ∧ i = .int .i64 k ∧ f = .int .i64 (Lx.fromAt s isLF k) ∧ J (Lx.piecesTo s isLF k) wr ∧ wr.cell? ⟨B, 0, none⟩ = some (.string s) ∧ wr.cell? ⟨B + 1, 0, none⟩ = some (.func (.func 49) #[] #[]))
    (fun _ i _ => s.size - (intOf i).toNat)
  case atStart => exact ⟨0, Nat.zero_le _, rfl, rfl, h0, h1, h2⟩
  case round =>
    obtain ⟨k, hk, rfl, rfl, hJk, hc1, hc2⟩ := hrel
    have hfl := Lx.fromAt_le s isLF k
    by_cases hlt : k < s.size
    · have hI : (k : Int) < (s.size : Int) := by omega
      by_cases hp : isLF s[k] = true
      · have hfm := Lx.from_hit s isLF k hlt hp
        have hcall : ∀ W', CallsIn Fence.wide (n - 1) Tryz.prog 49 #[.int .u8 s[k].toNat] W' fun e w' => e = .returned (.bool true) ∧ w' = W' := fun W' => callsIn_wide.2 (by rw [← hp]; exact lf_any s[k] W')
        have Hcall := Lib.hid hcall
        have Hfm := Lib.hid hfm
        clear hfm hcall hp
        gi_wp2
        refine wpIn_region_quiet_lit rfl (by kernel_rfl) (by kernel_rfl) ?_
        repeat (gi_big_quiet_step (fail))
        refine wpQuietIn_step (fun _ _ _ _ => trivial) (fun K hK => ?_)
        go_simp
        refine ⟨.bool true, fun a => ⟨fun _ => by omega, CallsIn.quiet_of_same (Hcall.out _)⟩, hK _ ?_⟩
        clear hK K
        refine wpQuietIn_nil ?_
        intro _ hw'
        obtain ⟨nq, hw''⟩ := hw'
        subst hw''
        have hJq : J (Lx.piecesTo s isLF k) (wr.drewN nq) := hJab _ _ _ none hJk ⟨rfl, rfl, rfl, Nat.le_refl _, fun _ _ _ => rfl⟩ (fun r e => by cases e)
        have hlen := Lx.piecesTo_le s isLF k
        obtain ⟨fn, tmps, assign, body, hy, hR⟩ := hY _ (Lx.fromAt s isLF k, s.extract (Lx.fromAt s isLF k) k) (wr.drewN nq) hJq (by omega)
        dsimp only [encP] at hy
        gi_wp2
        refine ⟨fun _ => by omega, hR.mono ?_⟩
        rintro e W3 (⟨rfl, hJ3, hk3⟩ | ⟨rfl, hJx3⟩)
        · have hc1' : W3.cell? ⟨B, 0, none⟩ = some (.string s) := hk3.1.trans hc1
          have hc2' : W3.cell? ⟨B + 1, 0, none⟩ = some (.func (.func 49) #[] #[]) := hk3.2.trans hc2
          gi_wp2
          go_roundw
          case rel => exact ⟨k + 1, by omega, by go_num, by rw [Hfm.out.1]; rfl, by rw [Hfm.out.2]; exact hJ3, hc1', hc2'⟩
          case measure => simp [intOf]; omega
        · gi_wp2
          refine bodyPost_ret (results_none rfl _ _ _) rfl ?_
          exact ⟨⟨_, rfl⟩, .inr ⟨_, trivial, hJx3⟩⟩
      · have hp' : isLF s[k] = false := by simpa using hp
        have hfm := Lx.from_miss s isLF k hlt hp'
        have hcall : ∀ W', CallsIn Fence.wide (n - 1) Tryz.prog 49 #[.int .u8 s[k].toNat] W' fun e w' => e = .returned (.bool false) ∧ w' = W' := fun W' => callsIn_wide.2 (by rw [← hp']; exact lf_any s[k] W')
        have Hcall := Lib.hid hcall
        have Hfm := Lib.hid hfm
        clear hfm hcall hp hp'
        gi_wp2
        refine wpIn_region_quiet_lit rfl (by kernel_rfl) (by kernel_rfl) ?_
        repeat (gi_big_quiet_step (fail))
        refine wpQuietIn_step (fun _ _ _ _ => trivial) (fun K hK => ?_)
        go_simp
        refine ⟨.bool false, fun a => ⟨fun _ => by omega, CallsIn.quiet_of_same (Hcall.out _)⟩, hK _ ?_⟩
        clear hK K
        refine wpQuietIn_nil ?_
        intro _ hw'
        obtain ⟨nq, hw''⟩ := hw'
        subst hw''
        have hJq : J (Lx.piecesTo s isLF k) (wr.drewN nq) := hJab _ _ _ none hJk ⟨rfl, rfl, rfl, Nat.le_refl _, fun _ _ _ => rfl⟩ (fun r e => by cases e)
        gi_wp2
        go_roundw
        case rel => exact ⟨k + 1, by omega, by go_num, by rw [Hfm.out.1], by rw [Hfm.out.2]; exact hJq, hc1, hc2⟩
        case measure => simp [intOf]; omega
    · obtain rfl : k = s.size := by omega
      have hlen := Lx.piecesTo_le s isLF s.size
      obtain ⟨fn, tmps, assign, body, hy, hR⟩ := hY _ (Lx.fromAt s isLF s.size, s.extract (Lx.fromAt s isLF s.size) s.size) wr hJk (by omega)
      dsimp only [encP] at hy
      gi_wp2
      refine ⟨fun _ => by omega, hR.mono ?_⟩
      rintro e W3 (⟨rfl, hJ3, hk3⟩ | ⟨rfl, hJx3⟩)
      · gi_wp2
        go_end0
        exact ⟨⟨_, rfl⟩, .inl ⟨_, rfl, hJ3⟩⟩
      · gi_wp2
        go_end0
        exact ⟨⟨_, rfl⟩, .inr ⟨_, trivial, hJx3⟩⟩
/-- The iterator's value: its two boxes, laid anew. -/
theorem pieces_any (s : ByteArray) (g : Nat) (w : World) : Calls Tryz.prog 48 #[.string s, .func (.func g) #[] #[]] w fun e w' =>
    e = .returned (.func (.func 62) #[] #[.pointer (some ⟨w.heap.size, 0, none⟩), .pointer (some ⟨w.heap.size + 1, 0, none⟩)]) ∧ w' = (w.alloc (.cells #[.string s] 9)).alloc (.cells #[.func (.func g) #[] #[]] 84) := by
  go_enter Tryz.func48, Tryz.ntmps48
  go_wp2
  go_ret
  exact ⟨rfl, rfl⟩
end Go.Proofs.YtmpcekpdnikghaaGreatDoor
