/- The walk of units.Print: the text of a duration. -/
import Derived.Test.YtpjocfkolnfjiaaGreatDoorUnSmall
import Derived.Test.YtpjocfkolnfjiaaGreatDoorBldB
import Derived.Test.YtpjocfkolnfjiaaGreatDoorDigits
import Derived.Shelf.Strings.MapGrows
namespace Go.Proofs.YtpjocfkolnfjiaaGreatDoor
open Go.RowKit

namespace Lx
theorem cells_app (l : List UInt8) (s : ByteArray) : Lib.byteCells l ++ Lib.strCells s = Lib.byteCells (l ++ s.data.toList) := by
  unfold Lib.byteCells Lib.strCells; rw [List.map_append]
theorem cells_one (l : List UInt8) (c : UInt8) : Lib.byteCells l ++ [.int .u8 c.toNat] = Lib.byteCells (l ++ [c]) := by
  unfold Lib.byteCells; rw [List.map_append]; rfl
theorem cells_len (l : List UInt8) : (Lib.byteCells l).length = l.length := by unfold Lib.byteCells; rw [List.length_map]
theorem block_cell {w : World} {B : Nat} {cs : Array Value} {T : TypeId} {fz : Nat × Nat} (h : w.heap[B]? = some (.cells cs T fz)) (j : Nat) : w.cell? ⟨B, j, none⟩ = cs[j]? := by
  unfold World.cell?; rw [h]; simp
theorem alloc_block (w : World) (o : Obj) : (w.alloc o).heap[w.heap.size]? = some o := (MapKept.heap_alloc w o).1
theorem dd_len (n : Nat) (h : n ≤ 68719476736) : (Lib.decDigits n).length ≤ 11 := by
  rw [Lib.decDigits_length]; exact nDigits_le 10 n (by omega)
theorem piece_len (k d : Nat) (h : d ≤ 68719476736) : (piece k d).length ≤ 12 := by
  unfold piece
  have : d / secs k ≤ d := Nat.div_le_self _ _
  split
  · simp
  · rw [List.length_append, List.length_singleton]; have := dd_len (d / secs k) (by omega); omega
theorem left_le : ∀ k d, leftAt d k ≤ d
  | 0, _ => Nat.le_refl _
  | k + 1, d => Nat.le_trans (Nat.mod_le _ _) (left_le k d)
theorem text_len (d : Nat) (h : d ≤ 68719476736) : ∀ k, (textTo d k).length ≤ 12 * k
  | 0 => by simp [textTo]
  | k + 1 => by
    rw [textTo, List.length_append]
    have h1 := text_len d h k
    have h2 := piece_len k (leftAt d k) (Nat.le_trans (left_le k d) h)
    omega
end Lx
theorem agg_index (k : Nat) (hk : k < 4) (w : World) : (Instr.index 135 (.agg #[.int .u8 100, .int .i64 86400, .int .u8 104, .int .i64 3600, .int .u8 109, .int .i64 60, .int .u8 115, .int .i64 1]) (.int .i64 k)).run Tryz.prog w = .ok (.agg #[.int .u8 (Lx.letr k).toNat, .int .i64 (Lx.secs k : Nat)]) w := by
  rcases (show k = 0 ∨ k = 1 ∨ k = 2 ∨ k = 3 by omega) with rfl | rfl | rfl | rfl <;> kernel_rfl

set_option maxRecDepth 100000 in
set_option maxHeartbeats 3200000 in
theorem print_pos (d : Nat) (hd0 : 0 < d) (hd1 : d ≤ 68719476736) (w : World) (env : UEnv w) :
    Calls Tryz.prog 76 #[.int .i64 d] w fun e w' => e = .returned (.tuple #[.string ⟨(Lx.prnS d).toArray⟩, .int .i64 0]) ∧ Below w.heap.size w w' := by
  have c0 := env.un 0 _ rfl
  have c1 := env.un 1 _ rfl
  have c2 := env.un 2 _ rfl
  have c3 := env.un 3 _ rfl
  have c4 := env.un 4 _ rfl
  have c5 := env.un 5 _ rfl
  have c6 := env.un 6 _ rfl
  have c7 := env.un 7 _ rfl
  have hlt := env.gun
  have hp : (0 : Int) < (d : Int) := by omega
  have hm : (d : Int) ≤ 68719476736 := by omega
  have hfr : Lib.IsBuilderF 90 5 w.heap.size w.heap.size (Lib.byteCells []) (w.alloc (.cells #[.pointer none, .slice none 0 0] 90)) := by
    rcases Lib.fresh_isBuilder 90 5 w with h | h
    · exact .inl (Lib.BuilderAtF.of h)
    · exact .inr (Lib.BuilderAtF.of h)
  have hprn := Lx.prn_pos (d := d) (by omega)
  have Hprn := Lib.hid hprn
  have Hd := Lib.hid hd1
  clear hprn hd0 hd1
  go_enter Tryz.func76, Tryz.ntmps76
  go_wp2_with fail
  clear c0 c1 c2 c3 c4 c5 c6 c7 hlt hp hm
  go_loopw [0, 17] (fun x i wr => ∃ k : Nat, k ≤ 4 ∧ i = .int .i64 k ∧ x = .int .i64 ((Lx.leftAt d k : Nat) : Int) ∧ Lib.IsBuilderF 90 5 w.heap.size w.heap.size (Lib.byteCells (Lx.textTo d k)) wr ∧ Below w.heap.size w wr) (fun _ i _ => 4 - (intOf i).toNat)
  case atStart => exact ⟨0, by omega, rfl, rfl, hfr, (Below.refl _ w).alloc (Nat.le_refl _) _⟩
  case round =>
    obtain ⟨k, hk, rfl, rfl, hbd, hbel⟩ := hrel
    clear hfr
    have hBw := hbel.size
    by_cases hlt : k < 4
    · have hix := agg_index k hlt
      have hnext : Lx.leftAt d (k + 1) = Lx.leftAt d k % Lx.secs k := rfl
      have htext : Lx.textTo d (k + 1) = Lx.textTo d k ++ Lx.piece k (Lx.leftAt d k) := rfl
      have hxd := Lx.left_le k d
      have hd := Hd.out
      have htl := Lx.text_len d hd k
      obtain ⟨x, hx⟩ : ∃ x, x = Lx.leftAt d k := ⟨_, rfl⟩
      rw [← hx] at hnext htext hxd ⊢
      obtain ⟨T, hT⟩ : ∃ T, T = Lx.textTo d k := ⟨_, rfl⟩
      rw [← hT] at htext htl hbd
      obtain ⟨c, hc⟩ : ∃ c, c = Lx.letr k := ⟨_, rfl⟩
      have hpc : Lx.piece k x = if x / Lx.secs k = 0 then [] else Lib.decDigits (x / Lx.secs k) ++ [c] := by rw [hc]; rfl
      rw [← hc] at hix
      have hx1 : (x : Int) ≤ 68719476736 := by omega
      have Hnext := Lib.hid hnext
      have htl2 : T.length ≤ 48 := by omega
      have hS4 := Lx.secs_cases k hlt
      obtain ⟨S, hS⟩ : ∃ S, S = Lx.secs k := ⟨_, rfl⟩
      rw [← hS] at hix hpc hS4 Hnext
      obtain ⟨SI, hSI⟩ : ∃ SI : Int, SI = ((S : Nat) : Int) := ⟨_, rfl⟩
      rw [← hSI] at hix
      have hS1 : SI = 86400 ∨ SI = 3600 ∨ SI = 60 ∨ SI = 1 := by omega
      clear hnext hx hT hc hxd hd htl hS4 hS
      have hki : (k : Int) < 4 := by omega
      obtain ⟨q, hq⟩ : ∃ q, q = x / S := ⟨_, rfl⟩
      obtain ⟨r, hr⟩ : ∃ r, r = x % S := ⟨_, rfl⟩
      rw [← hq] at hpc
      rw [← hr] at Hnext
      have hq1 : q ≤ x := by rw [hq]; exact Nat.div_le_self _ _
      have hblk : (wr.alloc (.cells #[.int .u8 c.toNat, .int .i64 SI] 134)).heap[wr.heap.size]? = some (.cells #[.int .u8 c.toNat, .int .i64 SI] 134 (0, 0)) := Lx.alloc_block _ _
      have hba : Below wr.heap.size wr (wr.alloc (.cells #[.int .u8 c.toNat, .int .i64 SI] 134)) := (Below.refl _ _).alloc (Nat.le_refl _) _
      have hb0 := hbel.trans (hba.mono hBw)
      have hbd0 := hbd.alloc (.cells #[.int .u8 c.toNat, .int .i64 SI] 134)
      have hlt0 : wr.heap.size < (wr.alloc (.cells #[.int .u8 c.toNat, .int .i64 SI] 134)).heap.size := by simp
      have env0 := env.below hb0
      have hB0 := hb0.size
      have hwB : w.heap.size < wr.heap.size := hbd.elim (fun h => h.lt) (fun h => h.lt)
      have hcq : (x : Int) / SI = (q : Int) ∧ (x : Int) % SI = (r : Int) := by
        rw [hSI, hq, hr]; exact ⟨by omega, by omega⟩
      clear hq hr hSI
      by_cases hz : q = 0
      · rw [if_pos hz] at hpc
        rw [hpc, List.append_nil] at htext
        rw [← htext] at hbd0
        subst hz
        have Htext := Lib.hid htext
        clear htext hpc htl2 hq1 hbd env0 hblk
        rcases hS1 with rfl | rfl | rfl | rfl
        all_goals
          obtain ⟨q1, r1⟩ := hcq
          have R1 := Lib.hid r1
          go_wp2_with fail
          go_roundw
          case rel => exact ⟨k + 1, by omega, by go_num, Lx.v_int (by have := R1.out; rw [Hnext.out]; omega), hbd0, hb0⟩
          case measure => simp [intOf]; omega
      · rw [if_neg hz] at hpc
        have hq0 : (0 : Int) < (q : Int) := by omega
        have HD := Lib.hid (fun W (E : UEnv W) => digits_any (q : Int) W (by omega) (by omega) E.env)
        rw [Lx.itoa_pos (show (0 : Int) ≤ (q : Int) by omega), Int.natAbs_natCast] at HD
        obtain ⟨G, hG⟩ : ∃ G : ByteArray, G = ⟨(Lib.decDigits q).toArray⟩ := ⟨_, rfl⟩
        have hGl : G.data.toList = Lib.decDigits q := by rw [hG]
        have hGs : G.size ≤ 11 := by rw [Lib.size_eq, hGl]; exact Lx.dd_len q (by omega)
        rw [← hG] at HD
        rw [hpc, ← hGl, ← List.append_assoc] at htext
        have Htext := Lib.hid htext
        clear htext hpc hG hGl hbd hz
        rcases hS1 with rfl | rfl | rfl | rfl
        rotate_left 3
        obtain rfl : x = q := by omega
        all_goals
          obtain ⟨q1, r1⟩ := hcq
          have R1 := Lib.hid r1
          go_wp2_with fail
          refine (HD.out _ env0).mono ?_
          rintro e w1 ⟨rfl, hb1⟩
          have hblk1 := (hb1.block _ hlt0).trans hblk
          have hbd1 := hbd0.below hb1
          have hB1 := Nat.le_trans hB0 hb1.size
          have hb1' := hb0.trans (hb1.mono hB0)
          clear hblk hbd0 hb1 hb0 hB0 hba env0
          go_wp2_with fail
          refine (bld_write _ _ _ G w1 hbd1 (by rw [Lx.cells_len]; omega) hB1).mono ?_
          rintro e w2 ⟨rfl, hb2, hbl2, hk2⟩
          rw [Lx.cells_app] at hb2
          have hblk2 := hk2 _ _ hblk1 (by intro e; have := Option.some.inj e; omega) (by intro c fz e; injection e with _ e2 _; exact absurd e2 (by decide))
          have hb2' := hb1'.trans hbl2
          have hB2 := Nat.le_trans hB1 hbl2.size
          have d20 : w2.cell? ⟨wr.heap.size, 0, none⟩ = some (.int .u8 c.toNat) := Lx.block_cell hblk2 0
          clear hblk1 hbd1 hbl2 hk2 hb1' hB1
          go_wp2_with fail
          refine (bld_byte _ _ _ c w2 (.inr hb2) (by rw [Lx.cells_len, List.length_append, ← Lib.size_eq]; omega) hB2).mono ?_
          rintro e w3 ⟨rfl, hb3, hbl3, hk3⟩
          rw [Lx.cells_one, ← Htext.out] at hb3
          have hblk3 := hk3 _ _ hblk2 (by intro e; have := Option.some.inj e; omega) (by intro c fz e; injection e with _ e2 _; exact absurd e2 (by decide))
          have hb3' := hb2'.trans hbl3
          have d31 := Lx.block_cell hblk3 1
          clear hblk2 hbl3 hk3 hb2' hB2 hb2 d20
          go_wp2_with fail
          go_roundw
          case rel => exact ⟨k + 1, by omega, by go_num, Lx.v_int (by have := R1.out; rw [Hnext.out]; omega), .inr hb3, hb3'⟩
          case measure => simp [intOf]; omega
    · obtain rfl : k = 4 := by omega
      have hS := Lib.hid (Tryz.Builder_String_any_k _ _ _ wr hbd hBw)
      clear hbd
      go_wp2_with fail
      refine hS.out.mono ?_
      rintro e w3 ⟨rfl, _, hbl, _⟩
      go_wp2_with fail
      go_ret2
      exact ⟨Lx.ret_t2 (Lx.v_str (by rw [Hprn.out])) rfl, hbel.trans hbl⟩
theorem print_any (d : Int) (w : World) (env : UEnv w) :
    Calls Tryz.prog 76 #[.int .i64 d] w fun e w' => e = .returned (.tuple #[.string ⟨(Lx.prnV d).toArray⟩, .int .i64 (Lx.prnE d)]) ∧ Below w.heap.size w w' := by
  by_cases hin : 0 ≤ d ∧ d ≤ 68719476736
  · obtain ⟨e1, e2⟩ := Lx.prn_in hin
    rw [e1, e2]
    by_cases h0 : d = 0
    · subst h0
      clear e1 e2 hin
      go_enter Tryz.func76, Tryz.ntmps76
      go_wp2
      go_ret2
      exact ⟨rfl, Below.refl _ _⟩
    · have h := print_pos d.toNat (by omega) (by omega) w env
      rw [Int.toNat_of_nonneg hin.1] at h
      exact h
  · obtain ⟨e1, e2⟩ := Lx.prn_out hin
    rw [e1, e2]
    rcases (show d < 0 ∨ 68719476736 < d by omega) with h | h
    · clear e1 e2 hin
      go_enter Tryz.func76, Tryz.ntmps76
      go_wp2
      go_ret2
      exact ⟨rfl, Below.refl _ _⟩
    · have h2 : 0 ≤ d := by omega
      clear e1 e2 hin
      go_enter Tryz.func76, Tryz.ntmps76
      go_wp2
      all_goals first | (exfalso; omega) | (go_ret2; exact ⟨rfl, Below.refl _ _⟩)
/-- units.Print at a text that is known. -/
theorem print_in (d : Nat) (hd : d ≤ 68719476736) (w : World) (env : UEnv w) :
    Calls Tryz.prog 76 #[.int .i64 d] w fun e w' => e = .returned (.tuple #[.string ⟨(Lx.prnS d).toArray⟩, .int .i64 0]) ∧ Below w.heap.size w w' := by
  have h := print_any d w env
  rw [(Lx.prn_in (d := d) (by omega)).1, (Lx.prn_in (d := d) (by omega)).2, Int.toNat_natCast] at h
  exact h

end Go.Proofs.YtpjocfkolnfjiaaGreatDoor
