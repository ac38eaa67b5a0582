/- The walks of the references of units.Print, Normal and Pair. -/
import Derived.Test.YtdpjcbijddgpgaaGreatDoorUnPrint
import Derived.Test.YtdpjcbijddgpgaaGreatDoorUnRefRead
namespace Go.Proofs.YtdpjcbijddgpgaaGreatDoor
open Go.RowKit

set_option maxRecDepth 100000 in
set_option maxHeartbeats 3200000 in
theorem ref_print_pos (d : Nat) (hd0 : 0 < d) (hd1 : d ≤ 68719476736) (w : World) :
    Calls Tryz.prog 118 #[.int .i64 d] w fun e w' => e = .returned (.tuple #[.string ⟨(Lx.prnS d).toArray⟩, .int .i64 0]) ∧ Below w.heap.size w w' := by
  have hp : (0 : Int) < (d : Int) := by omega
  have hm : (d : Int) ≤ 68719476736 := by omega
  have hprn := Lx.prn_pos (d := d) (by omega)
  have Hprn := Lib.hid hprn
  have Hd := Lib.hid hd1
  clear hprn hd0 hd1
  go_enter Tryz.func118, Tryz.ntmps118
  go_wp2_with fail
  clear hp hm
  go_loopw [0, 4, 5] (fun x t i wr => ∃ (k : Nat) (sb : ByteArray), k ≤ 4 ∧ i = .int .i64 k ∧ x = .int .i64 ((Lx.leftAt d k : Nat) : Int) ∧ t = .string sb ∧ sb.data.toList = Lx.textTo d k ∧ Below w.heap.size w wr) (fun _ _ i _ => 4 - (intOf i).toNat)
  case atStart => exact ⟨0, ⟨#[]⟩, by omega, rfl, rfl, rfl, rfl, Below.refl _ w⟩
  case round =>
    obtain ⟨k, sb, hk, rfl, rfl, rfl, hsb, hbel⟩ := hrel
    have hBw := hbel.size
    by_cases hlt : k < 4
    · have hnext : Lx.leftAt d (k + 1) = Lx.leftAt d k % Lx.secs k := rfl
      have htext : Lx.textTo d (k + 1) = Lx.textTo d k ++ Lx.piece k (Lx.leftAt d k) := rfl
      have hxd := Lx.left_le k d
      have hd := Hd.out
      have htl := Lx.text_len d hd k
      rw [← hsb, ← Lib.size_eq] at htl
      rw [← hsb] at htext
      obtain ⟨x, hx⟩ : ∃ x, x = Lx.leftAt d k := ⟨_, rfl⟩
      rw [← hx] at hnext htext hxd ⊢
      have hlet := fun W => letter_any k hlt W
      have hsec := fun W => seconds_any k hlt W
      obtain ⟨c, hc⟩ : ∃ c, c = Lx.letr k := ⟨_, rfl⟩
      have hpc : Lx.piece k x = if x / Lx.secs k = 0 then [] else Lib.decDigits (x / Lx.secs k) ++ [c] := by rw [hc]; rfl
      rw [← hc] at hlet
      have hx1 : (x : Int) ≤ 68719476736 := by omega
      have Hnext := Lib.hid hnext
      have htl2 : sb.size ≤ 48 := by omega
      have hS4 := Lx.secs_cases k hlt
      obtain ⟨S, hS⟩ : ∃ S, S = Lx.secs k := ⟨_, rfl⟩
      rw [← hS] at hpc hS4 Hnext hsec
      obtain ⟨SI, hSI⟩ : ∃ SI : Int, SI = ((S : Nat) : Int) := ⟨_, rfl⟩
      rw [← hSI] at hsec
      have hS1 : SI = 86400 ∨ SI = 3600 ∨ SI = 60 ∨ SI = 1 := by omega
      clear hnext hx hc hxd hd htl hS hsb
      have hki : (k : Int) < 4 := by omega
      obtain ⟨q, hq⟩ : ∃ q, q = x / S := ⟨_, rfl⟩
      obtain ⟨r, hr⟩ : ∃ r, r = x % S := ⟨_, rfl⟩
      rw [← hq] at hpc
      rw [← hr] at Hnext
      have hq1 : q ≤ x := by rw [hq]; exact Nat.div_le_self _ _
      have hcq : (x : Int) / SI = (q : Int) ∧ (x : Int) % SI = (r : Int) := by
        rw [hSI, hq, hr]; exact ⟨by omega, by omega⟩
      have hlow : (q = 0 ∧ (x : Int) < SI) ∨ (q ≠ 0 ∧ SI ≤ (x : Int)) := by
        rw [hSI, hq]
        rcases hS4 with ⟨_, e⟩ | ⟨_, e⟩ | ⟨_, e⟩ | ⟨_, e⟩ <;> rw [e] <;> omega
      have Hsec := Lib.hid hsec
      have Hlet := Lib.hid hlet
      obtain ⟨X, hX⟩ : ∃ X : Int, X = ((x : Nat) : Int) := ⟨_, rfl⟩
      have hX0 : 0 ≤ X := by omega
      have hqX : (q : Int) ≤ X := by omega
      rw [← hX] at hx1 hcq hlow ⊢
      clear hq hr hSI hS4 hsec hlet hX hq1
      rcases hlow with ⟨hz, hlo⟩ | ⟨hz, hlo⟩
      · rw [if_pos hz] at hpc
        rw [hpc, List.append_nil] at htext
        have Htext := Lib.hid htext
        clear htext hpc hz
        rcases hS1 with rfl | rfl | rfl | rfl
        rotate_left 3
        obtain rfl : X = 0 := by omega
        all_goals
          obtain ⟨q1, r1⟩ := hcq
          have R1 := Lib.hid r1
          go_wp2_with fail
          refine (Hsec.out _).mono ?_
          rintro e w1 ⟨rfl, hb1⟩
          have hb1' := hbel.trans (hb1.mono hBw)
          go_wp2_with fail
          refine (Hsec.out _).mono ?_
          rintro e w2 ⟨rfl, hb2⟩
          have hb2' := hb1'.trans (hb2.mono hb1'.size)
          go_wp2_with fail
          go_roundw
          case rel => exact ⟨k + 1, _, by omega, by go_num, Lx.v_int (by have := R1.out; rw [Hnext.out]; omega), rfl, Htext.out.symm, hb2'⟩
          case measure => simp [intOf]; omega
      · rw [if_neg hz] at hpc
        have hq0 : (0 : Int) < (q : Int) := by omega
        have HD := Lib.hid (fun W => ref_digits_any (q : Int) W (by omega) (by omega))
        rw [Lx.itoa_pos (show (0 : Int) ≤ (q : Int) by omega), Int.natAbs_natCast] at HD
        obtain ⟨G, hG⟩ : ∃ G : ByteArray, G = ⟨(Lib.decDigits q).toArray⟩ := ⟨_, rfl⟩
        have hGl : G.data.toList = Lib.decDigits q := by rw [hG]
        have hGs : G.size ≤ 11 := by rw [Lib.size_eq, hGl]; exact Lx.dd_len q (by omega)
        rw [← hG] at HD
        rw [hpc, ← hGl, ← List.append_assoc] at htext
        have Htext : Hid ((sb ++ G ++ Lx.one c).data.toList = Lx.textTo d (k + 1)) := Lib.hid (by
          rw [htext, ByteArray.data_append, ByteArray.data_append, Array.toList_append, Array.toList_append]; rfl)
        have ha1 : (sb ++ G).size = sb.size + G.size := ByteArray.size_append
        have ho1 : (Lx.one c).size = 1 := rfl
        have HC := Lib.hid (fun W => conv_one W (c.toNat : Int) c rfl)
        clear htext hpc hG hGl hz
        rcases hS1 with rfl | rfl | rfl | rfl
        rotate_left 3
        obtain rfl : X = (q : Int) := by omega
        all_goals
          obtain ⟨q1, r1⟩ := hcq
          have R1 := Lib.hid r1
          clear r1
          go_wp2_with fail
          refine (Hsec.out _).mono ?_
          rintro e w1 ⟨rfl, hb1⟩
          have hb1' := hbel.trans (hb1.mono hBw)
          go_wp2_with fail
          refine (Hsec.out _).mono ?_
          rintro e w2 ⟨rfl, hb2⟩
          have hb2' := hb1'.trans (hb2.mono hb1'.size)
          go_wp2_with fail
          refine (HD.out _).mono ?_
          rintro e w3 ⟨rfl, hb3⟩
          have hb3' := hb2'.trans (hb3.mono hb2'.size)
          go_wp2_with fail
          refine (Hlet.out _).mono ?_
          rintro e w4 ⟨rfl, rfl⟩
          have hcv := HC.out w3
          go_wp2_with fail
          have hb4 : Below w3.heap.size w3 (w3.alloc (.cells #[.int .u8 c.toNat] 5)) := (Below.refl _ _).alloc (Nat.le_refl _) _
          have hb4' := hb3'.trans (hb4.mono hb3'.size)
          refine (Hsec.out _).mono ?_
          rintro e w5 ⟨rfl, hb5⟩
          have hb5' := hb4'.trans (hb5.mono hb4'.size)
          clear hcv
          go_wp2_with fail
          go_roundw
          case rel => exact ⟨k + 1, _, by omega, by go_num, Lx.v_int (by have := R1.out; rw [Hnext.out]; omega), rfl, Htext.out, hb5'⟩
          case measure => simp [intOf]; omega
    · obtain rfl : k = 4 := by omega
      have hfin : sb = ⟨(Lx.prnS d).toArray⟩ := by rw [Hprn.out, ← hsb, Lib.mk_data]
      have Hfin := Lib.hid hfin
      clear hfin hsb
      go_wp2_with fail
      go_ret2
      exact ⟨Lx.ret_t2 (Lx.v_str Hfin.out) rfl, hbel⟩
end Go.Proofs.YtdpjcbijddgpgaaGreatDoor
