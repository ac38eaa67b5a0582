/- The walk of strconv.FormatUint to the base 16. -/
import Derived.Test.YtpjocfkolnfjiaaGreatDoorProg
import Derived.Test.YtpjocfkolnfjiaaGreatDoorUnEnv
import Derived.Test.YtpjocfkolnfjiaaGreatDoorUnHexRef
import Derived.Laws.Closers25b
import Derived.BigCall
import Derived.BigGuard
import Derived.Laws.Bits64b
namespace Go.Proofs.YtpjocfkolnfjiaaGreatDoor
open Go.RowKit

theorem tz64_16 (w : World) (h : w.cell? ⟨6, 15, none⟩ = some (.int .u8 4)) :
    Calls Tryz.prog 126 #[.int .u64 16] w fun e w' => e = .returned (.int .i64 4) ∧ w = w' := by
  have hi : IntKind.u64.wrap (bits .and .u64 16 (IntKind.u64.wrap (-16)) * 285870213051353865) / 288230376151711744 = 15 := by decide +kernel
  go_enter Tryz.func126, Tryz.ntmps126
  go_wp2
  go_ret
  exact ⟨rfl, rfl⟩
theorem tz_16 (w : World) (h : w.cell? ⟨6, 15, none⟩ = some (.int .u8 4)) :
    Calls Tryz.prog 120 #[.int .u64 16] w fun e w' => e = .returned (.int .i64 4) ∧ w = w' := by
  have hT := tz64_16 w h
  go_enter Tryz.func120, Tryz.ntmps120
  go_wp2_with (go_at_call 126; refine hT.mono ?_; rintro e w' ⟨rfl, rfl⟩)
  go_ret
  exact ⟨rfl, rfl⟩
theorem pow2_16 (w : World) :
    Calls Tryz.prog 119 #[.int .i64 16] w fun e w' => e = .returned (.bool true) ∧ w = w' := by
  go_enter Tryz.func119, Tryz.ntmps119
  go_wp2
  go_ret
  exact ⟨rfl, rfl⟩

theorem Lx.digs_get (r : Nat) (h : r < (⟨#[48, 49, 50, 51, 52, 53, 54, 55, 56, 57, 97, 98, 99, 100, 101, 102, 103, 104, 105, 106, 107, 108, 109, 110, 111, 112, 113, 114, 115, 116, 117, 118, 119, 120, 121, 122]⟩ : ByteArray).size) (h16 : r < 16) : (⟨#[48, 49, 50, 51, 52, 53, 54, 55, 56, 57, 97, 98, 99, 100, 101, 102, 103, 104, 105, 106, 107, 108, 109, 110, 111, 112, 113, 114, 115, 116, 117, 118, 119, 120, 121, 122]⟩ : ByteArray)[r] = Lx.hexD r := by
  have key : ∀ r : Fin 16, (⟨#[48, 49, 50, 51, 52, 53, 54, 55, 56, 57, 97, 98, 99, 100, 101, 102, 103, 104, 105, 106, 107, 108, 109, 110, 111, 112, 113, 114, 115, 116, 117, 118, 119, 120, 121, 122]⟩ : ByteArray)[r.val]'(Nat.lt_of_lt_of_le r.isLt (by decide)) = Lx.hexD r.val := by decide
  exact key ⟨r, h16⟩
theorem Lx.and15 (m : Nat) (h : (m : Int) ≤ 18446744073709551615) : bits .and .u64 (m : Int) 15 = ((m % 16 : Nat) : Int) := by
  have := bits_and_u64_nat m 15 (by omega) (by omega)
  rw [show ((15 : Nat) : Int) = 15 from rfl] at this
  rw [this]
  have e : m &&& 15 = m % 16 := Nat.and_two_pow_sub_one_eq_mod m 4
  rw [e]
theorem Lx.natHex_len (n : Nat) (h : (n : Int) ≤ 18446744073709551615) : (Lx.natHex n).length ≤ 16 := by
  refine (Lx.natHex_pad 15 n ?_).1
  have : (16 : Nat) ^ (15 + 1) = 18446744073709551616 := by decide
  omega
theorem Lx.natHex_pos (n : Nat) : 1 ≤ (Lx.natHex n).length := by
  by_cases h : n < 16
  · rw [Lx.natHex_small h]; exact Nat.le_refl _
  · rw [Lx.natHex_big h, List.length_append, List.length_singleton]; omega
/-- The block of the digits: written from the place k on. -/
def Lx.Buf (B k : Nat) (l : List UInt8) (w : World) : Prop :=
  (∀ j, j < 65 → (w.cell? ⟨B, j, none⟩).isSome = true) ∧ (∀ j, j < 65 → w.frozen? ⟨B, j, none⟩ = false) ∧ ∀ (j : Nat) (c : UInt8), l[j]? = some c → w.cell? ⟨B, k + j, none⟩ = some (.int .u8 c.toNat)
theorem Lx.Buf.store {B k : Nat} {l : List UInt8} {w : World} (h : Lx.Buf B (k + 1) l w) (hk : k < 65) (c : UInt8) : Lx.Buf B k (c :: l) (w.setCell ⟨B, k, none⟩ (.int .u8 c.toNat)) := by
  obtain ⟨h1, h2, h3⟩ := h
  refine ⟨fun j hj => ?_, fun j hj => ?_, fun j d hd => ?_⟩
  · obtain ⟨u, hu⟩ := Option.isSome_iff_exists.1 (h1 j hj)
    obtain ⟨v, hv⟩ := cell?_setCell_some (p := ⟨B, k, none⟩) (x := .int .u8 c.toNat) hu
    rw [hv]; rfl
  · rw [World.frozen?_setCell]; exact h2 j hj
  · cases j with
    | zero =>
      simp only [List.getElem?_cons_zero, Option.some.injEq] at hd
      subst hd
      obtain ⟨u, hu⟩ := Option.isSome_iff_exists.1 (h1 k hk)
      exact World.cell?_setCell_same w _ _ hu
    | succ j =>
      simp only [List.getElem?_cons_succ] at hd
      rw [World.cell?_setCell_other _ _ _ _ (by intro e; injection e with _ e2 _; omega)]
      have := h3 j d hd
      rw [← this]; congr 2; omega
theorem Lx.zero_buf (w : World) : Lx.Buf w.heap.size 65 [] (w.alloc (.cells Tryz.zeroCells162 162)) := by
  have hs : Tryz.zeroCells162.size = 65 := by kernel_rfl
  refine ⟨fun j hj => ?_, fun j hj => ?_, fun j c hc => by cases hc⟩
  · have : ((w.alloc (.cells Tryz.zeroCells162 162)).cell? ⟨w.heap.size, j, none⟩) = Tryz.zeroCells162[j]? := by simp
    rw [this, Array.getElem?_eq_getElem (by omega)]; rfl
  · exact World.frozen?_alloc_new w _ _ j

set_option maxRecDepth 100000 in
set_option maxHeartbeats 1600000 in
theorem format_bits (n : Nat) (hn : (n : Int) ≤ 18446744073709551615) (w : World) (env : UEnv w) :
    Calls Tryz.prog 106 #[.slice none 0 0, .int .u64 n, .int .i64 16, .bool false, .bool false] w fun e w' => e = .returned (.tuple #[.slice none 0 0, .string ⟨(Lx.natHex n).toArray⟩]) ∧ Below w.heap.size w w' := by
  have hzb := Lx.zero_buf w
  have hbel0 : Below w.heap.size w (w.alloc (.cells Tryz.zeroCells162 162)) := (Below.refl _ w).alloc (Nat.le_refl _) _
  have env0 := env.below hbel0
  have HT := Lib.hid (tz_16 _ env0.db)
  obtain ⟨B, hB⟩ : ∃ B, B = w.heap.size := ⟨_, rfl⟩
  have hlen := Lx.natHex_len n hn
  go_enter Tryz.func106, Tryz.ntmps106
  go_wp2_with fail
  refine (pow2_16 _).mono ?_
  rintro e w1 ⟨rfl, rfl⟩
  go_wp2_with fail
  refine HT.out.mono ?_
  rintro e w1 ⟨rfl, rfl⟩
  go_wp2_with fail
  clear HT env0 env
  rw [← hB] at hzb hbel0 ⊢
  generalize w.alloc (.cells Tryz.zeroCells162 162) = w0 at hzb hbel0 ⊢
  have HL := Lib.hid hlen
  have HB := Lib.hid hB
  clear hlen hB
  go_loopw [1, 13] (fun u i wr => ∃ (k m : Nat) (l : List UInt8), u = .int .u64 m ∧ i = .int .i64 k ∧ k ≤ 65 ∧ (m : Int) ≤ 18446744073709551615 ∧ Hid (Lx.natHex n = Lx.natHex m ++ l ∧ l.length + k = 65 ∧ Lx.Buf B k l wr) ∧ Below B w wr) (fun u _ _ => (intOf u).toNat)
  case atStart => exact ⟨65, n, [], rfl, rfl, Nat.le_refl _, hn, Lib.hid ⟨by simp, rfl, hzb⟩, hbel0⟩
  case round =>
    obtain ⟨k, m, l, rfl, rfl, hk, hm, hrel, hbel⟩ := hrel
    clear hzb hbel0
    obtain ⟨r1, r2, r3⟩ := hrel.out
    have hl := HL.out
    rw [r1, List.length_append] at hl
    have hp := Lx.natHex_pos m
    obtain ⟨k', rfl⟩ : ∃ k', k = k' + 1 := ⟨k - 1, by omega⟩
    have hk' : k' < 65 := by omega
    obtain ⟨v0, hc⟩ := Option.isSome_iff_exists.1 (r3.1 k' hk')
    have hf := r3.2.1 k' hk'
    have hwB : w.heap.size ≤ B := by rw [HB.out]; exact Nat.le_refl _
    by_cases hlt : m < 16
    · have hms : (m : Int) < 16 := by omega
      have hg := Lx.digs_get m (Nat.lt_of_lt_of_le hlt (by decide)) hlt
      have hst := r3.store hk' (Lx.hexD m)
      have hsm := Lx.natHex_small hlt
      have hfin : Lx.natHex n = Lx.hexD m :: l := by rw [r1, hsm]; rfl
      have hln : (Lx.hexD m :: l).length + k' = 65 := by rw [List.length_cons]; omega
      have hbs : Below B w (wr.setCell ⟨B, k', none⟩ (.int .u8 (Lx.hexD m).toNat)) := hbel.setCell (Nat.le_refl _) _
      have hcv : (convert 88 9 (.slice (some ⟨B, k', none⟩) (65 - k') (65 - k'))).run Tryz.prog (wr.setCell ⟨B, k', none⟩ (.int .u8 (Lx.hexD m).toNat)) = .ok (.string ⟨(Lx.hexD m :: l).toArray⟩) (wr.setCell ⟨B, k', none⟩ (.int .u8 (Lx.hexD m).toNat)) := by
        have := run_convert_bytes_back (P := Tryz.prog) (wr.setCell ⟨B, k', none⟩ (.int .u8 (Lx.hexD m).toNat)) 88 9 5 ⟨B, k', none⟩ (65 - k') (Lx.hexD m :: l) Tryz.underlying88 Tryz.underlying5 Tryz.underlying9 (fun j hj => by
          have := hst.2.2 j _ (List.getElem?_eq_getElem hj)
          rw [← this]
          congr 1
          unfold Addr.add
          by_cases h0 : j = 0
          · subst h0; rfl
          · simp [h0])
        rw [show (Lx.hexD m :: l).length = 65 - k' by omega] at this
        exact this
      have Hcv := Lib.hid hcv
      have Hfin := Lib.hid hfin
      clear r1 r2 r3 hl hp hrel hst hsm hfin hln
      clear hcv
      have hcv := Hcv.out
      have hal : Tryz.prog.arrayLen 162 = 65 := by kernel_rfl
      have hsl : ∀ W, (Instr.sliceAt 162 (.pointer (some ⟨B, 0, none⟩)) (some (.int .i64 k')) none none).run Tryz.prog W = .ok (.slice (some ⟨B, k', none⟩) (65 - k') (65 - k')) W := fun W => by
        rw [run_sliceAt_array_l W 162 ⟨B, 0, none⟩ (by simp [Program.arrayLen, Program.elem, Tryz.underlying162]) .i64 k' (by omega) (by rw [hal]; omega)]
        go_simp
        try omega
      clear hal
      go_wp2_with fail
      go_ret2
      exact ⟨Lx.ret_t2 rfl (Lx.v_str (by rw [Hfin.out])), by rw [← HB.out]; exact hbs⟩
    · have hge : (16 : Int) ≤ (m : Int) := by omega
      have hand := Lx.and15 m hm
      have hg := Lx.digs_get (m % 16) (Nat.lt_of_lt_of_le (Nat.mod_lt _ (by omega)) (by decide)) (Nat.mod_lt _ (by omega))
      have hst := r3.store hk' (Lx.hexD (m % 16))
      have hbig := Lx.natHex_big hlt
      have Hst : Hid (Lx.natHex n = Lx.natHex (m / 16) ++ (Lx.hexD (m % 16) :: l) ∧ (Lx.hexD (m % 16) :: l).length + k' = 65 ∧ Lx.Buf B k' (Lx.hexD (m % 16) :: l) (wr.setCell ⟨B, k', none⟩ (.int .u8 (Lx.hexD (m % 16)).toNat))) :=
        Lib.hid ⟨by rw [r1, hbig]; simp, by rw [List.length_cons]; omega, hst⟩
      have hbs : Below B w (wr.setCell ⟨B, k', none⟩ (.int .u8 (Lx.hexD (m % 16)).toNat)) := hbel.setCell (Nat.le_refl _) _
      clear r1 r2 r3 hl hp hrel hst hbig hlt
      go_wp2_with fail
      go_roundw
      case rel => exact ⟨k', m / 16, _, by go_num, by go_num, by omega, by omega, Hst, hbs⟩
      case measure => simp [intOf]; omega
end Go.Proofs.YtpjocfkolnfjiaaGreatDoor
