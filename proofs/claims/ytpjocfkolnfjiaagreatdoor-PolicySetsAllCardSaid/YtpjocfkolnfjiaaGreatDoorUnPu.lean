/- The walk of strconv.ParseUint at sixteen hexadecimal digits. -/
import Derived.Test.YtpjocfkolnfjiaaGreatDoorProg
import Derived.Test.YtpjocfkolnfjiaaGreatDoorUnSpec
import Derived.Lib.Walk
import Derived.Lib.ConvBytes
import Derived.Lib.ItoaMem
import Derived.Lib.Hide
import Derived.Laws.Strings3
import Derived.Laws.Closers25
import Derived.Laws.Closers25b
import Derived.WalkKit
import Derived.BigCall
import Derived.BigGuard
namespace Go.Proofs.YtpjocfkolnfjiaaGreatDoor
open Go.RowKit

theorem Lx.or32_hex : ∀ n : Fin 256, 97 ≤ n.val ∧ n.val ≤ 102 → bits .or .u8 ((n.val : Nat) : Int) 32 = ((n.val : Nat) : Int) := by decide +kernel
theorem lower_hex (c : UInt8) (h : 97 ≤ c.toNat ∧ c.toNat ≤ 102) (w : World) :
    Calls Tryz.prog 133 #[.int .u8 c.toNat] w fun e w' => e = .returned (.int .u8 c.toNat) ∧ w' = w := by
  have hb := Lx.or32_hex ⟨c.toNat, c.toNat_lt⟩ h
  simp only at hb
  have Hb := Lib.hid hb
  clear hb
  go_enter Tryz.func133, Tryz.ntmps133
  go_wp2
  go_ret
  exact ⟨Lx.ret_int Hb.out, rfl⟩

set_option maxHeartbeats 3200000 in
set_option maxRecDepth 100000 in
theorem parse_uint_in (t : ByteArray) (hl : t.size = 16) (hall : t.data.toList.all Lx.isHex = true) (w : World) :
    Calls Tryz.prog 127 #[.string t, .int .i64 16, .int .i64 64] w fun e w' => e = .returned (.tuple #[.int .u64 (Lx.hval 0 t.data.toList : Nat), .nilIface]) ∧ w' = Lib.bytesWorld w 5 t := by
  have hemp : t.toList.isEmpty = false := by
    rw [← decide_eq_emptyBytes]
    exact decide_eq_false (fun h => by rw [h] at hl; cases hl)
  have hcv := Lib.run_convert_string_bytes (P := Tryz.prog) w 9 88 5 t (u := .string) Tryz.underlying9 Tryz.underlying88 Tryz.underlying5
  have hB : ∀ j, j < t.size → (Lib.bytesWorld w 5 t).cell? ⟨w.heap.size, j, none⟩ = some (.int .u8 (t.data.toList.getD j 0).toNat) := fun j hj => Lib.bytesWorld_cell w 5 t j hj
  obtain ⟨W1, hW1⟩ : ∃ W1, W1 = Lib.bytesWorld w 5 t := ⟨_, rfl⟩
  rw [← hW1] at hcv hB ⊢
  clear hW1
  obtain ⟨bs, hL⟩ : ∃ bs, bs = t.data.toList := ⟨_, rfl⟩
  have hLn : bs.length = t.size := by rw [hL, Lib.size_eq]
  rw [← hL] at hB hall ⊢
  clear hL
  have hmv : IntKind.u64.wrap (IntKind.u64.wrap 18446744073709551616 - 1) = 18446744073709551615 := by
    rw [IntKind.wrap_u64, IntKind.wrap_u64]
    decide
  have Hall := Lib.hid hall
  have Hl := Lib.hid hl
  have HB := Lib.hid hB
  have HLn := Lib.hid hLn
  have hl16 : t.size ≤ 16 := by omega
  clear hall hl hB hLn
  go_enter Tryz.func127, Tryz.ntmps127
  go_wp2
  go_loop [12, 13, 101] (fun vu vn vi => ∃ (k : Nat) (a : Int), vu = .bool false ∧ vn = .int .u64 a ∧ vi = .int .i64 k ∧ k ≤ t.size ∧ Hid (a = (Lx.hval 0 (bs.take k) : Nat)) ∧ 0 ≤ a ∧ Hid (a < 16 ^ k))
    (fun _ _ vi => t.size - (intOf vi).toNat)
  case atStart => exact ⟨0, 0, rfl, rfl, rfl, by omega, Lib.hid rfl, by omega, Lib.hid (by decide)⟩
  case round =>
    obtain ⟨k, a, rfl, rfl, rfl, hk, hh, a0, hp⟩ := hrel
    by_cases hkn : k < t.size
    · have hc := HB.out k hkn
      have hkb : k < bs.length := by rw [HLn.out]; exact hkn
      have hget : bs.getD k 0 = bs[k]'hkb := by simp [List.getD, List.getElem?_eq_getElem hkb]
      have htk : bs.take (k + 1) = bs.take k ++ [bs[k]'hkb] := List.take_succ_eq_append_getElem hkb
      have hx : Lx.isHex (bs[k]'hkb) = true := List.all_eq_true.1 Hall.out _ (List.getElem_mem hkb)
      have hsn := Lx.hval_snoc 0 (bs.take k) (bs[k]'hkb)
      rw [← htk] at hsn
      rw [hget] at hc
      generalize bs[k]'hkb = c at hc hsn hx
      have hxl := Lx.hexV_lt c hx
      have hxv : Lx.hexV c = if c.toNat ≤ 57 then c.toNat - 48 else c.toNat - 87 := rfl
      unfold Lx.isHex at hx
      rw [decide_eq_true_iff] at hx
      have hpw : (16 : Int) ^ k ≤ 1152921504606846976 := by
        have h1 : (16 : Nat) ^ k ≤ 16 ^ 15 := Nat.pow_le_pow_right (by omega) (by have := Hl.out; omega)
        have h2 : (16 : Nat) ^ 15 = 1152921504606846976 := by decide
        have h3 : (16 : Int) ^ k = ((16 ^ k : Nat) : Int) := (Int.natCast_pow 16 k).symm
        rw [h3]; omega
      have hps : (16 : Int) ^ (k + 1) = 16 ^ k * 16 := Int.pow_succ 16 k
      have hp' := hp.out
      have ha' := hh.out
      have hcut : a < 1152921504606846976 := by omega
      by_cases hdig : 48 ≤ c.toNat ∧ c.toNat ≤ 57
      · obtain ⟨hd0, hd1⟩ := hdig
        rw [if_pos hd1] at hxv
        have HN : Hid (a * 16 + ((c.toNat : Int) - 48) = (Lx.hval 0 (bs.take (k + 1)) : Nat)) := Lib.hid (by rw [hsn, ha', hxv]; omega)
        have HP : Hid (a * 16 + ((c.toNat : Int) - 48) < 16 ^ (k + 1)) := Lib.hid (by rw [hps]; omega)
        have iov : a * 16 + ((c.toNat : Int) - 48) < 18446744073709551616 := by omega
        have hd16 : (c.toNat : Int) - 48 < 16 := by omega
        clear hsn hxv hx hpw hps hp' ha' hget htk hxl
        go_wp2
        go_round
        case rel => exact ⟨k + 1, a * 16 + ((c.toNat : Int) - 48), rfl, by go_num, by go_num, by omega, HN, by omega, HP⟩
        case measure => simp [intOf]; omega
      · have hd0 : 97 ≤ c.toNat := by omega
        have hd1 : c.toNat ≤ 102 := by omega
        rw [if_neg (by omega)] at hxv
        have HN : Hid (a * 16 + ((c.toNat : Int) - 97 + 10) = (Lx.hval 0 (bs.take (k + 1)) : Nat)) := Lib.hid (by rw [hsn, ha', hxv]; omega)
        have HP : Hid (a * 16 + ((c.toNat : Int) - 97 + 10) < 16 ^ (k + 1)) := Lib.hid (by rw [hps]; omega)
        have iov : a * 16 + ((c.toNat : Int) - 97 + 10) < 18446744073709551616 := by omega
        have hd16 : (c.toNat : Int) - 97 + 10 < 16 := by omega
        have hHI := Lib.hid (lower_hex c ⟨hd0, hd1⟩)
        have i97 : 97 ≤ (c.toNat : Int) := by omega
        have i102 : (c.toNat : Int) ≤ 102 := by omega
        have i57 : 57 < (c.toNat : Int) := by omega
        have i48 : 48 ≤ (c.toNat : Int) := by omega
        have i122 : (c.toNat : Int) ≤ 122 := by omega
        have i95 : ((c.toNat : Int) == 95) = false := by rw [beq_eq_false_iff_ne]; omega
        clear hsn hxv hx hpw hps hp' ha' hget htk hxl hdig hd0 hd1
        go_wp2_with (go_at_call 133; refine (hHI.out _).mono ?_; rintro e w' ⟨rfl, rfl⟩)
        go_round
        case rel => exact ⟨k + 1, a * 16 + ((c.toNat : Int) - 97 + 10), rfl, by go_num, by go_num, by omega, HN, by omega, HP⟩
        case measure => simp [intOf]; omega
    · obtain rfl : k = t.size := by omega
      have hv : a = (Lx.hval 0 bs : Nat) := by rw [hh.out, List.take_of_length_le (by rw [HLn.out]; omega)]
      have Hv := Lib.hid hv
      clear hv
      go_wp2
      go_ret2
      exact ⟨Lx.ret_t2 (Lx.v_int Hv.out) rfl, rfl⟩

end Go.Proofs.YtpjocfkolnfjiaaGreatDoor
