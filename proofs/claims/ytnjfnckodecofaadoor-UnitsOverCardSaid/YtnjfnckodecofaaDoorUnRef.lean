/- The walks of the small functions of the reference of chapter 13: the units, and seeds. -/
import Derived.Test.YtnjfnckodecofaaDoorProg
import Derived.Test.YtnjfnckodecofaaDoorUnSpec
import Derived.Test.YtnjfnckodecofaaDoorDigitsP
import Derived.WalkKit
import Derived.WalkSpells
import Derived.WalkLawsBesides
import Derived.BigQuiet
import Derived.BigGuardPart
import Derived.Lib.Hide
namespace Go.Proofs.YtnjfnckodecofaaDoor
open Go.RowKit

theorem seconds_any (u : Nat) (hu : u < 4) (w : World) :
    Calls Tryd.prog 37 #[.int .i64 u] w fun e w' => e = .returned (.int .i64 (Lx.secs u : Nat)) ∧ Below w.heap.size w w' := by
  rcases (show u = 0 ∨ u = 1 ∨ u = 2 ∨ u = 3 by omega) with rfl | rfl | rfl | rfl
  all_goals
    go_enter Tryd.func37, Tryd.ntmps37
    go_wp2
    go_ret
    exact ⟨rfl, (Below.refl _ _).alloc (Nat.le_refl _) _⟩
theorem letter_any (u : Nat) (hu : u < 4) (w : World) :
    Calls Tryd.prog 39 #[.int .i64 u] w fun e w' => e = .returned (.int .u8 (Lx.letr u).toNat) ∧ w = w' := by
  rcases (show u = 0 ∨ u = 1 ∨ u = 2 ∨ u = 3 by omega) with rfl | rfl | rfl | rfl
  all_goals
    go_enter Tryd.func39, Tryd.ntmps39
    go_wp2
    go_ret
    exact ⟨rfl, rfl⟩
theorem digit_yes (c : UInt8) (h : Lx.isHex c = true) (w : World) :
    Calls Tryd.prog 42 #[.int .u8 c.toNat] w fun e w' => e = .returned (.tuple #[.int .u64 (Lx.hexV c : Nat), .bool true]) ∧ w = w' := by
  unfold Lx.isHex at h
  rw [decide_eq_true_iff] at h
  by_cases h1 : c.toNat ≤ 57
  · have h2 : 48 ≤ (c.toNat : Int) := by omega
    have h3 : (c.toNat : Int) ≤ 57 := by omega
    have hv : (Lx.hexV c : Int) = (c.toNat : Int) - 48 := by unfold Lx.hexV; rw [if_pos h1]; omega
    have Hv := Lib.hid hv
    clear hv h h1
    go_enter Tryd.func42, Tryd.ntmps42
    go_wp2
    go_ret2
    exact ⟨Lx.ret_t2 (Lx.v_int Hv.out.symm) rfl, rfl⟩
  · have h2 : 97 ≤ (c.toNat : Int) := by omega
    have h3 : (c.toNat : Int) ≤ 102 := by omega
    have hv : (Lx.hexV c : Int) = (c.toNat : Int) - 97 + 10 := by unfold Lx.hexV; rw [if_neg h1]; omega
    have Hv := Lib.hid hv
    have h4 : 48 ≤ (c.toNat : Int) := by omega
    have h5 : 57 < (c.toNat : Int) := by omega
    clear hv h h1
    go_enter Tryd.func42, Tryd.ntmps42
    go_wp2
    go_ret2
    exact ⟨Lx.ret_t2 (Lx.v_int Hv.out.symm) rfl, rfl⟩
theorem digit_no (c : UInt8) (h : Lx.isHex c = false) (w : World) :
    Calls Tryd.prog 42 #[.int .u8 c.toNat] w fun e w' => e = .returned (.tuple #[.int .u64 0, .bool false]) ∧ w = w' := by
  unfold Lx.isHex at h
  rw [decide_eq_false_iff_not] at h
  have hb := UInt8.toNat_lt c
  have hb' : (c.toNat : Int) ≤ 255 := by have : (2 : Nat) ^ 8 = 256 := rfl; omega
  clear hb
  rcases (show (c.toNat : Int) < 48 ∨ (57 < (c.toNat : Int) ∧ (c.toNat : Int) < 97) ∨ 102 < (c.toNat : Int) by omega) with h1 | ⟨h1, h2⟩ | h1
  · have h3 : (c.toNat : Int) < 97 := by omega
    clear h
    go_enter Tryd.func42, Tryd.ntmps42
    go_wp2
    go_ret2
    exact ⟨rfl, rfl⟩
  · have h3 : 48 ≤ (c.toNat : Int) := by omega
    clear h
    go_enter Tryd.func42, Tryd.ntmps42
    go_wp2
    go_ret2
    exact ⟨rfl, rfl⟩
  · have h3 : 48 ≤ (c.toNat : Int) := by omega
    have h4 : 57 < (c.toNat : Int) := by omega
    have h5 : 97 ≤ (c.toNat : Int) := by omega
    clear h
    go_enter Tryd.func42, Tryd.ntmps42
    go_wp2
    go_ret2
    exact ⟨rfl, rfl⟩

set_option maxHeartbeats 800000 in
theorem ref_seed_any (s : ByteArray) (w : World) :
    Calls Tryd.prog 16 #[.string s] w fun e w' => e = .returned (.tuple #[.int .u64 (Lx.seedV s.data.toList), .int .i64 (Lx.seedE s.data.toList)]) ∧ w = w' := by
  by_cases hl : s.size = 16
  · have hlb : ((s.size : Int) != 16) = false := by rw [hl]; rfl
    have Hl := Lib.hid hl
    go_enter Tryd.func16, Tryd.ntmps16
    clear hl
    go_wp2
    go_loop [4, 5] (fun n i => ∃ k : Nat, k ≤ 16 ∧ i = .int .i64 k ∧ n = .int .u64 (Lx.hval 0 (s.data.toList.take k) : Nat) ∧ (s.data.toList.take k).all Lx.isHex = true) (fun _ i => 16 - (intOf i).toNat)
    case atStart => exact ⟨0, Nat.zero_le _, rfl, rfl, rfl⟩
    case round =>
      obtain ⟨k, hk, rfl, rfl, hall⟩ := hrel
      have hlt0 := Lx.hval_lt (s.data.toList.take k) hall 0
      have Hall := Lib.hid hall
      clear hall
      by_cases hlt : k < 16
      · have hks : k < s.size := by rw [Hl.out]; exact hlt
        have hlen : (s.data.toList.take k).length = k := by rw [List.length_take, ← Lib.size_eq, Hl.out]; omega
        have hsn := Lx.all_take_succ Lx.isHex s k hks
        have hts : s.data.toList.take (k + 1) = s.data.toList.take k ++ [s[k]] := by
          have hk' : k < s.data.toList.length := by rw [← Lib.size_eq]; exact hks
          rw [List.take_succ_eq_append_getElem hk']; rfl
        have hv := Lx.hval_snoc 0 (s.data.toList.take k) s[k]
        rw [← hts] at hv
        have hbd : Lx.hval 0 (s.data.toList.take k) < 1152921504606846976 := by
          rw [hlen] at hlt0
          have h1 : 16 ^ k ≤ 16 ^ 15 := Nat.pow_le_pow_right (by omega) (by omega)
          have h2 : (16 : Nat) ^ 15 = 1152921504606846976 := by decide
          omega
        rw [Hall.out] at hsn
        obtain ⟨n, hn⟩ : ∃ n, n = Lx.hval 0 (s.data.toList.take k) := ⟨_, rfl⟩
        rw [← hn] at hv hbd ⊢
        have hki : (k : Int) < (s.size : Int) := by omega
        have hki2 : (k : Int) < 16 := by omega
        clear hn hlt0 hlen hts
        by_cases hx : Lx.isHex s[k] = true
        · have hd := digit_yes s[k] hx
          have hxl := Lx.hexV_lt _ hx
          rw [hx] at hsn
          have Hd := Lib.hid hd
          have Hv := Lib.hid hv
          have Hsn := Lib.hid hsn
          clear hd hv hsn hx
          obtain ⟨x, hx⟩ : ∃ x, x = Lx.hexV s[k] := ⟨_, rfl⟩
          rw [← hx] at hxl
          have Hx := Lib.hid hx
          go_wp2_with fail
          refine (Hd.out _).mono ?_
          rw [← hx]
          clear hx
          rintro e w' ⟨rfl, rfl⟩
          go_wp2_with fail
          go_round
          case rel => exact ⟨k + 1, by omega, by go_num, Lx.v_int (by rw [Hv.out, ← Hx.out]; omega), Hsn.out⟩
          case measure => simp [intOf]; omega
        · have hx' : Lx.isHex s[k] = false := by simpa using hx
          have hd := digit_no s[k] hx'
          have hb := Lx.all_of_not _ s k hks hx'
          have hn : Lx.seedV s.data.toList = 0 ∧ Lx.seedE s.data.toList = 10 := by
            have hok : Lx.seedOk s.data.toList = false := by unfold Lx.seedOk; rw [hb]; simp
            unfold Lx.seedV Lx.seedE; rw [hok]; exact ⟨rfl, rfl⟩
          have Hd := Lib.hid hd
          have Hn := Lib.hid hn
          clear hd hn hv hsn hx hx' hb
          go_wp2_with fail
          refine (Hd.out _).mono ?_
          rintro e w' ⟨rfl, rfl⟩
          go_wp2_with fail
          go_ret2
          exact ⟨Lx.ret_t2 (Lx.v_int Hn.out.1.symm) (Lx.v_int Hn.out.2.symm), rfl⟩
      · obtain rfl : k = 16 := by omega
        have htk : s.data.toList.take 16 = s.data.toList := List.take_of_length_le (by rw [← Lib.size_eq, Hl.out]; omega)
        have hall := Hall.out
        rw [htk] at hall ⊢
        have hn : Lx.seedV s.data.toList = (Lx.hval 0 s.data.toList : Nat) ∧ Lx.seedE s.data.toList = 0 := by
          have hok : Lx.seedOk s.data.toList = true := by unfold Lx.seedOk; rw [hall, decide_eq_true (by rw [← Lib.size_eq]; exact Hl.out)]; rfl
          unfold Lx.seedV Lx.seedE; rw [hok]; exact ⟨rfl, rfl⟩
        have Hn := Lib.hid hn
        clear hn htk hall hlt0
        go_wp2_with fail
        go_ret2
        exact ⟨Lx.ret_t2 (Lx.v_int Hn.out.1.symm) (Lx.v_int Hn.out.2.symm), rfl⟩
  · have hlb : ((s.size : Int) != 16) = true := by rw [bne_iff_ne]; omega
    have hn : Lx.seedV s.data.toList = 0 ∧ Lx.seedE s.data.toList = 10 := by
      have hok : Lx.seedOk s.data.toList = false := by unfold Lx.seedOk; rw [decide_eq_false (by rw [← Lib.size_eq]; exact hl)]; rfl
      unfold Lx.seedV Lx.seedE; rw [hok]; exact ⟨rfl, rfl⟩
    have Hn := Lib.hid hn
    clear hn hl
    go_enter Tryd.func16, Tryd.ntmps16
    go_wp2
    go_ret2
    exact ⟨Lx.ret_t2 (Lx.v_int Hn.out.1.symm) (Lx.v_int Hn.out.2.symm), rfl⟩
end Go.Proofs.YtnjfnckodecofaaDoor
