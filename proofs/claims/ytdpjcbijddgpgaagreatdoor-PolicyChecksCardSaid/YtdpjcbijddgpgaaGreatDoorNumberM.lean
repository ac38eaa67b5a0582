/- The walk of the reference of lex.Number, at a text that begins with a minus. -/
import Derived.Test.YtdpjcbijddgpgaaGreatDoorProg
import Derived.Test.YtdpjcbijddgpgaaGreatDoorLx
import Derived.Test.YtdpjcbijddgpgaaGreatDoorNum
import Derived.Test.YtdpjcbijddgpgaaGreatDoorShelf
import Derived.Test.YtdpjcbijddgpgaaGreatDoorEnv
import Derived.WalkKit
import Derived.WalkSpells
import Derived.WalkLawsBesides
import Derived.BigQuiet
import Derived.BigGuardPart
import Derived.Lib.Hide
import Derived.Lib.Strings
namespace Go.Proofs.YtdpjcbijddgpgaaGreatDoor
open Go.RowKit

set_option maxRecDepth 100000 in
set_option maxHeartbeats 1600000 in
theorem ref_number_minus (s D : ByteArray) (w : World) (hs : s.size ≤ 1000000000) (h45 : s.data.toList.head? = some 45) (hD : s.extract 1 s.size = D) :
    Calls Tryz.prog 90 #[.string s] w fun e w' => e = .returned (.tuple #[.int .i64 (Lx.numRes s.data.toList), .int .i64 (Lx.numErr s.data.toList)]) ∧ w = w' := by
  have hDl : D.data.toList = Lx.body s.data.toList := by rw [← hD]; exact Lx.body_minus h45
  have hsz : D.size + 1 = s.size := by rw [Lib.size_eq, Lib.size_eq, hDl]; exact Lx.body_len h45
  have hp0 : 0 < s.size := by omega
  have hs0 : s[0] = 45 := by have := Lx.head_of s hp0; rw [h45] at this; exact (Option.some.inj this).symm
  have hs45 : ((s[0].toNat : Int) == 45) = true := by rw [hs0]; rfl
  have hlen : D.size < s.size := by omega
  clear hs0
  have hDs : D.size ≤ 1000000000 := by omega
  by_cases h0 : D.size = 0
  · have hn := Lx.num_empty (l := s.data.toList) (by rw [← hDl]; exact Lx.nil_of_size h0)
    have hne : ((D.size : Int) == 0) = true := by rw [beq_iff_eq]; omega
    have Hn := Lib.hid hn
    clear hn hDl hsz h45 h0
    go_enter Tryz.func90, Tryz.ntmps90
    go_wp2
    go_ret2
    exact ⟨Lx.ret_t2 (Lx.v_int Hn.out.1.symm) (Lx.v_int Hn.out.2.symm), rfl⟩
  · have hp : 0 < D.size := by omega
    have hne : ((D.size : Int) == 0) = false := by rw [beq_eq_false_iff_ne]; omega
    have hhead : (Lx.body s.data.toList).head? = some D[0] := by rw [← hDl]; exact Lx.head_of D hp
    have hgt : 1 < s.size := by omega
    by_cases hz : D[0] = 48
    · have hn := Lx.num_zero (l := s.data.toList) (by rw [hhead, hz]) (by intro e; rw [e] at h45; simp at h45)
      have hz1 : ((D[0].toNat : Int) == 48) = true := by rw [hz]; rfl
      have Hn := Lib.hid hn
      clear hn hDl hsz h45 h0 hhead hz
      go_enter Tryz.func90, Tryz.ntmps90
      go_wp2
      go_ret2
      exact ⟨Lx.ret_t2 (Lx.v_int Hn.out.1.symm) (Lx.v_int Hn.out.2.symm), rfl⟩
    · have hz1 : ((D[0].toNat : Int) == 48) = false := by rw [beq_eq_false_iff_ne]; intro e; exact hz (UInt8.toNat_inj.1 (by simpa using Int.ofNat.inj e))
      have hform : (Lx.body s.data.toList).head? ≠ some 48 ∨ s.data.toList = [48] := .inl (by rw [hhead]; intro e; exact hz (Option.some.inj e))
      have hbne : Lx.body s.data.toList ≠ [] := by intro e; rw [e] at hhead; simp at hhead
      have HDl := Lib.hid hDl
      have Hbne := Lib.hid hbne
      have Hform := Lib.hid hform
      have H45 := Lib.hid h45
      clear hDl hhead hsz h45 hz hbne hform h0
      go_enter Tryz.func90, Tryz.ntmps90
      go_wp2
      go_loop [5] (fun i => ∃ k : Nat, k ≤ D.size ∧ i = .int .i64 k ∧ (D.data.toList.take k).all Lx.isDig = true) (fun i => D.size - (intOf i).toNat)
      case atStart => exact ⟨0, Nat.zero_le _, rfl, by simp⟩
      case round =>
        obtain ⟨k, hk, rfl, hall⟩ := hrel
        have Hall := Lib.hid hall
        clear hall
        by_cases hlt : k < D.size
        · by_cases hd : Lx.isDig D[k] = true
          · obtain ⟨d1, d2⟩ := (Lx.isDig_iff _).1 hd
            have Hd := Lib.hid hd
            clear hd
            go_wp2
            go_round
            case rel => exact ⟨k + 1, by omega, by go_num, by rw [Lx.all_take_succ _ _ _ hlt, Hall.out, Hd.out]; rfl⟩
            case measure => simp [intOf]; omega
          · have hd' : Lx.isDig D[k] = false := by simpa using hd
            have hn := Lx.num_nodig (l := s.data.toList) (by rw [← HDl.out]; exact Lx.all_of_not _ D k hlt hd')
            have hd2 := (Lx.isDig_no _).1 hd'
            have Hn := Lib.hid hn
            clear hn hd hd'
            by_cases hlow : (D[k].toNat : Int) < 48
            all_goals
              first | (have hhigh : 57 < (D[k].toNat : Int) := by omega) | skip
              clear hd2
              go_wp2
              go_ret2
              exact ⟨Lx.ret_t2 (Lx.v_int Hn.out.1.symm) (Lx.v_int Hn.out.2.symm), rfl⟩
        · have hall : D.data.toList.all Lx.isDig = true := by rw [← Lx.all_take_size _ D k (by omega)]; exact Hall.out
          have hf : Lx.numForm s.data.toList = true := Lx.num_form Hbne.out Hform.out (by rw [← HDl.out]; exact hall)
          have Hf := Lib.hid hf
          have Ha := Lib.hid hall
          clear hall hf
          go_wp2
          go_loop [6, 7] (fun n i => ∃ (j : Nat) (m : Nat), j ≤ D.size ∧ i = .int .i64 j ∧ m = Lx.dval 0 (D.data.toList.take j) ∧ m ≤ 9223372036854775808 ∧ n = .int .i64 (-(m : Int))) (fun _ i => D.size - (intOf i).toNat)
          case atStart => exact ⟨0, 0, Nat.zero_le _, rfl, by simp [Lx.dval], by omega, rfl⟩
          case round =>
            obtain ⟨j, m, hj, rfl, hm, hmb, rfl⟩ := hrel
            have Hm := Lib.hid hm
            clear hm
            by_cases hjl : j < D.size
            · have hdig : Lx.isDig D[j] = true := Lx.dig_at D Ha.out j hjl
              obtain ⟨d1, d2⟩ := (Lx.isDig_iff _).1 hdig
              clear hdig
              by_cases hov : 9223372036854775808 < 10 * (m : Int) + ((D[j].toNat : Int) - 48)
              · have ht := (Lx.tdiv_over m ((D[j].toNat : Int) - 48) (by omega) (by omega)).2 hov
                have hn := Lx.num_over Hf.out (Lx.over_minus D j hjl HDl.out H45.out (by rw [← Hm.out]; omega))
                have Hn := Lib.hid hn
                clear hn hov
                go_wp2
                go_ret2
                exact ⟨Lx.ret_t2 (Lx.v_int Hn.out.1.symm) (Lx.v_int Hn.out.2.symm), rfl⟩
              · have ht : (-9223372036854775808 + ((D[j].toNat : Int) - 48)).tdiv 10 ≤ -(m : Int) := by
                  have := Lx.tdiv_over m ((D[j].toNat : Int) - 48) (by omega) (by omega)
                  omega
                have hov2 : 10 * (m : Int) + ((D[j].toNat : Int) - 48) ≤ 9223372036854775808 := by omega
                clear hov
                go_wp2
                go_round
                case rel => exact ⟨j + 1, 10 * m + (D[j].toNat - 48), by omega, by go_num, by rw [Lx.dval_step D j hjl, ← Hm.out], by omega, Lx.v_int (by omega)⟩
                case measure => simp [intOf]; omega
            · have hm : m = Lx.dval 0 D.data.toList := by rw [Hm.out, Lx.take_all D j (by omega)]
              have hin := Lx.in_minus D HDl.out H45.out (by rw [← hm]; omega)
              have hn := Lx.num_ok Hf.out hin.1
              rw [hin.2, ← hm] at hn
              have Hn := Lib.hid hn
              clear hn hin hm
              go_wp2
              go_ret2
              exact ⟨Lx.ret_t2 (Lx.v_int Hn.out.1.symm) (Lx.v_int Hn.out.2.symm), rfl⟩

end Go.Proofs.YtdpjcbijddgpgaaGreatDoor
