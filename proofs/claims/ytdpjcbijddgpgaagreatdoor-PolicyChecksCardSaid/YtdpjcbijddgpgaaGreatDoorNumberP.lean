/- The walk of the reference of lex.Number, at a text that does not begin with a minus; and at every text. -/
import Derived.Test.YtdpjcbijddgpgaaGreatDoorProg
import Derived.Test.YtdpjcbijddgpgaaGreatDoorLx
import Derived.Test.YtdpjcbijddgpgaaGreatDoorNum
import Derived.Test.YtdpjcbijddgpgaaGreatDoorShelf
import Derived.Test.YtdpjcbijddgpgaaGreatDoorEnv
import Derived.Test.YtdpjcbijddgpgaaGreatDoorNumberM
import Derived.WalkKit
import Derived.WalkSpells
import Derived.WalkLawsBesides
import Derived.BigQuiet
import Derived.BigGuardPart
import Derived.Lib.Hide
import Derived.Lib.Strings
namespace Go.Proofs.YtdpjcbijddgpgaaGreatDoor
open Go.RowKit

set_option maxRecDepth 100000 in
set_option maxHeartbeats 1600000 in
theorem ref_number_plain (D : ByteArray) (w : World) (hs : D.size ≤ 1000000000) (hp0 : 0 < D.size) (h45 : D.data.toList.head? ≠ some 45) :
    Calls Tryz.prog 90 #[.string D] w fun e w' => e = .returned (.tuple #[.int .i64 (Lx.numRes D.data.toList), .int .i64 (Lx.numErr D.data.toList)]) ∧ w = w' := by
  have hDl : D.data.toList = Lx.body D.data.toList := (Lx.body_plain h45).symm
  have hs45 : ((D[0].toNat : Int) == 45) = false := by
    have := Lx.head_of D hp0
    rw [beq_eq_false_iff_ne]; intro e; exact h45 (by rw [this]; exact congrArg some (UInt8.toNat_inj.1 (by simpa using Int.ofNat.inj e)))
  have hDs : D.size ≤ 1000000000 := by omega
  · have hp : 0 < D.size := hp0
    have h0 : True := trivial
    have hsz : True := trivial
    have hne : ((D.size : Int) == 0) = false := by rw [beq_eq_false_iff_ne]; omega
    have hhead : (Lx.body D.data.toList).head? = some D[0] := by rw [← hDl]; exact Lx.head_of D hp
    by_cases hz : D[0] = 48 ∧ 1 < D.size
    · have hn := Lx.num_zero (l := D.data.toList) (by rw [hhead, hz.1]) (by intro e; have := hz.2; rw [Lib.size_eq, e] at this; simp at this)
      have hz1 : ((D[0].toNat : Int) == 48) = true := by rw [hz.1]; rfl
      have hgt := hz.2
      have Hn := Lib.hid hn
      clear hn hDl h45 hhead hz h0 hsz
      go_enter Tryz.func90, Tryz.ntmps90
      go_wp2
      go_ret2
      exact ⟨Lx.ret_t2 (Lx.v_int Hn.out.1.symm) (Lx.v_int Hn.out.2.symm), rfl⟩
    · have hform : (Lx.body D.data.toList).head? ≠ some 48 ∨ D.data.toList = [48] := by
        by_cases h1 : D[0] = 48
        · exact .inr (Lx.one_zero D hp h1 (Nat.not_lt.1 fun h => hz ⟨h1, h⟩))
        · exact .inl (by rw [hhead]; intro e; exact h1 (Option.some.inj e))
      have hz1 : ((D[0].toNat : Int) == 48) = false ∨ ((D[0].toNat : Int) == 48) = true ∧ D.size ≤ 1 := by
        by_cases h1 : D[0] = 48
        · exact .inr ⟨by rw [h1]; rfl, Nat.not_lt.1 fun h => hz ⟨h1, h⟩⟩
        · exact .inl (by rw [beq_eq_false_iff_ne]; intro e; exact h1 (UInt8.toNat_inj.1 (by simpa using Int.ofNat.inj e)))
      have hbne : Lx.body D.data.toList ≠ [] := by intro e; rw [e] at hhead; simp at hhead
      have HDl := Lib.hid hDl
      have Hbne := Lib.hid hbne
      have Hform := Lib.hid hform
      have H45 := Lib.hid h45
      clear hDl hhead hsz h45 hz hbne hform h0
      rcases hz1 with hz1 | ⟨hz1, hz2⟩
      all_goals
        go_enter Tryz.func90, Tryz.ntmps90
        go_wp2
        go_loop [5] (fun i => ∃ k : Nat, k ≤ D.size ∧ i = .int .i64 k ∧ (D.data.toList.take k).all Lx.isDig = true) (fun i => D.size - (intOf i).toNat)
        case atStart => exact ⟨0, Nat.zero_le _, rfl, by simp⟩
        case round =>
          obtain ⟨k, hk, rfl, hall⟩ := hrel
          have Hall := Lib.hid hall
          clear hall
          by_cases hlt : k < D.size
          · by_cases hd : Lx.isDig D[k] = true
            · obtain ⟨d1, d2⟩ := (Lx.isDig_iff _).1 hd
              have Hd := Lib.hid hd
              clear hd
              go_wp2
              go_round
              case rel => exact ⟨k + 1, by omega, by go_num, by rw [Lx.all_take_succ _ _ _ hlt, Hall.out, Hd.out]; rfl⟩
              case measure => simp [intOf]; omega
            · have hd' : Lx.isDig D[k] = false := by simpa using hd
              have hn := Lx.num_nodig (l := D.data.toList) (by rw [← HDl.out]; exact Lx.all_of_not _ D k hlt hd')
              have hd2 := (Lx.isDig_no _).1 hd'
              have Hn := Lib.hid hn
              clear hn hd hd'
              by_cases hlow : (D[k].toNat : Int) < 48
              all_goals
                first | (have hhigh : 57 < (D[k].toNat : Int) := by omega) | skip
                clear hd2
                go_wp2
                go_ret2
                exact ⟨Lx.ret_t2 (Lx.v_int Hn.out.1.symm) (Lx.v_int Hn.out.2.symm), rfl⟩
          · have hall : D.data.toList.all Lx.isDig = true := by rw [← Lx.all_take_size _ D k (by omega)]; exact Hall.out
            have hf : Lx.numForm D.data.toList = true := Lx.num_form Hbne.out Hform.out (by rw [← HDl.out]; exact hall)
            have Hf := Lib.hid hf
            have Ha := Lib.hid hall
            clear hall hf
            go_wp2
            go_loop [6, 7] (fun n i => ∃ (j : Nat) (m : Nat), j ≤ D.size ∧ i = .int .i64 j ∧ m = Lx.dval 0 (D.data.toList.take j) ∧ m ≤ 9223372036854775808 ∧ n = .int .i64 (-(m : Int))) (fun _ i => D.size - (intOf i).toNat)
            case atStart => exact ⟨0, 0, Nat.zero_le _, rfl, by simp [Lx.dval], by omega, rfl⟩
            case round =>
              obtain ⟨j, m, hj, rfl, hm, hmb, rfl⟩ := hrel
              have Hm := Lib.hid hm
              clear hm
              by_cases hjl : j < D.size
              · have hdig : Lx.isDig D[j] = true := Lx.dig_at D Ha.out j hjl
                obtain ⟨d1, d2⟩ := (Lx.isDig_iff _).1 hdig
                clear hdig
                by_cases hov : 9223372036854775808 < 10 * (m : Int) + ((D[j].toNat : Int) - 48)
                · have ht := (Lx.tdiv_over m ((D[j].toNat : Int) - 48) (by omega) (by omega)).2 hov
                  have hn := Lx.num_over Hf.out (Lx.over_plain D j hjl HDl.out H45.out (by rw [← Hm.out]; omega))
                  have Hn := Lib.hid hn
                  clear hn hov
                  go_wp2
                  go_ret2
                  exact ⟨Lx.ret_t2 (Lx.v_int Hn.out.1.symm) (Lx.v_int Hn.out.2.symm), rfl⟩
                · have ht : (-9223372036854775808 + ((D[j].toNat : Int) - 48)).tdiv 10 ≤ -(m : Int) := by
                    have := Lx.tdiv_over m ((D[j].toNat : Int) - 48) (by omega) (by omega)
                    omega
                  have hov2 : 10 * (m : Int) + ((D[j].toNat : Int) - 48) ≤ 9223372036854775808 := by omega
                  clear hov
                  go_wp2
                  go_round
                  case rel => exact ⟨j + 1, 10 * m + (D[j].toNat - 48), by omega, by go_num, by rw [Lx.dval_step D j hjl, ← Hm.out], by omega, Lx.v_int (by omega)⟩
                  case measure => simp [intOf]; omega
              · have hm : m = Lx.dval 0 D.data.toList := by rw [Hm.out, Lx.take_all D j (by omega)]
                by_cases hmx : m = 9223372036854775808
                · have hn := Lx.num_over Hf.out (Lx.over_plain' D HDl.out H45.out (by rw [← hm]; omega))
                  have hb : (-(m : Int) == -9223372036854775808) = true := by rw [beq_iff_eq]; omega
                  have Hn := Lib.hid hn
                  clear hn hm hmx
                  go_wp2
                  go_ret2
                  exact ⟨Lx.ret_t2 (Lx.v_int Hn.out.1.symm) (Lx.v_int Hn.out.2.symm), rfl⟩
                · have hin := Lx.in_plain D HDl.out H45.out (by rw [← hm]; omega)
                  have hn := Lx.num_ok Hf.out hin.1
                  rw [hin.2, ← hm] at hn
                  have hb : (-(m : Int) == -9223372036854775808) = false := by rw [beq_eq_false_iff_ne]; omega
                  have hmb2 : (m : Int) ≤ 9223372036854775807 := by omega
                  have Hn := Lib.hid hn
                  clear hn hin hm hmx
                  go_wp2
                  go_ret2
                  exact ⟨Lx.ret_t2 (Lx.v_int Hn.out.1.symm) (Lx.v_int Hn.out.2.symm), rfl⟩

/-- The reference, empty text and all. -/
theorem ref_number_any (s : ByteArray) (w : World) (hs : s.size ≤ 1000000000) :
    Calls Tryz.prog 90 #[.string s] w fun e w' => e = .returned (.tuple #[.int .i64 (Lx.numRes s.data.toList), .int .i64 (Lx.numErr s.data.toList)]) ∧ w = w' := by
  by_cases h0 : s.size = 0
  · have hn := Lx.num_empty (l := s.data.toList) (by rw [Lx.nil_of_size h0]; rfl)
    have hne : ((s.size : Int) == 0) = true := by rw [beq_iff_eq]; omega
    have hle : ¬ (0 : Int) < (s.size : Int) := by omega
    have Hn := Lib.hid hn
    clear hn h0
    go_enter Tryz.func90, Tryz.ntmps90
    go_wp2
    go_ret2
    exact ⟨Lx.ret_t2 (Lx.v_int Hn.out.1.symm) (Lx.v_int Hn.out.2.symm), rfl⟩
  · by_cases h45 : s.data.toList.head? = some 45
    · exact ref_number_minus s _ w hs h45 rfl
    · exact ref_number_plain s w hs (by omega) h45
end Go.Proofs.YtdpjcbijddgpgaaGreatDoor
