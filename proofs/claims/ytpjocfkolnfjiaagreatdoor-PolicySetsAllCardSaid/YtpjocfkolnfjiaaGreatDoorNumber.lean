/- The walk of lex.Number: it reads numbers as Lx.numForm, Lx.numV say. -/
import Derived.Test.YtpjocfkolnfjiaaGreatDoorProg
import Derived.Test.YtpjocfkolnfjiaaGreatDoorLx
import Derived.Test.YtpjocfkolnfjiaaGreatDoorNum
import Derived.Test.YtpjocfkolnfjiaaGreatDoorShelf
import Derived.Test.YtpjocfkolnfjiaaGreatDoorEnv
import Derived.WalkKit
import Derived.WalkSpells
import Derived.WalkLawsBesides
import Derived.BigQuiet
import Derived.BigGuardPart
import Derived.Lib.Hide
import Derived.Lib.Strings
namespace Go.Proofs.YtpjocfkolnfjiaaGreatDoor
open Go.RowKit

set_option maxHeartbeats 800000 in
theorem number_any (s : ByteArray) (w : World) (hs : s.size ≤ 140737488355328) (env : Env w) :
    Calls Tryz.prog 89 #[.string s] w fun e w' => e = .returned (.tuple #[.int .i64 (Lx.numRes s.data.toList), .int .i64 (Lx.numErr s.data.toList)]) ∧ Below w.heap.size w w' := by
  obtain ⟨D, hD, htrim⟩ : ∃ D : ByteArray, D.data.toList = Lx.body s.data.toList ∧ (Calls Tryz.prog 107 #[.string s, .string ⟨#[45]⟩] w fun e w' => e = .returned (.string D) ∧ w = w') := by
    refine ⟨⟨(Lib.trimPrefix s.data.toList [45]).toArray⟩, ?_, ?_⟩
    · exact Lx.trim_minus _
    · refine (Tryz.strings_TrimPrefix s ⟨#[45]⟩ w).mono ?_
      rintro e w' ⟨rfl, rfl⟩
      exact ⟨rfl, rfl⟩
  have hDs : D.size ≤ 140737488355328 := by
    have := Lx.body_le s.data.toList
    rw [Lib.size_eq, hD]; rw [Lib.size_eq] at hs; omega
  by_cases h0 : D.toList = []
  · have h0b : D.toList.isEmpty = true := by simpa using h0
    have hn := Lx.num_empty (by rw [← hD, ← Lib.toList_data]; exact h0)
    have Hn := Lib.hid hn
    clear hn hD h0
    go_enter Tryz.func89, Tryz.ntmps89
    go_wp2_with (go_at_call 107; refine htrim.mono ?_; rintro e w' ⟨rfl, rfl⟩)
    go_ret2
    exact ⟨Lx.ret_t2 (Lx.v_int Hn.out.1.symm) (Lx.v_int Hn.out.2.symm), Below.refl _ _⟩
  · have h0b : D.toList.isEmpty = false := by simpa using h0
    have h1 := Lx.size_of_ne h0
    have hp : 0 < D.size := h1
    have hbne : Lx.body s.data.toList ≠ [] := by rw [← hD, ← Lib.toList_data]; exact h0
    have hhead : (Lx.body s.data.toList).head? = some D[0] := by rw [← hD]; exact Lx.head_of D hp
    by_cases hz : D[0] = 48 ∧ s.data.toList ≠ [48]
    · have hn := Lx.num_zero (l := s.data.toList) (by rw [hhead, hz.1]) hz.2
      have hz1 : ((D[0].toNat : Int) == 48) = true := by rw [hz.1]; rfl
      have hz2 : (s.toList == [48]) = false := by rw [Lib.toList_data, beq_eq_false_iff_ne]; exact hz.2
      have Hn := Lib.hid hn
      clear hn hD h0 hz hbne hhead
      go_enter Tryz.func89, Tryz.ntmps89
      go_wp2_with (go_at_call 107; refine htrim.mono ?_; rintro e w' ⟨rfl, rfl⟩)
      go_ret2
      exact ⟨Lx.ret_t2 (Lx.v_int Hn.out.1.symm) (Lx.v_int Hn.out.2.symm), Below.refl _ _⟩
    · have hform : (Lx.body s.data.toList).head? ≠ some 48 ∨ s.data.toList = [48] := by
        rw [hhead]
        by_cases h : s.data.toList = [48]
        · exact .inr h
        · exact .inl fun e => hz ⟨Option.some.inj e, h⟩
      have hz1 : ((D[0].toNat : Int) == 48) = false ∨ (((D[0].toNat : Int) == 48) = true ∧ (s.toList == [48]) = true) := by
        rw [Lib.toList_data]
        by_cases h : s.data.toList = [48]
        · by_cases h2 : D[0] = 48
          · exact .inr ⟨by rw [h2]; rfl, by rw [h]; rfl⟩
          · exact .inl (by rw [beq_eq_false_iff_ne]; intro e; exact h2 (UInt8.toNat_inj.1 (by simpa using Int.ofNat.inj e)))
        · exact .inl (by rw [beq_eq_false_iff_ne]; intro e; exact hz ⟨UInt8.toNat_inj.1 (by simpa using Int.ofNat.inj e), h⟩)
      have Hform := Lib.hid hform
      have HD := Lib.hid hD
      have Hbne := Lib.hid hbne
      clear hform hD h0 hz hbne hhead
      rcases hz1 with hz1 | ⟨hz1, hz2⟩
      all_goals
        go_enter Tryz.func89, Tryz.ntmps89
        go_wp2_with (go_at_call 107; refine htrim.mono ?_; rintro e w' ⟨rfl, rfl⟩)
        go_loop [23] (fun i => ∃ k : Nat, k ≤ D.size ∧ i = .int .i64 k ∧ (D.data.toList.take k).all Lx.isDig = true) (fun i => D.size - (intOf i).toNat)
        case atStart => exact ⟨0, Nat.zero_le _, rfl, by simp⟩
        case round =>
          obtain ⟨k, hk, rfl, hall⟩ := hrel
          have Hall := Lib.hid hall
          clear hall
          by_cases hlt : k < D.size
          · by_cases hd : Lx.isDig D[k] = true
            · obtain ⟨d1, d2⟩ := (Lx.isDig_iff _).1 hd
              have Hd := Lib.hid hd
              clear hd
              go_wp2
              go_round
              case rel => exact ⟨k + 1, by omega, by go_num, by rw [Lx.all_take_succ _ _ _ hlt, Hall.out, Hd.out]; rfl⟩
              case measure => simp [intOf]; omega
            · have hd' : Lx.isDig D[k] = false := by simpa using hd
              have hn := Lx.num_nodig (l := s.data.toList) (by rw [← HD.out]; exact Lx.all_of_not _ D k hlt hd')
              have hd2 := (Lx.isDig_no _).1 hd'
              have Hn := Lib.hid hn
              clear hn hd hd'
              by_cases hlow : (D[k].toNat : Int) < 48
              all_goals
                first | (have hhigh : 57 < (D[k].toNat : Int) := by omega) | skip
                clear hd2
                go_wp2
                go_ret2
                exact ⟨Lx.ret_t2 (Lx.v_int Hn.out.1.symm) (Lx.v_int Hn.out.2.symm), Below.refl _ _⟩
          · have hf : Lx.numForm s.data.toList = true := by
              refine Lx.num_form Hbne.out Hform.out ?_
              rw [← HD.out, ← Lx.all_take_size _ D k (by omega)]
              exact Hall.out
            have hparse := Lx.parse_num _ hf
            by_cases hin : Lx.numIn s.data.toList = true
            · have hn := Lx.num_ok hf hin
              rw [if_pos hin] at hparse
              obtain ⟨v, hv⟩ : ∃ v, v = Lx.numV s.data.toList := ⟨_, rfl⟩
              rw [← hv] at hparse hn
              have hcall := Tryz.strconv_ParseInt_10_at64_ok s (by omega) v hparse w
              have Hn := Lib.hid hn
              clear hn hin hparse hf hv
              go_wp2_with (go_at_call 108; refine hcall.mono ?_; rintro e w' ⟨rfl, hw'⟩)
              go_ret2
              refine ⟨Lx.ret_t2 (Lx.v_int Hn.out.1.symm) (Lx.v_int Hn.out.2.symm), ?_⟩
              rcases hw' with rfl | ⟨t, rfl⟩
              · exact Below.refl _ _
              · exact Lib.bytesWorld_below _ _ _
            · have hin' : Lx.numIn s.data.toList = false := by simpa using hin
              have hn := Lx.num_over hf hin'
              rw [if_neg hin] at hparse
              obtain ⟨tp, p, hvar⟩ := env.rng
              have hcall := Tryz.strconv_ParseInt_10_at64_range_var s (by omega) hparse tp p w hvar
              have Hn := Lib.hid hn
              have Hvar := Lib.hid hvar
              clear hn hin hin' hparse hf hvar
              go_wp2_with (go_at_call 108; refine hcall.mono ?_; rintro e w' ⟨N, rfl, hN, hNb, hb⟩)
              go_ret2
              exact ⟨Lx.ret_t2 (Lx.v_int Hn.out.1.symm) (Lx.v_int Hn.out.2.symm), hb⟩

end Go.Proofs.YtpjocfkolnfjiaaGreatDoor
