/- The walk of the reference of lex.Number, at a text that begins with a minus. The walk of the reference of lex.Number, at a text that does not begin with a minus; and at every text. Plain facts: what the reference guesses of a text's parts. No program in sight. Where two lists of events differ; the walk of event.Same. Appends of a whole slice to a row of one's own. How many events of a kind there are, and the events of an occurrence: the walks of event.Count and event.Of. The reference of chapter 36: split, read, index. The reference of chapter 36: the state of its Parse; plain facts on what it guesses. The reference of chapter 36: Parse. (printed by gen_r36q.py) The reference of chapter 36: Parse. (printed by gen_r36q.py) The reference of chapter 36: Parse. (printed by gen_r36q.py) The reference of chapter 36: Parse of every text; ParseAll. (printed by gen_r36a.py) The reference of chapter 36: Same, Count, Of. (printed by gen_r36b.py) -/
import Derived.Test.YtmpcekpdnikghaaGreatDoorProg
import Derived.Test.YtmpcekpdnikghaaGreatDoorLx
import Derived.Test.YtmpcekpdnikghaaGreatDoorNum
import Derived.Test.YtmpcekpdnikghaaGreatDoorShelf
import Derived.Test.YtmpcekpdnikghaaGreatDoorEnv
import Derived.WalkKit
import Derived.WalkSpells
import Derived.WalkLawsBesides
import Derived.BigQuiet
import Derived.BigGuardPart
import Derived.Lib.Hide
import Derived.Lib.Strings
import Derived.Test.YtmpcekpdnikghaaGreatDoorEvRd
import Derived.Test.YtmpcekpdnikghaaGreatDoorEvO
import Derived.Deep.QuietTactic
import Derived.Test.YtmpcekpdnikghaaGreatDoorEvM
import Derived.Laws.AppendOwnNone
import Derived.Laws.AppendOwn
import Derived.Test.YtmpcekpdnikghaaGreatDoorEvB
import Derived.Test.YtmpcekpdnikghaaGreatDoorEvW
import Derived.Test.YtmpcekpdnikghaaGreatDoorBackE
import Derived.Deep.CutRange
import Derived.Test.YtmpcekpdnikghaaGreatDoorR36M
import Derived.Test.YtmpcekpdnikghaaGreatDoorEvS
import Derived.Deep.AppendLies
import Derived.Deep.DeepCutAuto
namespace Go.Proofs.YtmpcekpdnikghaaGreatDoor
open Go.RowKit

set_option maxRecDepth 100000 in
set_option maxHeartbeats 1600000 in
theorem ref_number_minus (s D : ByteArray) (w : World) (hs : s.size ≤ 1000000000) (h45 : s.data.toList.head? = some 45) (hD : s.extract 1 s.size = D) :
    Calls Tryz.prog 44 #[.string s] w fun e w' => e = .returned (.tuple #[.int .i64 (Lx.numRes s.data.toList), .int .i64 (Lx.numErr s.data.toList)]) ∧ w = w' := by
  have hDl : D.data.toList = Lx.body s.data.toList := by rw [← hD]; exact Lx.body_minus h45
  have hsz : D.size + 1 = s.size := by rw [Lib.size_eq, Lib.size_eq, hDl]; exact Lx.body_len h45
  have hp0 : 0 < s.size := by omega
  have hs0 : s[0] = 45 := by have := Lx.head_of s hp0; rw [h45] at this; exact (Option.some.inj this).symm
  have hs45 : ((s[0].toNat : Int) == 45) = true := by rw [hs0]; rfl
  have hlen : D.size < s.size := by omega
  clear hs0
  have hDs : D.size ≤ 1000000000 := by omega
  by_cases h0 : D.size = 0
  · have hn := Lx.num_empty (l := s.data.toList) (by rw [← hDl]; exact Lx.nil_of_size h0)
    have hne : ((D.size : Int) == 0) = true := by rw [beq_iff_eq]; omega
    have Hn := Lib.hid hn
    clear hn hDl hsz h45 h0
    go_enter Tryz.func44, Tryz.ntmps44
    go_wp2
    go_ret2
    exact ⟨Lx.ret_t2 (Lx.v_int Hn.out.1.symm) (Lx.v_int Hn.out.2.symm), rfl⟩
  · have hp : 0 < D.size := by omega
    have hne : ((D.size : Int) == 0) = false := by rw [beq_eq_false_iff_ne]; omega
    have hhead : (Lx.body s.data.toList).head? = some D[0] := by rw [← hDl]; exact Lx.head_of D hp
    have hgt : 1 < s.size := by omega
    by_cases hz : D[0] = 48
    · have hn := Lx.num_zero (l := s.data.toList) (by rw [hhead, hz]) (by intro e; rw [e] at h45; simp at h45)
      have hz1 : ((D[0].toNat : Int) == 48) = true := by rw [hz]; rfl
      have Hn := Lib.hid hn
      clear hn hDl hsz h45 h0 hhead hz
      go_enter Tryz.func44, Tryz.ntmps44
      go_wp2
      go_ret2
      exact ⟨Lx.ret_t2 (Lx.v_int Hn.out.1.symm) (Lx.v_int Hn.out.2.symm), rfl⟩
    · have hz1 : ((D[0].toNat : Int) == 48) = false := by rw [beq_eq_false_iff_ne]; intro e; exact hz (UInt8.toNat_inj.1 (by simpa using Int.ofNat.inj e))
      have hform : (Lx.body s.data.toList).head? ≠ some 48 ∨ s.data.toList = [48] := .inl (by rw [hhead]; intro e; exact hz (Option.some.inj e))
      have hbne : Lx.body s.data.toList ≠ [] := by intro e; rw [e] at hhead; simp at hhead
      have HDl := Lib.hid hDl
      have Hbne := Lib.hid hbne
      have Hform := Lib.hid hform
      have H45 := Lib.hid h45
      clear hDl hhead hsz h45 hz hbne hform h0
      go_enter Tryz.func44, Tryz.ntmps44
      go_wp2
      go_loop [5] (fun i => ∃ k : Nat, k ≤ D.size ∧ i = .int .i64 k ∧ (D.data.toList.take k).all Lx.isDig = true) (fun i => D.size - (intOf i).toNat)
      case atStart => exact ⟨0, Nat.zero_le _, rfl, by simp⟩
      case round =>
        obtain ⟨k, hk, rfl, hall⟩ := hrel
        have Hall := Lib.hid hall
        clear hall
        by_cases hlt : k < D.size
        · by_cases hd : Lx.isDig D[k] = true
          · obtain ⟨d1, d2⟩ := (Lx.isDig_iff _).1 hd
            have Hd := Lib.hid hd
            clear hd
            go_wp2
            go_round
            case rel => exact ⟨k + 1, by omega, by go_num, by rw [Lx.all_take_succ _ _ _ hlt, Hall.out, Hd.out]; rfl⟩
            case measure => simp [intOf]; omega
          · have hd' : Lx.isDig D[k] = false := by simpa using hd
            have hn := Lx.num_nodig (l := s.data.toList) (by rw [← HDl.out]; exact Lx.all_of_not _ D k hlt hd')
            have hd2 := (Lx.isDig_no _).1 hd'
            have Hn := Lib.hid hn
            clear hn hd hd'
            by_cases hlow : (D[k].toNat : Int) < 48
            all_goals
              first | (have hhigh : 57 < (D[k].toNat : Int) := by omega) | skip
              clear hd2
              go_wp2
              go_ret2
              exact ⟨Lx.ret_t2 (Lx.v_int Hn.out.1.symm) (Lx.v_int Hn.out.2.symm), rfl⟩
        · have hall : D.data.toList.all Lx.isDig = true := by rw [← Lx.all_take_size _ D k (by omega)]; exact Hall.out
          have hf : Lx.numForm s.data.toList = true := Lx.num_form Hbne.out Hform.out (by rw [← HDl.out]; exact hall)
          have Hf := Lib.hid hf
          have Ha := Lib.hid hall
          clear hall hf
          go_wp2
          go_loop [6, 7] (fun n i => ∃ (j : Nat) (m : Nat), j ≤ D.size ∧ i = .int .i64 j ∧ m = Lx.dval 0 (D.data.toList.take j) ∧ m ≤ 9223372036854775808 ∧ n = .int .i64 (-(m : Int))) (fun _ i => D.size - (intOf i).toNat)
          case atStart => exact ⟨0, 0, Nat.zero_le _, rfl, by simp [Lx.dval], by omega, rfl⟩
          case round =>
            obtain ⟨j, m, hj, rfl, hm, hmb, rfl⟩ := hrel
            have Hm := Lib.hid hm
            clear hm
            by_cases hjl : j < D.size
            · have hdig : Lx.isDig D[j] = true := Lx.dig_at D Ha.out j hjl
              obtain ⟨d1, d2⟩ := (Lx.isDig_iff _).1 hdig
              clear hdig
              by_cases hov : 9223372036854775808 < 10 * (m : Int) + ((D[j].toNat : Int) - 48)
              · have ht := (Lx.tdiv_over m ((D[j].toNat : Int) - 48) (by omega) (by omega)).2 hov
                have hn := Lx.num_over Hf.out (Lx.over_minus D j hjl HDl.out H45.out (by rw [← Hm.out]; omega))
                have Hn := Lib.hid hn
                clear hn hov
                go_wp2
                go_ret2
                exact ⟨Lx.ret_t2 (Lx.v_int Hn.out.1.symm) (Lx.v_int Hn.out.2.symm), rfl⟩
              · have ht : (-9223372036854775808 + ((D[j].toNat : Int) - 48)).tdiv 10 ≤ -(m : Int) := by
                  have := Lx.tdiv_over m ((D[j].toNat : Int) - 48) (by omega) (by omega)
                  omega
                have hov2 : 10 * (m : Int) + ((D[j].toNat : Int) - 48) ≤ 9223372036854775808 := by omega
                clear hov
                go_wp2
                go_round
                case rel => exact ⟨j + 1, 10 * m + (D[j].toNat - 48), by omega, by go_num, by rw [Lx.dval_step D j hjl, ← Hm.out], by omega, Lx.v_int (by omega)⟩
                case measure => simp [intOf]; omega
            · have hm : m = Lx.dval 0 D.data.toList := by rw [Hm.out, Lx.take_all D j (by omega)]
              have hin := Lx.in_minus D HDl.out H45.out (by rw [← hm]; omega)
              have hn := Lx.num_ok Hf.out hin.1
              rw [hin.2, ← hm] at hn
              have Hn := Lib.hid hn
              clear hn hin hm
              go_wp2
              go_ret2
              exact ⟨Lx.ret_t2 (Lx.v_int Hn.out.1.symm) (Lx.v_int Hn.out.2.symm), rfl⟩

end Go.Proofs.YtmpcekpdnikghaaGreatDoor
namespace Go.Proofs.YtmpcekpdnikghaaGreatDoor
open Go.RowKit

set_option maxRecDepth 100000 in
set_option maxHeartbeats 1600000 in
theorem ref_number_plain (D : ByteArray) (w : World) (hs : D.size ≤ 1000000000) (hp0 : 0 < D.size) (h45 : D.data.toList.head? ≠ some 45) :
    Calls Tryz.prog 44 #[.string D] w fun e w' => e = .returned (.tuple #[.int .i64 (Lx.numRes D.data.toList), .int .i64 (Lx.numErr D.data.toList)]) ∧ w = w' := by
  have hDl : D.data.toList = Lx.body D.data.toList := (Lx.body_plain h45).symm
  have hs45 : ((D[0].toNat : Int) == 45) = false := by
    have := Lx.head_of D hp0
    rw [beq_eq_false_iff_ne]; intro e; exact h45 (by rw [this]; exact congrArg some (UInt8.toNat_inj.1 (by simpa using Int.ofNat.inj e)))
  have hDs : D.size ≤ 1000000000 := by omega
  · have hp : 0 < D.size := hp0
    have h0 : True := trivial
    have hsz : True := trivial
    have hne : ((D.size : Int) == 0) = false := by rw [beq_eq_false_iff_ne]; omega
    have hhead : (Lx.body D.data.toList).head? = some D[0] := by rw [← hDl]; exact Lx.head_of D hp
    by_cases hz : D[0] = 48 ∧ 1 < D.size
    · have hn := Lx.num_zero (l := D.data.toList) (by rw [hhead, hz.1]) (by intro e; have := hz.2; rw [Lib.size_eq, e] at this; simp at this)
      have hz1 : ((D[0].toNat : Int) == 48) = true := by rw [hz.1]; rfl
      have hgt := hz.2
      have Hn := Lib.hid hn
      clear hn hDl h45 hhead hz h0 hsz
      go_enter Tryz.func44, Tryz.ntmps44
      go_wp2
      go_ret2
      exact ⟨Lx.ret_t2 (Lx.v_int Hn.out.1.symm) (Lx.v_int Hn.out.2.symm), rfl⟩
    · have hform : (Lx.body D.data.toList).head? ≠ some 48 ∨ D.data.toList = [48] := by
        by_cases h1 : D[0] = 48
        · exact .inr (Lx.one_zero D hp h1 (Nat.not_lt.1 fun h => hz ⟨h1, h⟩))
        · exact .inl (by rw [hhead]; intro e; exact h1 (Option.some.inj e))
      have hz1 : ((D[0].toNat : Int) == 48) = false ∨ ((D[0].toNat : Int) == 48) = true ∧ D.size ≤ 1 := by
        by_cases h1 : D[0] = 48
        · exact .inr ⟨by rw [h1]; rfl, Nat.not_lt.1 fun h => hz ⟨h1, h⟩⟩
        · exact .inl (by rw [beq_eq_false_iff_ne]; intro e; exact h1 (UInt8.toNat_inj.1 (by simpa using Int.ofNat.inj e)))
      have hbne : Lx.body D.data.toList ≠ [] := by intro e; rw [e] at hhead; simp at hhead
      have HDl := Lib.hid hDl
      have Hbne := Lib.hid hbne
      have Hform := Lib.hid hform
      have H45 := Lib.hid h45
      clear hDl hhead hsz h45 hz hbne hform h0
      rcases hz1 with hz1 | ⟨hz1, hz2⟩
      all_goals
        go_enter Tryz.func44, Tryz.ntmps44
        go_wp2
        go_loop [5] (fun i => ∃ k : Nat, k ≤ D.size ∧ i = .int .i64 k ∧ (D.data.toList.take k).all Lx.isDig = true) (fun i => D.size - (intOf i).toNat)
        case atStart => exact ⟨0, Nat.zero_le _, rfl, by simp⟩
        case round =>
          obtain ⟨k, hk, rfl, hall⟩ := hrel
          have Hall := Lib.hid hall
          clear hall
          by_cases hlt : k < D.size
          · by_cases hd : Lx.isDig D[k] = true
            · obtain ⟨d1, d2⟩ := (Lx.isDig_iff _).1 hd
              have Hd := Lib.hid hd
              clear hd
              go_wp2
              go_round
              case rel => exact ⟨k + 1, by omega, by go_num, by rw [Lx.all_take_succ _ _ _ hlt, Hall.out, Hd.out]; rfl⟩
              case measure => simp [intOf]; omega
            · have hd' : Lx.isDig D[k] = false := by simpa using hd
              have hn := Lx.num_nodig (l := D.data.toList) (by rw [← HDl.out]; exact Lx.all_of_not _ D k hlt hd')
              have hd2 := (Lx.isDig_no _).1 hd'
              have Hn := Lib.hid hn
              clear hn hd hd'
              by_cases hlow : (D[k].toNat : Int) < 48
              all_goals
                first | (have hhigh : 57 < (D[k].toNat : Int) := by omega) | skip
                clear hd2
                go_wp2
                go_ret2
                exact ⟨Lx.ret_t2 (Lx.v_int Hn.out.1.symm) (Lx.v_int Hn.out.2.symm), rfl⟩
          · have hall : D.data.toList.all Lx.isDig = true := by rw [← Lx.all_take_size _ D k (by omega)]; exact Hall.out
            have hf : Lx.numForm D.data.toList = true := Lx.num_form Hbne.out Hform.out (by rw [← HDl.out]; exact hall)
            have Hf := Lib.hid hf
            have Ha := Lib.hid hall
            clear hall hf
            go_wp2
            go_loop [6, 7] (fun n i => ∃ (j : Nat) (m : Nat), j ≤ D.size ∧ i = .int .i64 j ∧ m = Lx.dval 0 (D.data.toList.take j) ∧ m ≤ 9223372036854775808 ∧ n = .int .i64 (-(m : Int))) (fun _ i => D.size - (intOf i).toNat)
            case atStart => exact ⟨0, 0, Nat.zero_le _, rfl, by simp [Lx.dval], by omega, rfl⟩
            case round =>
              obtain ⟨j, m, hj, rfl, hm, hmb, rfl⟩ := hrel
              have Hm := Lib.hid hm
              clear hm
              by_cases hjl : j < D.size
              · have hdig : Lx.isDig D[j] = true := Lx.dig_at D Ha.out j hjl
                obtain ⟨d1, d2⟩ := (Lx.isDig_iff _).1 hdig
                clear hdig
                by_cases hov : 9223372036854775808 < 10 * (m : Int) + ((D[j].toNat : Int) - 48)
                · have ht := (Lx.tdiv_over m ((D[j].toNat : Int) - 48) (by omega) (by omega)).2 hov
                  have hn := Lx.num_over Hf.out (Lx.over_plain D j hjl HDl.out H45.out (by rw [← Hm.out]; omega))
                  have Hn := Lib.hid hn
                  clear hn hov
                  go_wp2
                  go_ret2
                  exact ⟨Lx.ret_t2 (Lx.v_int Hn.out.1.symm) (Lx.v_int Hn.out.2.symm), rfl⟩
                · have ht : (-9223372036854775808 + ((D[j].toNat : Int) - 48)).tdiv 10 ≤ -(m : Int) := by
                    have := Lx.tdiv_over m ((D[j].toNat : Int) - 48) (by omega) (by omega)
                    omega
                  have hov2 : 10 * (m : Int) + ((D[j].toNat : Int) - 48) ≤ 9223372036854775808 := by omega
                  clear hov
                  go_wp2
                  go_round
                  case rel => exact ⟨j + 1, 10 * m + (D[j].toNat - 48), by omega, by go_num, by rw [Lx.dval_step D j hjl, ← Hm.out], by omega, Lx.v_int (by omega)⟩
                  case measure => simp [intOf]; omega
              · have hm : m = Lx.dval 0 D.data.toList := by rw [Hm.out, Lx.take_all D j (by omega)]
                by_cases hmx : m = 9223372036854775808
                · have hn := Lx.num_over Hf.out (Lx.over_plain' D HDl.out H45.out (by rw [← hm]; omega))
                  have hb : (-(m : Int) == -9223372036854775808) = true := by rw [beq_iff_eq]; omega
                  have Hn := Lib.hid hn
                  clear hn hm hmx
                  go_wp2
                  go_ret2
                  exact ⟨Lx.ret_t2 (Lx.v_int Hn.out.1.symm) (Lx.v_int Hn.out.2.symm), rfl⟩
                · have hin := Lx.in_plain D HDl.out H45.out (by rw [← hm]; omega)
                  have hn := Lx.num_ok Hf.out hin.1
                  rw [hin.2, ← hm] at hn
                  have hb : (-(m : Int) == -9223372036854775808) = false := by rw [beq_eq_false_iff_ne]; omega
                  have hmb2 : (m : Int) ≤ 9223372036854775807 := by omega
                  have Hn := Lib.hid hn
                  clear hn hin hm hmx
                  go_wp2
                  go_ret2
                  exact ⟨Lx.ret_t2 (Lx.v_int Hn.out.1.symm) (Lx.v_int Hn.out.2.symm), rfl⟩

/-- The reference, empty text and all. -/
theorem ref_number_any (s : ByteArray) (w : World) (hs : s.size ≤ 1000000000) :
    Calls Tryz.prog 44 #[.string s] w fun e w' => e = .returned (.tuple #[.int .i64 (Lx.numRes s.data.toList), .int .i64 (Lx.numErr s.data.toList)]) ∧ w = w' := by
  by_cases h0 : s.size = 0
  · have hn := Lx.num_empty (l := s.data.toList) (by rw [Lx.nil_of_size h0]; rfl)
    have hne : ((s.size : Int) == 0) = true := by rw [beq_iff_eq]; omega
    have hle : ¬ (0 : Int) < (s.size : Int) := by omega
    have Hn := Lib.hid hn
    clear hn h0
    go_enter Tryz.func44, Tryz.ntmps44
    go_wp2
    go_ret2
    exact ⟨Lx.ret_t2 (Lx.v_int Hn.out.1.symm) (Lx.v_int Hn.out.2.symm), rfl⟩
  · by_cases h45 : s.data.toList.head? = some 45
    · exact ref_number_minus s _ w hs h45 rfl
    · exact ref_number_plain s w hs (by omega) h45
end Go.Proofs.YtmpcekpdnikghaaGreatDoor
namespace Go.Proofs.YtmpcekpdnikghaaGreatDoor.Lx
open Go Go.RowKit

def rdN (p : List UInt8) : Int := if p = neverW then 4611686018427387904 else if numErr p = 0 then numRes p else -1
def ixN (NS : List ByteArray) (p : List UInt8) : Int := if nHit NS p = true then (nIdx NS p : Int) else -1
def gE (NS : List ByteArray) (P : List (List UInt8)) : EvV :=
  let k := kindOf (pAt P 1)
  ⟨k, rdN (pAt P 0), if k = 6 then 0 else ixN NS (pAt P 2), if k ≤ 5 then rdN (pAt P 3) else 0, if k ≤ 5 then rdN (pAt P 4) else 0, if k ≤ 3 then rdN (pAt P 5) else 0,
   if k = 6 then rdN (pAt P 2) else if k = 5 then rVal (pAt P 5) else 0, if k = 4 then rdN (pAt P 5) else if k = 7 then rdN (pAt P 3) else 0⟩
theorem rdN_it {n : Int} (h : inR n) : rdN (Lib.itoa n) = n := by
  unfold rdN
  have := it_num n h.1 h.2
  rw [if_neg (it_nonever n), if_pos this.2, this.1]
theorem rdN_until {n : Int} (h : inR n) : rdN (untilW n) = n := by
  unfold untilW
  split
  · rename_i e; unfold rdN; rw [if_pos rfl, e]
  · exact rdN_it h
theorem gE_of {NS : List ByteArray} (hN : NOk NS) {l : List UInt8} {P : List (List UInt8)} (hP : Pcs l P) {o : EvV} (h : EvPs NS l o) : gE NS P = o := by
  obtain ⟨g, hj, he⟩ := (ps_parts hN.2.1 hP o).1 h
  have hI := good_in g
  have hk := good_kind g
  obtain ⟨k, t, j, d, a, r, y, n⟩ := o
  unfold EvV.In at hI
  unfold Good at g
  simp only at hI hk hj he g
  unfold evParts at he
  simp only at he
  have hJ : (0 ≤ j) → k ≠ 6 → ixN NS (nmAt NS j) = j := fun h0 h6 => by
    obtain ⟨a, b⟩ := nHit_of hN.2.2 h0 (hj h6)
    unfold ixN; rw [if_pos a]
    unfold nVal at b; rw [if_pos a] at b; exact b
  have z0 := rdN_it hI.2.1
  have z3 := rdN_it hI.2.2.2.1
  have z4 := rdN_it hI.2.2.2.2.1
  have z5 := rdN_it hI.2.2.2.2.2.1
  have zy := rdN_it hI.2.2.2.2.2.2.1
  have zt := rdN_until hI.2.2.2.2.2.2.2
  subst he
  have hkw : kindOf (evWord k) = k := kindOf_word hk
  unfold gE
  rcases kind_cases hk with rfl | rfl | rfl | rfl | rfl | rfl | rfl | rfl
  · simp only [pAt, List.getD_cons_zero, List.getD_cons_succ, hkw]
    simp [z0, z3, z4, z5, hJ (by omega) (by omega)]; omega
  · simp only [pAt, List.getD_cons_zero, List.getD_cons_succ, hkw]
    simp [z0, z3, z4, z5, hJ (by omega) (by omega)]; omega
  · simp only [pAt, List.getD_cons_zero, List.getD_cons_succ, hkw]
    simp [z0, z3, z4, z5, hJ (by omega) (by omega)]; omega
  · simp only [pAt, List.getD_cons_zero, List.getD_cons_succ, hkw]
    simp [z0, z3, z4, zt, hJ (by omega) (by omega)]; omega
  · simp only [pAt, List.getD_cons_zero, List.getD_cons_succ, hkw]
    simp [z0, z3, z4, hJ (by omega) (by omega), (rVal_of (y := y) (by omega)).1]; omega
  · simp only [pAt, List.getD_cons_zero, List.getD_cons_succ, hkw]
    simp [z0, zy]; omega
  · simp only [pAt, List.getD_cons_zero, List.getD_cons_succ, hkw]
    simp [z0, zt, hJ (by omega) (by omega)]; omega
  · simp only [pAt, List.getD_cons_zero, List.getD_cons_succ, hkw]
    simp [z0, hJ (by omega) (by omega)]; omega
theorem gE_reads {NS : List ByteArray} (hN : NOk NS) {l : List UInt8} {P : List (List UInt8)} (hP : Pcs l P) :
    (EvPs NS l (gE NS P) → ReadsEv NS l (gE NS P) 0) ∧ (¬ EvPs NS l (gE NS P) → ReadsEv NS l evZ 10) := by
  refine ⟨fun h => .inl ⟨rfl, h⟩, fun h => .inr ⟨rfl, rfl, fun p hp => h ?_⟩⟩
  rw [gE_of hN hP hp]; exact hp
end Go.Proofs.YtmpcekpdnikghaaGreatDoor.Lx
namespace Go.Proofs.YtmpcekpdnikghaaGreatDoor
open Go.RowKit

namespace Lx
/-- Where two lists begin to differ, and whether they do. -/
def DifIs (L M : List EvV) (i : Int) (b : Bool) : Prop :=
  (b = true ∧ ∃ k : Nat, i = k ∧ k ≤ L.length ∧ k ≤ M.length ∧ L.take k = M.take k ∧ L[k]? ≠ M[k]?) ∨ (b = false ∧ i = 0 ∧ L = M)
theorem take_get {L M : List EvV} {k j : Nat} (h : L.take k = M.take k) (hj : j < k) : L[j]? = M[j]? := by
  have := congrArg (fun l : List EvV => l[j]?) h
  simpa [List.getElem?_take, hj] using this
theorem difIs_one {L M : List EvV} {i i' : Int} {b b' : Bool} (h : DifIs L M i b) (h' : DifIs L M i' b') : i = i' ∧ b = b' := by
  rcases h with ⟨rfl, k, rfl, h1, h2, h3, h4⟩ | ⟨rfl, rfl, h1⟩ <;> rcases h' with ⟨rfl, k', rfl, h1', h2', h3', h4'⟩ | ⟨rfl, rfl, h1'⟩
  · rcases Nat.lt_trichotomy k k' with c | c | c
    · exact absurd (take_get h3' c) h4
    · subst c; exact ⟨rfl, rfl⟩
    · exact absurd (take_get h3 c) h4'
  · subst h1'; exact absurd rfl h4
  · subst h1; exact absurd rfl h4'
  · exact ⟨rfl, rfl⟩
theorem difIs_symm {L M : List EvV} {i : Int} {b : Bool} (h : DifIs L M i b) : DifIs M L i b := by
  rcases h with ⟨rfl, k, rfl, h1, h2, h3, h4⟩ | ⟨rfl, rfl, h1⟩
  · exact .inl ⟨rfl, k, rfl, h2, h1, h3.symm, fun e => h4 e.symm⟩
  · exact .inr ⟨rfl, rfl, h1.symm⟩
theorem difIs_self (L : List EvV) : DifIs L L 0 false := .inr ⟨rfl, rfl, rfl⟩
theorem take_succ_eq {L M : List EvV} {k : Nat} {a b : EvV} (h : L.take k = M.take k) (ha : L[k]? = some a) (hb : M[k]? = some b) (e : a = b) : L.take (k + 1) = M.take (k + 1) := by
  rw [List.take_add_one, List.take_add_one, h, ha, hb, e]
end Lx
def SameIsE (L M : List Lx.EvV) (w : World) (e : Ending) (w' : World) : Prop := ∃ i b, e = .returned (.tuple #[.int .i64 i, .bool b]) ∧ Lx.DifIs L M i b ∧ Below w.heap.size w w'
set_option maxRecDepth 100000 in
set_option maxHeartbeats 1600000 in
theorem evsame_any (ad : Option Addr) (n cap : Nat) (L : List Lx.EvV) (ad' : Option Addr) (m cap' : Nat) (M : List Lx.EvV) (w : World) (h : Lx.IsEvs w ad n L) (h' : Lx.IsEvs w ad' m M) (hn : n ≤ 1000000000) (hm : m ≤ 1000000000) :
    Calls Tryz.prog 14 #[.slice ad n cap, .slice ad' m cap'] w (SameIsE L M w) := by
  have hL := h.1
  have hM := h'.1
  have H := Lib.hid h
  have H' := Lib.hid h'
  have HL := Lib.hid hL
  have HM := Lib.hid hM
  obtain ⟨x, hx⟩ : ∃ x : Nat, max n m = x := ⟨_, rfl⟩
  have hmx : max (n : Int) (m : Int) = (x : Int) := by rw [← hx]; omega
  have hxn : n ≤ x ∧ m ≤ x ∧ (x = n ∨ x = m) := by omega
  have HX := Lib.hid hxn
  clear h h' hL hM hx hxn
  go_enter Tryz.func14, Tryz.ntmps14
  go_wp2_with fail
  go_loopw [12] (fun i wr => ∃ k : Nat, k ≤ n ∧ k ≤ m ∧ i = .int .i64 k ∧ L.take k = M.take k ∧ Below w.heap.size w wr) (fun i _ => x - (intOf i).toNat)
  case atStart => exact ⟨0, Nat.zero_le _, Nat.zero_le _, rfl, rfl, Below.refl _ _⟩
  case round =>
    obtain ⟨k, hkn, hkm, rfl, htk, hb⟩ := hrel
    have Htk := Lib.hid htk
    have Hb := Lib.hid hb
    clear htk hb
    by_cases hkx : k < x
    · have hki : (k : Int) < (x : Int) := by omega
      by_cases h1 : k < n
      · have hn0 : decide ((n : Int) ≤ (k : Int)) = false := decide_eq_false (by omega)
        have hn1 : (k : Int) < (n : Int) := by omega
        by_cases h2 : k < m
        · have hm0 : decide ((m : Int) ≤ (k : Int)) = false := decide_eq_false (by omega)
          have hm1 : (k : Int) < (m : Int) := by omega
          obtain ⟨a, ha⟩ : ∃ a, L[k]? = some a := ⟨_, List.getElem?_eq_getElem (by rw [HL.out]; exact h1)⟩
          obtain ⟨b, hbb⟩ : ∃ b, M[k]? = some b := ⟨_, List.getElem?_eq_getElem (by rw [HM.out]; exact h2)⟩
          obtain ⟨g, off, rfl, lt, hc⟩ := (H.out.below Hb.out).2 (by omega)
          obtain ⟨g', off', rfl, lt', hc'⟩ := (H'.out.below Hb.out).2 (by omega)
          have HA := Lib.hid ha
          have HBB := Lib.hid hbb
          have heq := fun W => eqEv a b W
          have HE := Lib.hid (Lx.evEq_iff a b)
          obtain ⟨B, hB⟩ : ∃ B, Lx.evEq a b = B := ⟨_, rfl⟩
          rw [hB] at heq HE
          obtain ⟨ak, at', aj, ad1, aa, ar, ay, an⟩ := a
          obtain ⟨bk, bt, bj, bd, ba, br, by', bn⟩ := b
          have p0 : wr.cell? ⟨g, off + k * 8, none⟩ = some (.int .i64 ak) := hc k _ ha 0 _ rfl
          have p1 : wr.cell? ⟨g, off + k * 8 + 1, none⟩ = some (.int .i64 at') := hc k _ ha 1 _ rfl
          have p2 : wr.cell? ⟨g, off + k * 8 + 2, none⟩ = some (.int .i64 aj) := hc k _ ha 2 _ rfl
          have p3 : wr.cell? ⟨g, off + k * 8 + 3, none⟩ = some (.int .i64 ad1) := hc k _ ha 3 _ rfl
          have p4 : wr.cell? ⟨g, off + k * 8 + 4, none⟩ = some (.int .i64 aa) := hc k _ ha 4 _ rfl
          have p5 : wr.cell? ⟨g, off + k * 8 + 5, none⟩ = some (.int .i64 ar) := hc k _ ha 5 _ rfl
          have p6 : wr.cell? ⟨g, off + k * 8 + 6, none⟩ = some (.int .i64 ay) := hc k _ ha 6 _ rfl
          have p7 : wr.cell? ⟨g, off + k * 8 + 7, none⟩ = some (.int .i64 an) := hc k _ ha 7 _ rfl
          have q0 : wr.cell? ⟨g', off' + k * 8, none⟩ = some (.int .i64 bk) := hc' k _ hbb 0 _ rfl
          have q1 : wr.cell? ⟨g', off' + k * 8 + 1, none⟩ = some (.int .i64 bt) := hc' k _ hbb 1 _ rfl
          have q2 : wr.cell? ⟨g', off' + k * 8 + 2, none⟩ = some (.int .i64 bj) := hc' k _ hbb 2 _ rfl
          have q3 : wr.cell? ⟨g', off' + k * 8 + 3, none⟩ = some (.int .i64 bd) := hc' k _ hbb 3 _ rfl
          have q4 : wr.cell? ⟨g', off' + k * 8 + 4, none⟩ = some (.int .i64 ba) := hc' k _ hbb 4 _ rfl
          have q5 : wr.cell? ⟨g', off' + k * 8 + 5, none⟩ = some (.int .i64 br) := hc' k _ hbb 5 _ rfl
          have q6 : wr.cell? ⟨g', off' + k * 8 + 6, none⟩ = some (.int .i64 by') := hc' k _ hbb 6 _ rfl
          have q7 : wr.cell? ⟨g', off' + k * 8 + 7, none⟩ = some (.int .i64 bn) := hc' k _ hbb 7 _ rfl
          unfold Lx.EvV.val at heq
          dsimp only at heq
          clear hc hc' ha hbb hB
          cases B
          · have hne : (⟨ak, at', aj, ad1, aa, ar, ay, an⟩ : Lx.EvV) ≠ ⟨bk, bt, bj, bd, ba, br, by', bn⟩ := fun e => by have := HE.out.2 e; cases this
            have HNE := Lib.hid hne
            clear hne
            go_wp2_with fail
            go_quiet (fail)
            go_wp2_with fail
            go_ret2
            exact ⟨_, _, rfl, .inl ⟨rfl, k, rfl, by rw [HL.out]; omega, by rw [HM.out]; omega, Htk.out, by rw [HA.out, HBB.out]; exact fun e => HNE.out (Option.some.inj e)⟩, Hb.out.trans (below_drewN _ _ _)⟩
          · have HS := Lib.hid (Lx.take_succ_eq Htk.out HA.out HBB.out (HE.out.1 rfl))
            go_wp2_with fail
            go_quiet (fail)
            go_wp2_with fail
            go_roundw
            case rel => exact ⟨k + 1, by omega, by omega, by go_num, HS.out, Hb.out.trans (below_drewN _ _ _)⟩
            case measure => simp [intOf]; omega
        · have hm0 : decide ((m : Int) ≤ (k : Int)) = true := decide_eq_true (by omega)
          have HR := Lib.hid (show L[k]? ≠ M[k]? from by rw [List.getElem?_eq_getElem (by rw [HL.out]; exact h1), List.getElem?_eq_none (l := M) (by rw [HM.out]; omega)]; exact fun c => by cases c)
          go_wp2_with fail
          go_quiet (fail)
          go_wp2_with fail
          go_ret2
          exact ⟨_, _, rfl, .inl ⟨rfl, k, rfl, by rw [HL.out]; omega, by rw [HM.out]; omega, Htk.out, HR.out⟩, Hb.out.trans (below_drewN _ _ _)⟩
      · have hn0 : decide ((n : Int) ≤ (k : Int)) = true := decide_eq_true (by omega)
        have hn1 : n ≤ k := by omega
        have h2 : k < m := by have := HX.out; omega
        have HR := Lib.hid (show L[k]? ≠ M[k]? from by rw [List.getElem?_eq_none (l := L) (by rw [HL.out]; omega), List.getElem?_eq_getElem (by rw [HM.out]; exact h2)]; exact fun c => by cases c)
        go_wp2_with fail
        go_quiet (fail)
        go_wp2_with fail
        go_ret2
        exact ⟨_, _, rfl, .inl ⟨rfl, k, rfl, by rw [HL.out]; omega, by rw [HM.out]; omega, Htk.out, HR.out⟩, Hb.out.trans (below_drewN _ _ _)⟩
    · have hkx0 : decide ((k : Int) < (x : Int)) = false := decide_eq_false (by omega)
      have HEQ := Lib.hid (show L = M from by
        have h1 := Htk.out
        rw [List.take_of_length_le (by rw [HL.out]; have := HX.out; omega), List.take_of_length_le (by rw [HM.out]; have := HX.out; omega)] at h1
        exact h1)
      go_wp2_with fail
      go_ret2
      exact ⟨_, _, rfl, .inr ⟨rfl, rfl, HEQ.out⟩, Hb.out⟩
end Go.Proofs.YtmpcekpdnikghaaGreatDoor
namespace Go.Proofs.YtmpcekpdnikghaaGreatDoor
open Go.RowKit

/-- A slice value of m elements (size cells each) whose cells are xs: nil, or it lies somewhere. -/
def Src (w : World) (v : Value) (m size : Nat) (xs : List Value) : Prop :=
  (v = .slice none 0 0 ∧ m = 0 ∧ xs = []) ∨ (∃ g off c, v = .slice (some ⟨g, off, none⟩) m c ∧ g < w.heap.size ∧ xs.length = m * size ∧ ∀ j u, xs[j]? = some u → w.cell? ⟨g, off + j, none⟩ = some u)
theorem Src.below {w w' : World} {v : Value} {m size : Nat} {xs : List Value} (h : Src w v m size xs) (hb : Below w.heap.size w w') : Src w' v m size xs := by
  rcases h with h | ⟨g, off, c, e, lt, hl, hc⟩
  · exact .inl h
  · exact .inr ⟨g, off, c, e, Nat.lt_of_lt_of_le lt hb.size, hl, fun j u hj => (hb.cell (p := ⟨g, off + j, none⟩) lt).trans (hc j u hj)⟩
theorem Src.row {w : World} {base : Nat} {e : TypeId} {size n : Nat} {v : Value} {xs : List Value} (h : w.ownsRow base e size v n xs) : Src w v n size xs := by
  have h0 := h
  rcases h.2 with ⟨rfl, h1⟩ | ⟨g, cap, cur, hv, _, hg, _⟩
  · refine .inl ⟨rfl, by simp_all, ?_⟩
    have := h.1
    simp_all
  · subst hv
    refine .inr ⟨g, 0, cap, rfl, (Array.getElem?_eq_some_iff.1 hg).1, h.1, fun j u hj => ?_⟩
    have := h0.cells (g := g) rfl j u hj
    rwa [show (⟨g, 0, none⟩ : Addr).add j = ⟨g, 0 + j, none⟩ from by simp [Addr.add]; intro h; exact h.symm] at this
theorem grown_refl (w : World) (row : Option Nat) : w.grownBy w row := ⟨rfl, rfl, rfl, Nat.le_refl _, fun _ _ _ => rfl⟩
theorem wpList_append_src {P : Program} {w : World} {ops : Array Oper} {rest : List Oper} {o : Oper} {a : Act} {Q : Exit → Act → World → Prop} (hgd : o.guard = none) (s x : Operand) (t : TypeId)
    (ho : o.op = .call { callee := .builtin .append, args := #[s, x], argTypes := #[t, t] })
    (base : Nat) (e : TypeId) (i : TypeInfo) (z : Value) (size bytes : Nat) (ht : P.underlying t = some (.slice e)) (hi : P.info? e = some i) (hz : i.zero = some z)
    (hsize : i.size = size) (hby : i.bytes = bytes) (hzs : z.cells.size = size) (hsz : 0 < size)
    (v : Value) (n : Nat) (xs : List Value) (hs : a.eval s = v) (hown : w.ownsRow base e size v n xs)
    (vx : Value) (m : Nat) (news : List Value) (hx : a.eval x = vx) (hsrc : Src w vx m size news) (h1 : ∀ u ∈ news, u.oneCell' = true)
    (h63 : n + m ≤ maxLen) (hbytes : (n + m) * bytes ≤ 140737488355328) (hbase : base ≤ w.heap.size)
    (h : ∀ v' w', w'.ownsRow base e size v' (n + m) (xs ++ news) → w.grownBy w' v.ownBlock → wpList P ops Q rest (a.put o.dst v') w') : wpList P ops Q (o :: rest) a w := by
  rcases hsrc with ⟨e1, rfl, rfl⟩ | ⟨g, off, c, e1, lt, hl, hc⟩
  · refine wpList_append_own_none hgd s x t ho base e i size ht hi v n xs hs hown (hx.trans e1) ?_
    rw [← hs]
    rw [← hs] at h
    exact h _ w (by rw [Nat.add_zero, List.append_nil, hs]; exact hown) (grown_refl _ _)
  · refine wpList_append_own w hgd s x t ho base e i z size bytes ht hi hz hsize hby hzs hsz v n xs hs hown ⟨g, off, none⟩ m c news (hx.trans e1) hl ?_ h1 h63 hbytes hbase (fun v' w' a b _ => h v' w' a b)
    intro j u hj
    rw [show (⟨g, off, none⟩ : Addr).add j = ⟨g, off + j, none⟩ from by simp [Addr.add]]
    exact hc j u hj
theorem run_append_owned_zero {P : Program} {w : World} (base : Nat) (t ty e : TypeId) (i : TypeInfo) (size : Nat) (ht : P.underlying t = some (.slice e)) (hi : P.info? e = some i)
    (v : Value) (n : Nat) (xs : List Value) (hown : w.ownsRow base e size v n xs) (ad : Option Addr) (cap : Nat) :
    (Builtin.append_ #[t, t] ty #[v, .slice ad 0 cap]).run P w = .ok v w := by
  cases ad <;> rcases hown.2 with ⟨rfl, rfl⟩ | ⟨g, cap, cur, rfl, _, _, hnc, _⟩
  · simp [Builtin.append_, run_underlying ht, sizeOf, typeInfo, hi, Builtin.lenOf, Builtin.firstCells]
  · simp [Builtin.append_, run_underlying ht, sizeOf, typeInfo, hi, Builtin.lenOf, Builtin.firstCells, hnc, storeCells]
  · simp [Builtin.append_, run_underlying ht, sizeOf, typeInfo, hi, Builtin.lenOf, Builtin.firstCells, loadCells, loadCellsFrom, Result.andThen]
  · simp [Builtin.append_, run_underlying ht, sizeOf, typeInfo, hi, Builtin.lenOf, Builtin.firstCells, hnc, storeCells, loadCells, loadCellsFrom, Result.andThen]
theorem wpList_append_zero {P : Program} {w : World} {ops : Array Oper} {rest : List Oper} {o : Oper} {a : Act} {Q : Exit → Act → World → Prop} (hgd : o.guard = none) (s x : Operand) (t : TypeId)
    (ho : o.op = .call { callee := .builtin .append, args := #[s, x], argTypes := #[t, t] })
    (base : Nat) (e : TypeId) (i : TypeInfo) (size : Nat) (ht : P.underlying t = some (.slice e)) (hi : P.info? e = some i)
    (v : Value) (n : Nat) (xs : List Value) (hs : a.eval s = v) (hown : w.ownsRow base e size v n xs) (ad : Option Addr) (cap : Nat) (hx : a.eval x = .slice ad 0 cap)
    (h : wpList P ops Q rest (a.put o.dst v) w) : wpList P ops Q (o :: rest) a w := by
  refine wpList_plain hgd fun K hK => ?_
  have hrun := run_append_owned_zero (P := P) (w := w) base t o.type e i size ht hi v n xs hown ad cap
  unfold Oper.wp
  simp [execOp, ho, resolve, invoke, builtin, hs, hx, hrun, Result.andThen]
  exact hK _ _ h
theorem src_of_isEvs {w : World} {ad : Option Addr} {n cap : Nat} {L : List Lx.EvV} (h : Lx.IsEvs w ad n L) (h0 : 0 < n) : Src w (.slice ad n cap) n 8 (Lx.evCells L) := by
  obtain ⟨g, off, rfl, lt, hc⟩ := h.2 h0
  refine .inr ⟨g, off, cap, rfl, lt, by rw [Lx.evCells_len, h.1], fun j u hj => ?_⟩
  have hj1 : j < L.length * 8 := by have := (List.getElem?_eq_some_iff.1 hj).1; rwa [Lx.evCells_len] at this
  have hi : j / 8 < L.length := by omega
  have hL : L[j / 8]? = some L[j / 8] := List.getElem?_eq_getElem hi
  have h6 : (L[j / 8]).cells.length = 8 := rfl
  have hm : j % 8 < (L[j / 8]).cells.length := by rw [h6]; omega
  have hv : (L[j / 8]).cells[j % 8]? = some (L[j / 8]).cells[j % 8] := List.getElem?_eq_getElem hm
  have e1 := Lx.evCells_get hL (j % 8) _ hv
  have e2 := hc _ _ hL (j % 8) _ hv
  rw [show j / 8 * 8 + j % 8 = j by omega, hj] at e1
  rw [show off + j / 8 * 8 + j % 8 = off + j by omega] at e2
  rw [e2]; exact e1.symm
theorem wpList_append_isEvs {P : Program} {w : World} {ops : Array Oper} {rest : List Oper} {o : Oper} {a : Act} {Q : Exit → Act → World → Prop} (hgd : o.guard = none) (s x : Operand) (t : TypeId)
    (ho : o.op = .call { callee := .builtin .append, args := #[s, x], argTypes := #[t, t] })
    (base : Nat) (e : TypeId) (i : TypeInfo) (z : Value) (bytes : Nat) (ht : P.underlying t = some (.slice e)) (hi : P.info? e = some i) (hz : i.zero = some z)
    (hsize : i.size = 8) (hby : i.bytes = bytes) (hzs : z.cells.size = 8)
    (v : Value) (hs : a.eval s = v) (hown : w.ownsRow base e 8 v 0 [])
    (ad : Option Addr) (n cap : Nat) (L : List Lx.EvV) (hx : a.eval x = .slice ad n cap) (hsrc : Lx.IsEvs w ad n L) (h1 : ∀ u ∈ Lx.evCells L, u.oneCell' = true)
    (h63 : n ≤ maxLen) (hbytes : n * bytes ≤ 140737488355328) (hbase : base ≤ w.heap.size)
    (h : ∀ v' w', w'.ownsRow base e 8 v' n (Lx.evCells L) → w.grownBy w' v.ownBlock → wpList P ops Q rest (a.put o.dst v') w') : wpList P ops Q (o :: rest) a w := by
  rcases Nat.eq_zero_or_pos n with h0 | h0
  · subst h0
    have hL : L = [] := List.eq_nil_of_length_eq_zero hsrc.1
    subst hL
    exact wpList_append_zero hgd s x t ho base e i 8 ht hi v 0 [] hs hown ad cap hx (h v w hown (grown_refl _ _))
  · exact wpList_append_src hgd s x t ho base e i z 8 bytes ht hi hz hsize hby hzs (by decide) v 0 [] hs hown (.slice ad n cap) n (Lx.evCells L) hx (src_of_isEvs hsrc h0) h1 (by omega) (by rw [Nat.zero_add]; exact hbytes) hbase (fun v' w' ha hb => h v' w' (by rwa [Nat.zero_add, List.nil_append] at ha) hb)
theorem Lx.evCells_app (a b : List Lx.EvV) : Lx.evCells (a ++ b) = Lx.evCells a ++ Lx.evCells b := by unfold Lx.evCells; rw [List.flatMap_append]
theorem Lx.row_isEvs' {w : World} {base n : Nat} {v : Value} {e : TypeId} {L : List Lx.EvV} (h : w.ownsRow base e 8 v n (Lx.evCells L)) : ∃ A c, v = .slice A n c ∧ (L.length = n → Lx.IsEvs w A n L) := by
  obtain ⟨A, c, rfl⟩ := Lx.slice_of_row h
  exact ⟨A, c, rfl, fun hn => Lx.row_isEvs h hn⟩
end Go.Proofs.YtmpcekpdnikghaaGreatDoor
namespace Go.Proofs.YtmpcekpdnikghaaGreatDoor
open Go.RowKit

namespace Lx
theorem filt_take {p : EvV → Bool} {L : List EvV} {k : Nat} {o : EvV} (h : L[k]? = some o) : (p o = true → (L.take (k + 1)).filter p = (L.take k).filter p ++ [o]) ∧ (p o = false → (L.take (k + 1)).filter p = (L.take k).filter p) := by
  have e : L.take (k + 1) = L.take k ++ [o] := by rw [List.take_add_one, h]; rfl
  rw [e, List.filter_append]
  exact ⟨fun hp => by simp [hp], fun hp => by simp [hp]⟩
theorem filt_len (p : EvV → Bool) (L : List EvV) (k : Nat) : ((L.take k).filter p).length ≤ k := Nat.le_trans (List.length_filter_le _ _) (List.length_take_le _ _)
def isK (x : Int) (o : EvV) : Bool := o.k == x
/-- How many events of a kind there are. -/
def cntE (L : List EvV) (x : Int) : Nat := (L.filter (isK x)).length
def isOf (j d : Int) (o : EvV) : Bool := decide (1 ≤ o.k) && decide (o.k ≤ 5) && (o.j == j) && (o.d == d)
theorem own_of_eq {w : World} {base : Nat} {e : TypeId} {size : Nat} {v : Value} {A B : List EvV} (h : w.ownsRow base e size v A.length (evCells A)) (he : B = A) : w.ownsRow base e size v B.length (evCells B) := he ▸ h
/-- The events of an occurrence. -/
def ofE (L : List EvV) (j d : Int) : List EvV := L.filter (isOf j d)
end Lx
set_option maxRecDepth 100000 in
set_option maxHeartbeats 1600000 in
theorem evcount_any (ad : Option Addr) (n cap : Nat) (L : List Lx.EvV) (x : Int) (w : World) (h : Lx.IsEvs w ad n L) (hn : n ≤ 1000000000) :
    Calls Tryz.prog 17 #[.slice ad n cap, .int .i64 x] w fun e w' => e = .returned (.int .i64 (Lx.cntE L x : Nat)) ∧ Below w.heap.size w w' := by
  have H := Lib.hid h
  clear h
  go_enter Tryz.func17, Tryz.ntmps17
  go_wp2_with fail
  go_loopw [5, 10] (fun c i wr => ∃ k : Nat, k ≤ n ∧ i = .int .i64 k ∧ c = .int .i64 (((L.take k).filter (Lx.isK x)).length : Nat) ∧ Below w.heap.size w wr) (fun _ i _ => n - (intOf i).toNat)
  case atStart => exact ⟨0, Nat.zero_le _, rfl, rfl, Below.refl _ _⟩
  case round =>
    obtain ⟨k, hk, rfl, rfl, hb⟩ := hrel
    have hle := Lx.filt_len (Lx.isK x) L k
    have Hb := Lib.hid hb
    clear hb
    by_cases hlt : k < n
    · have hki : (k : Int) < (n : Int) := by omega
      obtain ⟨o, ho⟩ : ∃ o, L[k]? = some o := ⟨_, List.getElem?_eq_getElem (by rw [H.out.1]; exact hlt)⟩
      obtain ⟨g, off, rfl, lt, hc⟩ := (H.out.below Hb.out).2 (by omega)
      have hst := Lx.filt_take (p := Lx.isK x) ho
      obtain ⟨q, hq⟩ : ∃ q, ((L.take k).filter (Lx.isK x)).length = q := ⟨_, rfl⟩
      rw [hq] at hle ⊢
      obtain ⟨ok, ot, oj, od, oa, or, oy, on⟩ := o
      have c0 : wr.cell? ⟨g, off + k * 8, none⟩ = some (.int .i64 ok) := hc k _ ho 0 _ rfl
      have c1 : wr.cell? ⟨g, off + k * 8 + 1, none⟩ = some (.int .i64 ot) := hc k _ ho 1 _ rfl
      have c2 : wr.cell? ⟨g, off + k * 8 + 2, none⟩ = some (.int .i64 oj) := hc k _ ho 2 _ rfl
      have c3 : wr.cell? ⟨g, off + k * 8 + 3, none⟩ = some (.int .i64 od) := hc k _ ho 3 _ rfl
      have c4 : wr.cell? ⟨g, off + k * 8 + 4, none⟩ = some (.int .i64 oa) := hc k _ ho 4 _ rfl
      have c5 : wr.cell? ⟨g, off + k * 8 + 5, none⟩ = some (.int .i64 or) := hc k _ ho 5 _ rfl
      have c6 : wr.cell? ⟨g, off + k * 8 + 6, none⟩ = some (.int .i64 oy) := hc k _ ho 6 _ rfl
      have c7 : wr.cell? ⟨g, off + k * 8 + 7, none⟩ = some (.int .i64 on) := hc k _ ho 7 _ rfl
      unfold Lx.isK at hst
      dsimp only at hst
      clear hc ho
      by_cases hx : ok = x
      · have HS := Lib.hid (hst.1 (by rw [beq_iff_eq]; exact hx))
        have Hq := Lib.hid hq
        have hxe : (ok == x) = true := by rw [beq_iff_eq]; exact hx
        clear hst hx hq
        go_wp2_with fail
        go_roundw
        case rel => exact ⟨k + 1, by omega, by go_num, by show _ = Value.int .i64 ((((L.take (k + 1)).filter fun o => o.k == x).length : Nat) : Int); rw [HS.out, List.length_append]; show _ = Value.int .i64 ((((L.take k).filter (Lx.isK x)).length + 1 : Nat) : Int); rw [Hq.out]; go_num, (Hb.out.alloc Hb.out.size _)⟩
        case measure => simp [intOf]; omega
      · have HS := Lib.hid (hst.2 (by rw [beq_eq_false_iff_ne]; exact hx))
        have Hq := Lib.hid hq
        have hxe : (ok == x) = false := by rw [beq_eq_false_iff_ne]; exact hx
        clear hst hx hq
        go_wp2_with fail
        go_roundw
        case rel => exact ⟨k + 1, by omega, by go_num, by show _ = Value.int .i64 ((((L.take (k + 1)).filter fun o => o.k == x).length : Nat) : Int); rw [HS.out]; show _ = Value.int .i64 ((((L.take k).filter (Lx.isK x)).length : Nat) : Int); rw [Hq.out], (Hb.out.alloc Hb.out.size _)⟩
        case measure => simp [intOf]; omega
    · obtain rfl : k = n := by omega
      have hki : decide ((k : Int) < (k : Int)) = false := decide_eq_false (by omega)
      have ht : L.take k = L := List.take_of_length_le (by rw [H.out.1]; exact Nat.le_refl _)
      rw [ht]
      go_wp2_with fail
      go_ret
      exact ⟨rfl, Hb.out⟩
/-- What Of gives: the slice in a row of its own. -/
def OfPost (L : List Lx.EvV) (j d : Int) (w : World) (e : Ending) (w' : World) : Prop := ∃ v, e = .returned v ∧ w'.ownsRow w.heap.size 26 8 v (Lx.ofE L j d).length (Lx.evCells (Lx.ofE L j d)) ∧ Below w.heap.size w w'
set_option maxRecDepth 100000 in
set_option maxHeartbeats 1600000 in
theorem evof_any (ad : Option Addr) (n cap : Nat) (L : List Lx.EvV) (j d : Int) (w : World) (h : Lx.IsEvs w ad n L) (hn : n ≤ 1000000) :
    Calls Tryz.prog 15 #[.slice ad n cap, .int .i64 j, .int .i64 d] w (OfPost L j d w) := by
  obtain ⟨i0, hi, hz0, hz1, hz2⟩ := info_parts infoEv
  have H := Lib.hid h
  clear h
  go_enter Tryz.func15, Tryz.ntmps15
  go_wp2_with fail
  go_loopw [7, 12] (fun tx i wr => ∃ k : Nat, k ≤ n ∧ i = .int .i64 k ∧ wr.ownsRow w.heap.size 26 8 tx ((L.take k).filter (Lx.isOf j d)).length (Lx.evCells ((L.take k).filter (Lx.isOf j d))) ∧ Below w.heap.size w wr) (fun _ i _ => n - (intOf i).toNat)
  case atStart => exact ⟨0, Nat.zero_le _, rfl, World.ownsRow_nil _ _ _ _, Below.refl _ _⟩
  case round =>
    obtain ⟨k, hk, rfl, hrow, hb⟩ := hrel
    have hle := Lx.filt_len (Lx.isOf j d) L k
    have Hb := Lib.hid hb
    have Hrow := Lib.hid hrow
    clear hb hrow
    by_cases hlt : k < n
    · have hki : (k : Int) < (n : Int) := by omega
      obtain ⟨o, ho⟩ : ∃ o, L[k]? = some o := ⟨_, List.getElem?_eq_getElem (by rw [H.out.1]; exact hlt)⟩
      obtain ⟨g, off, rfl, lt, hc⟩ := (H.out.below Hb.out).2 (by omega)
      have hst := Lx.filt_take (p := Lx.isOf j d) ho
      have hsn := Lx.evCells_snoc ((L.take k).filter (Lx.isOf j d)) o
      obtain ⟨q, hq⟩ : ∃ q, ((L.take k).filter (Lx.isOf j d)).length = q := ⟨_, rfl⟩
      have Hrow0 := Hrow
      rw [hq] at hle Hrow
      obtain ⟨ok, ot, oj, od, oa, or, oy, on⟩ := o
      have c0 : wr.cell? ⟨g, off + k * 8, none⟩ = some (.int .i64 ok) := hc k _ ho 0 _ rfl
      have c1 : wr.cell? ⟨g, off + k * 8 + 1, none⟩ = some (.int .i64 ot) := hc k _ ho 1 _ rfl
      have c2 : wr.cell? ⟨g, off + k * 8 + 2, none⟩ = some (.int .i64 oj) := hc k _ ho 2 _ rfl
      have c3 : wr.cell? ⟨g, off + k * 8 + 3, none⟩ = some (.int .i64 od) := hc k _ ho 3 _ rfl
      have c4 : wr.cell? ⟨g, off + k * 8 + 4, none⟩ = some (.int .i64 oa) := hc k _ ho 4 _ rfl
      have c5 : wr.cell? ⟨g, off + k * 8 + 5, none⟩ = some (.int .i64 or) := hc k _ ho 5 _ rfl
      have c6 : wr.cell? ⟨g, off + k * 8 + 6, none⟩ = some (.int .i64 oy) := hc k _ ho 6 _ rfl
      have c7 : wr.cell? ⟨g, off + k * 8 + 7, none⟩ = some (.int .i64 on) := hc k _ ho 7 _ rfl
      have Hq := Lib.hid hq
      have Hsn := Lib.hid hsn
      have HST := Lib.hid hst
      have hbz := Hb.out.size
      clear hc ho hsn hst hq
      have no := fun e => Lx.own_of_eq Hrow0.out (HST.out.2 e)
      have NO := Lib.hid no
      clear no Hrow0
      by_cases h1 : 1 ≤ ok
      · have d1 : decide (1 ≤ ok) = true := decide_eq_true h1
        by_cases h2 : ok ≤ 5
        · have d2 : decide (ok ≤ 5) = true := decide_eq_true h2
          by_cases h3 : oj = j
          · have d3 : (oj == j) = true := by rw [beq_iff_eq]; exact h3
            by_cases h4 : od = d
            · have d4 : (od == d) = true := by rw [beq_iff_eq]; exact h4
              have hy := HST.out.1 (by unfold Lx.isOf; dsimp only; rw [d1, d2, d3, d4]; rfl)
              have HY := Lib.hid hy
              subst h3 h4
              obtain ⟨a0, cp0, rfl⟩ := Lx.slice_of_row Hrow.out
              have hcs : ∀ j' u, ([.int .i64 ok, .int .i64 ot, .int .i64 oj, .int .i64 od, .int .i64 oa, .int .i64 or, .int .i64 oy, .int .i64 on] : List Value)[j']? = some u → ((wr.alloc (.cells #[.int .i64 ok, .int .i64 ot, .int .i64 oj, .int .i64 od, .int .i64 oa, .int .i64 or, .int .i64 oy, .int .i64 on] 26)).alloc (.cells #[.int .i64 ok, .int .i64 ot, .int .i64 oj, .int .i64 od, .int .i64 oa, .int .i64 or, .int .i64 oy, .int .i64 on] 26)).cell? ((⟨wr.heap.size + 1, 0, none⟩ : Addr).add j') = some u := by
                have := Lx.cell_eight_new (wr.alloc (.cells #[.int .i64 ok, .int .i64 ot, .int .i64 oj, .int .i64 od, .int .i64 oa, .int .i64 or, .int .i64 oy, .int .i64 on] 26)) ⟨ok, ot, oj, od, oa, or, oy, on⟩ 26
                rw [World.size_alloc] at this
                exact this
              have HCS := Lib.hid hcs
              clear hcs hy NO d3 d4 Hsn
              have Hsn := Lib.hid (Lx.evCells_snoc ((L.take k).filter (Lx.isOf oj od)) ⟨ok, ot, oj, od, oa, or, oy, on⟩)
              go_wp2_with (at_builtin; refine wpList_append_own _ rfl _ _ 30 rfl w.heap.size 26 i0 _ 8 64 Tryz.underlying30 hi hz0 hz1 hz2 rfl (by decide) _ _ _ rfl ((Hrow.out.alloc _).alloc _) ⟨wr.heap.size + 1, 0, none⟩ 1 1 [.int .i64 ok, .int .i64 ot, .int .i64 oj, .int .i64 od, .int .i64 oa, .int .i64 or, .int .i64 oy, .int .i64 on] rfl rfl HCS.out (by simp [Value.oneCell']) (by unfold maxLen; omega) (by omega) (by simp; omega) ?_)
              intro v' w6 hown' hgrow _
              have hb6 := ((Hb.out.alloc Hb.out.size (.cells #[.int .i64 ok, .int .i64 ot, .int .i64 oj, .int .i64 od, .int .i64 oa, .int .i64 or, .int .i64 oy, .int .i64 on] 26)).alloc (Hb.out.alloc Hb.out.size _).size (.cells #[.int .i64 ok, .int .i64 ot, .int .i64 oj, .int .i64 od, .int .i64 oa, .int .i64 or, .int .i64 oy, .int .i64 on] 26)).grown hgrow (by simp; omega) (Lx.ownBase Hrow.out)
              clear hgrow
              go_wp2_with fail
              go_roundw
              case rel => exact ⟨k + 1, by omega, by go_num, by rw [HY.out, List.length_append, Hq.out, Hsn.out]; exact hown', hb6⟩
              case measure => simp [intOf]; omega
            · have d4 : (od == d) = false := by rw [beq_eq_false_iff_ne]; exact h4
              have HY := Lib.hid (NO.out (by unfold Lx.isOf; dsimp only; rw [d1, d2, d3, d4]; rfl))
              subst h3
              clear h4 NO d3
              go_wp2_with fail
              go_roundw
              case rel => exact ⟨k + 1, by omega, by go_num, HY.out.alloc _, Hb.out.alloc Hb.out.size _⟩
              case measure => simp [intOf]; omega
          · have d3 : (oj == j) = false := by rw [beq_eq_false_iff_ne]; exact h3
            have HY := Lib.hid (NO.out (by unfold Lx.isOf; dsimp only; rw [d1, d2, d3]; rfl))
            clear h3 NO
            go_wp2_with fail
            go_roundw
            case rel => exact ⟨k + 1, by omega, by go_num, HY.out.alloc _, Hb.out.alloc Hb.out.size _⟩
            case measure => simp [intOf]; omega
        · have d2 : decide (ok ≤ 5) = false := decide_eq_false h2
          have HY := Lib.hid (NO.out (by unfold Lx.isOf; dsimp only; rw [d1, d2]; rfl))
          clear NO
          go_wp2_with fail
          go_roundw
          case rel => exact ⟨k + 1, by omega, by go_num, HY.out.alloc _, Hb.out.alloc Hb.out.size _⟩
          case measure => simp [intOf]; omega
      · have d1 : decide (1 ≤ ok) = false := decide_eq_false h1
        have HY := Lib.hid (NO.out (by unfold Lx.isOf; dsimp only; rw [d1]; rfl))
        clear NO
        go_wp2_with fail
        go_roundw
        case rel => exact ⟨k + 1, by omega, by go_num, HY.out.alloc _, Hb.out.alloc Hb.out.size _⟩
        case measure => simp [intOf]; omega
    · obtain rfl : k = n := by omega
      have hki : decide ((k : Int) < (k : Int)) = false := decide_eq_false (by omega)
      have ht : L.take k = L := List.take_of_length_le (by rw [H.out.1]; exact Nat.le_refl _)
      have Hr := Hrow.out
      rw [ht] at Hr
      have HR := Lib.hid Hr
      clear Hr hle
      go_wp2_with fail
      go_ret
      exact ⟨_, rfl, HR.out, Hb.out⟩
end Go.Proofs.YtmpcekpdnikghaaGreatDoor
namespace Go.Proofs.YtmpcekpdnikghaaGreatDoor
open Go.RowKit

namespace Lx
/-- The parts that were cut off so far, each followed by a space. -/
def spJ (Q : List ByteArray) : List UInt8 := Q.flatMap fun q => q.data.toList ++ [32]
theorem spJ_snoc (Q : List ByteArray) (x : ByteArray) : spJ (Q ++ [x]) = spJ Q ++ (x.data.toList ++ [32]) := by simp [spJ]
theorem joinSp_snoc : ∀ (Q : List ByteArray) (z : ByteArray), joinSp (bl (Q ++ [z])) = spJ Q ++ z.data.toList
  | [], z => by simp [spJ, bl, joinSp]
  | q :: Q, z => by
    have ih := joinSp_snoc Q z
    have hne : bl (Q ++ [z]) ≠ [] := by simp [bl]
    have e : bl (q :: Q ++ [z]) = q.data.toList :: bl (Q ++ [z]) := by simp [bl]
    rw [e, joinSp_cons _ hne, ih]
    simp [spJ]
/-- The state of split before place k: the parts Q, the next one begins at f. -/
def SpI (s : ByteArray) (Q : List ByteArray) (f k : Nat) : Prop :=
  f ≤ k ∧ spJ Q = s.data.toList.take f ∧ (∀ q ∈ Q, (32 : UInt8) ∉ q.data.toList) ∧ (32 : UInt8) ∉ (s.extract f k).data.toList ∧ Q.length ≤ f
theorem spI_start (s : ByteArray) : SpI s [] 0 0 := ⟨Nat.le_refl _, (by simp [spJ]), (fun q h => by cases h), (by rw [Lib.extract_data]; simp), Nat.le_refl _⟩
theorem spI_miss {s : ByteArray} {Q : List ByteArray} {f k : Nat} (h : SpI s Q f k) (hk : k < s.size) (hc : s[k] ≠ 32) : SpI s Q f (k + 1) := by
  obtain ⟨h1, h2, h3, h4, h5⟩ := h
  refine ⟨by omega, h2, h3, ?_, h5⟩
  rw [ext_snoc s f k h1 hk, List.mem_append, not_or]
  exact ⟨h4, by rw [List.mem_singleton]; exact fun e => hc e.symm⟩
theorem spI_hit {s : ByteArray} {Q : List ByteArray} {f k : Nat} (h : SpI s Q f k) (hk : k < s.size) (hc : s[k] = 32) : SpI s (Q ++ [s.extract f k]) (k + 1) (k + 1) := by
  obtain ⟨h1, h2, h3, h4, h5⟩ := h
  refine ⟨Nat.le_refl _, ?_, ?_, by rw [Lib.extract_data]; simp, by simp; omega⟩
  · rw [spJ_snoc, h2, ← List.append_assoc, take_ext s f k h1, List.take_succ_eq_append_getElem (by rw [← Lib.size_eq]; exact hk)]
    congr 2
    exact hc.symm
  · intro q hq
    rcases List.mem_append.1 hq with hq | hq
    · exact h3 q hq
    · simp at hq; subst hq; exact h4
theorem bl_inj {A B : List ByteArray} (h : bl A = bl B) : A = B := (List.map_inj_right (fun _ _ h => ByteArray.ext (Array.toList_inj.1 h))).1 h
theorem spI_fin {s : ByteArray} {Q : List ByteArray} {f : Nat} (h : SpI s Q f s.size) : Q ++ [s.extract f s.size] = spS s := by
  obtain ⟨h1, h2, h3, h4, h5⟩ := h
  apply bl_inj
  refine pcs_one (l := s.data.toList) ⟨by simp [bl], ?_, ?_⟩ (spS_pcs s)
  · intro p hp
    unfold bl at hp
    obtain ⟨q, hq, rfl⟩ := List.mem_map.1 hp
    rcases List.mem_append.1 hq with hq | hq
    · exact h3 q hq
    · simp at hq; subst hq; exact h4
  · rw [joinSp_snoc, h2, take_ext s f s.size h1, List.take_of_length_le (by rw [← Lib.size_eq]; exact Nat.le_refl _)]
theorem ix_hit {NS : List ByteArray} {s : ByteArray} {k : Nat} (h : NS[k]? = some s) (hb : ∀ j : Nat, j < k → NS[j]? ≠ some s) : ixN NS s.data.toList = (k : Int) := by
  obtain ⟨hk, e⟩ := List.getElem?_eq_some_iff.1 h
  have hi : nIdx NS s.data.toList = k := by
    unfold nIdx
    refine (List.findIdx_eq hk).2 ⟨by rw [e]; exact beq_self_eq_true _, fun j hj => ?_⟩
    rw [beq_eq_false_iff_ne]
    intro c
    exact hb j hj (by rw [List.getElem?_eq_getElem (by omega)]; exact congrArg some (ByteArray.ext (Array.toList_inj.1 c)))
  have hh : nHit NS s.data.toList = true := by unfold nHit; rw [hi]; exact decide_eq_true hk
  unfold ixN; rw [if_pos hh, hi]
theorem ix_none {NS : List ByteArray} {s : ByteArray} (hb : ∀ j : Nat, NS[j]? ≠ some s) : ixN NS s.data.toList = -1 := by
  have hh : ¬ (nHit NS s.data.toList = true) := by
    intro c
    have hl : nIdx NS s.data.toList < NS.length := of_decide_eq_true c
    have := List.findIdx_getElem (w := hl)
    rw [beq_iff_eq] at this
    exact hb _ (by rw [List.getElem?_eq_getElem hl]; exact congrArg some (ByteArray.ext (Array.toList_inj.1 this)))
  unfold ixN; rw [if_neg hh]
end Lx
set_option maxRecDepth 100000 in
set_option maxHeartbeats 1600000 in
theorem r36split_any (s : ByteArray) (w : World) (hs : s.size ≤ 65536) :
    Calls Tryz.prog 23 #[.string s] w fun e w' => ∃ v, e = .returned v ∧ w'.ownsRow w.heap.size 9 1 v (Lx.spS s).length ((Lx.spS s).map Value.string) ∧ Below w.heap.size w w' := by
  obtain ⟨i0, hi, hz0, hz1, hz2⟩ := info_parts infoS
  go_enter Tryz.func23, Tryz.ntmps23
  go_wp2_with fail
  go_loopw [3, 4, 5] (fun ov fv iv wr => ∃ (Q : List ByteArray) (f k : Nat), k ≤ s.size ∧ fv = .int .i64 f ∧ iv = .int .i64 k ∧ Lx.SpI s Q f k ∧ wr.ownsRow w.heap.size 9 1 ov Q.length (Q.map Value.string) ∧ Below w.heap.size w wr) (fun _ _ i _ => s.size - (intOf i).toNat)
  case atStart => exact ⟨[], 0, 0, Nat.zero_le _, rfl, rfl, Lx.spI_start s, World.ownsRow_nil _ _ _ _, Below.refl _ _⟩
  case round =>
    obtain ⟨Q, f, k, hk, rfl, rfl, hI, hrow, hb⟩ := hrel
    have hfk : f ≤ k := hI.1
    have hQf : Q.length ≤ f := hI.2.2.2.2
    obtain ⟨q, hq⟩ : ∃ q, Q.length = q := ⟨_, rfl⟩
    rw [hq] at hrow hQf
    have HQ := Lib.hid hq
    have HI := Lib.hid hI
    have Hrow := Lib.hid hrow
    have Hb := Lib.hid hb
    have hbz := hb.size
    clear hI hrow hb hq
    obtain ⟨ad, cp, rfl⟩ := Lx.ownSlice Hrow.out
    have hfi : (f : Int) ≤ (k : Int) := by omega
    by_cases hlt : k < s.size
    · have hki : (k : Int) < (s.size : Int) := by omega
      by_cases hc : s[k] = 32
      · have hcb : ((s[k].toNat : Int) == 32) = true := by rw [hc]; rfl
        have HH := Lib.hid (Lx.spI_hit HI.out hlt hc)
        clear hc
        go_wp2_with (at_builtin; refine wpList_append_own _ rfl _ _ 22 rfl w.heap.size 9 i0 _ 1 16 Tryz.underlying22 hi hz0 hz1 hz2 rfl (by decide) _ _ _ rfl (Hrow.out.alloc _) ⟨wr.heap.size, 0, none⟩ 1 1 [.string (s.extract f k)] rfl rfl (Lx.cellNew wr (.string (s.extract f k)) 9) (by simp [Value.oneCell']) (by unfold maxLen; omega) (by omega) ((Hb.out.alloc Hb.out.size _).size) ?_)
        intro v' w2 hown2 hgrow _
        have hb2 := (Hb.out.alloc Hb.out.size (.cells #[.string (s.extract f k)] 9)).grown hgrow (Hb.out.alloc Hb.out.size _).size (Lx.ownBase Hrow.out)
        clear hgrow
        go_wp2_with fail
        go_roundw
        case rel => exact ⟨Q ++ [s.extract f k], k + 1, k + 1, by omega, by go_num, by go_num, HH.out, by rw [List.length_append, HQ.out, List.map_append]; exact hown2, hb2⟩
        case measure => simp [intOf]; omega
      · have hcb : ((s[k].toNat : Int) == 32) = false := by
          rw [beq_eq_false_iff_ne]
          intro e
          exact hc (UInt8.toNat_inj.1 (by show s[k].toNat = 32; omega))
        have HH := Lib.hid (Lx.spI_miss HI.out hlt hc)
        clear hc
        go_wp2_with fail
        go_roundw
        case rel => exact ⟨Q, f, k + 1, by omega, rfl, by go_num, HH.out, by rw [HQ.out]; exact Hrow.out, Hb.out⟩
        case measure => simp [intOf]; omega
    · obtain rfl : k = s.size := by omega
      have hki : decide ((s.size : Int) < (s.size : Int)) = false := decide_eq_false (by omega)
      have HF := Lib.hid (Lx.spI_fin HI.out)
      go_wp2_with (at_builtin; refine wpList_append_own _ rfl _ _ 22 rfl w.heap.size 9 i0 _ 1 16 Tryz.underlying22 hi hz0 hz1 hz2 rfl (by decide) _ _ _ rfl (Hrow.out.alloc _) ⟨wr.heap.size, 0, none⟩ 1 1 [.string (s.extract f s.size)] rfl rfl (Lx.cellNew wr (.string (s.extract f s.size)) 9) (by simp [Value.oneCell']) (by unfold maxLen; omega) (by omega) ((Hb.out.alloc Hb.out.size _).size) ?_)
      intro v' w2 hown2 hgrow _
      have hb2 := (Hb.out.alloc Hb.out.size (.cells #[.string (s.extract f s.size)] 9)).grown hgrow (Hb.out.alloc Hb.out.size _).size (Lx.ownBase Hrow.out)
      clear hgrow
      go_wp2_with fail
      go_ret
      exact ⟨_, rfl, by rw [← HF.out, List.length_append, HQ.out, List.map_append]; exact hown2, hb2⟩
theorem r36read_any (s : ByteArray) (w : World) (hs : s.size ≤ 1000000000) :
    Calls Tryz.prog 24 #[.string s] w fun e w' => e = .returned (.int .i64 (Lx.rdN s.data.toList)) ∧ w = w' := by
  by_cases h : s.data.toList = Lx.neverW
  · have hv : Lx.rdN s.data.toList = 4611686018427387904 := by unfold Lx.rdN; rw [if_pos h]
    have hne : (s.toList == [110, 101, 118, 101, 114]) = true := by rw [beq_iff_eq, Lib.toList_data]; exact h
    rw [hv]
    clear h hv
    go_enter Tryz.func24, Tryz.ntmps24
    go_wp2_with fail
    go_ret
    exact ⟨rfl, rfl⟩
  · have hne : (s.toList == [110, 101, 118, 101, 114]) = false := by rw [beq_eq_false_iff_ne, Lib.toList_data]; exact h
    have HN := Lib.hid (ref_number_any s w hs)
    have hv : Lx.rdN s.data.toList = if Lx.numErr s.data.toList = 0 then Lx.numRes s.data.toList else -1 := by unfold Lx.rdN; rw [if_neg h]
    rw [hv]
    generalize Lx.numErr s.data.toList = ne at *
    generalize Lx.numRes s.data.toList = nr at *
    clear h hv
    by_cases hz : ne = 0
    · subst hz
      rw [if_pos rfl]
      go_enter Tryz.func24, Tryz.ntmps24
      go_wp2_with fail
      refine HN.out.mono ?_
      rintro e w1 ⟨rfl, rfl⟩
      go_wp2_with fail
      go_ret
      exact ⟨rfl, rfl⟩
    · rw [if_neg hz]
      have hzb : (ne != 0) = true := by rw [bne_iff_ne]; exact hz
      clear hz
      go_enter Tryz.func24, Tryz.ntmps24
      go_wp2_with fail
      refine HN.out.mono ?_
      rintro e w1 ⟨rfl, rfl⟩
      go_wp2_with fail
      go_ret
      exact ⟨rfl, rfl⟩
set_option maxRecDepth 100000 in
theorem r36index_any (ad : Option Addr) (n cap : Nat) (NS : List ByteArray) (s : ByteArray) (w : World) (h : Lx.IsNames w ad n NS) (hn : n ≤ 1000000) :
    Calls Tryz.prog 26 #[.slice ad n cap, .string s] w fun e w' => e = .returned (.int .i64 (Lx.ixN NS s.data.toList)) ∧ Below w.heap.size w w' := by
  have HL := Lib.hid h.1
  have H := Lib.hid h
  obtain ⟨z, hzz⟩ : ∃ z, z = Lx.ixN NS s.data.toList := ⟨_, rfl⟩
  rw [← hzz]
  have HZ := Lib.hid hzz
  clear hzz h
  go_enter Tryz.func26, Tryz.ntmps26
  go_wp2_with fail
  go_loopw [5] (fun i wr => ∃ k : Nat, k ≤ n ∧ i = .int .i64 k ∧ (∀ j : Nat, j < k → NS[j]? ≠ some s) ∧ Below w.heap.size w wr) (fun i _ => n - (intOf i).toNat)
  case atStart => exact ⟨0, Nat.zero_le _, rfl, (fun j hj => absurd hj (Nat.not_lt_zero _)), Below.refl _ _⟩
  case round =>
    obtain ⟨k, hk, rfl, hne, hb⟩ := hrel
    have Hb := Lib.hid hb
    have HE := Lib.hid hne
    clear hb hne
    by_cases hlt : k < n
    · have hki : (k : Int) < (n : Int) := by omega
      obtain ⟨x, hx⟩ : ∃ x, NS[k]? = some x := ⟨_, List.getElem?_eq_getElem (by rw [HL.out]; exact hlt)⟩
      obtain ⟨g, off, rfl, lt, hc⟩ := (H.out.below Hb.out).2 (by omega)
      have hcx := hc k x hx
      have HX := Lib.hid hx
      clear hc hx
      by_cases hxy : x = s
      · subst hxy
        have hs := HZ.out.trans (Lx.ix_hit HX.out HE.out)
        subst hs
        clear HZ
        go_wp2_with fail
        go_ret
        exact ⟨rfl, Hb.out⟩
      · have hee : (x.toList == s.toList) = false := by rw [beq_eq_false_iff_ne]; intro e; rw [Lib.toList_data, Lib.toList_data] at e; exact hxy (ByteArray.ext (Array.toList_inj.1 e))
        have HXY := Lib.hid hxy
        clear hxy
        go_wp2_with fail
        go_roundw
        case rel => exact ⟨k + 1, by omega, by go_num, (fun j hj hy => by rcases Nat.lt_or_eq_of_le (Nat.le_of_lt_succ hj) with c | c; (exact HE.out j c hy); (subst c; rw [HX.out] at hy; cases hy; exact HXY.out rfl)), Hb.out⟩
        case measure => simp [intOf]; omega
    · obtain rfl : k = n := by omega
      have hki : decide ((k : Int) < (k : Int)) = false := decide_eq_false (by omega)
      have hs := HZ.out.trans (Lx.ix_none (fun j hj => HE.out j (by rw [← HL.out]; exact (List.getElem?_eq_some_iff.1 hj).1) hj))
      subst hs
      clear HZ
      go_wp2_with fail
      go_ret
      exact ⟨rfl, Hb.out⟩
end Go.Proofs.YtmpcekpdnikghaaGreatDoor
namespace Go.Proofs.YtmpcekpdnikghaaGreatDoor
open Go.RowKit

namespace Lx
theorem ownKp {w w' : World} {b base : Nat} {e : TypeId} {size n : Nat} {v : Value} {xs : List Value} (h : w.ownsRow base e size v n xs) (hk : Kp b w w') (hn : ∀ g, v.ownBlock = some g → g ≠ b) : w'.ownsRow base e size v n xs := by
  refine ⟨h.1, ?_⟩
  rcases h.2 with h0 | ⟨g, cap, cur, h1, h2, h3, h4⟩
  · exact .inl h0
  · exact .inr ⟨g, cap, cur, h1, h2, (hk.2.2 g (Array.getElem?_eq_some_iff.1 h3).1 (hn g (by rw [h1]; rfl))).trans h3, h4⟩
theorem cellNew3 (w : World) (a b d : Value) (t : TypeId) : ∀ j u, [a, b, d][j]? = some u → (w.alloc (.cells #[a, b, d] t)).cell? ((⟨w.heap.size, 0, none⟩ : Addr).add j) = some u := by
  intro j u hj
  match j, hj with
  | 0, hj => simp at hj; subst hj; simp [Addr.add]
  | 1, hj => simp at hj; subst hj; simp [Addr.add]
  | 2, hj => simp at hj; subst hj; simp [Addr.add]
/-- The state of the reference's Parse: the result's box, the event's box, the parts. -/
structure PQ (w W : World) (E g c : Nat) (P : List ByteArray) (o : EvV) : Prop where
  bel : Below w.heap.size w W
  z : EvBox W w.heap.size evZ
  e : EvBox W E o
  row : W.ownsRow (w.heap.size + 1) 9 1 (.slice (some ⟨g, 0, none⟩) P.length c) P.length (P.map Value.string)
  hE : w.heap.size < E
  n6 : g ≠ E
theorem PQ.gb {w W : World} {E g c : Nat} {P : List ByteArray} {o : EvV} (h : PQ w W E g c P o) : w.heap.size + 1 ≤ g := ownBase h.row g rfl
theorem PQ.below {w W W' : World} {E g c : Nat} {P : List ByteArray} {o : EvV} (h : PQ w W E g c P o) (hb : Below W.heap.size W W') : PQ w W' E g c P o :=
  ⟨h.bel.trans (hb.mono h.bel.size), h.z.below hb, h.e.below hb, ownBelowO h.row hb, h.hE, h.n6⟩
theorem PQ.set {w W : World} {E g c : Nat} {P : List ByteArray} {o o' : EvV} (h : PQ w W E g c P o) {j : Nat} {v : Value} (hj : j < 8) (ho : o'.cells = o.cells.set j v) : PQ w (W.setCell ⟨E, j, none⟩ v) E g c P o' :=
  ⟨h.bel.setCell (p := ⟨E, j, none⟩) (Nat.le_of_lt h.hE) _, h.z.kp Kp.set (Nat.ne_of_lt h.hE), h.e.set hj ho, ownKp h.row Kp.set (fun g' hg' => by cases hg'; exact h.n6), h.hE, h.n6⟩
theorem PQ.grow {w W w6 : World} {E g c g6 c6 : Nat} {P T : List ByteArray} {o : EvV} (h : PQ w W E g c P o) (obj : Obj) {n : Nat} (hn : n = (P ++ T).length) (hgr : (W.alloc obj).grownBy w6 (some g))
    (hown : w6.ownsRow (w.heap.size + 1) 9 1 (.slice (some ⟨g6, 0, none⟩) n c6) n (P.map Value.string ++ T.map Value.string)) (hat : some g = some g6 ∨ g6 = (W.alloc obj).heap.size) : PQ w w6 E g6 c6 (P ++ T) o := by
  subst hn
  have hal : Below W.heap.size W (W.alloc obj) := (Below.refl _ _).alloc (Nat.le_refl _) obj
  have h1 := h.below hal
  have hgl : g < (W.alloc obj).heap.size := by
    rcases h1.row.2 with ⟨h0, _⟩ | ⟨g', cap, cur, e1, _, e3, _⟩
    · cases h0
    · have : g' = g := by injection e1 with a _ _; injection a with a; injection a with a _ _; exact a.symm
      subst this
      exact (Array.getElem?_eq_some_iff.1 e3).1
  have hk := Kp.grown hgr hgl
  refine ⟨h1.bel.grown hgr h1.bel.size (fun j hj => by cases hj; have := h1.gb; omega), h1.z.kp hk (by have := h1.gb; omega), h1.e.kp hk (fun e => h1.n6 e.symm), by rw [List.map_append]; exact hown, h1.hE, ?_⟩
  rcases hat with e | e
  · cases e; exact h1.n6
  · have := h.e.1
    have h2 : (W.alloc obj).heap.size = W.heap.size + 1 := World.size_alloc _ _
    omega
theorem PQ.p {w W : World} {E g c : Nat} {P : List ByteArray} {o : EvV} (h : PQ w W E g c P o) {i : Nat} {x : ByteArray} (hx : P[i]? = some x) : W.cell? ⟨g, i, none⟩ = some (.string x) := by
  have hp : 0 < P.length := by have := (List.getElem?_eq_some_iff.1 hx).1; omega
  obtain ⟨g', c', e, _, hc⟩ := ownPos h.row hp
  have : g' = g := by injection e with a _ _; injection a with a; injection a with a _ _; exact a.symm
  subst this
  exact hc i _ (by rw [List.getElem?_map, hx]; rfl)
/-- What a loop over the words has found before word k. -/
def kv (K : Int) (k : Nat) : Int := if 1 ≤ K ∧ K < k then K else 0
theorem kv_start (K : Int) : kv K 1 = 0 := by unfold kv; rw [if_neg (by omega)]
theorem kv_hit {K : Int} {k : Nat} (h1 : 1 ≤ k) (h : (k : Int) = K) : kv K (k + 1) = (k : Int) := by unfold kv; rw [if_pos (by omega)]; exact h.symm
theorem kv_miss {K : Int} {k : Nat} (h : (k : Int) ≠ K) : kv K (k + 1) = kv K k := by unfold kv; (repeat' split) <;> omega
theorem kv_end {K : Int} {k : Nat} (h0 : 0 ≤ K) (h : K < k) : kv K k = K := by unfold kv; split <;> omega
theorem word_is {l : List UInt8} {K : Int} (h : kindOf l = K) {k : Nat} (h1 : 1 ≤ k) (h8 : k ≤ 8) : evWord (k : Nat) = l ↔ (k : Int) = K := by
  constructor
  · intro e
    have := kindOf_word (k := (k : Int)) (by omega)
    rw [e, h] at this
    exact this.symm
  · intro e
    have := kindOf_back (p := l) (by omega)
    rw [this, h, e]
theorem why_is {l : List UInt8} {Y : Int} (h : rVal l = Y) {k : Nat} (h1 : 1 ≤ k) (h6 : k ≤ 6) : reasonW (k : Nat) = l ↔ (k : Int) = Y := by
  constructor
  · intro e
    have := (rVal_of (y := (k : Int)) (by omega)).1
    rw [e, h] at this
    exact this.symm
  · intro e
    have := (rVal_back (p := l) (by omega)).1
    rw [this, h, e]
theorem rdN_in (p : List UInt8) : inR (rdN p) := by
  unfold rdN
  split
  · unfold inR; omega
  · split
    · exact num_bd p
    · unfold inR; omega
theorem ixN_in {NS : List ByteArray} (hN : NS.length ≤ 64) (p : List UInt8) : inR (ixN NS p) := by
  unfold ixN
  split
  · rename_i h
    have : nIdx NS p < NS.length := of_decide_eq_true h
    unfold inR; omega
  · unfold inR; omega
theorem p6_at {P : List ByteArray} (h3 : 3 ≤ P.length) {M : Nat} (hz : ∀ x ∈ P, x.size ≤ M) {i : Nat} (hi : i < 6) : ∃ x, (P ++ [⟨#[]⟩, ⟨#[]⟩, ⟨#[]⟩])[i]? = some x ∧ x.data.toList = pAt (bl P) i ∧ x.size ≤ M := by
  by_cases h : i < P.length
  · refine ⟨P[i], ?_, ?_, hz _ (List.getElem_mem h)⟩
    · rw [List.getElem?_append_left h, List.getElem?_eq_getElem h]
    · unfold pAt bl
      rw [List.getD_eq_getElem?_getD, List.getElem?_map, List.getElem?_eq_getElem h]; rfl
  · refine ⟨⟨#[]⟩, ?_, ?_, Nat.zero_le _⟩
    · rw [List.getElem?_append_right (by omega)]
      obtain h | h | h : i - P.length = 0 ∨ i - P.length = 1 ∨ i - P.length = 2 := by omega
      · rw [h]; rfl
      · rw [h]; rfl
      · rw [h]; rfl
    · unfold pAt bl
      rw [List.getD_eq_getElem?_getD, List.getElem?_map, List.getElem?_eq_none (by omega)]; rfl
theorem p_at {P : List ByteArray} {M : Nat} (hz : ∀ x ∈ P, x.size ≤ M) {i : Nat} (h : i < P.length) : ∃ x, P[i]? = some x ∧ x.data.toList = pAt (bl P) i ∧ x.size ≤ M := by
  refine ⟨P[i], List.getElem?_eq_getElem h, ?_, hz _ (List.getElem_mem h)⟩
  unfold pAt bl
  rw [List.getD_eq_getElem?_getD, List.getElem?_map, List.getElem?_eq_getElem h]; rfl
theorem evParts_len (o : EvV) (nm : List UInt8) (hk : 1 ≤ o.k ∧ o.k ≤ 8) : 3 ≤ (evParts o nm).length ∧ (evParts o nm).length ≤ 6 := by
  obtain ⟨k, t, j, d, a, r, y, n⟩ := o
  dsimp only at hk
  rcases kind_cases hk with rfl | rfl | rfl | rfl | rfl | rfl | rfl | rfl <;> simp [evParts]
theorem len_bad {NS : List ByteArray} (hN : NOk NS) {s : ByteArray} (h : (spS s).length < 3 ∨ 6 < (spS s).length) : ReadsEv NS s.data.toList evZ 10 := by
  refine .inr ⟨rfl, rfl, fun p hp => ?_⟩
  obtain ⟨g, _, e⟩ := (ps_parts hN.2.1 (spS_pcs s) p).1 hp
  have := evParts_len p (nmAt NS p.j) (good_kind g)
  rw [e] at this
  unfold bl at this
  rw [List.length_map] at this
  omega
theorem fin_rd {NS : List ByteArray} (hN : NOk NS) {s : ByteArray} {o : EvV} (ho : gE NS (bl (spS s)) = o) :
    (prE NS o = 0 → prS NS o = s.data.toList → ReadsEv NS s.data.toList o 0) ∧ (prE NS o ≠ 0 → ReadsEv NS s.data.toList evZ 10) ∧ (prS NS o ≠ s.data.toList → ReadsEv NS s.data.toList evZ 10) := by
  have hr := gE_reads hN (spS_pcs s)
  rw [ho] at hr
  refine ⟨fun a b => hr.1 (b ▸ pr_eps a), fun a => hr.2 (fun c => ?_), fun a => hr.2 (fun c => ?_)⟩
  · exact a (pr_of hN c.1 c.2.1).1
  · exact a ((pr_of hN c.1 c.2.1).2.trans c.2.2)
end Lx
/-- What the reference's Parse gives. -/
def RfPost (NS : List ByteArray) (s : ByteArray) (w : World) (e : Ending) (w' : World) : Prop := ∃ o x, e = .returned (.tuple #[Lx.EvV.val o, .int .i64 x]) ∧ Lx.ParseEv NS s o x ∧ Below w.heap.size w w'
end Go.Proofs.YtmpcekpdnikghaaGreatDoor
namespace Go.Proofs.YtmpcekpdnikghaaGreatDoor
open Go.RowKit

set_option maxRecDepth 100000 in
set_option maxHeartbeats 3200000 in
theorem r36_parse_3 (K : Nat) (s : ByteArray) (ad : Option Addr) (m cap : Nat) (NS : List ByteArray) (w : World) (h : Lx.IsNames w ad m NS) (hz : ∀ x ∈ NS, x.size ≤ maxLen) (hN : Lx.nmErr NS = 0) (hs : s.size ≤ 65536) (h3 : 3 ≤ (Lx.spS s).length) (h6 : (Lx.spS s).length ≤ 6) (hK : Lx.kindOf (Lx.pAt (Lx.bl (Lx.spS s)) 1) = (K : Nat)) (hk3 : K ≤ 3) :
    Calls Tryz.prog 8 #[.string s, .slice ad m cap] w (RfPost NS s w) := by
  obtain ⟨i0, hi, hz0, hz1, hz2⟩ := info_parts infoS
  have hNO := (Lx.nmErr_ok NS).1 hN
  have HL := Lib.hid (fun W (b : Below w.heap.size w W) => r36list_any ad m cap NS W (h.below b) hz)
  rw [hN] at HL
  have HS := Lib.hid (fun W => r36split_any s W hs)
  have hPz : ∀ x ∈ Lx.spS s, x.size ≤ 65536 := fun x hx => Nat.le_trans ((Lx.spS_bd s).1 x hx) hs
  obtain ⟨x0, hx0, e0, z0⟩ := Lx.p_at hPz (i := 0) (by omega)
  obtain ⟨x1, hx1, e1, z1⟩ := Lx.p_at hPz (i := 1) (by omega)
  obtain ⟨x2, hx2, e2, z2⟩ := Lx.p_at hPz (i := 2) (by omega)
  obtain ⟨x3, hx3, e3, z3⟩ := Lx.p6_at h3 hPz (i := 3) (by omega)
  obtain ⟨x4, hx4, e4, z4⟩ := Lx.p6_at h3 hPz (i := 4) (by omega)
  obtain ⟨x5, hx5, e5, z5⟩ := Lx.p6_at h3 hPz (i := 5) (by omega)
  have HG := Lib.hid (show Lx.gE NS (Lx.bl (Lx.spS s)) = ⟨(K : Nat), Lx.rdN x0.data.toList, Lx.ixN NS x2.data.toList, Lx.rdN x3.data.toList, Lx.rdN x4.data.toList, Lx.rdN x5.data.toList, 0, 0⟩ from by
    unfold Lx.gE
    rw [hK, ← e0, ← e2, ← e3, ← e4, ← e5]
    have c6 : ¬ ((K : Int) = 6) := by omega
    have c5 : (K : Int) ≤ 5 := by omega
    have c3 : (K : Int) ≤ 3 := by omega
    have c55 : ¬ ((K : Int) = 5) := by omega
    have c4 : ¬ ((K : Int) = 4) := by omega
    have c7 : ¬ ((K : Int) = 7) := by omega
    simp only [c6, c5, c3, c55, c4, c7, if_true, if_false])
  have HR0 := Lib.hid (fun W => r36read_any x0 W (by omega))
  have HWD := Lib.hid (fun (q : Nat) (hq : q < 9) W => r36word_any q hq W)
  have HWI := Lib.hid (show ∀ q : Nat, 1 ≤ q → q ≤ 8 → (Lx.evWord (q : Nat) = x1.data.toList ↔ (q : Int) = (K : Nat)) from fun q h1 h8 => Lx.word_is (by rw [e1]; exact hK) h1 h8)
  have HIX := Lib.hid (fun W (b : Below w.heap.size w W) => r36index_any ad m cap NS x2 W (h.below b) (by rw [← h.1]; have := hNO.1; omega))
  have HR3 := Lib.hid (fun W => r36read_any x3 W (by omega))
  have HR4 := Lib.hid (fun W => r36read_any x4 W (by omega))
  have HR5 := Lib.hid (fun W => r36read_any x5 W (by omega))
  obtain ⟨T, hT⟩ : ∃ T : Int, Lx.rdN x0.data.toList = T := ⟨_, rfl⟩
  have hiT : Lx.inR T := by rw [← hT]; exact Lx.rdN_in _
  obtain ⟨J, hJ⟩ : ∃ J : Int, Lx.ixN NS x2.data.toList = J := ⟨_, rfl⟩
  have hiJ : Lx.inR J := by rw [← hJ]; exact Lx.ixN_in hNO.1 _
  obtain ⟨D, hD⟩ : ∃ D : Int, Lx.rdN x3.data.toList = D := ⟨_, rfl⟩
  have hiD : Lx.inR D := by rw [← hD]; exact Lx.rdN_in _
  obtain ⟨A, hA⟩ : ∃ A : Int, Lx.rdN x4.data.toList = A := ⟨_, rfl⟩
  have hiA : Lx.inR A := by rw [← hA]; exact Lx.rdN_in _
  obtain ⟨R, hR⟩ : ∃ R : Int, Lx.rdN x5.data.toList = R := ⟨_, rfl⟩
  have hiR : Lx.inR R := by rw [← hR]; exact Lx.rdN_in _
  rw [hT, hJ, hD, hA, hR] at HG
  rw [hT] at HR0
  rw [hJ] at HIX
  rw [hD] at HR3
  rw [hA] at HR4
  rw [hR] at HR5
  have HPR := Lib.hid (fun W (b : Below w.heap.size w W) => r36print_any (⟨(K : Nat), T, J, D, A, R, 0, 0⟩ : Lx.EvV) (by unfold Lx.EvV.In; dsimp only; unfold Lx.inR at *; omega) ad m cap NS W (h.below b) hz)
  have HFR := Lib.hid (Lx.fin_rd hNO (s := s) HG.out)
  have HPE := Lib.hid (fun (o : Lx.EvV) (x : Int) (hr : Lx.ReadsEv NS s.data.toList o x) => (show Lx.ParseEv NS s o x from .inr (.inr ⟨hN, hs, hr⟩)))
  unfold WriteIs at HPR
  obtain ⟨V, hV⟩ : ∃ V : ByteArray, V = ⟨(Lx.prS NS ⟨(K : Nat), T, J, D, A, R, 0, 0⟩).toArray⟩ := ⟨_, rfl⟩
  rw [← hV] at HPR
  have HVE := Lib.hid (show V.data.toList = Lx.prS NS ⟨(K : Nat), T, J, D, A, R, 0, 0⟩ by rw [hV])
  obtain ⟨X, hX⟩ : ∃ X : Int, Lx.prE NS ⟨(K : Nat), T, J, D, A, R, 0, 0⟩ = X := ⟨_, rfl⟩
  rw [hX] at HPR HFR
  unfold Lx.EvV.val at HPR
  dsimp only at HPR
  have HX0 := Lib.hid hx0
  have HX1 := Lib.hid hx1
  have HX2 := Lib.hid hx2
  have HX3 := Lib.hid hx3
  have HX4 := Lib.hid hx4
  have HX5 := Lib.hid hx5
  generalize Lx.spS s = P at *
  obtain ⟨np, hnp⟩ : ∃ np, P.length = np := ⟨_, rfl⟩
  rw [hnp] at h3 h6 HS
  have HNP := Lib.hid hnp
  have n0 : (0 : Int) < (np : Int) := by omega
  have n1 : (1 : Int) < (np : Int) := by omega
  have n2 : (2 : Int) < (np : Int) := by omega
  have n3 : (3 : Int) < (np : Int) + 3 := by omega
  have n4 : (4 : Int) < (np : Int) + 3 := by omega
  have n5 : (5 : Int) < (np : Int) + 3 := by omega
  have b3 : decide ((np : Int) < 3) = false := decide_eq_false (by omega)
  have b6 : decide ((6 : Int) < (np : Int)) = false := decide_eq_false (by omega)
  have bs : decide ((65536 : Int) < (s.size : Int)) = false := decide_eq_false (by omega)
  have t6 : ((K : Int) == 6) = false := by rw [beq_eq_false_iff_ne]; omega
  have t5 : ((K : Int) == 5) = false := by rw [beq_eq_false_iff_ne]; omega
  have t4 : ((K : Int) == 4) = false := by rw [beq_eq_false_iff_ne]; omega
  have t7 : ((K : Int) == 7) = false := by rw [beq_eq_false_iff_ne]; omega
  have t6n : (K == 6) = false := by rw [beq_eq_false_iff_ne]; omega
  have t5n : (K == 5) = false := by rw [beq_eq_false_iff_ne]; omega
  have t4n : (K == 4) = false := by rw [beq_eq_false_iff_ne]; omega
  have t7n : (K == 7) = false := by rw [beq_eq_false_iff_ne]; omega
  have l5 : decide ((K : Int) ≤ 5) = true := decide_eq_true (by omega)
  have l3 : decide ((K : Int) ≤ 3) = true := decide_eq_true (by omega)
  have hK3 : (K : Int) ≤ 3 := by omega
  have hba : Below w.heap.size w (w.alloc (.cells #[.int .i64 0, .int .i64 0, .int .i64 0, .int .i64 0, .int .i64 0, .int .i64 0, .int .i64 0, .int .i64 0] 26)) := (Below.refl _ w).alloc (Nat.le_refl _) _
  have BA := Lib.hid hba
  have ZA := Lib.hid (Lx.EvBox.new w 0 0 0 0 0 0 0 0 26)
  clear h hz hN hNO hPz hK hV hX hnp e0 e1 e2 e3 e4 e5 hx0 hx1 hx2 hx3 hx4 hx5 hs hba HG hT hiT hJ hiJ hD hiD hA hiA hR hiR
  go_enter Tryz.func8, Tryz.ntmps8
  go_wp2_with fail
  refine (HL.out _ BA.out).mono ?_
  rintro e w1 ⟨rfl, c1⟩
  have Z1 := Lib.hid (ZA.out.below c1)
  have B1 := Lib.hid (BA.out.trans (c1.mono BA.out.size))
  have hsz1 := c1.size
  rw [World.size_alloc] at hsz1
  have HSZ := Lib.hid hsz1
  clear c1 ZA BA hsz1
  go_wp2_with fail
  refine (HS.out _).mono ?_
  rintro e w2 ⟨v, rfl, hrow, c2⟩
  obtain ⟨g, c, rfl, hgl, -⟩ := Lx.ownPos hrow (by omega)
  have hrow2 := Lx.ownBaseTo hrow HSZ.out
  have q0 : Lx.PQ w ((w2.alloc (.cells #[.int .i64 0, .int .i64 T, .int .i64 0, .int .i64 0, .int .i64 0, .int .i64 0, .int .i64 0, .int .i64 0] 26))) w2.heap.size g c P ⟨0, T, 0, 0, 0, 0, 0, 0⟩ :=
    ⟨(B1.out.trans (c2.mono B1.out.size)).alloc (B1.out.trans (c2.mono B1.out.size)).size _, (Z1.out.below c2).below ((Below.refl _ _).alloc (Nat.le_refl _) _), Lx.EvBox.new _ _ _ _ _ _ _ _ _ _, (by rw [HNP.out]; exact hrow2.alloc _), Nat.lt_of_lt_of_le (Nat.lt_of_lt_of_le (Nat.lt_succ_self _) HSZ.out) c2.size, Nat.ne_of_lt hgl⟩
  have Q0 := Lib.hid q0
  have p0 : w2.cell? ⟨g, 0, none⟩ = some (.string x0) := by
    obtain ⟨g', c', e', _, hc'⟩ := Lx.ownPos hrow (by omega)
    cases e'
    exact hc' 0 _ (by rw [List.getElem?_map, HX0.out]; rfl)
  clear hrow hrow2 c2 hgl q0 Z1 B1 HSZ HS HL
  go_wp2_with fail
  refine (HR0.out _).mono ?_
  rintro e w3 ⟨rfl, rfl⟩
  clear p0 HR0
  go_wp2_with fail
  generalize hE : w2.heap.size = E at *
  clear hE
  go_loopw [9] (fun i wr => ∃ k : Nat, 1 ≤ k ∧ k ≤ 9 ∧ i = .int .i64 k ∧ Lx.PQ w wr E g c P ⟨Lx.kv (K : Nat) k, T, 0, 0, 0, 0, 0, 0⟩) (fun i _ => 9 - (intOf i).toNat)
  case atStart => exact ⟨1, Nat.le_refl _, by omega, rfl, by rw [Lx.kv_start]; exact Q0.out⟩
  case round =>
    obtain ⟨k, hk1, hk9, rfl, hq⟩ := hrel
    have Q := Lib.hid hq
    clear hq Q0
    by_cases hlt : k ≤ 8
    · have hki : (k : Int) ≤ 8 := by omega
      have HW1 := Lib.hid (HWD.out k (by omega))
      have HI1 := Lib.hid (HWI.out k hk1 hlt)
      have p1 := Q.out.p HX1.out
      have hgl : g < wr.heap.size := World.block_lt_of_cell? wr _ p1
      obtain ⟨W, hW⟩ : ∃ W : ByteArray, W = ⟨(Lx.evWord (k : Nat)).toArray⟩ := ⟨_, rfl⟩
      rw [← hW] at HW1
      have HWE := Lib.hid (show W.data.toList = Lx.evWord (k : Nat) by rw [hW])
      clear hW
      by_cases hkK : (k : Int) = (K : Nat)
      · have he : (W.toList == x1.toList) = true := by rw [beq_iff_eq, Lib.toList_data, Lib.toList_data, HWE.out]; exact HI1.out.2 hkK
        have HKV := Lib.hid (Lx.kv_hit hk1 hkK)
        clear hkK
        go_upto_region 13 with (fail)
        go_cut [50] (fun s50 wx => s50 = .bool true ∧ Below wr.heap.size wr wx)
        case first =>
          have HSS := Lib.hid (show ∀ wx, Below wr.heap.size wr wx → Below wr.heap.size wr wx ∧ wx.cell? ⟨g, 1, none⟩ = some (.string x1) from fun wx b => ⟨b, (b.cell (p := ⟨g, 1, none⟩) hgl).trans p1⟩)
          have hS0 := HSS.out wr.drew ((Below.refl _ _).drew)
          clear p1 hgl
          go_region_held3 (fun wx => Below wr.heap.size wr wx ∧ wx.cell? ⟨g, 1, none⟩ = some (.string x1))
            (first | assumption | (refine HSS.out _ ?_; repeat (first | assumption | exact Below.refl _ _ | apply Lx.bDrew | apply Lx.bAlloc)))
            (first
              | (go_at_call 25; with_reducible refine (HW1.out _).mono ?_; rintro e w5 ⟨rfl, cb⟩; have kb2 := Lx.bCall (P := fun wx => wx.cell? ⟨g, 1, none⟩ = some (.string x1)) (by assumption) cb; have hzz := kb2.size; have kS := HSS.out _ kb2; clear cb))
          all_goals (go_wp2_with fail; go_meet)
          all_goals exact ⟨rfl, And.left (by assumption)⟩
        case rest =>
          obtain ⟨rfl, hb⟩ := hcut
          have Q1 := Lib.hid (Q.out.below hb)
          clear hb Q p1 hgl
          have s0 := (Q1.out.e.2 0 _ rfl).1
          have f0 := (Q1.out.e.2 0 _ rfl).2
          go_wp2_with fail
          go_roundw
          case rel => exact ⟨k + 1, by omega, by omega, by go_num, by rw [HKV.out]; exact Q1.out.set (j := 0) (by omega) rfl⟩
          case measure => simp [intOf]; omega
      · have he : (W.toList == x1.toList) = false := by rw [beq_eq_false_iff_ne, Lib.toList_data, Lib.toList_data, HWE.out]; exact fun e => hkK (HI1.out.1 e)
        have HKV := Lib.hid (Lx.kv_miss hkK)
        clear hkK
        go_upto_region 13 with (fail)
        go_cut [50] (fun s50 wx => s50 = .bool false ∧ Below wr.heap.size wr wx)
        case first =>
          have HSS := Lib.hid (show ∀ wx, Below wr.heap.size wr wx → Below wr.heap.size wr wx ∧ wx.cell? ⟨g, 1, none⟩ = some (.string x1) from fun wx b => ⟨b, (b.cell (p := ⟨g, 1, none⟩) hgl).trans p1⟩)
          have hS0 := HSS.out wr.drew ((Below.refl _ _).drew)
          clear p1 hgl
          go_region_held3 (fun wx => Below wr.heap.size wr wx ∧ wx.cell? ⟨g, 1, none⟩ = some (.string x1))
            (first | assumption | (refine HSS.out _ ?_; repeat (first | assumption | exact Below.refl _ _ | apply Lx.bDrew | apply Lx.bAlloc)))
            (first
              | (go_at_call 25; with_reducible refine (HW1.out _).mono ?_; rintro e w5 ⟨rfl, cb⟩; have kb2 := Lx.bCall (P := fun wx => wx.cell? ⟨g, 1, none⟩ = some (.string x1)) (by assumption) cb; have hzz := kb2.size; have kS := HSS.out _ kb2; clear cb))
          all_goals (go_wp2_with fail; go_meet)
          all_goals exact ⟨rfl, And.left (by assumption)⟩
        case rest =>
          obtain ⟨rfl, hb⟩ := hcut
          have Q1 := Lib.hid (Q.out.below hb)
          clear hb Q p1 hgl
          go_wp2_with fail
          go_roundw
          case rel => exact ⟨k + 1, by omega, by omega, by go_num, by rw [HKV.out]; exact Q1.out⟩
          case measure => simp [intOf]; omega
    · obtain rfl : k = 9 := by omega
      rw [show ((9 : Nat) : Int) = 9 from rfl]
      have Q9 := Lib.hid (show Lx.PQ w wr E g c P ⟨(K : Nat), T, 0, 0, 0, 0, 0, 0⟩ from by have := Q.out; rw [Lx.kv_end (by omega) (by omega)] at this; exact this)
      clear Q HWD HWI hlt hk1 hk9
      obtain ⟨q0, q1, q2, q3, q4, q5, q6, q7⟩ := Q9.out.e.eight
      have p2 := Q9.out.p HX2.out
      go_wp2_with fail
      refine (HIX.out _ Q9.out.bel).mono ?_
      rintro e w4 ⟨rfl, c4⟩
      have Q10 := Lib.hid (Q9.out.below c4)
      clear c4 Q9 HIX p2 q0 q1 q2 q3 q4 q5 q6 q7
      have s0 := (Q10.out.e.2 2 _ rfl).1
      have f0 := (Q10.out.e.2 2 _ rfl).2
      have Q11 := Lib.hid (show Lx.PQ w (w4.setCell ⟨E, 2, none⟩ (.int .i64 J)) E g c P ⟨(K : Nat), T, J, 0, 0, 0, 0, 0⟩ from Q10.out.set (j := 2) (by omega) rfl)
      have R11 := Lib.hid (show (w4.setCell ⟨E, 2, none⟩ (.int .i64 J)).ownsRow (w.heap.size + 1) 9 1 (.slice (some ⟨g, 0, none⟩) np c) np (P.map Value.string) from by have := Q11.out.row; rw [HNP.out] at this; exact this)
      have hzs : (w4.setCell ⟨E, 2, none⟩ (.int .i64 J)).heap.size = w4.heap.size := Lx.size_set _ _ _
      have hzb : w.heap.size + 1 ≤ w4.heap.size := by have h1 := Q11.out.hE; have h2 := Q10.out.e.1; omega
      have HNW := Lib.hid (show ∀ j u, [Value.string ⟨#[]⟩, Value.string ⟨#[]⟩, Value.string ⟨#[]⟩][j]? = some u → ((w4.setCell ⟨E, 2, none⟩ (.int .i64 J)).alloc (.cells #[.string ⟨#[]⟩, .string ⟨#[]⟩, .string ⟨#[]⟩] 9)).cell? ((⟨w4.heap.size, 0, none⟩ : Addr).add j) = some u from by rw [← hzs]; exact Lx.cellNew3 _ _ _ _ _)
      have hZB := Lib.hid (show w.heap.size + 1 ≤ ((w4.setCell ⟨E, 2, none⟩ (.int .i64 J)).alloc (.cells #[.string ⟨#[]⟩, .string ⟨#[]⟩, .string ⟨#[]⟩] 9)).heap.size from by rw [World.size_alloc, hzs]; omega)
      have HH := Lib.hid (show ((w4.setCell ⟨E, 2, none⟩ (.int .i64 J)).alloc (.cells #[.string ⟨#[]⟩, .string ⟨#[]⟩, .string ⟨#[]⟩] 9)).heap.size = w4.heap.size + 1 from by rw [World.size_alloc, hzs])
      clear Q10 hzs hzb
      go_wp2_with (at_builtin; refine wpList_append_lies _ rfl _ _ 22 rfl (w.heap.size + 1) 9 i0 _ 1 16 Tryz.underlying22 hi hz0 hz1 hz2 rfl (by decide) _ _ _ rfl (R11.out.alloc _) ⟨w4.heap.size, 0, none⟩ 3 3 [.string ⟨#[]⟩, .string ⟨#[]⟩, .string ⟨#[]⟩] rfl rfl HNW.out (by simp [Value.oneCell']) (by omega) (by unfold maxLen; omega) (by omega) hZB.out _ rfl ?_)
      intro g6 c6 w6 hown6 hgrow hat hlt6
      have Q12 := Lib.hid (show Lx.PQ w w6 E g6 c6 (P ++ [⟨#[]⟩, ⟨#[]⟩, ⟨#[]⟩]) ⟨(K : Nat), T, J, 0, 0, 0, 0, 0⟩ from Q11.out.grow (.cells #[.string ⟨#[]⟩, .string ⟨#[]⟩, .string ⟨#[]⟩] 9) (T := [⟨#[]⟩, ⟨#[]⟩, ⟨#[]⟩]) (n := np + 3) (by rw [List.length_append, HNP.out]; rfl) hgrow hown6 (by rw [HH.out]; exact hat))
      clear hown6 hgrow hat hlt6 Q11 R11 HNW hZB HH s0 f0
      generalize P ++ [⟨#[]⟩, ⟨#[]⟩, ⟨#[]⟩] = P6 at *
      obtain ⟨q0, q1, q2, q3, q4, q5, q6, q7⟩ := Q12.out.e.eight
      have p9 := Q12.out.p HX3.out
      go_wp2_with fail
      refine (HR3.out _).mono ?_
      rintro e w42 ⟨rfl, rfl⟩
      have fz12 := (Q12.out.e.2 3 _ rfl).2
      have sj12 := (Q12.out.e.2 3 _ rfl).1
      have Q13 := Lib.hid (show Lx.PQ w (w6.setCell ⟨E, 3, none⟩ (.int .i64 D)) E g6 c6 P6 ⟨(K : Nat), T, J, D, 0, 0, 0, 0⟩ from Q12.out.set (j := 3) (by omega) rfl)
      clear p9 Q12 q0 q1 q2 q3 q4 q5 q6 q7
      obtain ⟨q0, q1, q2, q3, q4, q5, q6, q7⟩ := Q13.out.e.eight
      have p9 := Q13.out.p HX4.out
      go_wp2_with fail
      refine (HR4.out _).mono ?_
      rintro e w43 ⟨rfl, rfl⟩
      clear fz12 sj12
      have fz13 := (Q13.out.e.2 4 _ rfl).2
      have sj13 := (Q13.out.e.2 4 _ rfl).1
      have Q14 := Lib.hid (show Lx.PQ w ((w6.setCell ⟨E, 3, none⟩ (.int .i64 D)).setCell ⟨E, 4, none⟩ (.int .i64 A)) E g6 c6 P6 ⟨(K : Nat), T, J, D, A, 0, 0, 0⟩ from Q13.out.set (j := 4) (by omega) rfl)
      clear p9 Q13 q0 q1 q2 q3 q4 q5 q6 q7
      obtain ⟨q0, q1, q2, q3, q4, q5, q6, q7⟩ := Q14.out.e.eight
      have p9 := Q14.out.p HX5.out
      go_wp2_with fail
      refine (HR5.out _).mono ?_
      rintro e w44 ⟨rfl, rfl⟩
      clear fz13 sj13
      have fz14 := (Q14.out.e.2 5 _ rfl).2
      have sj14 := (Q14.out.e.2 5 _ rfl).1
      have Q15 := Lib.hid (show Lx.PQ w (((w6.setCell ⟨E, 3, none⟩ (.int .i64 D)).setCell ⟨E, 4, none⟩ (.int .i64 A)).setCell ⟨E, 5, none⟩ (.int .i64 R)) E g6 c6 P6 ⟨(K : Nat), T, J, D, A, R, 0, 0⟩ from Q14.out.set (j := 5) (by omega) rfl)
      clear p9 Q14 q0 q1 q2 q3 q4 q5 q6 q7
      obtain ⟨q0, q1, q2, q3, q4, q5, q6, q7⟩ := Q15.out.e.eight
      go_wp2_with fail
      clear fz14 sj14
      clear q0 q1 q2 q3 q4 q5 q6 q7
      go_loopw [10] (fun i wr2 => i = .int .i64 1 ∧ Lx.PQ w wr2 E g6 c6 P6 ⟨(K : Nat), T, J, D, A, R, 0, 0⟩) (fun _ _ => 0)
      case atStart => exact ⟨rfl, Q15.out⟩
      case round =>
        obtain ⟨rfl, hq⟩ := hrel
        obtain ⟨wr2, hwr2⟩ : ∃ W, W = wr := ⟨_, rfl⟩
        rw [← hwr2] at hq
        rw [← hwr2]
        have Q30 := Lib.hid hq
        clear hq hwr2 Q15
        obtain ⟨q0, q1, q2, q3, q4, q5, q6, q7⟩ := Q30.out.e.eight
        go_wp2_with fail
        refine (HPR.out _ Q30.out.bel).mono ?_
        rintro e w9 ⟨rfl, c9⟩
        have Q40 := Lib.hid (Q30.out.below c9)
        clear c9 Q30  q0 q1 q2 q3 q4 q5 q6 q7
        obtain ⟨q0, q1, q2, q3, q4, q5, q6, q7⟩ := Q40.out.e.eight
        have z0 := (Q40.out.z.2 0 _ rfl).1
        have y0 := (Q40.out.z.2 0 _ rfl).2
        have z1 := (Q40.out.z.2 1 _ rfl).1
        have y1 := (Q40.out.z.2 1 _ rfl).2
        have z2 := (Q40.out.z.2 2 _ rfl).1
        have y2 := (Q40.out.z.2 2 _ rfl).2
        have z3 := (Q40.out.z.2 3 _ rfl).1
        have y3 := (Q40.out.z.2 3 _ rfl).2
        have z4 := (Q40.out.z.2 4 _ rfl).1
        have y4 := (Q40.out.z.2 4 _ rfl).2
        have z5 := (Q40.out.z.2 5 _ rfl).1
        have y5 := (Q40.out.z.2 5 _ rfl).2
        have z6 := (Q40.out.z.2 6 _ rfl).1
        have y6 := (Q40.out.z.2 6 _ rfl).2
        have z7 := (Q40.out.z.2 7 _ rfl).1
        have y7 := (Q40.out.z.2 7 _ rfl).2
        by_cases hx : X = 0
        · have hxb : (X != 0) = false := by rw [bne_eq_false_iff_eq]; exact hx
          by_cases hv : V = s
          · have HRD := Lib.hid (HFR.out.1 hx (by rw [← HVE.out, hv]))
            subst hv
            clear hx
            go_wp2_with fail
            refine bodyPost_ret (v := .tuple #[.agg #[.int .i64 (K : Nat), .int .i64 T, .int .i64 J, .int .i64 D, .int .i64 A, .int .i64 R, .int .i64 0, .int .i64 0], .int .i64 0]) (by simp [results, Tryz.results8, go_sem, z0, z1, z2, z3, z4, z5, z6, z7]) rfl ?_
            exact ⟨⟨(K : Nat), T, J, D, A, R, 0, 0⟩, 0, rfl, HPE.out _ _ (HRD.out), ((((((((Q40.out.bel.setCell (p := ⟨w.heap.size, 0, none⟩) (Nat.le_refl _) _).setCell (p := ⟨w.heap.size, 1, none⟩) (Nat.le_refl _) _).setCell (p := ⟨w.heap.size, 2, none⟩) (Nat.le_refl _) _).setCell (p := ⟨w.heap.size, 3, none⟩) (Nat.le_refl _) _).setCell (p := ⟨w.heap.size, 4, none⟩) (Nat.le_refl _) _).setCell (p := ⟨w.heap.size, 5, none⟩) (Nat.le_refl _) _).setCell (p := ⟨w.heap.size, 6, none⟩) (Nat.le_refl _) _).setCell (p := ⟨w.heap.size, 7, none⟩) (Nat.le_refl _) _)⟩
          · have hvb : (V.toList == s.toList) = false := by rw [beq_eq_false_iff_ne, ne_eq, Lib.toList_data, Lib.toList_data]; exact fun e => hv (ByteArray.ext (Array.toList_inj.1 e))
            have HRD := Lib.hid (HFR.out.2.2 (by rw [← HVE.out]; exact fun e => hv (ByteArray.ext (Array.toList_inj.1 e))))
            clear hx hv
            go_wp2_with fail
            refine bodyPost_ret (v := .tuple #[.agg #[.int .i64 0, .int .i64 0, .int .i64 0, .int .i64 0, .int .i64 0, .int .i64 0, .int .i64 0, .int .i64 0], .int .i64 10]) (by simp [results, Tryz.results8, go_sem, z0, z1, z2, z3, z4, z5, z6, z7]) rfl ?_
            exact ⟨Lx.evZ, 10, rfl, HPE.out _ _ (HRD.out), ((((((((Q40.out.bel.setCell (p := ⟨w.heap.size, 0, none⟩) (Nat.le_refl _) _).setCell (p := ⟨w.heap.size, 1, none⟩) (Nat.le_refl _) _).setCell (p := ⟨w.heap.size, 2, none⟩) (Nat.le_refl _) _).setCell (p := ⟨w.heap.size, 3, none⟩) (Nat.le_refl _) _).setCell (p := ⟨w.heap.size, 4, none⟩) (Nat.le_refl _) _).setCell (p := ⟨w.heap.size, 5, none⟩) (Nat.le_refl _) _).setCell (p := ⟨w.heap.size, 6, none⟩) (Nat.le_refl _) _).setCell (p := ⟨w.heap.size, 7, none⟩) (Nat.le_refl _) _)⟩
        · have hxb : (X != 0) = true := by rw [bne_iff_ne]; exact hx
          have HRD := Lib.hid (HFR.out.2.1 hx)
          clear hx
          go_wp2_with fail
          refine bodyPost_ret (v := .tuple #[.agg #[.int .i64 0, .int .i64 0, .int .i64 0, .int .i64 0, .int .i64 0, .int .i64 0, .int .i64 0, .int .i64 0], .int .i64 10]) (by simp [results, Tryz.results8, go_sem, z0, z1, z2, z3, z4, z5, z6, z7]) rfl ?_
          exact ⟨Lx.evZ, 10, rfl, HPE.out _ _ (HRD.out), ((((((((Q40.out.bel.setCell (p := ⟨w.heap.size, 0, none⟩) (Nat.le_refl _) _).setCell (p := ⟨w.heap.size, 1, none⟩) (Nat.le_refl _) _).setCell (p := ⟨w.heap.size, 2, none⟩) (Nat.le_refl _) _).setCell (p := ⟨w.heap.size, 3, none⟩) (Nat.le_refl _) _).setCell (p := ⟨w.heap.size, 4, none⟩) (Nat.le_refl _) _).setCell (p := ⟨w.heap.size, 5, none⟩) (Nat.le_refl _) _).setCell (p := ⟨w.heap.size, 6, none⟩) (Nat.le_refl _) _).setCell (p := ⟨w.heap.size, 7, none⟩) (Nat.le_refl _) _)⟩
set_option maxRecDepth 100000 in
set_option maxHeartbeats 3200000 in
theorem r36_parse_8 (s : ByteArray) (ad : Option Addr) (m cap : Nat) (NS : List ByteArray) (w : World) (h : Lx.IsNames w ad m NS) (hz : ∀ x ∈ NS, x.size ≤ maxLen) (hN : Lx.nmErr NS = 0) (hs : s.size ≤ 65536) (h3 : 3 ≤ (Lx.spS s).length) (h6 : (Lx.spS s).length ≤ 6) (hK : Lx.kindOf (Lx.pAt (Lx.bl (Lx.spS s)) 1) = 8) :
    Calls Tryz.prog 8 #[.string s, .slice ad m cap] w (RfPost NS s w) := by
  obtain ⟨i0, hi, hz0, hz1, hz2⟩ := info_parts infoS
  have hNO := (Lx.nmErr_ok NS).1 hN
  have HL := Lib.hid (fun W (b : Below w.heap.size w W) => r36list_any ad m cap NS W (h.below b) hz)
  rw [hN] at HL
  have HS := Lib.hid (fun W => r36split_any s W hs)
  have hPz : ∀ x ∈ Lx.spS s, x.size ≤ 65536 := fun x hx => Nat.le_trans ((Lx.spS_bd s).1 x hx) hs
  obtain ⟨x0, hx0, e0, z0⟩ := Lx.p_at hPz (i := 0) (by omega)
  obtain ⟨x1, hx1, e1, z1⟩ := Lx.p_at hPz (i := 1) (by omega)
  obtain ⟨x2, hx2, e2, z2⟩ := Lx.p_at hPz (i := 2) (by omega)
  obtain ⟨x3, hx3, e3, z3⟩ := Lx.p6_at h3 hPz (i := 3) (by omega)
  obtain ⟨x4, hx4, e4, z4⟩ := Lx.p6_at h3 hPz (i := 4) (by omega)
  obtain ⟨x5, hx5, e5, z5⟩ := Lx.p6_at h3 hPz (i := 5) (by omega)
  have HG := Lib.hid (show Lx.gE NS (Lx.bl (Lx.spS s)) = ⟨8, Lx.rdN x0.data.toList, Lx.ixN NS x2.data.toList, 0, 0, 0, 0, 0⟩ from by
    unfold Lx.gE
    rw [hK, ← e0, ← e2, ← e3, ← e4, ← e5]
    try rfl)
  have HR0 := Lib.hid (fun W => r36read_any x0 W (by omega))
  have HWD := Lib.hid (fun (q : Nat) (hq : q < 9) W => r36word_any q hq W)
  have HWI := Lib.hid (show ∀ q : Nat, 1 ≤ q → q ≤ 8 → (Lx.evWord (q : Nat) = x1.data.toList ↔ (q : Int) = 8) from fun q h1 h8 => Lx.word_is (by rw [e1]; exact hK) h1 h8)
  have HIX := Lib.hid (fun W (b : Below w.heap.size w W) => r36index_any ad m cap NS x2 W (h.below b) (by rw [← h.1]; have := hNO.1; omega))
  obtain ⟨T, hT⟩ : ∃ T : Int, Lx.rdN x0.data.toList = T := ⟨_, rfl⟩
  have hiT : Lx.inR T := by rw [← hT]; exact Lx.rdN_in _
  obtain ⟨J, hJ⟩ : ∃ J : Int, Lx.ixN NS x2.data.toList = J := ⟨_, rfl⟩
  have hiJ : Lx.inR J := by rw [← hJ]; exact Lx.ixN_in hNO.1 _
  rw [hT, hJ] at HG
  rw [hT] at HR0
  rw [hJ] at HIX
  have HPR := Lib.hid (fun W (b : Below w.heap.size w W) => r36print_any (⟨8, T, J, 0, 0, 0, 0, 0⟩ : Lx.EvV) (by unfold Lx.EvV.In; dsimp only; unfold Lx.inR at *; omega) ad m cap NS W (h.below b) hz)
  have HFR := Lib.hid (Lx.fin_rd hNO (s := s) HG.out)
  have HPE := Lib.hid (fun (o : Lx.EvV) (x : Int) (hr : Lx.ReadsEv NS s.data.toList o x) => (show Lx.ParseEv NS s o x from .inr (.inr ⟨hN, hs, hr⟩)))
  unfold WriteIs at HPR
  obtain ⟨V, hV⟩ : ∃ V : ByteArray, V = ⟨(Lx.prS NS ⟨8, T, J, 0, 0, 0, 0, 0⟩).toArray⟩ := ⟨_, rfl⟩
  rw [← hV] at HPR
  have HVE := Lib.hid (show V.data.toList = Lx.prS NS ⟨8, T, J, 0, 0, 0, 0, 0⟩ by rw [hV])
  obtain ⟨X, hX⟩ : ∃ X : Int, Lx.prE NS ⟨8, T, J, 0, 0, 0, 0, 0⟩ = X := ⟨_, rfl⟩
  rw [hX] at HPR HFR
  unfold Lx.EvV.val at HPR
  dsimp only at HPR
  have HX0 := Lib.hid hx0
  have HX1 := Lib.hid hx1
  have HX2 := Lib.hid hx2
  have HX3 := Lib.hid hx3
  have HX4 := Lib.hid hx4
  have HX5 := Lib.hid hx5
  generalize Lx.spS s = P at *
  obtain ⟨np, hnp⟩ : ∃ np, P.length = np := ⟨_, rfl⟩
  rw [hnp] at h3 h6 HS
  have HNP := Lib.hid hnp
  have n0 : (0 : Int) < (np : Int) := by omega
  have n1 : (1 : Int) < (np : Int) := by omega
  have n2 : (2 : Int) < (np : Int) := by omega
  have n3 : (3 : Int) < (np : Int) + 3 := by omega
  have n4 : (4 : Int) < (np : Int) + 3 := by omega
  have n5 : (5 : Int) < (np : Int) + 3 := by omega
  have b3 : decide ((np : Int) < 3) = false := decide_eq_false (by omega)
  have b6 : decide ((6 : Int) < (np : Int)) = false := decide_eq_false (by omega)
  have bs : decide ((65536 : Int) < (s.size : Int)) = false := decide_eq_false (by omega)
  have hba : Below w.heap.size w (w.alloc (.cells #[.int .i64 0, .int .i64 0, .int .i64 0, .int .i64 0, .int .i64 0, .int .i64 0, .int .i64 0, .int .i64 0] 26)) := (Below.refl _ w).alloc (Nat.le_refl _) _
  have BA := Lib.hid hba
  have ZA := Lib.hid (Lx.EvBox.new w 0 0 0 0 0 0 0 0 26)
  clear h hz hN hNO hPz hK hV hX hnp e0 e1 e2 e3 e4 e5 hx0 hx1 hx2 hx3 hx4 hx5 hs hba HG hT hiT hJ hiJ
  go_enter Tryz.func8, Tryz.ntmps8
  go_wp2_with fail
  refine (HL.out _ BA.out).mono ?_
  rintro e w1 ⟨rfl, c1⟩
  have Z1 := Lib.hid (ZA.out.below c1)
  have B1 := Lib.hid (BA.out.trans (c1.mono BA.out.size))
  have hsz1 := c1.size
  rw [World.size_alloc] at hsz1
  have HSZ := Lib.hid hsz1
  clear c1 ZA BA hsz1
  go_wp2_with fail
  refine (HS.out _).mono ?_
  rintro e w2 ⟨v, rfl, hrow, c2⟩
  obtain ⟨g, c, rfl, hgl, -⟩ := Lx.ownPos hrow (by omega)
  have hrow2 := Lx.ownBaseTo hrow HSZ.out
  have q0 : Lx.PQ w ((w2.alloc (.cells #[.int .i64 0, .int .i64 T, .int .i64 0, .int .i64 0, .int .i64 0, .int .i64 0, .int .i64 0, .int .i64 0] 26))) w2.heap.size g c P ⟨0, T, 0, 0, 0, 0, 0, 0⟩ :=
    ⟨(B1.out.trans (c2.mono B1.out.size)).alloc (B1.out.trans (c2.mono B1.out.size)).size _, (Z1.out.below c2).below ((Below.refl _ _).alloc (Nat.le_refl _) _), Lx.EvBox.new _ _ _ _ _ _ _ _ _ _, (by rw [HNP.out]; exact hrow2.alloc _), Nat.lt_of_lt_of_le (Nat.lt_of_lt_of_le (Nat.lt_succ_self _) HSZ.out) c2.size, Nat.ne_of_lt hgl⟩
  have Q0 := Lib.hid q0
  have p0 : w2.cell? ⟨g, 0, none⟩ = some (.string x0) := by
    obtain ⟨g', c', e', _, hc'⟩ := Lx.ownPos hrow (by omega)
    cases e'
    exact hc' 0 _ (by rw [List.getElem?_map, HX0.out]; rfl)
  clear hrow hrow2 c2 hgl q0 Z1 B1 HSZ HS HL
  go_wp2_with fail
  refine (HR0.out _).mono ?_
  rintro e w3 ⟨rfl, rfl⟩
  clear p0 HR0
  go_wp2_with fail
  generalize hE : w2.heap.size = E at *
  clear hE
  go_loopw [9] (fun i wr => ∃ k : Nat, 1 ≤ k ∧ k ≤ 9 ∧ i = .int .i64 k ∧ Lx.PQ w wr E g c P ⟨Lx.kv 8 k, T, 0, 0, 0, 0, 0, 0⟩) (fun i _ => 9 - (intOf i).toNat)
  case atStart => exact ⟨1, Nat.le_refl _, by omega, rfl, by rw [Lx.kv_start]; exact Q0.out⟩
  case round =>
    obtain ⟨k, hk1, hk9, rfl, hq⟩ := hrel
    have Q := Lib.hid hq
    clear hq Q0
    by_cases hlt : k ≤ 8
    · have hki : (k : Int) ≤ 8 := by omega
      have HW1 := Lib.hid (HWD.out k (by omega))
      have HI1 := Lib.hid (HWI.out k hk1 hlt)
      have p1 := Q.out.p HX1.out
      have hgl : g < wr.heap.size := World.block_lt_of_cell? wr _ p1
      obtain ⟨W, hW⟩ : ∃ W : ByteArray, W = ⟨(Lx.evWord (k : Nat)).toArray⟩ := ⟨_, rfl⟩
      rw [← hW] at HW1
      have HWE := Lib.hid (show W.data.toList = Lx.evWord (k : Nat) by rw [hW])
      clear hW
      by_cases hkK : (k : Int) = 8
      · have he : (W.toList == x1.toList) = true := by rw [beq_iff_eq, Lib.toList_data, Lib.toList_data, HWE.out]; exact HI1.out.2 hkK
        have HKV := Lib.hid (Lx.kv_hit hk1 hkK)
        clear hkK
        go_upto_region 13 with (fail)
        go_cut [50] (fun s50 wx => s50 = .bool true ∧ Below wr.heap.size wr wx)
        case first =>
          have HSS := Lib.hid (show ∀ wx, Below wr.heap.size wr wx → Below wr.heap.size wr wx ∧ wx.cell? ⟨g, 1, none⟩ = some (.string x1) from fun wx b => ⟨b, (b.cell (p := ⟨g, 1, none⟩) hgl).trans p1⟩)
          have hS0 := HSS.out wr.drew ((Below.refl _ _).drew)
          clear p1 hgl
          go_region_held3 (fun wx => Below wr.heap.size wr wx ∧ wx.cell? ⟨g, 1, none⟩ = some (.string x1))
            (first | assumption | (refine HSS.out _ ?_; repeat (first | assumption | exact Below.refl _ _ | apply Lx.bDrew | apply Lx.bAlloc)))
            (first
              | (go_at_call 25; with_reducible refine (HW1.out _).mono ?_; rintro e w5 ⟨rfl, cb⟩; have kb2 := Lx.bCall (P := fun wx => wx.cell? ⟨g, 1, none⟩ = some (.string x1)) (by assumption) cb; have hzz := kb2.size; have kS := HSS.out _ kb2; clear cb))
          all_goals (go_wp2_with fail; go_meet)
          all_goals exact ⟨rfl, And.left (by assumption)⟩
        case rest =>
          obtain ⟨rfl, hb⟩ := hcut
          have Q1 := Lib.hid (Q.out.below hb)
          clear hb Q p1 hgl
          have s0 := (Q1.out.e.2 0 _ rfl).1
          have f0 := (Q1.out.e.2 0 _ rfl).2
          go_wp2_with fail
          go_roundw
          case rel => exact ⟨k + 1, by omega, by omega, by go_num, by rw [HKV.out]; exact Q1.out.set (j := 0) (by omega) rfl⟩
          case measure => simp [intOf]; omega
      · have he : (W.toList == x1.toList) = false := by rw [beq_eq_false_iff_ne, Lib.toList_data, Lib.toList_data, HWE.out]; exact fun e => hkK (HI1.out.1 e)
        have HKV := Lib.hid (Lx.kv_miss hkK)
        clear hkK
        go_upto_region 13 with (fail)
        go_cut [50] (fun s50 wx => s50 = .bool false ∧ Below wr.heap.size wr wx)
        case first =>
          have HSS := Lib.hid (show ∀ wx, Below wr.heap.size wr wx → Below wr.heap.size wr wx ∧ wx.cell? ⟨g, 1, none⟩ = some (.string x1) from fun wx b => ⟨b, (b.cell (p := ⟨g, 1, none⟩) hgl).trans p1⟩)
          have hS0 := HSS.out wr.drew ((Below.refl _ _).drew)
          clear p1 hgl
          go_region_held3 (fun wx => Below wr.heap.size wr wx ∧ wx.cell? ⟨g, 1, none⟩ = some (.string x1))
            (first | assumption | (refine HSS.out _ ?_; repeat (first | assumption | exact Below.refl _ _ | apply Lx.bDrew | apply Lx.bAlloc)))
            (first
              | (go_at_call 25; with_reducible refine (HW1.out _).mono ?_; rintro e w5 ⟨rfl, cb⟩; have kb2 := Lx.bCall (P := fun wx => wx.cell? ⟨g, 1, none⟩ = some (.string x1)) (by assumption) cb; have hzz := kb2.size; have kS := HSS.out _ kb2; clear cb))
          all_goals (go_wp2_with fail; go_meet)
          all_goals exact ⟨rfl, And.left (by assumption)⟩
        case rest =>
          obtain ⟨rfl, hb⟩ := hcut
          have Q1 := Lib.hid (Q.out.below hb)
          clear hb Q p1 hgl
          go_wp2_with fail
          go_roundw
          case rel => exact ⟨k + 1, by omega, by omega, by go_num, by rw [HKV.out]; exact Q1.out⟩
          case measure => simp [intOf]; omega
    · obtain rfl : k = 9 := by omega
      rw [show ((9 : Nat) : Int) = 9 from rfl]
      have Q9 := Lib.hid (show Lx.PQ w wr E g c P ⟨8, T, 0, 0, 0, 0, 0, 0⟩ from by have := Q.out; rw [Lx.kv_end (by omega) (by omega)] at this; exact this)
      clear Q HWD HWI hlt hk1 hk9
      obtain ⟨q0, q1, q2, q3, q4, q5, q6, q7⟩ := Q9.out.e.eight
      have p2 := Q9.out.p HX2.out
      go_wp2_with fail
      refine (HIX.out _ Q9.out.bel).mono ?_
      rintro e w4 ⟨rfl, c4⟩
      have Q10 := Lib.hid (Q9.out.below c4)
      clear c4 Q9 HIX p2 q0 q1 q2 q3 q4 q5 q6 q7
      have s0 := (Q10.out.e.2 2 _ rfl).1
      have f0 := (Q10.out.e.2 2 _ rfl).2
      have Q11 := Lib.hid (show Lx.PQ w (w4.setCell ⟨E, 2, none⟩ (.int .i64 J)) E g c P ⟨8, T, J, 0, 0, 0, 0, 0⟩ from Q10.out.set (j := 2) (by omega) rfl)
      have R11 := Lib.hid (show (w4.setCell ⟨E, 2, none⟩ (.int .i64 J)).ownsRow (w.heap.size + 1) 9 1 (.slice (some ⟨g, 0, none⟩) np c) np (P.map Value.string) from by have := Q11.out.row; rw [HNP.out] at this; exact this)
      have hzs : (w4.setCell ⟨E, 2, none⟩ (.int .i64 J)).heap.size = w4.heap.size := Lx.size_set _ _ _
      have hzb : w.heap.size + 1 ≤ w4.heap.size := by have h1 := Q11.out.hE; have h2 := Q10.out.e.1; omega
      have HNW := Lib.hid (show ∀ j u, [Value.string ⟨#[]⟩, Value.string ⟨#[]⟩, Value.string ⟨#[]⟩][j]? = some u → ((w4.setCell ⟨E, 2, none⟩ (.int .i64 J)).alloc (.cells #[.string ⟨#[]⟩, .string ⟨#[]⟩, .string ⟨#[]⟩] 9)).cell? ((⟨w4.heap.size, 0, none⟩ : Addr).add j) = some u from by rw [← hzs]; exact Lx.cellNew3 _ _ _ _ _)
      have hZB := Lib.hid (show w.heap.size + 1 ≤ ((w4.setCell ⟨E, 2, none⟩ (.int .i64 J)).alloc (.cells #[.string ⟨#[]⟩, .string ⟨#[]⟩, .string ⟨#[]⟩] 9)).heap.size from by rw [World.size_alloc, hzs]; omega)
      have HH := Lib.hid (show ((w4.setCell ⟨E, 2, none⟩ (.int .i64 J)).alloc (.cells #[.string ⟨#[]⟩, .string ⟨#[]⟩, .string ⟨#[]⟩] 9)).heap.size = w4.heap.size + 1 from by rw [World.size_alloc, hzs])
      clear Q10 hzs hzb
      go_wp2_with (at_builtin; refine wpList_append_lies _ rfl _ _ 22 rfl (w.heap.size + 1) 9 i0 _ 1 16 Tryz.underlying22 hi hz0 hz1 hz2 rfl (by decide) _ _ _ rfl (R11.out.alloc _) ⟨w4.heap.size, 0, none⟩ 3 3 [.string ⟨#[]⟩, .string ⟨#[]⟩, .string ⟨#[]⟩] rfl rfl HNW.out (by simp [Value.oneCell']) (by omega) (by unfold maxLen; omega) (by omega) hZB.out _ rfl ?_)
      intro g6 c6 w6 hown6 hgrow hat hlt6
      have Q12 := Lib.hid (show Lx.PQ w w6 E g6 c6 (P ++ [⟨#[]⟩, ⟨#[]⟩, ⟨#[]⟩]) ⟨8, T, J, 0, 0, 0, 0, 0⟩ from Q11.out.grow (.cells #[.string ⟨#[]⟩, .string ⟨#[]⟩, .string ⟨#[]⟩] 9) (T := [⟨#[]⟩, ⟨#[]⟩, ⟨#[]⟩]) (n := np + 3) (by rw [List.length_append, HNP.out]; rfl) hgrow hown6 (by rw [HH.out]; exact hat))
      clear hown6 hgrow hat hlt6 Q11 R11 HNW hZB HH s0 f0
      generalize P ++ [⟨#[]⟩, ⟨#[]⟩, ⟨#[]⟩] = P6 at *
      obtain ⟨q0, q1, q2, q3, q4, q5, q6, q7⟩ := Q12.out.e.eight
      go_wp2_with fail
      clear q0 q1 q2 q3 q4 q5 q6 q7
      go_loopw [10] (fun i wr2 => i = .int .i64 1 ∧ Lx.PQ w wr2 E g6 c6 P6 ⟨8, T, J, 0, 0, 0, 0, 0⟩) (fun _ _ => 0)
      case atStart => exact ⟨rfl, Q12.out⟩
      case round =>
        obtain ⟨rfl, hq⟩ := hrel
        obtain ⟨wr2, hwr2⟩ : ∃ W, W = wr := ⟨_, rfl⟩
        rw [← hwr2] at hq
        rw [← hwr2]
        have Q30 := Lib.hid hq
        clear hq hwr2 Q12
        obtain ⟨q0, q1, q2, q3, q4, q5, q6, q7⟩ := Q30.out.e.eight
        go_wp2_with fail
        refine (HPR.out _ Q30.out.bel).mono ?_
        rintro e w9 ⟨rfl, c9⟩
        have Q40 := Lib.hid (Q30.out.below c9)
        clear c9 Q30  q0 q1 q2 q3 q4 q5 q6 q7
        obtain ⟨q0, q1, q2, q3, q4, q5, q6, q7⟩ := Q40.out.e.eight
        have z0 := (Q40.out.z.2 0 _ rfl).1
        have y0 := (Q40.out.z.2 0 _ rfl).2
        have z1 := (Q40.out.z.2 1 _ rfl).1
        have y1 := (Q40.out.z.2 1 _ rfl).2
        have z2 := (Q40.out.z.2 2 _ rfl).1
        have y2 := (Q40.out.z.2 2 _ rfl).2
        have z3 := (Q40.out.z.2 3 _ rfl).1
        have y3 := (Q40.out.z.2 3 _ rfl).2
        have z4 := (Q40.out.z.2 4 _ rfl).1
        have y4 := (Q40.out.z.2 4 _ rfl).2
        have z5 := (Q40.out.z.2 5 _ rfl).1
        have y5 := (Q40.out.z.2 5 _ rfl).2
        have z6 := (Q40.out.z.2 6 _ rfl).1
        have y6 := (Q40.out.z.2 6 _ rfl).2
        have z7 := (Q40.out.z.2 7 _ rfl).1
        have y7 := (Q40.out.z.2 7 _ rfl).2
        by_cases hx : X = 0
        · have hxb : (X != 0) = false := by rw [bne_eq_false_iff_eq]; exact hx
          by_cases hv : V = s
          · have HRD := Lib.hid (HFR.out.1 hx (by rw [← HVE.out, hv]))
            subst hv
            clear hx
            go_wp2_with fail
            refine bodyPost_ret (v := .tuple #[.agg #[.int .i64 8, .int .i64 T, .int .i64 J, .int .i64 0, .int .i64 0, .int .i64 0, .int .i64 0, .int .i64 0], .int .i64 0]) (by simp [results, Tryz.results8, go_sem, z0, z1, z2, z3, z4, z5, z6, z7]) rfl ?_
            exact ⟨⟨8, T, J, 0, 0, 0, 0, 0⟩, 0, rfl, HPE.out _ _ (HRD.out), ((((((((Q40.out.bel.setCell (p := ⟨w.heap.size, 0, none⟩) (Nat.le_refl _) _).setCell (p := ⟨w.heap.size, 1, none⟩) (Nat.le_refl _) _).setCell (p := ⟨w.heap.size, 2, none⟩) (Nat.le_refl _) _).setCell (p := ⟨w.heap.size, 3, none⟩) (Nat.le_refl _) _).setCell (p := ⟨w.heap.size, 4, none⟩) (Nat.le_refl _) _).setCell (p := ⟨w.heap.size, 5, none⟩) (Nat.le_refl _) _).setCell (p := ⟨w.heap.size, 6, none⟩) (Nat.le_refl _) _).setCell (p := ⟨w.heap.size, 7, none⟩) (Nat.le_refl _) _)⟩
          · have hvb : (V.toList == s.toList) = false := by rw [beq_eq_false_iff_ne, ne_eq, Lib.toList_data, Lib.toList_data]; exact fun e => hv (ByteArray.ext (Array.toList_inj.1 e))
            have HRD := Lib.hid (HFR.out.2.2 (by rw [← HVE.out]; exact fun e => hv (ByteArray.ext (Array.toList_inj.1 e))))
            clear hx hv
            go_wp2_with fail
            refine bodyPost_ret (v := .tuple #[.agg #[.int .i64 0, .int .i64 0, .int .i64 0, .int .i64 0, .int .i64 0, .int .i64 0, .int .i64 0, .int .i64 0], .int .i64 10]) (by simp [results, Tryz.results8, go_sem, z0, z1, z2, z3, z4, z5, z6, z7]) rfl ?_
            exact ⟨Lx.evZ, 10, rfl, HPE.out _ _ (HRD.out), ((((((((Q40.out.bel.setCell (p := ⟨w.heap.size, 0, none⟩) (Nat.le_refl _) _).setCell (p := ⟨w.heap.size, 1, none⟩) (Nat.le_refl _) _).setCell (p := ⟨w.heap.size, 2, none⟩) (Nat.le_refl _) _).setCell (p := ⟨w.heap.size, 3, none⟩) (Nat.le_refl _) _).setCell (p := ⟨w.heap.size, 4, none⟩) (Nat.le_refl _) _).setCell (p := ⟨w.heap.size, 5, none⟩) (Nat.le_refl _) _).setCell (p := ⟨w.heap.size, 6, none⟩) (Nat.le_refl _) _).setCell (p := ⟨w.heap.size, 7, none⟩) (Nat.le_refl _) _)⟩
        · have hxb : (X != 0) = true := by rw [bne_iff_ne]; exact hx
          have HRD := Lib.hid (HFR.out.2.1 hx)
          clear hx
          go_wp2_with fail
          refine bodyPost_ret (v := .tuple #[.agg #[.int .i64 0, .int .i64 0, .int .i64 0, .int .i64 0, .int .i64 0, .int .i64 0, .int .i64 0, .int .i64 0], .int .i64 10]) (by simp [results, Tryz.results8, go_sem, z0, z1, z2, z3, z4, z5, z6, z7]) rfl ?_
          exact ⟨Lx.evZ, 10, rfl, HPE.out _ _ (HRD.out), ((((((((Q40.out.bel.setCell (p := ⟨w.heap.size, 0, none⟩) (Nat.le_refl _) _).setCell (p := ⟨w.heap.size, 1, none⟩) (Nat.le_refl _) _).setCell (p := ⟨w.heap.size, 2, none⟩) (Nat.le_refl _) _).setCell (p := ⟨w.heap.size, 3, none⟩) (Nat.le_refl _) _).setCell (p := ⟨w.heap.size, 4, none⟩) (Nat.le_refl _) _).setCell (p := ⟨w.heap.size, 5, none⟩) (Nat.le_refl _) _).setCell (p := ⟨w.heap.size, 6, none⟩) (Nat.le_refl _) _).setCell (p := ⟨w.heap.size, 7, none⟩) (Nat.le_refl _) _)⟩
end Go.Proofs.YtmpcekpdnikghaaGreatDoor
namespace Go.Proofs.YtmpcekpdnikghaaGreatDoor
open Go.RowKit

set_option maxRecDepth 100000 in
set_option maxHeartbeats 3200000 in
theorem r36_parse_4 (s : ByteArray) (ad : Option Addr) (m cap : Nat) (NS : List ByteArray) (w : World) (h : Lx.IsNames w ad m NS) (hz : ∀ x ∈ NS, x.size ≤ maxLen) (hN : Lx.nmErr NS = 0) (hs : s.size ≤ 65536) (h3 : 3 ≤ (Lx.spS s).length) (h6 : (Lx.spS s).length ≤ 6) (hK : Lx.kindOf (Lx.pAt (Lx.bl (Lx.spS s)) 1) = 4) :
    Calls Tryz.prog 8 #[.string s, .slice ad m cap] w (RfPost NS s w) := by
  obtain ⟨i0, hi, hz0, hz1, hz2⟩ := info_parts infoS
  have hNO := (Lx.nmErr_ok NS).1 hN
  have HL := Lib.hid (fun W (b : Below w.heap.size w W) => r36list_any ad m cap NS W (h.below b) hz)
  rw [hN] at HL
  have HS := Lib.hid (fun W => r36split_any s W hs)
  have hPz : ∀ x ∈ Lx.spS s, x.size ≤ 65536 := fun x hx => Nat.le_trans ((Lx.spS_bd s).1 x hx) hs
  obtain ⟨x0, hx0, e0, z0⟩ := Lx.p_at hPz (i := 0) (by omega)
  obtain ⟨x1, hx1, e1, z1⟩ := Lx.p_at hPz (i := 1) (by omega)
  obtain ⟨x2, hx2, e2, z2⟩ := Lx.p_at hPz (i := 2) (by omega)
  obtain ⟨x3, hx3, e3, z3⟩ := Lx.p6_at h3 hPz (i := 3) (by omega)
  obtain ⟨x4, hx4, e4, z4⟩ := Lx.p6_at h3 hPz (i := 4) (by omega)
  obtain ⟨x5, hx5, e5, z5⟩ := Lx.p6_at h3 hPz (i := 5) (by omega)
  have HG := Lib.hid (show Lx.gE NS (Lx.bl (Lx.spS s)) = ⟨4, Lx.rdN x0.data.toList, Lx.ixN NS x2.data.toList, Lx.rdN x3.data.toList, Lx.rdN x4.data.toList, 0, 0, Lx.rdN x5.data.toList⟩ from by
    unfold Lx.gE
    rw [hK, ← e0, ← e2, ← e3, ← e4, ← e5]
    try rfl)
  have HR0 := Lib.hid (fun W => r36read_any x0 W (by omega))
  have HWD := Lib.hid (fun (q : Nat) (hq : q < 9) W => r36word_any q hq W)
  have HWI := Lib.hid (show ∀ q : Nat, 1 ≤ q → q ≤ 8 → (Lx.evWord (q : Nat) = x1.data.toList ↔ (q : Int) = 4) from fun q h1 h8 => Lx.word_is (by rw [e1]; exact hK) h1 h8)
  have HIX := Lib.hid (fun W (b : Below w.heap.size w W) => r36index_any ad m cap NS x2 W (h.below b) (by rw [← h.1]; have := hNO.1; omega))
  have HR3 := Lib.hid (fun W => r36read_any x3 W (by omega))
  have HR4 := Lib.hid (fun W => r36read_any x4 W (by omega))
  have HR5 := Lib.hid (fun W => r36read_any x5 W (by omega))
  obtain ⟨T, hT⟩ : ∃ T : Int, Lx.rdN x0.data.toList = T := ⟨_, rfl⟩
  have hiT : Lx.inR T := by rw [← hT]; exact Lx.rdN_in _
  obtain ⟨J, hJ⟩ : ∃ J : Int, Lx.ixN NS x2.data.toList = J := ⟨_, rfl⟩
  have hiJ : Lx.inR J := by rw [← hJ]; exact Lx.ixN_in hNO.1 _
  obtain ⟨D, hD⟩ : ∃ D : Int, Lx.rdN x3.data.toList = D := ⟨_, rfl⟩
  have hiD : Lx.inR D := by rw [← hD]; exact Lx.rdN_in _
  obtain ⟨A, hA⟩ : ∃ A : Int, Lx.rdN x4.data.toList = A := ⟨_, rfl⟩
  have hiA : Lx.inR A := by rw [← hA]; exact Lx.rdN_in _
  obtain ⟨R, hR⟩ : ∃ R : Int, Lx.rdN x5.data.toList = R := ⟨_, rfl⟩
  have hiR : Lx.inR R := by rw [← hR]; exact Lx.rdN_in _
  rw [hT, hJ, hD, hA, hR] at HG
  rw [hT] at HR0
  rw [hJ] at HIX
  rw [hD] at HR3
  rw [hA] at HR4
  rw [hR] at HR5
  have HPR := Lib.hid (fun W (b : Below w.heap.size w W) => r36print_any (⟨4, T, J, D, A, 0, 0, R⟩ : Lx.EvV) (by unfold Lx.EvV.In; dsimp only; unfold Lx.inR at *; omega) ad m cap NS W (h.below b) hz)
  have HFR := Lib.hid (Lx.fin_rd hNO (s := s) HG.out)
  have HPE := Lib.hid (fun (o : Lx.EvV) (x : Int) (hr : Lx.ReadsEv NS s.data.toList o x) => (show Lx.ParseEv NS s o x from .inr (.inr ⟨hN, hs, hr⟩)))
  unfold WriteIs at HPR
  obtain ⟨V, hV⟩ : ∃ V : ByteArray, V = ⟨(Lx.prS NS ⟨4, T, J, D, A, 0, 0, R⟩).toArray⟩ := ⟨_, rfl⟩
  rw [← hV] at HPR
  have HVE := Lib.hid (show V.data.toList = Lx.prS NS ⟨4, T, J, D, A, 0, 0, R⟩ by rw [hV])
  obtain ⟨X, hX⟩ : ∃ X : Int, Lx.prE NS ⟨4, T, J, D, A, 0, 0, R⟩ = X := ⟨_, rfl⟩
  rw [hX] at HPR HFR
  unfold Lx.EvV.val at HPR
  dsimp only at HPR
  have HX0 := Lib.hid hx0
  have HX1 := Lib.hid hx1
  have HX2 := Lib.hid hx2
  have HX3 := Lib.hid hx3
  have HX4 := Lib.hid hx4
  have HX5 := Lib.hid hx5
  generalize Lx.spS s = P at *
  obtain ⟨np, hnp⟩ : ∃ np, P.length = np := ⟨_, rfl⟩
  rw [hnp] at h3 h6 HS
  have HNP := Lib.hid hnp
  have n0 : (0 : Int) < (np : Int) := by omega
  have n1 : (1 : Int) < (np : Int) := by omega
  have n2 : (2 : Int) < (np : Int) := by omega
  have n3 : (3 : Int) < (np : Int) + 3 := by omega
  have n4 : (4 : Int) < (np : Int) + 3 := by omega
  have n5 : (5 : Int) < (np : Int) + 3 := by omega
  have b3 : decide ((np : Int) < 3) = false := decide_eq_false (by omega)
  have b6 : decide ((6 : Int) < (np : Int)) = false := decide_eq_false (by omega)
  have bs : decide ((65536 : Int) < (s.size : Int)) = false := decide_eq_false (by omega)
  have hba : Below w.heap.size w (w.alloc (.cells #[.int .i64 0, .int .i64 0, .int .i64 0, .int .i64 0, .int .i64 0, .int .i64 0, .int .i64 0, .int .i64 0] 26)) := (Below.refl _ w).alloc (Nat.le_refl _) _
  have BA := Lib.hid hba
  have ZA := Lib.hid (Lx.EvBox.new w 0 0 0 0 0 0 0 0 26)
  clear h hz hN hNO hPz hK hV hX hnp e0 e1 e2 e3 e4 e5 hx0 hx1 hx2 hx3 hx4 hx5 hs hba HG hT hiT hJ hiJ hD hiD hA hiA hR hiR
  go_enter Tryz.func8, Tryz.ntmps8
  go_wp2_with fail
  refine (HL.out _ BA.out).mono ?_
  rintro e w1 ⟨rfl, c1⟩
  have Z1 := Lib.hid (ZA.out.below c1)
  have B1 := Lib.hid (BA.out.trans (c1.mono BA.out.size))
  have hsz1 := c1.size
  rw [World.size_alloc] at hsz1
  have HSZ := Lib.hid hsz1
  clear c1 ZA BA hsz1
  go_wp2_with fail
  refine (HS.out _).mono ?_
  rintro e w2 ⟨v, rfl, hrow, c2⟩
  obtain ⟨g, c, rfl, hgl, -⟩ := Lx.ownPos hrow (by omega)
  have hrow2 := Lx.ownBaseTo hrow HSZ.out
  have q0 : Lx.PQ w ((w2.alloc (.cells #[.int .i64 0, .int .i64 T, .int .i64 0, .int .i64 0, .int .i64 0, .int .i64 0, .int .i64 0, .int .i64 0] 26))) w2.heap.size g c P ⟨0, T, 0, 0, 0, 0, 0, 0⟩ :=
    ⟨(B1.out.trans (c2.mono B1.out.size)).alloc (B1.out.trans (c2.mono B1.out.size)).size _, (Z1.out.below c2).below ((Below.refl _ _).alloc (Nat.le_refl _) _), Lx.EvBox.new _ _ _ _ _ _ _ _ _ _, (by rw [HNP.out]; exact hrow2.alloc _), Nat.lt_of_lt_of_le (Nat.lt_of_lt_of_le (Nat.lt_succ_self _) HSZ.out) c2.size, Nat.ne_of_lt hgl⟩
  have Q0 := Lib.hid q0
  have p0 : w2.cell? ⟨g, 0, none⟩ = some (.string x0) := by
    obtain ⟨g', c', e', _, hc'⟩ := Lx.ownPos hrow (by omega)
    cases e'
    exact hc' 0 _ (by rw [List.getElem?_map, HX0.out]; rfl)
  clear hrow hrow2 c2 hgl q0 Z1 B1 HSZ HS HL
  go_wp2_with fail
  refine (HR0.out _).mono ?_
  rintro e w3 ⟨rfl, rfl⟩
  clear p0 HR0
  go_wp2_with fail
  generalize hE : w2.heap.size = E at *
  clear hE
  go_loopw [9] (fun i wr => ∃ k : Nat, 1 ≤ k ∧ k ≤ 9 ∧ i = .int .i64 k ∧ Lx.PQ w wr E g c P ⟨Lx.kv 4 k, T, 0, 0, 0, 0, 0, 0⟩) (fun i _ => 9 - (intOf i).toNat)
  case atStart => exact ⟨1, Nat.le_refl _, by omega, rfl, by rw [Lx.kv_start]; exact Q0.out⟩
  case round =>
    obtain ⟨k, hk1, hk9, rfl, hq⟩ := hrel
    have Q := Lib.hid hq
    clear hq Q0
    by_cases hlt : k ≤ 8
    · have hki : (k : Int) ≤ 8 := by omega
      have HW1 := Lib.hid (HWD.out k (by omega))
      have HI1 := Lib.hid (HWI.out k hk1 hlt)
      have p1 := Q.out.p HX1.out
      have hgl : g < wr.heap.size := World.block_lt_of_cell? wr _ p1
      obtain ⟨W, hW⟩ : ∃ W : ByteArray, W = ⟨(Lx.evWord (k : Nat)).toArray⟩ := ⟨_, rfl⟩
      rw [← hW] at HW1
      have HWE := Lib.hid (show W.data.toList = Lx.evWord (k : Nat) by rw [hW])
      clear hW
      by_cases hkK : (k : Int) = 4
      · have he : (W.toList == x1.toList) = true := by rw [beq_iff_eq, Lib.toList_data, Lib.toList_data, HWE.out]; exact HI1.out.2 hkK
        have HKV := Lib.hid (Lx.kv_hit hk1 hkK)
        clear hkK
        go_upto_region 13 with (fail)
        go_cut [50] (fun s50 wx => s50 = .bool true ∧ Below wr.heap.size wr wx)
        case first =>
          have HSS := Lib.hid (show ∀ wx, Below wr.heap.size wr wx → Below wr.heap.size wr wx ∧ wx.cell? ⟨g, 1, none⟩ = some (.string x1) from fun wx b => ⟨b, (b.cell (p := ⟨g, 1, none⟩) hgl).trans p1⟩)
          have hS0 := HSS.out wr.drew ((Below.refl _ _).drew)
          clear p1 hgl
          go_region_held3 (fun wx => Below wr.heap.size wr wx ∧ wx.cell? ⟨g, 1, none⟩ = some (.string x1))
            (first | assumption | (refine HSS.out _ ?_; repeat (first | assumption | exact Below.refl _ _ | apply Lx.bDrew | apply Lx.bAlloc)))
            (first
              | (go_at_call 25; with_reducible refine (HW1.out _).mono ?_; rintro e w5 ⟨rfl, cb⟩; have kb2 := Lx.bCall (P := fun wx => wx.cell? ⟨g, 1, none⟩ = some (.string x1)) (by assumption) cb; have hzz := kb2.size; have kS := HSS.out _ kb2; clear cb))
          all_goals (go_wp2_with fail; go_meet)
          all_goals exact ⟨rfl, And.left (by assumption)⟩
        case rest =>
          obtain ⟨rfl, hb⟩ := hcut
          have Q1 := Lib.hid (Q.out.below hb)
          clear hb Q p1 hgl
          have s0 := (Q1.out.e.2 0 _ rfl).1
          have f0 := (Q1.out.e.2 0 _ rfl).2
          go_wp2_with fail
          go_roundw
          case rel => exact ⟨k + 1, by omega, by omega, by go_num, by rw [HKV.out]; exact Q1.out.set (j := 0) (by omega) rfl⟩
          case measure => simp [intOf]; omega
      · have he : (W.toList == x1.toList) = false := by rw [beq_eq_false_iff_ne, Lib.toList_data, Lib.toList_data, HWE.out]; exact fun e => hkK (HI1.out.1 e)
        have HKV := Lib.hid (Lx.kv_miss hkK)
        clear hkK
        go_upto_region 13 with (fail)
        go_cut [50] (fun s50 wx => s50 = .bool false ∧ Below wr.heap.size wr wx)
        case first =>
          have HSS := Lib.hid (show ∀ wx, Below wr.heap.size wr wx → Below wr.heap.size wr wx ∧ wx.cell? ⟨g, 1, none⟩ = some (.string x1) from fun wx b => ⟨b, (b.cell (p := ⟨g, 1, none⟩) hgl).trans p1⟩)
          have hS0 := HSS.out wr.drew ((Below.refl _ _).drew)
          clear p1 hgl
          go_region_held3 (fun wx => Below wr.heap.size wr wx ∧ wx.cell? ⟨g, 1, none⟩ = some (.string x1))
            (first | assumption | (refine HSS.out _ ?_; repeat (first | assumption | exact Below.refl _ _ | apply Lx.bDrew | apply Lx.bAlloc)))
            (first
              | (go_at_call 25; with_reducible refine (HW1.out _).mono ?_; rintro e w5 ⟨rfl, cb⟩; have kb2 := Lx.bCall (P := fun wx => wx.cell? ⟨g, 1, none⟩ = some (.string x1)) (by assumption) cb; have hzz := kb2.size; have kS := HSS.out _ kb2; clear cb))
          all_goals (go_wp2_with fail; go_meet)
          all_goals exact ⟨rfl, And.left (by assumption)⟩
        case rest =>
          obtain ⟨rfl, hb⟩ := hcut
          have Q1 := Lib.hid (Q.out.below hb)
          clear hb Q p1 hgl
          go_wp2_with fail
          go_roundw
          case rel => exact ⟨k + 1, by omega, by omega, by go_num, by rw [HKV.out]; exact Q1.out⟩
          case measure => simp [intOf]; omega
    · obtain rfl : k = 9 := by omega
      rw [show ((9 : Nat) : Int) = 9 from rfl]
      have Q9 := Lib.hid (show Lx.PQ w wr E g c P ⟨4, T, 0, 0, 0, 0, 0, 0⟩ from by have := Q.out; rw [Lx.kv_end (by omega) (by omega)] at this; exact this)
      clear Q HWD HWI hlt hk1 hk9
      obtain ⟨q0, q1, q2, q3, q4, q5, q6, q7⟩ := Q9.out.e.eight
      have p2 := Q9.out.p HX2.out
      go_wp2_with fail
      refine (HIX.out _ Q9.out.bel).mono ?_
      rintro e w4 ⟨rfl, c4⟩
      have Q10 := Lib.hid (Q9.out.below c4)
      clear c4 Q9 HIX p2 q0 q1 q2 q3 q4 q5 q6 q7
      have s0 := (Q10.out.e.2 2 _ rfl).1
      have f0 := (Q10.out.e.2 2 _ rfl).2
      have Q11 := Lib.hid (show Lx.PQ w (w4.setCell ⟨E, 2, none⟩ (.int .i64 J)) E g c P ⟨4, T, J, 0, 0, 0, 0, 0⟩ from Q10.out.set (j := 2) (by omega) rfl)
      have R11 := Lib.hid (show (w4.setCell ⟨E, 2, none⟩ (.int .i64 J)).ownsRow (w.heap.size + 1) 9 1 (.slice (some ⟨g, 0, none⟩) np c) np (P.map Value.string) from by have := Q11.out.row; rw [HNP.out] at this; exact this)
      have hzs : (w4.setCell ⟨E, 2, none⟩ (.int .i64 J)).heap.size = w4.heap.size := Lx.size_set _ _ _
      have hzb : w.heap.size + 1 ≤ w4.heap.size := by have h1 := Q11.out.hE; have h2 := Q10.out.e.1; omega
      have HNW := Lib.hid (show ∀ j u, [Value.string ⟨#[]⟩, Value.string ⟨#[]⟩, Value.string ⟨#[]⟩][j]? = some u → ((w4.setCell ⟨E, 2, none⟩ (.int .i64 J)).alloc (.cells #[.string ⟨#[]⟩, .string ⟨#[]⟩, .string ⟨#[]⟩] 9)).cell? ((⟨w4.heap.size, 0, none⟩ : Addr).add j) = some u from by rw [← hzs]; exact Lx.cellNew3 _ _ _ _ _)
      have hZB := Lib.hid (show w.heap.size + 1 ≤ ((w4.setCell ⟨E, 2, none⟩ (.int .i64 J)).alloc (.cells #[.string ⟨#[]⟩, .string ⟨#[]⟩, .string ⟨#[]⟩] 9)).heap.size from by rw [World.size_alloc, hzs]; omega)
      have HH := Lib.hid (show ((w4.setCell ⟨E, 2, none⟩ (.int .i64 J)).alloc (.cells #[.string ⟨#[]⟩, .string ⟨#[]⟩, .string ⟨#[]⟩] 9)).heap.size = w4.heap.size + 1 from by rw [World.size_alloc, hzs])
      clear Q10 hzs hzb
      go_wp2_with (at_builtin; refine wpList_append_lies _ rfl _ _ 22 rfl (w.heap.size + 1) 9 i0 _ 1 16 Tryz.underlying22 hi hz0 hz1 hz2 rfl (by decide) _ _ _ rfl (R11.out.alloc _) ⟨w4.heap.size, 0, none⟩ 3 3 [.string ⟨#[]⟩, .string ⟨#[]⟩, .string ⟨#[]⟩] rfl rfl HNW.out (by simp [Value.oneCell']) (by omega) (by unfold maxLen; omega) (by omega) hZB.out _ rfl ?_)
      intro g6 c6 w6 hown6 hgrow hat hlt6
      have Q12 := Lib.hid (show Lx.PQ w w6 E g6 c6 (P ++ [⟨#[]⟩, ⟨#[]⟩, ⟨#[]⟩]) ⟨4, T, J, 0, 0, 0, 0, 0⟩ from Q11.out.grow (.cells #[.string ⟨#[]⟩, .string ⟨#[]⟩, .string ⟨#[]⟩] 9) (T := [⟨#[]⟩, ⟨#[]⟩, ⟨#[]⟩]) (n := np + 3) (by rw [List.length_append, HNP.out]; rfl) hgrow hown6 (by rw [HH.out]; exact hat))
      clear hown6 hgrow hat hlt6 Q11 R11 HNW hZB HH s0 f0
      generalize P ++ [⟨#[]⟩, ⟨#[]⟩, ⟨#[]⟩] = P6 at *
      obtain ⟨q0, q1, q2, q3, q4, q5, q6, q7⟩ := Q12.out.e.eight
      have p9 := Q12.out.p HX3.out
      go_wp2_with fail
      refine (HR3.out _).mono ?_
      rintro e w42 ⟨rfl, rfl⟩
      have fz12 := (Q12.out.e.2 3 _ rfl).2
      have sj12 := (Q12.out.e.2 3 _ rfl).1
      have Q13 := Lib.hid (show Lx.PQ w (w6.setCell ⟨E, 3, none⟩ (.int .i64 D)) E g6 c6 P6 ⟨4, T, J, D, 0, 0, 0, 0⟩ from Q12.out.set (j := 3) (by omega) rfl)
      clear p9 Q12 q0 q1 q2 q3 q4 q5 q6 q7
      obtain ⟨q0, q1, q2, q3, q4, q5, q6, q7⟩ := Q13.out.e.eight
      have p9 := Q13.out.p HX4.out
      go_wp2_with fail
      refine (HR4.out _).mono ?_
      rintro e w43 ⟨rfl, rfl⟩
      clear fz12 sj12
      have fz13 := (Q13.out.e.2 4 _ rfl).2
      have sj13 := (Q13.out.e.2 4 _ rfl).1
      have Q14 := Lib.hid (show Lx.PQ w ((w6.setCell ⟨E, 3, none⟩ (.int .i64 D)).setCell ⟨E, 4, none⟩ (.int .i64 A)) E g6 c6 P6 ⟨4, T, J, D, A, 0, 0, 0⟩ from Q13.out.set (j := 4) (by omega) rfl)
      clear p9 Q13 q0 q1 q2 q3 q4 q5 q6 q7
      obtain ⟨q0, q1, q2, q3, q4, q5, q6, q7⟩ := Q14.out.e.eight
      go_wp2_with fail
      clear fz13 sj13
      clear q0 q1 q2 q3 q4 q5 q6 q7
      go_loopw [10] (fun i wr2 => i = .int .i64 1 ∧ Lx.PQ w wr2 E g6 c6 P6 ⟨4, T, J, D, A, 0, 0, 0⟩) (fun _ _ => 0)
      case atStart => exact ⟨rfl, Q14.out⟩
      case round =>
        obtain ⟨rfl, hq⟩ := hrel
        obtain ⟨wr2, hwr2⟩ : ∃ W, W = wr := ⟨_, rfl⟩
        rw [← hwr2] at hq
        rw [← hwr2]
        have Q30 := Lib.hid hq
        clear hq hwr2 Q14
        obtain ⟨q0, q1, q2, q3, q4, q5, q6, q7⟩ := Q30.out.e.eight
        have p9 := Q30.out.p HX5.out
        go_wp2_with fail
        refine (HR5.out _).mono ?_
        rintro e w60 ⟨rfl, rfl⟩
        have fz30 := (Q30.out.e.2 7 _ rfl).2
        have sj30 := (Q30.out.e.2 7 _ rfl).1
        have Q31 := Lib.hid (show Lx.PQ w (wr2.setCell ⟨E, 7, none⟩ (.int .i64 R)) E g6 c6 P6 ⟨4, T, J, D, A, 0, 0, R⟩ from Q30.out.set (j := 7) (by omega) rfl)
        clear p9 Q30 q0 q1 q2 q3 q4 q5 q6 q7
        obtain ⟨q0, q1, q2, q3, q4, q5, q6, q7⟩ := Q31.out.e.eight
        go_wp2_with fail
        refine (HPR.out _ Q31.out.bel).mono ?_
        rintro e w9 ⟨rfl, c9⟩
        have Q40 := Lib.hid (Q31.out.below c9)
        clear c9 Q31 fz30 sj30 q0 q1 q2 q3 q4 q5 q6 q7
        obtain ⟨q0, q1, q2, q3, q4, q5, q6, q7⟩ := Q40.out.e.eight
        have z0 := (Q40.out.z.2 0 _ rfl).1
        have y0 := (Q40.out.z.2 0 _ rfl).2
        have z1 := (Q40.out.z.2 1 _ rfl).1
        have y1 := (Q40.out.z.2 1 _ rfl).2
        have z2 := (Q40.out.z.2 2 _ rfl).1
        have y2 := (Q40.out.z.2 2 _ rfl).2
        have z3 := (Q40.out.z.2 3 _ rfl).1
        have y3 := (Q40.out.z.2 3 _ rfl).2
        have z4 := (Q40.out.z.2 4 _ rfl).1
        have y4 := (Q40.out.z.2 4 _ rfl).2
        have z5 := (Q40.out.z.2 5 _ rfl).1
        have y5 := (Q40.out.z.2 5 _ rfl).2
        have z6 := (Q40.out.z.2 6 _ rfl).1
        have y6 := (Q40.out.z.2 6 _ rfl).2
        have z7 := (Q40.out.z.2 7 _ rfl).1
        have y7 := (Q40.out.z.2 7 _ rfl).2
        by_cases hx : X = 0
        · have hxb : (X != 0) = false := by rw [bne_eq_false_iff_eq]; exact hx
          by_cases hv : V = s
          · have HRD := Lib.hid (HFR.out.1 hx (by rw [← HVE.out, hv]))
            subst hv
            clear hx
            go_wp2_with fail
            refine bodyPost_ret (v := .tuple #[.agg #[.int .i64 4, .int .i64 T, .int .i64 J, .int .i64 D, .int .i64 A, .int .i64 0, .int .i64 0, .int .i64 R], .int .i64 0]) (by simp [results, Tryz.results8, go_sem, z0, z1, z2, z3, z4, z5, z6, z7]) rfl ?_
            exact ⟨⟨4, T, J, D, A, 0, 0, R⟩, 0, rfl, HPE.out _ _ (HRD.out), ((((((((Q40.out.bel.setCell (p := ⟨w.heap.size, 0, none⟩) (Nat.le_refl _) _).setCell (p := ⟨w.heap.size, 1, none⟩) (Nat.le_refl _) _).setCell (p := ⟨w.heap.size, 2, none⟩) (Nat.le_refl _) _).setCell (p := ⟨w.heap.size, 3, none⟩) (Nat.le_refl _) _).setCell (p := ⟨w.heap.size, 4, none⟩) (Nat.le_refl _) _).setCell (p := ⟨w.heap.size, 5, none⟩) (Nat.le_refl _) _).setCell (p := ⟨w.heap.size, 6, none⟩) (Nat.le_refl _) _).setCell (p := ⟨w.heap.size, 7, none⟩) (Nat.le_refl _) _)⟩
          · have hvb : (V.toList == s.toList) = false := by rw [beq_eq_false_iff_ne, ne_eq, Lib.toList_data, Lib.toList_data]; exact fun e => hv (ByteArray.ext (Array.toList_inj.1 e))
            have HRD := Lib.hid (HFR.out.2.2 (by rw [← HVE.out]; exact fun e => hv (ByteArray.ext (Array.toList_inj.1 e))))
            clear hx hv
            go_wp2_with fail
            refine bodyPost_ret (v := .tuple #[.agg #[.int .i64 0, .int .i64 0, .int .i64 0, .int .i64 0, .int .i64 0, .int .i64 0, .int .i64 0, .int .i64 0], .int .i64 10]) (by simp [results, Tryz.results8, go_sem, z0, z1, z2, z3, z4, z5, z6, z7]) rfl ?_
            exact ⟨Lx.evZ, 10, rfl, HPE.out _ _ (HRD.out), ((((((((Q40.out.bel.setCell (p := ⟨w.heap.size, 0, none⟩) (Nat.le_refl _) _).setCell (p := ⟨w.heap.size, 1, none⟩) (Nat.le_refl _) _).setCell (p := ⟨w.heap.size, 2, none⟩) (Nat.le_refl _) _).setCell (p := ⟨w.heap.size, 3, none⟩) (Nat.le_refl _) _).setCell (p := ⟨w.heap.size, 4, none⟩) (Nat.le_refl _) _).setCell (p := ⟨w.heap.size, 5, none⟩) (Nat.le_refl _) _).setCell (p := ⟨w.heap.size, 6, none⟩) (Nat.le_refl _) _).setCell (p := ⟨w.heap.size, 7, none⟩) (Nat.le_refl _) _)⟩
        · have hxb : (X != 0) = true := by rw [bne_iff_ne]; exact hx
          have HRD := Lib.hid (HFR.out.2.1 hx)
          clear hx
          go_wp2_with fail
          refine bodyPost_ret (v := .tuple #[.agg #[.int .i64 0, .int .i64 0, .int .i64 0, .int .i64 0, .int .i64 0, .int .i64 0, .int .i64 0, .int .i64 0], .int .i64 10]) (by simp [results, Tryz.results8, go_sem, z0, z1, z2, z3, z4, z5, z6, z7]) rfl ?_
          exact ⟨Lx.evZ, 10, rfl, HPE.out _ _ (HRD.out), ((((((((Q40.out.bel.setCell (p := ⟨w.heap.size, 0, none⟩) (Nat.le_refl _) _).setCell (p := ⟨w.heap.size, 1, none⟩) (Nat.le_refl _) _).setCell (p := ⟨w.heap.size, 2, none⟩) (Nat.le_refl _) _).setCell (p := ⟨w.heap.size, 3, none⟩) (Nat.le_refl _) _).setCell (p := ⟨w.heap.size, 4, none⟩) (Nat.le_refl _) _).setCell (p := ⟨w.heap.size, 5, none⟩) (Nat.le_refl _) _).setCell (p := ⟨w.heap.size, 6, none⟩) (Nat.le_refl _) _).setCell (p := ⟨w.heap.size, 7, none⟩) (Nat.le_refl _) _)⟩
set_option maxRecDepth 100000 in
set_option maxHeartbeats 3200000 in
theorem r36_parse_6 (s : ByteArray) (ad : Option Addr) (m cap : Nat) (NS : List ByteArray) (w : World) (h : Lx.IsNames w ad m NS) (hz : ∀ x ∈ NS, x.size ≤ maxLen) (hN : Lx.nmErr NS = 0) (hs : s.size ≤ 65536) (h3 : 3 ≤ (Lx.spS s).length) (h6 : (Lx.spS s).length ≤ 6) (hK : Lx.kindOf (Lx.pAt (Lx.bl (Lx.spS s)) 1) = 6) :
    Calls Tryz.prog 8 #[.string s, .slice ad m cap] w (RfPost NS s w) := by
  obtain ⟨i0, hi, hz0, hz1, hz2⟩ := info_parts infoS
  have hNO := (Lx.nmErr_ok NS).1 hN
  have HL := Lib.hid (fun W (b : Below w.heap.size w W) => r36list_any ad m cap NS W (h.below b) hz)
  rw [hN] at HL
  have HS := Lib.hid (fun W => r36split_any s W hs)
  have hPz : ∀ x ∈ Lx.spS s, x.size ≤ 65536 := fun x hx => Nat.le_trans ((Lx.spS_bd s).1 x hx) hs
  obtain ⟨x0, hx0, e0, z0⟩ := Lx.p_at hPz (i := 0) (by omega)
  obtain ⟨x1, hx1, e1, z1⟩ := Lx.p_at hPz (i := 1) (by omega)
  obtain ⟨x2, hx2, e2, z2⟩ := Lx.p_at hPz (i := 2) (by omega)
  obtain ⟨x3, hx3, e3, z3⟩ := Lx.p6_at h3 hPz (i := 3) (by omega)
  obtain ⟨x4, hx4, e4, z4⟩ := Lx.p6_at h3 hPz (i := 4) (by omega)
  obtain ⟨x5, hx5, e5, z5⟩ := Lx.p6_at h3 hPz (i := 5) (by omega)
  have HG := Lib.hid (show Lx.gE NS (Lx.bl (Lx.spS s)) = ⟨6, Lx.rdN x0.data.toList, 0, 0, 0, 0, Lx.rdN x2.data.toList, 0⟩ from by
    unfold Lx.gE
    rw [hK, ← e0, ← e2, ← e3, ← e4, ← e5]
    try rfl)
  have HR0 := Lib.hid (fun W => r36read_any x0 W (by omega))
  have HWD := Lib.hid (fun (q : Nat) (hq : q < 9) W => r36word_any q hq W)
  have HWI := Lib.hid (show ∀ q : Nat, 1 ≤ q → q ≤ 8 → (Lx.evWord (q : Nat) = x1.data.toList ↔ (q : Int) = 6) from fun q h1 h8 => Lx.word_is (by rw [e1]; exact hK) h1 h8)
  have HR2 := Lib.hid (fun W => r36read_any x2 W (by omega))
  obtain ⟨T, hT⟩ : ∃ T : Int, Lx.rdN x0.data.toList = T := ⟨_, rfl⟩
  have hiT : Lx.inR T := by rw [← hT]; exact Lx.rdN_in _
  obtain ⟨Z, hZ⟩ : ∃ Z : Int, Lx.rdN x2.data.toList = Z := ⟨_, rfl⟩
  have hiZ : Lx.inR Z := by rw [← hZ]; exact Lx.rdN_in _
  rw [hT, hZ] at HG
  rw [hT] at HR0
  rw [hZ] at HR2
  have HPR := Lib.hid (fun W (b : Below w.heap.size w W) => r36print_any (⟨6, T, 0, 0, 0, 0, Z, 0⟩ : Lx.EvV) (by unfold Lx.EvV.In; dsimp only; unfold Lx.inR at *; omega) ad m cap NS W (h.below b) hz)
  have HFR := Lib.hid (Lx.fin_rd hNO (s := s) HG.out)
  have HPE := Lib.hid (fun (o : Lx.EvV) (x : Int) (hr : Lx.ReadsEv NS s.data.toList o x) => (show Lx.ParseEv NS s o x from .inr (.inr ⟨hN, hs, hr⟩)))
  unfold WriteIs at HPR
  obtain ⟨V, hV⟩ : ∃ V : ByteArray, V = ⟨(Lx.prS NS ⟨6, T, 0, 0, 0, 0, Z, 0⟩).toArray⟩ := ⟨_, rfl⟩
  rw [← hV] at HPR
  have HVE := Lib.hid (show V.data.toList = Lx.prS NS ⟨6, T, 0, 0, 0, 0, Z, 0⟩ by rw [hV])
  obtain ⟨X, hX⟩ : ∃ X : Int, Lx.prE NS ⟨6, T, 0, 0, 0, 0, Z, 0⟩ = X := ⟨_, rfl⟩
  rw [hX] at HPR HFR
  unfold Lx.EvV.val at HPR
  dsimp only at HPR
  have HX0 := Lib.hid hx0
  have HX1 := Lib.hid hx1
  have HX2 := Lib.hid hx2
  have HX3 := Lib.hid hx3
  have HX4 := Lib.hid hx4
  have HX5 := Lib.hid hx5
  generalize Lx.spS s = P at *
  obtain ⟨np, hnp⟩ : ∃ np, P.length = np := ⟨_, rfl⟩
  rw [hnp] at h3 h6 HS
  have HNP := Lib.hid hnp
  have n0 : (0 : Int) < (np : Int) := by omega
  have n1 : (1 : Int) < (np : Int) := by omega
  have n2 : (2 : Int) < (np : Int) := by omega
  have n3 : (3 : Int) < (np : Int) + 3 := by omega
  have n4 : (4 : Int) < (np : Int) + 3 := by omega
  have n5 : (5 : Int) < (np : Int) + 3 := by omega
  have b3 : decide ((np : Int) < 3) = false := decide_eq_false (by omega)
  have b6 : decide ((6 : Int) < (np : Int)) = false := decide_eq_false (by omega)
  have bs : decide ((65536 : Int) < (s.size : Int)) = false := decide_eq_false (by omega)
  have hba : Below w.heap.size w (w.alloc (.cells #[.int .i64 0, .int .i64 0, .int .i64 0, .int .i64 0, .int .i64 0, .int .i64 0, .int .i64 0, .int .i64 0] 26)) := (Below.refl _ w).alloc (Nat.le_refl _) _
  have BA := Lib.hid hba
  have ZA := Lib.hid (Lx.EvBox.new w 0 0 0 0 0 0 0 0 26)
  clear h hz hN hNO hPz hK hV hX hnp e0 e1 e2 e3 e4 e5 hx0 hx1 hx2 hx3 hx4 hx5 hs hba HG hT hiT hZ hiZ
  go_enter Tryz.func8, Tryz.ntmps8
  go_wp2_with fail
  refine (HL.out _ BA.out).mono ?_
  rintro e w1 ⟨rfl, c1⟩
  have Z1 := Lib.hid (ZA.out.below c1)
  have B1 := Lib.hid (BA.out.trans (c1.mono BA.out.size))
  have hsz1 := c1.size
  rw [World.size_alloc] at hsz1
  have HSZ := Lib.hid hsz1
  clear c1 ZA BA hsz1
  go_wp2_with fail
  refine (HS.out _).mono ?_
  rintro e w2 ⟨v, rfl, hrow, c2⟩
  obtain ⟨g, c, rfl, hgl, -⟩ := Lx.ownPos hrow (by omega)
  have hrow2 := Lx.ownBaseTo hrow HSZ.out
  have q0 : Lx.PQ w ((w2.alloc (.cells #[.int .i64 0, .int .i64 T, .int .i64 0, .int .i64 0, .int .i64 0, .int .i64 0, .int .i64 0, .int .i64 0] 26))) w2.heap.size g c P ⟨0, T, 0, 0, 0, 0, 0, 0⟩ :=
    ⟨(B1.out.trans (c2.mono B1.out.size)).alloc (B1.out.trans (c2.mono B1.out.size)).size _, (Z1.out.below c2).below ((Below.refl _ _).alloc (Nat.le_refl _) _), Lx.EvBox.new _ _ _ _ _ _ _ _ _ _, (by rw [HNP.out]; exact hrow2.alloc _), Nat.lt_of_lt_of_le (Nat.lt_of_lt_of_le (Nat.lt_succ_self _) HSZ.out) c2.size, Nat.ne_of_lt hgl⟩
  have Q0 := Lib.hid q0
  have p0 : w2.cell? ⟨g, 0, none⟩ = some (.string x0) := by
    obtain ⟨g', c', e', _, hc'⟩ := Lx.ownPos hrow (by omega)
    cases e'
    exact hc' 0 _ (by rw [List.getElem?_map, HX0.out]; rfl)
  clear hrow hrow2 c2 hgl q0 Z1 B1 HSZ HS HL
  go_wp2_with fail
  refine (HR0.out _).mono ?_
  rintro e w3 ⟨rfl, rfl⟩
  clear p0 HR0
  go_wp2_with fail
  generalize hE : w2.heap.size = E at *
  clear hE
  go_loopw [9] (fun i wr => ∃ k : Nat, 1 ≤ k ∧ k ≤ 9 ∧ i = .int .i64 k ∧ Lx.PQ w wr E g c P ⟨Lx.kv 6 k, T, 0, 0, 0, 0, 0, 0⟩) (fun i _ => 9 - (intOf i).toNat)
  case atStart => exact ⟨1, Nat.le_refl _, by omega, rfl, by rw [Lx.kv_start]; exact Q0.out⟩
  case round =>
    obtain ⟨k, hk1, hk9, rfl, hq⟩ := hrel
    have Q := Lib.hid hq
    clear hq Q0
    by_cases hlt : k ≤ 8
    · have hki : (k : Int) ≤ 8 := by omega
      have HW1 := Lib.hid (HWD.out k (by omega))
      have HI1 := Lib.hid (HWI.out k hk1 hlt)
      have p1 := Q.out.p HX1.out
      have hgl : g < wr.heap.size := World.block_lt_of_cell? wr _ p1
      obtain ⟨W, hW⟩ : ∃ W : ByteArray, W = ⟨(Lx.evWord (k : Nat)).toArray⟩ := ⟨_, rfl⟩
      rw [← hW] at HW1
      have HWE := Lib.hid (show W.data.toList = Lx.evWord (k : Nat) by rw [hW])
      clear hW
      by_cases hkK : (k : Int) = 6
      · have he : (W.toList == x1.toList) = true := by rw [beq_iff_eq, Lib.toList_data, Lib.toList_data, HWE.out]; exact HI1.out.2 hkK
        have HKV := Lib.hid (Lx.kv_hit hk1 hkK)
        clear hkK
        go_upto_region 13 with (fail)
        go_cut [50] (fun s50 wx => s50 = .bool true ∧ Below wr.heap.size wr wx)
        case first =>
          have HSS := Lib.hid (show ∀ wx, Below wr.heap.size wr wx → Below wr.heap.size wr wx ∧ wx.cell? ⟨g, 1, none⟩ = some (.string x1) from fun wx b => ⟨b, (b.cell (p := ⟨g, 1, none⟩) hgl).trans p1⟩)
          have hS0 := HSS.out wr.drew ((Below.refl _ _).drew)
          clear p1 hgl
          go_region_held3 (fun wx => Below wr.heap.size wr wx ∧ wx.cell? ⟨g, 1, none⟩ = some (.string x1))
            (first | assumption | (refine HSS.out _ ?_; repeat (first | assumption | exact Below.refl _ _ | apply Lx.bDrew | apply Lx.bAlloc)))
            (first
              | (go_at_call 25; with_reducible refine (HW1.out _).mono ?_; rintro e w5 ⟨rfl, cb⟩; have kb2 := Lx.bCall (P := fun wx => wx.cell? ⟨g, 1, none⟩ = some (.string x1)) (by assumption) cb; have hzz := kb2.size; have kS := HSS.out _ kb2; clear cb))
          all_goals (go_wp2_with fail; go_meet)
          all_goals exact ⟨rfl, And.left (by assumption)⟩
        case rest =>
          obtain ⟨rfl, hb⟩ := hcut
          have Q1 := Lib.hid (Q.out.below hb)
          clear hb Q p1 hgl
          have s0 := (Q1.out.e.2 0 _ rfl).1
          have f0 := (Q1.out.e.2 0 _ rfl).2
          go_wp2_with fail
          go_roundw
          case rel => exact ⟨k + 1, by omega, by omega, by go_num, by rw [HKV.out]; exact Q1.out.set (j := 0) (by omega) rfl⟩
          case measure => simp [intOf]; omega
      · have he : (W.toList == x1.toList) = false := by rw [beq_eq_false_iff_ne, Lib.toList_data, Lib.toList_data, HWE.out]; exact fun e => hkK (HI1.out.1 e)
        have HKV := Lib.hid (Lx.kv_miss hkK)
        clear hkK
        go_upto_region 13 with (fail)
        go_cut [50] (fun s50 wx => s50 = .bool false ∧ Below wr.heap.size wr wx)
        case first =>
          have HSS := Lib.hid (show ∀ wx, Below wr.heap.size wr wx → Below wr.heap.size wr wx ∧ wx.cell? ⟨g, 1, none⟩ = some (.string x1) from fun wx b => ⟨b, (b.cell (p := ⟨g, 1, none⟩) hgl).trans p1⟩)
          have hS0 := HSS.out wr.drew ((Below.refl _ _).drew)
          clear p1 hgl
          go_region_held3 (fun wx => Below wr.heap.size wr wx ∧ wx.cell? ⟨g, 1, none⟩ = some (.string x1))
            (first | assumption | (refine HSS.out _ ?_; repeat (first | assumption | exact Below.refl _ _ | apply Lx.bDrew | apply Lx.bAlloc)))
            (first
              | (go_at_call 25; with_reducible refine (HW1.out _).mono ?_; rintro e w5 ⟨rfl, cb⟩; have kb2 := Lx.bCall (P := fun wx => wx.cell? ⟨g, 1, none⟩ = some (.string x1)) (by assumption) cb; have hzz := kb2.size; have kS := HSS.out _ kb2; clear cb))
          all_goals (go_wp2_with fail; go_meet)
          all_goals exact ⟨rfl, And.left (by assumption)⟩
        case rest =>
          obtain ⟨rfl, hb⟩ := hcut
          have Q1 := Lib.hid (Q.out.below hb)
          clear hb Q p1 hgl
          go_wp2_with fail
          go_roundw
          case rel => exact ⟨k + 1, by omega, by omega, by go_num, by rw [HKV.out]; exact Q1.out⟩
          case measure => simp [intOf]; omega
    · obtain rfl : k = 9 := by omega
      rw [show ((9 : Nat) : Int) = 9 from rfl]
      have Q9 := Lib.hid (show Lx.PQ w wr E g c P ⟨6, T, 0, 0, 0, 0, 0, 0⟩ from by have := Q.out; rw [Lx.kv_end (by omega) (by omega)] at this; exact this)
      clear Q HWD HWI hlt hk1 hk9
      obtain ⟨q0, q1, q2, q3, q4, q5, q6, q7⟩ := Q9.out.e.eight
      have p2 := Q9.out.p HX2.out
      go_wp2_with fail
      refine (HR2.out _).mono ?_
      rintro e w4 ⟨rfl, rfl⟩
      have Q10 := Q9
      clear Q9 HR2 p2 q0 q1 q2 q3 q4 q5 q6 q7
      have s0 := (Q10.out.e.2 6 _ rfl).1
      have f0 := (Q10.out.e.2 6 _ rfl).2
      have Q11 := Lib.hid (show Lx.PQ w (wr.setCell ⟨E, 6, none⟩ (.int .i64 Z)) E g c P ⟨6, T, 0, 0, 0, 0, Z, 0⟩ from Q10.out.set (j := 6) (by omega) rfl)
      have R11 := Lib.hid (show (wr.setCell ⟨E, 6, none⟩ (.int .i64 Z)).ownsRow (w.heap.size + 1) 9 1 (.slice (some ⟨g, 0, none⟩) np c) np (P.map Value.string) from by have := Q11.out.row; rw [HNP.out] at this; exact this)
      have hzs : (wr.setCell ⟨E, 6, none⟩ (.int .i64 Z)).heap.size = wr.heap.size := Lx.size_set _ _ _
      have hzb : w.heap.size + 1 ≤ wr.heap.size := by have h1 := Q11.out.hE; have h2 := Q10.out.e.1; omega
      have HNW := Lib.hid (show ∀ j u, [Value.string ⟨#[]⟩, Value.string ⟨#[]⟩, Value.string ⟨#[]⟩][j]? = some u → ((wr.setCell ⟨E, 6, none⟩ (.int .i64 Z)).alloc (.cells #[.string ⟨#[]⟩, .string ⟨#[]⟩, .string ⟨#[]⟩] 9)).cell? ((⟨wr.heap.size, 0, none⟩ : Addr).add j) = some u from by rw [← hzs]; exact Lx.cellNew3 _ _ _ _ _)
      have hZB := Lib.hid (show w.heap.size + 1 ≤ ((wr.setCell ⟨E, 6, none⟩ (.int .i64 Z)).alloc (.cells #[.string ⟨#[]⟩, .string ⟨#[]⟩, .string ⟨#[]⟩] 9)).heap.size from by rw [World.size_alloc, hzs]; omega)
      have HH := Lib.hid (show ((wr.setCell ⟨E, 6, none⟩ (.int .i64 Z)).alloc (.cells #[.string ⟨#[]⟩, .string ⟨#[]⟩, .string ⟨#[]⟩] 9)).heap.size = wr.heap.size + 1 from by rw [World.size_alloc, hzs])
      clear Q10 hzs hzb
      go_wp2_with (at_builtin; refine wpList_append_lies _ rfl _ _ 22 rfl (w.heap.size + 1) 9 i0 _ 1 16 Tryz.underlying22 hi hz0 hz1 hz2 rfl (by decide) _ _ _ rfl (R11.out.alloc _) ⟨wr.heap.size, 0, none⟩ 3 3 [.string ⟨#[]⟩, .string ⟨#[]⟩, .string ⟨#[]⟩] rfl rfl HNW.out (by simp [Value.oneCell']) (by omega) (by unfold maxLen; omega) (by omega) hZB.out _ rfl ?_)
      intro g6 c6 w6 hown6 hgrow hat hlt6
      have Q12 := Lib.hid (show Lx.PQ w w6 E g6 c6 (P ++ [⟨#[]⟩, ⟨#[]⟩, ⟨#[]⟩]) ⟨6, T, 0, 0, 0, 0, Z, 0⟩ from Q11.out.grow (.cells #[.string ⟨#[]⟩, .string ⟨#[]⟩, .string ⟨#[]⟩] 9) (T := [⟨#[]⟩, ⟨#[]⟩, ⟨#[]⟩]) (n := np + 3) (by rw [List.length_append, HNP.out]; rfl) hgrow hown6 (by rw [HH.out]; exact hat))
      clear hown6 hgrow hat hlt6 Q11 R11 HNW hZB HH s0 f0
      generalize P ++ [⟨#[]⟩, ⟨#[]⟩, ⟨#[]⟩] = P6 at *
      obtain ⟨q0, q1, q2, q3, q4, q5, q6, q7⟩ := Q12.out.e.eight
      go_wp2_with fail
      clear q0 q1 q2 q3 q4 q5 q6 q7
      go_loopw [10] (fun i wr2 => i = .int .i64 1 ∧ Lx.PQ w wr2 E g6 c6 P6 ⟨6, T, 0, 0, 0, 0, Z, 0⟩) (fun _ _ => 0)
      case atStart => exact ⟨rfl, Q12.out⟩
      case round =>
        obtain ⟨rfl, hq⟩ := hrel
        obtain ⟨wr2, hwr2⟩ : ∃ W, W = wr := ⟨_, rfl⟩
        rw [← hwr2] at hq
        rw [← hwr2]
        have Q30 := Lib.hid hq
        clear hq hwr2 Q12
        obtain ⟨q0, q1, q2, q3, q4, q5, q6, q7⟩ := Q30.out.e.eight
        go_wp2_with fail
        refine (HPR.out _ Q30.out.bel).mono ?_
        rintro e w9 ⟨rfl, c9⟩
        have Q40 := Lib.hid (Q30.out.below c9)
        clear c9 Q30  q0 q1 q2 q3 q4 q5 q6 q7
        obtain ⟨q0, q1, q2, q3, q4, q5, q6, q7⟩ := Q40.out.e.eight
        have z0 := (Q40.out.z.2 0 _ rfl).1
        have y0 := (Q40.out.z.2 0 _ rfl).2
        have z1 := (Q40.out.z.2 1 _ rfl).1
        have y1 := (Q40.out.z.2 1 _ rfl).2
        have z2 := (Q40.out.z.2 2 _ rfl).1
        have y2 := (Q40.out.z.2 2 _ rfl).2
        have z3 := (Q40.out.z.2 3 _ rfl).1
        have y3 := (Q40.out.z.2 3 _ rfl).2
        have z4 := (Q40.out.z.2 4 _ rfl).1
        have y4 := (Q40.out.z.2 4 _ rfl).2
        have z5 := (Q40.out.z.2 5 _ rfl).1
        have y5 := (Q40.out.z.2 5 _ rfl).2
        have z6 := (Q40.out.z.2 6 _ rfl).1
        have y6 := (Q40.out.z.2 6 _ rfl).2
        have z7 := (Q40.out.z.2 7 _ rfl).1
        have y7 := (Q40.out.z.2 7 _ rfl).2
        by_cases hx : X = 0
        · have hxb : (X != 0) = false := by rw [bne_eq_false_iff_eq]; exact hx
          by_cases hv : V = s
          · have HRD := Lib.hid (HFR.out.1 hx (by rw [← HVE.out, hv]))
            subst hv
            clear hx
            go_wp2_with fail
            refine bodyPost_ret (v := .tuple #[.agg #[.int .i64 6, .int .i64 T, .int .i64 0, .int .i64 0, .int .i64 0, .int .i64 0, .int .i64 Z, .int .i64 0], .int .i64 0]) (by simp [results, Tryz.results8, go_sem, z0, z1, z2, z3, z4, z5, z6, z7]) rfl ?_
            exact ⟨⟨6, T, 0, 0, 0, 0, Z, 0⟩, 0, rfl, HPE.out _ _ (HRD.out), ((((((((Q40.out.bel.setCell (p := ⟨w.heap.size, 0, none⟩) (Nat.le_refl _) _).setCell (p := ⟨w.heap.size, 1, none⟩) (Nat.le_refl _) _).setCell (p := ⟨w.heap.size, 2, none⟩) (Nat.le_refl _) _).setCell (p := ⟨w.heap.size, 3, none⟩) (Nat.le_refl _) _).setCell (p := ⟨w.heap.size, 4, none⟩) (Nat.le_refl _) _).setCell (p := ⟨w.heap.size, 5, none⟩) (Nat.le_refl _) _).setCell (p := ⟨w.heap.size, 6, none⟩) (Nat.le_refl _) _).setCell (p := ⟨w.heap.size, 7, none⟩) (Nat.le_refl _) _)⟩
          · have hvb : (V.toList == s.toList) = false := by rw [beq_eq_false_iff_ne, ne_eq, Lib.toList_data, Lib.toList_data]; exact fun e => hv (ByteArray.ext (Array.toList_inj.1 e))
            have HRD := Lib.hid (HFR.out.2.2 (by rw [← HVE.out]; exact fun e => hv (ByteArray.ext (Array.toList_inj.1 e))))
            clear hx hv
            go_wp2_with fail
            refine bodyPost_ret (v := .tuple #[.agg #[.int .i64 0, .int .i64 0, .int .i64 0, .int .i64 0, .int .i64 0, .int .i64 0, .int .i64 0, .int .i64 0], .int .i64 10]) (by simp [results, Tryz.results8, go_sem, z0, z1, z2, z3, z4, z5, z6, z7]) rfl ?_
            exact ⟨Lx.evZ, 10, rfl, HPE.out _ _ (HRD.out), ((((((((Q40.out.bel.setCell (p := ⟨w.heap.size, 0, none⟩) (Nat.le_refl _) _).setCell (p := ⟨w.heap.size, 1, none⟩) (Nat.le_refl _) _).setCell (p := ⟨w.heap.size, 2, none⟩) (Nat.le_refl _) _).setCell (p := ⟨w.heap.size, 3, none⟩) (Nat.le_refl _) _).setCell (p := ⟨w.heap.size, 4, none⟩) (Nat.le_refl _) _).setCell (p := ⟨w.heap.size, 5, none⟩) (Nat.le_refl _) _).setCell (p := ⟨w.heap.size, 6, none⟩) (Nat.le_refl _) _).setCell (p := ⟨w.heap.size, 7, none⟩) (Nat.le_refl _) _)⟩
        · have hxb : (X != 0) = true := by rw [bne_iff_ne]; exact hx
          have HRD := Lib.hid (HFR.out.2.1 hx)
          clear hx
          go_wp2_with fail
          refine bodyPost_ret (v := .tuple #[.agg #[.int .i64 0, .int .i64 0, .int .i64 0, .int .i64 0, .int .i64 0, .int .i64 0, .int .i64 0, .int .i64 0], .int .i64 10]) (by simp [results, Tryz.results8, go_sem, z0, z1, z2, z3, z4, z5, z6, z7]) rfl ?_
          exact ⟨Lx.evZ, 10, rfl, HPE.out _ _ (HRD.out), ((((((((Q40.out.bel.setCell (p := ⟨w.heap.size, 0, none⟩) (Nat.le_refl _) _).setCell (p := ⟨w.heap.size, 1, none⟩) (Nat.le_refl _) _).setCell (p := ⟨w.heap.size, 2, none⟩) (Nat.le_refl _) _).setCell (p := ⟨w.heap.size, 3, none⟩) (Nat.le_refl _) _).setCell (p := ⟨w.heap.size, 4, none⟩) (Nat.le_refl _) _).setCell (p := ⟨w.heap.size, 5, none⟩) (Nat.le_refl _) _).setCell (p := ⟨w.heap.size, 6, none⟩) (Nat.le_refl _) _).setCell (p := ⟨w.heap.size, 7, none⟩) (Nat.le_refl _) _)⟩
end Go.Proofs.YtmpcekpdnikghaaGreatDoor
namespace Go.Proofs.YtmpcekpdnikghaaGreatDoor
open Go.RowKit

set_option maxRecDepth 100000 in
set_option maxHeartbeats 3200000 in
theorem r36_parse_5 (s : ByteArray) (ad : Option Addr) (m cap : Nat) (NS : List ByteArray) (w : World) (h : Lx.IsNames w ad m NS) (hz : ∀ x ∈ NS, x.size ≤ maxLen) (hN : Lx.nmErr NS = 0) (hs : s.size ≤ 65536) (h3 : 3 ≤ (Lx.spS s).length) (h6 : (Lx.spS s).length ≤ 6) (hK : Lx.kindOf (Lx.pAt (Lx.bl (Lx.spS s)) 1) = 5) :
    Calls Tryz.prog 8 #[.string s, .slice ad m cap] w (RfPost NS s w) := by
  obtain ⟨i0, hi, hz0, hz1, hz2⟩ := info_parts infoS
  have hNO := (Lx.nmErr_ok NS).1 hN
  have HL := Lib.hid (fun W (b : Below w.heap.size w W) => r36list_any ad m cap NS W (h.below b) hz)
  rw [hN] at HL
  have HS := Lib.hid (fun W => r36split_any s W hs)
  have hPz : ∀ x ∈ Lx.spS s, x.size ≤ 65536 := fun x hx => Nat.le_trans ((Lx.spS_bd s).1 x hx) hs
  obtain ⟨x0, hx0, e0, z0⟩ := Lx.p_at hPz (i := 0) (by omega)
  obtain ⟨x1, hx1, e1, z1⟩ := Lx.p_at hPz (i := 1) (by omega)
  obtain ⟨x2, hx2, e2, z2⟩ := Lx.p_at hPz (i := 2) (by omega)
  obtain ⟨x3, hx3, e3, z3⟩ := Lx.p6_at h3 hPz (i := 3) (by omega)
  obtain ⟨x4, hx4, e4, z4⟩ := Lx.p6_at h3 hPz (i := 4) (by omega)
  obtain ⟨x5, hx5, e5, z5⟩ := Lx.p6_at h3 hPz (i := 5) (by omega)
  have HG := Lib.hid (show Lx.gE NS (Lx.bl (Lx.spS s)) = ⟨5, Lx.rdN x0.data.toList, Lx.ixN NS x2.data.toList, Lx.rdN x3.data.toList, Lx.rdN x4.data.toList, 0, Lx.rVal x5.data.toList, 0⟩ from by
    unfold Lx.gE
    rw [hK, ← e0, ← e2, ← e3, ← e4, ← e5]
    try rfl)
  have HR0 := Lib.hid (fun W => r36read_any x0 W (by omega))
  have HWD := Lib.hid (fun (q : Nat) (hq : q < 9) W => r36word_any q hq W)
  have HWI := Lib.hid (show ∀ q : Nat, 1 ≤ q → q ≤ 8 → (Lx.evWord (q : Nat) = x1.data.toList ↔ (q : Int) = 5) from fun q h1 h8 => Lx.word_is (by rw [e1]; exact hK) h1 h8)
  have HIX := Lib.hid (fun W (b : Below w.heap.size w W) => r36index_any ad m cap NS x2 W (h.below b) (by rw [← h.1]; have := hNO.1; omega))
  have HR3 := Lib.hid (fun W => r36read_any x3 W (by omega))
  have HR4 := Lib.hid (fun W => r36read_any x4 W (by omega))
  have HWY := Lib.hid (fun (q : Nat) (hq : q < 7) W => r36why_any q hq W)
  obtain ⟨Y, hY⟩ : ∃ Y : Int, Lx.rVal x5.data.toList = Y := ⟨_, rfl⟩
  have HYI := Lib.hid (show ∀ q : Nat, 1 ≤ q → q ≤ 6 → (Lx.reasonW (q : Nat) = x5.data.toList ↔ (q : Int) = Y) from fun q h1 h6 => Lx.why_is hY h1 h6)
  have hYb : 0 ≤ Y ∧ Y ≤ 6 := by rw [← hY]; exact Lx.rVal_bd _
  rw [hY] at HG
  obtain ⟨T, hT⟩ : ∃ T : Int, Lx.rdN x0.data.toList = T := ⟨_, rfl⟩
  have hiT : Lx.inR T := by rw [← hT]; exact Lx.rdN_in _
  obtain ⟨J, hJ⟩ : ∃ J : Int, Lx.ixN NS x2.data.toList = J := ⟨_, rfl⟩
  have hiJ : Lx.inR J := by rw [← hJ]; exact Lx.ixN_in hNO.1 _
  obtain ⟨D, hD⟩ : ∃ D : Int, Lx.rdN x3.data.toList = D := ⟨_, rfl⟩
  have hiD : Lx.inR D := by rw [← hD]; exact Lx.rdN_in _
  obtain ⟨A, hA⟩ : ∃ A : Int, Lx.rdN x4.data.toList = A := ⟨_, rfl⟩
  have hiA : Lx.inR A := by rw [← hA]; exact Lx.rdN_in _
  rw [hT, hJ, hD, hA] at HG
  rw [hT] at HR0
  rw [hJ] at HIX
  rw [hD] at HR3
  rw [hA] at HR4
  have HPR := Lib.hid (fun W (b : Below w.heap.size w W) => r36print_any (⟨5, T, J, D, A, 0, Y, 0⟩ : Lx.EvV) (by unfold Lx.EvV.In; dsimp only; unfold Lx.inR at *; omega) ad m cap NS W (h.below b) hz)
  have HFR := Lib.hid (Lx.fin_rd hNO (s := s) HG.out)
  have HPE := Lib.hid (fun (o : Lx.EvV) (x : Int) (hr : Lx.ReadsEv NS s.data.toList o x) => (show Lx.ParseEv NS s o x from .inr (.inr ⟨hN, hs, hr⟩)))
  unfold WriteIs at HPR
  obtain ⟨V, hV⟩ : ∃ V : ByteArray, V = ⟨(Lx.prS NS ⟨5, T, J, D, A, 0, Y, 0⟩).toArray⟩ := ⟨_, rfl⟩
  rw [← hV] at HPR
  have HVE := Lib.hid (show V.data.toList = Lx.prS NS ⟨5, T, J, D, A, 0, Y, 0⟩ by rw [hV])
  obtain ⟨X, hX⟩ : ∃ X : Int, Lx.prE NS ⟨5, T, J, D, A, 0, Y, 0⟩ = X := ⟨_, rfl⟩
  rw [hX] at HPR HFR
  unfold Lx.EvV.val at HPR
  dsimp only at HPR
  have HX0 := Lib.hid hx0
  have HX1 := Lib.hid hx1
  have HX2 := Lib.hid hx2
  have HX3 := Lib.hid hx3
  have HX4 := Lib.hid hx4
  have HX5 := Lib.hid hx5
  generalize Lx.spS s = P at *
  obtain ⟨np, hnp⟩ : ∃ np, P.length = np := ⟨_, rfl⟩
  rw [hnp] at h3 h6 HS
  have HNP := Lib.hid hnp
  have n0 : (0 : Int) < (np : Int) := by omega
  have n1 : (1 : Int) < (np : Int) := by omega
  have n2 : (2 : Int) < (np : Int) := by omega
  have n3 : (3 : Int) < (np : Int) + 3 := by omega
  have n4 : (4 : Int) < (np : Int) + 3 := by omega
  have n5 : (5 : Int) < (np : Int) + 3 := by omega
  have b3 : decide ((np : Int) < 3) = false := decide_eq_false (by omega)
  have b6 : decide ((6 : Int) < (np : Int)) = false := decide_eq_false (by omega)
  have bs : decide ((65536 : Int) < (s.size : Int)) = false := decide_eq_false (by omega)
  have hba : Below w.heap.size w (w.alloc (.cells #[.int .i64 0, .int .i64 0, .int .i64 0, .int .i64 0, .int .i64 0, .int .i64 0, .int .i64 0, .int .i64 0] 26)) := (Below.refl _ w).alloc (Nat.le_refl _) _
  have BA := Lib.hid hba
  have ZA := Lib.hid (Lx.EvBox.new w 0 0 0 0 0 0 0 0 26)
  clear h hz hN hNO hPz hK hV hX hnp e0 e1 e2 e3 e4 e5 hx0 hx1 hx2 hx3 hx4 hx5 hs hba HG hT hiT hJ hiJ hD hiD hA hiA hY
  go_enter Tryz.func8, Tryz.ntmps8
  go_wp2_with fail
  refine (HL.out _ BA.out).mono ?_
  rintro e w1 ⟨rfl, c1⟩
  have Z1 := Lib.hid (ZA.out.below c1)
  have B1 := Lib.hid (BA.out.trans (c1.mono BA.out.size))
  have hsz1 := c1.size
  rw [World.size_alloc] at hsz1
  have HSZ := Lib.hid hsz1
  clear c1 ZA BA hsz1
  go_wp2_with fail
  refine (HS.out _).mono ?_
  rintro e w2 ⟨v, rfl, hrow, c2⟩
  obtain ⟨g, c, rfl, hgl, -⟩ := Lx.ownPos hrow (by omega)
  have hrow2 := Lx.ownBaseTo hrow HSZ.out
  have q0 : Lx.PQ w ((w2.alloc (.cells #[.int .i64 0, .int .i64 T, .int .i64 0, .int .i64 0, .int .i64 0, .int .i64 0, .int .i64 0, .int .i64 0] 26))) w2.heap.size g c P ⟨0, T, 0, 0, 0, 0, 0, 0⟩ :=
    ⟨(B1.out.trans (c2.mono B1.out.size)).alloc (B1.out.trans (c2.mono B1.out.size)).size _, (Z1.out.below c2).below ((Below.refl _ _).alloc (Nat.le_refl _) _), Lx.EvBox.new _ _ _ _ _ _ _ _ _ _, (by rw [HNP.out]; exact hrow2.alloc _), Nat.lt_of_lt_of_le (Nat.lt_of_lt_of_le (Nat.lt_succ_self _) HSZ.out) c2.size, Nat.ne_of_lt hgl⟩
  have Q0 := Lib.hid q0
  have p0 : w2.cell? ⟨g, 0, none⟩ = some (.string x0) := by
    obtain ⟨g', c', e', _, hc'⟩ := Lx.ownPos hrow (by omega)
    cases e'
    exact hc' 0 _ (by rw [List.getElem?_map, HX0.out]; rfl)
  clear hrow hrow2 c2 hgl q0 Z1 B1 HSZ HS HL
  go_wp2_with fail
  refine (HR0.out _).mono ?_
  rintro e w3 ⟨rfl, rfl⟩
  clear p0 HR0
  go_wp2_with fail
  generalize hE : w2.heap.size = E at *
  clear hE
  go_loopw [9] (fun i wr => ∃ k : Nat, 1 ≤ k ∧ k ≤ 9 ∧ i = .int .i64 k ∧ Lx.PQ w wr E g c P ⟨Lx.kv 5 k, T, 0, 0, 0, 0, 0, 0⟩) (fun i _ => 9 - (intOf i).toNat)
  case atStart => exact ⟨1, Nat.le_refl _, by omega, rfl, by rw [Lx.kv_start]; exact Q0.out⟩
  case round =>
    obtain ⟨k, hk1, hk9, rfl, hq⟩ := hrel
    have Q := Lib.hid hq
    clear hq Q0
    by_cases hlt : k ≤ 8
    · have hki : (k : Int) ≤ 8 := by omega
      have HW1 := Lib.hid (HWD.out k (by omega))
      have HI1 := Lib.hid (HWI.out k hk1 hlt)
      have p1 := Q.out.p HX1.out
      have hgl : g < wr.heap.size := World.block_lt_of_cell? wr _ p1
      obtain ⟨W, hW⟩ : ∃ W : ByteArray, W = ⟨(Lx.evWord (k : Nat)).toArray⟩ := ⟨_, rfl⟩
      rw [← hW] at HW1
      have HWE := Lib.hid (show W.data.toList = Lx.evWord (k : Nat) by rw [hW])
      clear hW
      by_cases hkK : (k : Int) = 5
      · have he : (W.toList == x1.toList) = true := by rw [beq_iff_eq, Lib.toList_data, Lib.toList_data, HWE.out]; exact HI1.out.2 hkK
        have HKV := Lib.hid (Lx.kv_hit hk1 hkK)
        clear hkK
        go_upto_region 13 with (fail)
        go_cut [50] (fun s50 wx => s50 = .bool true ∧ Below wr.heap.size wr wx)
        case first =>
          have HSS := Lib.hid (show ∀ wx, Below wr.heap.size wr wx → Below wr.heap.size wr wx ∧ wx.cell? ⟨g, 1, none⟩ = some (.string x1) from fun wx b => ⟨b, (b.cell (p := ⟨g, 1, none⟩) hgl).trans p1⟩)
          have hS0 := HSS.out wr.drew ((Below.refl _ _).drew)
          clear p1 hgl
          go_region_held3 (fun wx => Below wr.heap.size wr wx ∧ wx.cell? ⟨g, 1, none⟩ = some (.string x1))
            (first | assumption | (refine HSS.out _ ?_; repeat (first | assumption | exact Below.refl _ _ | apply Lx.bDrew | apply Lx.bAlloc)))
            (first
              | (go_at_call 25; with_reducible refine (HW1.out _).mono ?_; rintro e w5 ⟨rfl, cb⟩; have kb2 := Lx.bCall (P := fun wx => wx.cell? ⟨g, 1, none⟩ = some (.string x1)) (by assumption) cb; have hzz := kb2.size; have kS := HSS.out _ kb2; clear cb))
          all_goals (go_wp2_with fail; go_meet)
          all_goals exact ⟨rfl, And.left (by assumption)⟩
        case rest =>
          obtain ⟨rfl, hb⟩ := hcut
          have Q1 := Lib.hid (Q.out.below hb)
          clear hb Q p1 hgl
          have s0 := (Q1.out.e.2 0 _ rfl).1
          have f0 := (Q1.out.e.2 0 _ rfl).2
          go_wp2_with fail
          go_roundw
          case rel => exact ⟨k + 1, by omega, by omega, by go_num, by rw [HKV.out]; exact Q1.out.set (j := 0) (by omega) rfl⟩
          case measure => simp [intOf]; omega
      · have he : (W.toList == x1.toList) = false := by rw [beq_eq_false_iff_ne, Lib.toList_data, Lib.toList_data, HWE.out]; exact fun e => hkK (HI1.out.1 e)
        have HKV := Lib.hid (Lx.kv_miss hkK)
        clear hkK
        go_upto_region 13 with (fail)
        go_cut [50] (fun s50 wx => s50 = .bool false ∧ Below wr.heap.size wr wx)
        case first =>
          have HSS := Lib.hid (show ∀ wx, Below wr.heap.size wr wx → Below wr.heap.size wr wx ∧ wx.cell? ⟨g, 1, none⟩ = some (.string x1) from fun wx b => ⟨b, (b.cell (p := ⟨g, 1, none⟩) hgl).trans p1⟩)
          have hS0 := HSS.out wr.drew ((Below.refl _ _).drew)
          clear p1 hgl
          go_region_held3 (fun wx => Below wr.heap.size wr wx ∧ wx.cell? ⟨g, 1, none⟩ = some (.string x1))
            (first | assumption | (refine HSS.out _ ?_; repeat (first | assumption | exact Below.refl _ _ | apply Lx.bDrew | apply Lx.bAlloc)))
            (first
              | (go_at_call 25; with_reducible refine (HW1.out _).mono ?_; rintro e w5 ⟨rfl, cb⟩; have kb2 := Lx.bCall (P := fun wx => wx.cell? ⟨g, 1, none⟩ = some (.string x1)) (by assumption) cb; have hzz := kb2.size; have kS := HSS.out _ kb2; clear cb))
          all_goals (go_wp2_with fail; go_meet)
          all_goals exact ⟨rfl, And.left (by assumption)⟩
        case rest =>
          obtain ⟨rfl, hb⟩ := hcut
          have Q1 := Lib.hid (Q.out.below hb)
          clear hb Q p1 hgl
          go_wp2_with fail
          go_roundw
          case rel => exact ⟨k + 1, by omega, by omega, by go_num, by rw [HKV.out]; exact Q1.out⟩
          case measure => simp [intOf]; omega
    · obtain rfl : k = 9 := by omega
      rw [show ((9 : Nat) : Int) = 9 from rfl]
      have Q9 := Lib.hid (show Lx.PQ w wr E g c P ⟨5, T, 0, 0, 0, 0, 0, 0⟩ from by have := Q.out; rw [Lx.kv_end (by omega) (by omega)] at this; exact this)
      clear Q HWD HWI hlt hk1 hk9
      obtain ⟨q0, q1, q2, q3, q4, q5, q6, q7⟩ := Q9.out.e.eight
      have p2 := Q9.out.p HX2.out
      go_wp2_with fail
      refine (HIX.out _ Q9.out.bel).mono ?_
      rintro e w4 ⟨rfl, c4⟩
      have Q10 := Lib.hid (Q9.out.below c4)
      clear c4 Q9 HIX p2 q0 q1 q2 q3 q4 q5 q6 q7
      have s0 := (Q10.out.e.2 2 _ rfl).1
      have f0 := (Q10.out.e.2 2 _ rfl).2
      have Q11 := Lib.hid (show Lx.PQ w (w4.setCell ⟨E, 2, none⟩ (.int .i64 J)) E g c P ⟨5, T, J, 0, 0, 0, 0, 0⟩ from Q10.out.set (j := 2) (by omega) rfl)
      have R11 := Lib.hid (show (w4.setCell ⟨E, 2, none⟩ (.int .i64 J)).ownsRow (w.heap.size + 1) 9 1 (.slice (some ⟨g, 0, none⟩) np c) np (P.map Value.string) from by have := Q11.out.row; rw [HNP.out] at this; exact this)
      have hzs : (w4.setCell ⟨E, 2, none⟩ (.int .i64 J)).heap.size = w4.heap.size := Lx.size_set _ _ _
      have hzb : w.heap.size + 1 ≤ w4.heap.size := by have h1 := Q11.out.hE; have h2 := Q10.out.e.1; omega
      have HNW := Lib.hid (show ∀ j u, [Value.string ⟨#[]⟩, Value.string ⟨#[]⟩, Value.string ⟨#[]⟩][j]? = some u → ((w4.setCell ⟨E, 2, none⟩ (.int .i64 J)).alloc (.cells #[.string ⟨#[]⟩, .string ⟨#[]⟩, .string ⟨#[]⟩] 9)).cell? ((⟨w4.heap.size, 0, none⟩ : Addr).add j) = some u from by rw [← hzs]; exact Lx.cellNew3 _ _ _ _ _)
      have hZB := Lib.hid (show w.heap.size + 1 ≤ ((w4.setCell ⟨E, 2, none⟩ (.int .i64 J)).alloc (.cells #[.string ⟨#[]⟩, .string ⟨#[]⟩, .string ⟨#[]⟩] 9)).heap.size from by rw [World.size_alloc, hzs]; omega)
      have HH := Lib.hid (show ((w4.setCell ⟨E, 2, none⟩ (.int .i64 J)).alloc (.cells #[.string ⟨#[]⟩, .string ⟨#[]⟩, .string ⟨#[]⟩] 9)).heap.size = w4.heap.size + 1 from by rw [World.size_alloc, hzs])
      clear Q10 hzs hzb
      go_wp2_with (at_builtin; refine wpList_append_lies _ rfl _ _ 22 rfl (w.heap.size + 1) 9 i0 _ 1 16 Tryz.underlying22 hi hz0 hz1 hz2 rfl (by decide) _ _ _ rfl (R11.out.alloc _) ⟨w4.heap.size, 0, none⟩ 3 3 [.string ⟨#[]⟩, .string ⟨#[]⟩, .string ⟨#[]⟩] rfl rfl HNW.out (by simp [Value.oneCell']) (by omega) (by unfold maxLen; omega) (by omega) hZB.out _ rfl ?_)
      intro g6 c6 w6 hown6 hgrow hat hlt6
      have Q12 := Lib.hid (show Lx.PQ w w6 E g6 c6 (P ++ [⟨#[]⟩, ⟨#[]⟩, ⟨#[]⟩]) ⟨5, T, J, 0, 0, 0, 0, 0⟩ from Q11.out.grow (.cells #[.string ⟨#[]⟩, .string ⟨#[]⟩, .string ⟨#[]⟩] 9) (T := [⟨#[]⟩, ⟨#[]⟩, ⟨#[]⟩]) (n := np + 3) (by rw [List.length_append, HNP.out]; rfl) hgrow hown6 (by rw [HH.out]; exact hat))
      clear hown6 hgrow hat hlt6 Q11 R11 HNW hZB HH s0 f0
      generalize P ++ [⟨#[]⟩, ⟨#[]⟩, ⟨#[]⟩] = P6 at *
      obtain ⟨q0, q1, q2, q3, q4, q5, q6, q7⟩ := Q12.out.e.eight
      have p9 := Q12.out.p HX3.out
      go_wp2_with fail
      refine (HR3.out _).mono ?_
      rintro e w42 ⟨rfl, rfl⟩
      have fz12 := (Q12.out.e.2 3 _ rfl).2
      have sj12 := (Q12.out.e.2 3 _ rfl).1
      have Q13 := Lib.hid (show Lx.PQ w (w6.setCell ⟨E, 3, none⟩ (.int .i64 D)) E g6 c6 P6 ⟨5, T, J, D, 0, 0, 0, 0⟩ from Q12.out.set (j := 3) (by omega) rfl)
      clear p9 Q12 q0 q1 q2 q3 q4 q5 q6 q7
      obtain ⟨q0, q1, q2, q3, q4, q5, q6, q7⟩ := Q13.out.e.eight
      have p9 := Q13.out.p HX4.out
      go_wp2_with fail
      refine (HR4.out _).mono ?_
      rintro e w43 ⟨rfl, rfl⟩
      clear fz12 sj12
      have fz13 := (Q13.out.e.2 4 _ rfl).2
      have sj13 := (Q13.out.e.2 4 _ rfl).1
      have Q14 := Lib.hid (show Lx.PQ w ((w6.setCell ⟨E, 3, none⟩ (.int .i64 D)).setCell ⟨E, 4, none⟩ (.int .i64 A)) E g6 c6 P6 ⟨5, T, J, D, A, 0, 0, 0⟩ from Q13.out.set (j := 4) (by omega) rfl)
      clear p9 Q13 q0 q1 q2 q3 q4 q5 q6 q7
      obtain ⟨q0, q1, q2, q3, q4, q5, q6, q7⟩ := Q14.out.e.eight
      go_wp2_with fail
      clear fz13 sj13
      clear q0 q1 q2 q3 q4 q5 q6 q7
      go_loopw [10] (fun i wr2 => ∃ q : Nat, 1 ≤ q ∧ q ≤ 7 ∧ i = .int .i64 q ∧ Lx.PQ w wr2 E g6 c6 P6 ⟨5, T, J, D, A, 0, Lx.kv Y q, 0⟩) (fun i _ => 7 - (intOf i).toNat)
      case atStart => exact ⟨1, Nat.le_refl _, by omega, rfl, by rw [Lx.kv_start]; exact Q14.out⟩
      case round =>
        obtain ⟨q, hq1, hq9, rfl, hq⟩ := hrel
        have Q := Lib.hid hq
        obtain ⟨wr2, hwr2⟩ : ∃ W, W = wr := ⟨_, rfl⟩
        rw [← hwr2] at Q
        rw [← hwr2]
        clear hq hwr2 Q14
        by_cases hlt : q ≤ 6
        · have hqi : (q : Int) ≤ 6 := by omega
          have HW1 := Lib.hid (HWY.out q (by omega))
          have HI1 := Lib.hid (HYI.out q hq1 hlt)
          have p5 := Q.out.p HX5.out
          have hgl : g6 < wr2.heap.size := World.block_lt_of_cell? wr2 _ p5
          obtain ⟨W, hW⟩ : ∃ W : ByteArray, W = ⟨(Lx.reasonW (q : Nat)).toArray⟩ := ⟨_, rfl⟩
          rw [← hW] at HW1
          have HWE := Lib.hid (show W.data.toList = Lx.reasonW (q : Nat) by rw [hW])
          clear hW
          obtain ⟨q0, q1, q2, q3, q4, q5, q6, q7⟩ := Q.out.e.eight
          by_cases hkK : (q : Int) = Y
          · have he : (W.toList == x5.toList) = true := by rw [beq_iff_eq, Lib.toList_data, Lib.toList_data, HWE.out]; exact HI1.out.2 hkK
            have HKV := Lib.hid (Lx.kv_hit hq1 hkK)
            clear hkK
            go_upto_region 27 with (fail)
            go_cut [105] (fun s50 wx => s50 = .bool true ∧ Below wr2.heap.size wr2 wx)
            case first =>
              have HSS := Lib.hid (show ∀ wx, Below wr2.heap.size wr2 wx → Below wr2.heap.size wr2 wx ∧ wx.cell? ⟨g6, 5, none⟩ = some (.string x5) from fun wx b => ⟨b, (b.cell (p := ⟨g6, 5, none⟩) hgl).trans p5⟩)
              have hS0 := HSS.out wr2.drew ((Below.refl _ _).drew)
              clear p5 hgl q0 q1 q2 q3 q4 q5 q6 q7
              go_region_held3 (fun wx => Below wr2.heap.size wr2 wx ∧ wx.cell? ⟨g6, 5, none⟩ = some (.string x5))
                (first | assumption | (refine HSS.out _ ?_; repeat (first | assumption | exact Below.refl _ _ | apply Lx.bDrew | apply Lx.bAlloc)))
                (first
                  | (go_at_call 27; with_reducible refine (HW1.out _).mono ?_; rintro e w5 ⟨rfl, cb⟩; have kb2 := Lx.bCall (P := fun wx => wx.cell? ⟨g6, 5, none⟩ = some (.string x5)) (by assumption) cb; have hzz := kb2.size; have kS := HSS.out _ kb2; clear cb))
              all_goals (go_wp2_with fail; go_meet)
              all_goals exact ⟨rfl, And.left (by assumption)⟩
            case rest =>
              obtain ⟨rfl, hb⟩ := hcut
              have Q1 := Lib.hid (Q.out.below hb)
              clear hb Q p5 hgl q0 q1 q2 q3 q4 q5 q6 q7
              have s0 := (Q1.out.e.2 6 _ rfl).1
              have f0 := (Q1.out.e.2 6 _ rfl).2
              go_wp2_with fail
              go_roundw
              case rel => exact ⟨q + 1, by omega, by omega, by go_num, by rw [HKV.out]; exact Q1.out.set (j := 6) (by omega) rfl⟩
              case measure => simp [intOf]; omega
          · have he : (W.toList == x5.toList) = false := by rw [beq_eq_false_iff_ne, Lib.toList_data, Lib.toList_data, HWE.out]; exact fun e => hkK (HI1.out.1 e)
            have HKV := Lib.hid (Lx.kv_miss hkK)
            clear hkK
            go_upto_region 27 with (fail)
            go_cut [105] (fun s50 wx => s50 = .bool false ∧ Below wr2.heap.size wr2 wx)
            case first =>
              have HSS := Lib.hid (show ∀ wx, Below wr2.heap.size wr2 wx → Below wr2.heap.size wr2 wx ∧ wx.cell? ⟨g6, 5, none⟩ = some (.string x5) from fun wx b => ⟨b, (b.cell (p := ⟨g6, 5, none⟩) hgl).trans p5⟩)
              have hS0 := HSS.out wr2.drew ((Below.refl _ _).drew)
              clear p5 hgl q0 q1 q2 q3 q4 q5 q6 q7
              go_region_held3 (fun wx => Below wr2.heap.size wr2 wx ∧ wx.cell? ⟨g6, 5, none⟩ = some (.string x5))
                (first | assumption | (refine HSS.out _ ?_; repeat (first | assumption | exact Below.refl _ _ | apply Lx.bDrew | apply Lx.bAlloc)))
                (first
                  | (go_at_call 27; with_reducible refine (HW1.out _).mono ?_; rintro e w5 ⟨rfl, cb⟩; have kb2 := Lx.bCall (P := fun wx => wx.cell? ⟨g6, 5, none⟩ = some (.string x5)) (by assumption) cb; have hzz := kb2.size; have kS := HSS.out _ kb2; clear cb))
              all_goals (go_wp2_with fail; go_meet)
              all_goals exact ⟨rfl, And.left (by assumption)⟩
            case rest =>
              obtain ⟨rfl, hb⟩ := hcut
              have Q1 := Lib.hid (Q.out.below hb)
              clear hb Q p5 hgl q0 q1 q2 q3 q4 q5 q6 q7
              go_wp2_with fail
              go_roundw
              case rel => exact ⟨q + 1, by omega, by omega, by go_num, by rw [HKV.out]; exact Q1.out⟩
              case measure => simp [intOf]; omega
        · obtain rfl : q = 7 := by omega
          rw [show ((7 : Nat) : Int) = 7 from rfl]
          have Q30 := Lib.hid (show Lx.PQ w wr2 E g6 c6 P6 ⟨5, T, J, D, A, 0, Y, 0⟩ from by have := Q.out; rw [Lx.kv_end hYb.1 (by omega)] at this; exact this)
          clear Q HWY HYI hlt hq1 hq9
          obtain ⟨q0, q1, q2, q3, q4, q5, q6, q7⟩ := Q30.out.e.eight
          go_wp2_with fail
          refine (HPR.out _ Q30.out.bel).mono ?_
          rintro e w9 ⟨rfl, c9⟩
          have Q40 := Lib.hid (Q30.out.below c9)
          clear c9 Q30  q0 q1 q2 q3 q4 q5 q6 q7
          obtain ⟨q0, q1, q2, q3, q4, q5, q6, q7⟩ := Q40.out.e.eight
          have z0 := (Q40.out.z.2 0 _ rfl).1
          have y0 := (Q40.out.z.2 0 _ rfl).2
          have z1 := (Q40.out.z.2 1 _ rfl).1
          have y1 := (Q40.out.z.2 1 _ rfl).2
          have z2 := (Q40.out.z.2 2 _ rfl).1
          have y2 := (Q40.out.z.2 2 _ rfl).2
          have z3 := (Q40.out.z.2 3 _ rfl).1
          have y3 := (Q40.out.z.2 3 _ rfl).2
          have z4 := (Q40.out.z.2 4 _ rfl).1
          have y4 := (Q40.out.z.2 4 _ rfl).2
          have z5 := (Q40.out.z.2 5 _ rfl).1
          have y5 := (Q40.out.z.2 5 _ rfl).2
          have z6 := (Q40.out.z.2 6 _ rfl).1
          have y6 := (Q40.out.z.2 6 _ rfl).2
          have z7 := (Q40.out.z.2 7 _ rfl).1
          have y7 := (Q40.out.z.2 7 _ rfl).2
          by_cases hx : X = 0
          · have hxb : (X != 0) = false := by rw [bne_eq_false_iff_eq]; exact hx
            by_cases hv : V = s
            · have HRD := Lib.hid (HFR.out.1 hx (by rw [← HVE.out, hv]))
              subst hv
              clear hx
              go_wp2_with fail
              refine bodyPost_ret (v := .tuple #[.agg #[.int .i64 5, .int .i64 T, .int .i64 J, .int .i64 D, .int .i64 A, .int .i64 0, .int .i64 Y, .int .i64 0], .int .i64 0]) (by simp [results, Tryz.results8, go_sem, z0, z1, z2, z3, z4, z5, z6, z7]) rfl ?_
              exact ⟨⟨5, T, J, D, A, 0, Y, 0⟩, 0, rfl, HPE.out _ _ (HRD.out), ((((((((Q40.out.bel.setCell (p := ⟨w.heap.size, 0, none⟩) (Nat.le_refl _) _).setCell (p := ⟨w.heap.size, 1, none⟩) (Nat.le_refl _) _).setCell (p := ⟨w.heap.size, 2, none⟩) (Nat.le_refl _) _).setCell (p := ⟨w.heap.size, 3, none⟩) (Nat.le_refl _) _).setCell (p := ⟨w.heap.size, 4, none⟩) (Nat.le_refl _) _).setCell (p := ⟨w.heap.size, 5, none⟩) (Nat.le_refl _) _).setCell (p := ⟨w.heap.size, 6, none⟩) (Nat.le_refl _) _).setCell (p := ⟨w.heap.size, 7, none⟩) (Nat.le_refl _) _)⟩
            · have hvb : (V.toList == s.toList) = false := by rw [beq_eq_false_iff_ne, ne_eq, Lib.toList_data, Lib.toList_data]; exact fun e => hv (ByteArray.ext (Array.toList_inj.1 e))
              have HRD := Lib.hid (HFR.out.2.2 (by rw [← HVE.out]; exact fun e => hv (ByteArray.ext (Array.toList_inj.1 e))))
              clear hx hv
              go_wp2_with fail
              refine bodyPost_ret (v := .tuple #[.agg #[.int .i64 0, .int .i64 0, .int .i64 0, .int .i64 0, .int .i64 0, .int .i64 0, .int .i64 0, .int .i64 0], .int .i64 10]) (by simp [results, Tryz.results8, go_sem, z0, z1, z2, z3, z4, z5, z6, z7]) rfl ?_
              exact ⟨Lx.evZ, 10, rfl, HPE.out _ _ (HRD.out), ((((((((Q40.out.bel.setCell (p := ⟨w.heap.size, 0, none⟩) (Nat.le_refl _) _).setCell (p := ⟨w.heap.size, 1, none⟩) (Nat.le_refl _) _).setCell (p := ⟨w.heap.size, 2, none⟩) (Nat.le_refl _) _).setCell (p := ⟨w.heap.size, 3, none⟩) (Nat.le_refl _) _).setCell (p := ⟨w.heap.size, 4, none⟩) (Nat.le_refl _) _).setCell (p := ⟨w.heap.size, 5, none⟩) (Nat.le_refl _) _).setCell (p := ⟨w.heap.size, 6, none⟩) (Nat.le_refl _) _).setCell (p := ⟨w.heap.size, 7, none⟩) (Nat.le_refl _) _)⟩
          · have hxb : (X != 0) = true := by rw [bne_iff_ne]; exact hx
            have HRD := Lib.hid (HFR.out.2.1 hx)
            clear hx
            go_wp2_with fail
            refine bodyPost_ret (v := .tuple #[.agg #[.int .i64 0, .int .i64 0, .int .i64 0, .int .i64 0, .int .i64 0, .int .i64 0, .int .i64 0, .int .i64 0], .int .i64 10]) (by simp [results, Tryz.results8, go_sem, z0, z1, z2, z3, z4, z5, z6, z7]) rfl ?_
            exact ⟨Lx.evZ, 10, rfl, HPE.out _ _ (HRD.out), ((((((((Q40.out.bel.setCell (p := ⟨w.heap.size, 0, none⟩) (Nat.le_refl _) _).setCell (p := ⟨w.heap.size, 1, none⟩) (Nat.le_refl _) _).setCell (p := ⟨w.heap.size, 2, none⟩) (Nat.le_refl _) _).setCell (p := ⟨w.heap.size, 3, none⟩) (Nat.le_refl _) _).setCell (p := ⟨w.heap.size, 4, none⟩) (Nat.le_refl _) _).setCell (p := ⟨w.heap.size, 5, none⟩) (Nat.le_refl _) _).setCell (p := ⟨w.heap.size, 6, none⟩) (Nat.le_refl _) _).setCell (p := ⟨w.heap.size, 7, none⟩) (Nat.le_refl _) _)⟩
set_option maxRecDepth 100000 in
set_option maxHeartbeats 3200000 in
theorem r36_parse_7 (s : ByteArray) (ad : Option Addr) (m cap : Nat) (NS : List ByteArray) (w : World) (h : Lx.IsNames w ad m NS) (hz : ∀ x ∈ NS, x.size ≤ maxLen) (hN : Lx.nmErr NS = 0) (hs : s.size ≤ 65536) (h3 : 3 ≤ (Lx.spS s).length) (h6 : (Lx.spS s).length ≤ 6) (hK : Lx.kindOf (Lx.pAt (Lx.bl (Lx.spS s)) 1) = 7) :
    Calls Tryz.prog 8 #[.string s, .slice ad m cap] w (RfPost NS s w) := by
  obtain ⟨i0, hi, hz0, hz1, hz2⟩ := info_parts infoS
  have hNO := (Lx.nmErr_ok NS).1 hN
  have HL := Lib.hid (fun W (b : Below w.heap.size w W) => r36list_any ad m cap NS W (h.below b) hz)
  rw [hN] at HL
  have HS := Lib.hid (fun W => r36split_any s W hs)
  have hPz : ∀ x ∈ Lx.spS s, x.size ≤ 65536 := fun x hx => Nat.le_trans ((Lx.spS_bd s).1 x hx) hs
  obtain ⟨x0, hx0, e0, z0⟩ := Lx.p_at hPz (i := 0) (by omega)
  obtain ⟨x1, hx1, e1, z1⟩ := Lx.p_at hPz (i := 1) (by omega)
  obtain ⟨x2, hx2, e2, z2⟩ := Lx.p_at hPz (i := 2) (by omega)
  obtain ⟨x3, hx3, e3, z3⟩ := Lx.p6_at h3 hPz (i := 3) (by omega)
  obtain ⟨x4, hx4, e4, z4⟩ := Lx.p6_at h3 hPz (i := 4) (by omega)
  obtain ⟨x5, hx5, e5, z5⟩ := Lx.p6_at h3 hPz (i := 5) (by omega)
  have HG := Lib.hid (show Lx.gE NS (Lx.bl (Lx.spS s)) = ⟨7, Lx.rdN x0.data.toList, Lx.ixN NS x2.data.toList, 0, 0, 0, 0, Lx.rdN x3.data.toList⟩ from by
    unfold Lx.gE
    rw [hK, ← e0, ← e2, ← e3, ← e4, ← e5]
    try rfl)
  have HR0 := Lib.hid (fun W => r36read_any x0 W (by omega))
  have HWD := Lib.hid (fun (q : Nat) (hq : q < 9) W => r36word_any q hq W)
  have HWI := Lib.hid (show ∀ q : Nat, 1 ≤ q → q ≤ 8 → (Lx.evWord (q : Nat) = x1.data.toList ↔ (q : Int) = 7) from fun q h1 h8 => Lx.word_is (by rw [e1]; exact hK) h1 h8)
  have HIX := Lib.hid (fun W (b : Below w.heap.size w W) => r36index_any ad m cap NS x2 W (h.below b) (by rw [← h.1]; have := hNO.1; omega))
  have HR3 := Lib.hid (fun W => r36read_any x3 W (by omega))
  obtain ⟨T, hT⟩ : ∃ T : Int, Lx.rdN x0.data.toList = T := ⟨_, rfl⟩
  have hiT : Lx.inR T := by rw [← hT]; exact Lx.rdN_in _
  obtain ⟨J, hJ⟩ : ∃ J : Int, Lx.ixN NS x2.data.toList = J := ⟨_, rfl⟩
  have hiJ : Lx.inR J := by rw [← hJ]; exact Lx.ixN_in hNO.1 _
  obtain ⟨D, hD⟩ : ∃ D : Int, Lx.rdN x3.data.toList = D := ⟨_, rfl⟩
  have hiD : Lx.inR D := by rw [← hD]; exact Lx.rdN_in _
  rw [hT, hJ, hD] at HG
  rw [hT] at HR0
  rw [hJ] at HIX
  rw [hD] at HR3
  have HPR := Lib.hid (fun W (b : Below w.heap.size w W) => r36print_any (⟨7, T, J, 0, 0, 0, 0, D⟩ : Lx.EvV) (by unfold Lx.EvV.In; dsimp only; unfold Lx.inR at *; omega) ad m cap NS W (h.below b) hz)
  have HFR := Lib.hid (Lx.fin_rd hNO (s := s) HG.out)
  have HPE := Lib.hid (fun (o : Lx.EvV) (x : Int) (hr : Lx.ReadsEv NS s.data.toList o x) => (show Lx.ParseEv NS s o x from .inr (.inr ⟨hN, hs, hr⟩)))
  unfold WriteIs at HPR
  obtain ⟨V, hV⟩ : ∃ V : ByteArray, V = ⟨(Lx.prS NS ⟨7, T, J, 0, 0, 0, 0, D⟩).toArray⟩ := ⟨_, rfl⟩
  rw [← hV] at HPR
  have HVE := Lib.hid (show V.data.toList = Lx.prS NS ⟨7, T, J, 0, 0, 0, 0, D⟩ by rw [hV])
  obtain ⟨X, hX⟩ : ∃ X : Int, Lx.prE NS ⟨7, T, J, 0, 0, 0, 0, D⟩ = X := ⟨_, rfl⟩
  rw [hX] at HPR HFR
  unfold Lx.EvV.val at HPR
  dsimp only at HPR
  have HX0 := Lib.hid hx0
  have HX1 := Lib.hid hx1
  have HX2 := Lib.hid hx2
  have HX3 := Lib.hid hx3
  have HX4 := Lib.hid hx4
  have HX5 := Lib.hid hx5
  generalize Lx.spS s = P at *
  obtain ⟨np, hnp⟩ : ∃ np, P.length = np := ⟨_, rfl⟩
  rw [hnp] at h3 h6 HS
  have HNP := Lib.hid hnp
  have n0 : (0 : Int) < (np : Int) := by omega
  have n1 : (1 : Int) < (np : Int) := by omega
  have n2 : (2 : Int) < (np : Int) := by omega
  have n3 : (3 : Int) < (np : Int) + 3 := by omega
  have n4 : (4 : Int) < (np : Int) + 3 := by omega
  have n5 : (5 : Int) < (np : Int) + 3 := by omega
  have b3 : decide ((np : Int) < 3) = false := decide_eq_false (by omega)
  have b6 : decide ((6 : Int) < (np : Int)) = false := decide_eq_false (by omega)
  have bs : decide ((65536 : Int) < (s.size : Int)) = false := decide_eq_false (by omega)
  have hba : Below w.heap.size w (w.alloc (.cells #[.int .i64 0, .int .i64 0, .int .i64 0, .int .i64 0, .int .i64 0, .int .i64 0, .int .i64 0, .int .i64 0] 26)) := (Below.refl _ w).alloc (Nat.le_refl _) _
  have BA := Lib.hid hba
  have ZA := Lib.hid (Lx.EvBox.new w 0 0 0 0 0 0 0 0 26)
  clear h hz hN hNO hPz hK hV hX hnp e0 e1 e2 e3 e4 e5 hx0 hx1 hx2 hx3 hx4 hx5 hs hba HG hT hiT hJ hiJ hD hiD
  go_enter Tryz.func8, Tryz.ntmps8
  go_wp2_with fail
  refine (HL.out _ BA.out).mono ?_
  rintro e w1 ⟨rfl, c1⟩
  have Z1 := Lib.hid (ZA.out.below c1)
  have B1 := Lib.hid (BA.out.trans (c1.mono BA.out.size))
  have hsz1 := c1.size
  rw [World.size_alloc] at hsz1
  have HSZ := Lib.hid hsz1
  clear c1 ZA BA hsz1
  go_wp2_with fail
  refine (HS.out _).mono ?_
  rintro e w2 ⟨v, rfl, hrow, c2⟩
  obtain ⟨g, c, rfl, hgl, -⟩ := Lx.ownPos hrow (by omega)
  have hrow2 := Lx.ownBaseTo hrow HSZ.out
  have q0 : Lx.PQ w ((w2.alloc (.cells #[.int .i64 0, .int .i64 T, .int .i64 0, .int .i64 0, .int .i64 0, .int .i64 0, .int .i64 0, .int .i64 0] 26))) w2.heap.size g c P ⟨0, T, 0, 0, 0, 0, 0, 0⟩ :=
    ⟨(B1.out.trans (c2.mono B1.out.size)).alloc (B1.out.trans (c2.mono B1.out.size)).size _, (Z1.out.below c2).below ((Below.refl _ _).alloc (Nat.le_refl _) _), Lx.EvBox.new _ _ _ _ _ _ _ _ _ _, (by rw [HNP.out]; exact hrow2.alloc _), Nat.lt_of_lt_of_le (Nat.lt_of_lt_of_le (Nat.lt_succ_self _) HSZ.out) c2.size, Nat.ne_of_lt hgl⟩
  have Q0 := Lib.hid q0
  have p0 : w2.cell? ⟨g, 0, none⟩ = some (.string x0) := by
    obtain ⟨g', c', e', _, hc'⟩ := Lx.ownPos hrow (by omega)
    cases e'
    exact hc' 0 _ (by rw [List.getElem?_map, HX0.out]; rfl)
  clear hrow hrow2 c2 hgl q0 Z1 B1 HSZ HS HL
  go_wp2_with fail
  refine (HR0.out _).mono ?_
  rintro e w3 ⟨rfl, rfl⟩
  clear p0 HR0
  go_wp2_with fail
  generalize hE : w2.heap.size = E at *
  clear hE
  go_loopw [9] (fun i wr => ∃ k : Nat, 1 ≤ k ∧ k ≤ 9 ∧ i = .int .i64 k ∧ Lx.PQ w wr E g c P ⟨Lx.kv 7 k, T, 0, 0, 0, 0, 0, 0⟩) (fun i _ => 9 - (intOf i).toNat)
  case atStart => exact ⟨1, Nat.le_refl _, by omega, rfl, by rw [Lx.kv_start]; exact Q0.out⟩
  case round =>
    obtain ⟨k, hk1, hk9, rfl, hq⟩ := hrel
    have Q := Lib.hid hq
    clear hq Q0
    by_cases hlt : k ≤ 8
    · have hki : (k : Int) ≤ 8 := by omega
      have HW1 := Lib.hid (HWD.out k (by omega))
      have HI1 := Lib.hid (HWI.out k hk1 hlt)
      have p1 := Q.out.p HX1.out
      have hgl : g < wr.heap.size := World.block_lt_of_cell? wr _ p1
      obtain ⟨W, hW⟩ : ∃ W : ByteArray, W = ⟨(Lx.evWord (k : Nat)).toArray⟩ := ⟨_, rfl⟩
      rw [← hW] at HW1
      have HWE := Lib.hid (show W.data.toList = Lx.evWord (k : Nat) by rw [hW])
      clear hW
      by_cases hkK : (k : Int) = 7
      · have he : (W.toList == x1.toList) = true := by rw [beq_iff_eq, Lib.toList_data, Lib.toList_data, HWE.out]; exact HI1.out.2 hkK
        have HKV := Lib.hid (Lx.kv_hit hk1 hkK)
        clear hkK
        go_upto_region 13 with (fail)
        go_cut [50] (fun s50 wx => s50 = .bool true ∧ Below wr.heap.size wr wx)
        case first =>
          have HSS := Lib.hid (show ∀ wx, Below wr.heap.size wr wx → Below wr.heap.size wr wx ∧ wx.cell? ⟨g, 1, none⟩ = some (.string x1) from fun wx b => ⟨b, (b.cell (p := ⟨g, 1, none⟩) hgl).trans p1⟩)
          have hS0 := HSS.out wr.drew ((Below.refl _ _).drew)
          clear p1 hgl
          go_region_held3 (fun wx => Below wr.heap.size wr wx ∧ wx.cell? ⟨g, 1, none⟩ = some (.string x1))
            (first | assumption | (refine HSS.out _ ?_; repeat (first | assumption | exact Below.refl _ _ | apply Lx.bDrew | apply Lx.bAlloc)))
            (first
              | (go_at_call 25; with_reducible refine (HW1.out _).mono ?_; rintro e w5 ⟨rfl, cb⟩; have kb2 := Lx.bCall (P := fun wx => wx.cell? ⟨g, 1, none⟩ = some (.string x1)) (by assumption) cb; have hzz := kb2.size; have kS := HSS.out _ kb2; clear cb))
          all_goals (go_wp2_with fail; go_meet)
          all_goals exact ⟨rfl, And.left (by assumption)⟩
        case rest =>
          obtain ⟨rfl, hb⟩ := hcut
          have Q1 := Lib.hid (Q.out.below hb)
          clear hb Q p1 hgl
          have s0 := (Q1.out.e.2 0 _ rfl).1
          have f0 := (Q1.out.e.2 0 _ rfl).2
          go_wp2_with fail
          go_roundw
          case rel => exact ⟨k + 1, by omega, by omega, by go_num, by rw [HKV.out]; exact Q1.out.set (j := 0) (by omega) rfl⟩
          case measure => simp [intOf]; omega
      · have he : (W.toList == x1.toList) = false := by rw [beq_eq_false_iff_ne, Lib.toList_data, Lib.toList_data, HWE.out]; exact fun e => hkK (HI1.out.1 e)
        have HKV := Lib.hid (Lx.kv_miss hkK)
        clear hkK
        go_upto_region 13 with (fail)
        go_cut [50] (fun s50 wx => s50 = .bool false ∧ Below wr.heap.size wr wx)
        case first =>
          have HSS := Lib.hid (show ∀ wx, Below wr.heap.size wr wx → Below wr.heap.size wr wx ∧ wx.cell? ⟨g, 1, none⟩ = some (.string x1) from fun wx b => ⟨b, (b.cell (p := ⟨g, 1, none⟩) hgl).trans p1⟩)
          have hS0 := HSS.out wr.drew ((Below.refl _ _).drew)
          clear p1 hgl
          go_region_held3 (fun wx => Below wr.heap.size wr wx ∧ wx.cell? ⟨g, 1, none⟩ = some (.string x1))
            (first | assumption | (refine HSS.out _ ?_; repeat (first | assumption | exact Below.refl _ _ | apply Lx.bDrew | apply Lx.bAlloc)))
            (first
              | (go_at_call 25; with_reducible refine (HW1.out _).mono ?_; rintro e w5 ⟨rfl, cb⟩; have kb2 := Lx.bCall (P := fun wx => wx.cell? ⟨g, 1, none⟩ = some (.string x1)) (by assumption) cb; have hzz := kb2.size; have kS := HSS.out _ kb2; clear cb))
          all_goals (go_wp2_with fail; go_meet)
          all_goals exact ⟨rfl, And.left (by assumption)⟩
        case rest =>
          obtain ⟨rfl, hb⟩ := hcut
          have Q1 := Lib.hid (Q.out.below hb)
          clear hb Q p1 hgl
          go_wp2_with fail
          go_roundw
          case rel => exact ⟨k + 1, by omega, by omega, by go_num, by rw [HKV.out]; exact Q1.out⟩
          case measure => simp [intOf]; omega
    · obtain rfl : k = 9 := by omega
      rw [show ((9 : Nat) : Int) = 9 from rfl]
      have Q9 := Lib.hid (show Lx.PQ w wr E g c P ⟨7, T, 0, 0, 0, 0, 0, 0⟩ from by have := Q.out; rw [Lx.kv_end (by omega) (by omega)] at this; exact this)
      clear Q HWD HWI hlt hk1 hk9
      obtain ⟨q0, q1, q2, q3, q4, q5, q6, q7⟩ := Q9.out.e.eight
      have p2 := Q9.out.p HX2.out
      go_wp2_with fail
      refine (HIX.out _ Q9.out.bel).mono ?_
      rintro e w4 ⟨rfl, c4⟩
      have Q10 := Lib.hid (Q9.out.below c4)
      clear c4 Q9 HIX p2 q0 q1 q2 q3 q4 q5 q6 q7
      have s0 := (Q10.out.e.2 2 _ rfl).1
      have f0 := (Q10.out.e.2 2 _ rfl).2
      have Q11 := Lib.hid (show Lx.PQ w (w4.setCell ⟨E, 2, none⟩ (.int .i64 J)) E g c P ⟨7, T, J, 0, 0, 0, 0, 0⟩ from Q10.out.set (j := 2) (by omega) rfl)
      have R11 := Lib.hid (show (w4.setCell ⟨E, 2, none⟩ (.int .i64 J)).ownsRow (w.heap.size + 1) 9 1 (.slice (some ⟨g, 0, none⟩) np c) np (P.map Value.string) from by have := Q11.out.row; rw [HNP.out] at this; exact this)
      have hzs : (w4.setCell ⟨E, 2, none⟩ (.int .i64 J)).heap.size = w4.heap.size := Lx.size_set _ _ _
      have hzb : w.heap.size + 1 ≤ w4.heap.size := by have h1 := Q11.out.hE; have h2 := Q10.out.e.1; omega
      have HNW := Lib.hid (show ∀ j u, [Value.string ⟨#[]⟩, Value.string ⟨#[]⟩, Value.string ⟨#[]⟩][j]? = some u → ((w4.setCell ⟨E, 2, none⟩ (.int .i64 J)).alloc (.cells #[.string ⟨#[]⟩, .string ⟨#[]⟩, .string ⟨#[]⟩] 9)).cell? ((⟨w4.heap.size, 0, none⟩ : Addr).add j) = some u from by rw [← hzs]; exact Lx.cellNew3 _ _ _ _ _)
      have hZB := Lib.hid (show w.heap.size + 1 ≤ ((w4.setCell ⟨E, 2, none⟩ (.int .i64 J)).alloc (.cells #[.string ⟨#[]⟩, .string ⟨#[]⟩, .string ⟨#[]⟩] 9)).heap.size from by rw [World.size_alloc, hzs]; omega)
      have HH := Lib.hid (show ((w4.setCell ⟨E, 2, none⟩ (.int .i64 J)).alloc (.cells #[.string ⟨#[]⟩, .string ⟨#[]⟩, .string ⟨#[]⟩] 9)).heap.size = w4.heap.size + 1 from by rw [World.size_alloc, hzs])
      clear Q10 hzs hzb
      go_wp2_with (at_builtin; refine wpList_append_lies _ rfl _ _ 22 rfl (w.heap.size + 1) 9 i0 _ 1 16 Tryz.underlying22 hi hz0 hz1 hz2 rfl (by decide) _ _ _ rfl (R11.out.alloc _) ⟨w4.heap.size, 0, none⟩ 3 3 [.string ⟨#[]⟩, .string ⟨#[]⟩, .string ⟨#[]⟩] rfl rfl HNW.out (by simp [Value.oneCell']) (by omega) (by unfold maxLen; omega) (by omega) hZB.out _ rfl ?_)
      intro g6 c6 w6 hown6 hgrow hat hlt6
      have Q12 := Lib.hid (show Lx.PQ w w6 E g6 c6 (P ++ [⟨#[]⟩, ⟨#[]⟩, ⟨#[]⟩]) ⟨7, T, J, 0, 0, 0, 0, 0⟩ from Q11.out.grow (.cells #[.string ⟨#[]⟩, .string ⟨#[]⟩, .string ⟨#[]⟩] 9) (T := [⟨#[]⟩, ⟨#[]⟩, ⟨#[]⟩]) (n := np + 3) (by rw [List.length_append, HNP.out]; rfl) hgrow hown6 (by rw [HH.out]; exact hat))
      clear hown6 hgrow hat hlt6 Q11 R11 HNW hZB HH s0 f0
      generalize P ++ [⟨#[]⟩, ⟨#[]⟩, ⟨#[]⟩] = P6 at *
      obtain ⟨q0, q1, q2, q3, q4, q5, q6, q7⟩ := Q12.out.e.eight
      go_wp2_with fail
      clear q0 q1 q2 q3 q4 q5 q6 q7
      go_loopw [10] (fun i wr2 => i = .int .i64 1 ∧ Lx.PQ w wr2 E g6 c6 P6 ⟨7, T, J, 0, 0, 0, 0, 0⟩) (fun _ _ => 0)
      case atStart => exact ⟨rfl, Q12.out⟩
      case round =>
        obtain ⟨rfl, hq⟩ := hrel
        obtain ⟨wr2, hwr2⟩ : ∃ W, W = wr := ⟨_, rfl⟩
        rw [← hwr2] at hq
        rw [← hwr2]
        have Q30 := Lib.hid hq
        clear hq hwr2 Q12
        obtain ⟨q0, q1, q2, q3, q4, q5, q6, q7⟩ := Q30.out.e.eight
        have p9 := Q30.out.p HX3.out
        go_wp2_with fail
        refine (HR3.out _).mono ?_
        rintro e w60 ⟨rfl, rfl⟩
        have fz30 := (Q30.out.e.2 7 _ rfl).2
        have sj30 := (Q30.out.e.2 7 _ rfl).1
        have Q31 := Lib.hid (show Lx.PQ w (wr2.setCell ⟨E, 7, none⟩ (.int .i64 D)) E g6 c6 P6 ⟨7, T, J, 0, 0, 0, 0, D⟩ from Q30.out.set (j := 7) (by omega) rfl)
        clear p9 Q30 q0 q1 q2 q3 q4 q5 q6 q7
        obtain ⟨q0, q1, q2, q3, q4, q5, q6, q7⟩ := Q31.out.e.eight
        go_wp2_with fail
        refine (HPR.out _ Q31.out.bel).mono ?_
        rintro e w9 ⟨rfl, c9⟩
        have Q40 := Lib.hid (Q31.out.below c9)
        clear c9 Q31 fz30 sj30 q0 q1 q2 q3 q4 q5 q6 q7
        obtain ⟨q0, q1, q2, q3, q4, q5, q6, q7⟩ := Q40.out.e.eight
        have z0 := (Q40.out.z.2 0 _ rfl).1
        have y0 := (Q40.out.z.2 0 _ rfl).2
        have z1 := (Q40.out.z.2 1 _ rfl).1
        have y1 := (Q40.out.z.2 1 _ rfl).2
        have z2 := (Q40.out.z.2 2 _ rfl).1
        have y2 := (Q40.out.z.2 2 _ rfl).2
        have z3 := (Q40.out.z.2 3 _ rfl).1
        have y3 := (Q40.out.z.2 3 _ rfl).2
        have z4 := (Q40.out.z.2 4 _ rfl).1
        have y4 := (Q40.out.z.2 4 _ rfl).2
        have z5 := (Q40.out.z.2 5 _ rfl).1
        have y5 := (Q40.out.z.2 5 _ rfl).2
        have z6 := (Q40.out.z.2 6 _ rfl).1
        have y6 := (Q40.out.z.2 6 _ rfl).2
        have z7 := (Q40.out.z.2 7 _ rfl).1
        have y7 := (Q40.out.z.2 7 _ rfl).2
        by_cases hx : X = 0
        · have hxb : (X != 0) = false := by rw [bne_eq_false_iff_eq]; exact hx
          by_cases hv : V = s
          · have HRD := Lib.hid (HFR.out.1 hx (by rw [← HVE.out, hv]))
            subst hv
            clear hx
            go_wp2_with fail
            refine bodyPost_ret (v := .tuple #[.agg #[.int .i64 7, .int .i64 T, .int .i64 J, .int .i64 0, .int .i64 0, .int .i64 0, .int .i64 0, .int .i64 D], .int .i64 0]) (by simp [results, Tryz.results8, go_sem, z0, z1, z2, z3, z4, z5, z6, z7]) rfl ?_
            exact ⟨⟨7, T, J, 0, 0, 0, 0, D⟩, 0, rfl, HPE.out _ _ (HRD.out), ((((((((Q40.out.bel.setCell (p := ⟨w.heap.size, 0, none⟩) (Nat.le_refl _) _).setCell (p := ⟨w.heap.size, 1, none⟩) (Nat.le_refl _) _).setCell (p := ⟨w.heap.size, 2, none⟩) (Nat.le_refl _) _).setCell (p := ⟨w.heap.size, 3, none⟩) (Nat.le_refl _) _).setCell (p := ⟨w.heap.size, 4, none⟩) (Nat.le_refl _) _).setCell (p := ⟨w.heap.size, 5, none⟩) (Nat.le_refl _) _).setCell (p := ⟨w.heap.size, 6, none⟩) (Nat.le_refl _) _).setCell (p := ⟨w.heap.size, 7, none⟩) (Nat.le_refl _) _)⟩
          · have hvb : (V.toList == s.toList) = false := by rw [beq_eq_false_iff_ne, ne_eq, Lib.toList_data, Lib.toList_data]; exact fun e => hv (ByteArray.ext (Array.toList_inj.1 e))
            have HRD := Lib.hid (HFR.out.2.2 (by rw [← HVE.out]; exact fun e => hv (ByteArray.ext (Array.toList_inj.1 e))))
            clear hx hv
            go_wp2_with fail
            refine bodyPost_ret (v := .tuple #[.agg #[.int .i64 0, .int .i64 0, .int .i64 0, .int .i64 0, .int .i64 0, .int .i64 0, .int .i64 0, .int .i64 0], .int .i64 10]) (by simp [results, Tryz.results8, go_sem, z0, z1, z2, z3, z4, z5, z6, z7]) rfl ?_
            exact ⟨Lx.evZ, 10, rfl, HPE.out _ _ (HRD.out), ((((((((Q40.out.bel.setCell (p := ⟨w.heap.size, 0, none⟩) (Nat.le_refl _) _).setCell (p := ⟨w.heap.size, 1, none⟩) (Nat.le_refl _) _).setCell (p := ⟨w.heap.size, 2, none⟩) (Nat.le_refl _) _).setCell (p := ⟨w.heap.size, 3, none⟩) (Nat.le_refl _) _).setCell (p := ⟨w.heap.size, 4, none⟩) (Nat.le_refl _) _).setCell (p := ⟨w.heap.size, 5, none⟩) (Nat.le_refl _) _).setCell (p := ⟨w.heap.size, 6, none⟩) (Nat.le_refl _) _).setCell (p := ⟨w.heap.size, 7, none⟩) (Nat.le_refl _) _)⟩
        · have hxb : (X != 0) = true := by rw [bne_iff_ne]; exact hx
          have HRD := Lib.hid (HFR.out.2.1 hx)
          clear hx
          go_wp2_with fail
          refine bodyPost_ret (v := .tuple #[.agg #[.int .i64 0, .int .i64 0, .int .i64 0, .int .i64 0, .int .i64 0, .int .i64 0, .int .i64 0, .int .i64 0], .int .i64 10]) (by simp [results, Tryz.results8, go_sem, z0, z1, z2, z3, z4, z5, z6, z7]) rfl ?_
          exact ⟨Lx.evZ, 10, rfl, HPE.out _ _ (HRD.out), ((((((((Q40.out.bel.setCell (p := ⟨w.heap.size, 0, none⟩) (Nat.le_refl _) _).setCell (p := ⟨w.heap.size, 1, none⟩) (Nat.le_refl _) _).setCell (p := ⟨w.heap.size, 2, none⟩) (Nat.le_refl _) _).setCell (p := ⟨w.heap.size, 3, none⟩) (Nat.le_refl _) _).setCell (p := ⟨w.heap.size, 4, none⟩) (Nat.le_refl _) _).setCell (p := ⟨w.heap.size, 5, none⟩) (Nat.le_refl _) _).setCell (p := ⟨w.heap.size, 6, none⟩) (Nat.le_refl _) _).setCell (p := ⟨w.heap.size, 7, none⟩) (Nat.le_refl _) _)⟩
end Go.Proofs.YtmpcekpdnikghaaGreatDoor
namespace Go.Proofs.YtmpcekpdnikghaaGreatDoor
open Go.RowKit

set_option maxRecDepth 100000 in
theorem r36_parse_nm (s : ByteArray) (ad : Option Addr) (m cap : Nat) (NS : List ByteArray) (w : World) (h : Lx.IsNames w ad m NS) (hz : ∀ x ∈ NS, x.size ≤ maxLen) (hN : Lx.nmErr NS ≠ 0) :
    Calls Tryz.prog 8 #[.string s, .slice ad m cap] w (RfPost NS s w) := by
  have HL := Lib.hid (fun W (b : Below w.heap.size w W) => r36list_any ad m cap NS W (h.below b) hz)
  obtain ⟨x, hx⟩ : ∃ x, Lx.nmErr NS = x := ⟨_, rfl⟩
  rw [hx] at HL hN
  have HF := Lib.hid (show Lx.ParseEv NS s Lx.evZ x from .inl ⟨by rw [hx]; exact hN, rfl, hx.symm⟩)
  have e1 : (x == 0) = false := by rw [beq_eq_false_iff_ne]; exact hN
  have e2 : (x != 0) = true := by rw [bne_iff_ne]; exact hN
  have hba : Below w.heap.size w (w.alloc (.cells #[.int .i64 0, .int .i64 0, .int .i64 0, .int .i64 0, .int .i64 0, .int .i64 0, .int .i64 0, .int .i64 0] 26)) := (Below.refl _ w).alloc (Nat.le_refl _) _
  have BA := Lib.hid hba
  have ZA := Lib.hid (Lx.EvBox.new w 0 0 0 0 0 0 0 0 26)
  clear h hz hba hx hN
  go_enter Tryz.func8, Tryz.ntmps8
  go_wp2_with fail
  refine (HL.out _ BA.out).mono ?_
  rintro e w1 ⟨rfl, c1⟩
  have Z1 := Lib.hid (ZA.out.below c1)
  have B1 := Lib.hid (BA.out.trans (c1.mono BA.out.size))
  clear c1 ZA BA HL
  have z0 := (Z1.out.2 0 _ rfl).1
  have y0 := (Z1.out.2 0 _ rfl).2
  have z1 := (Z1.out.2 1 _ rfl).1
  have y1 := (Z1.out.2 1 _ rfl).2
  have z2 := (Z1.out.2 2 _ rfl).1
  have y2 := (Z1.out.2 2 _ rfl).2
  have z3 := (Z1.out.2 3 _ rfl).1
  have y3 := (Z1.out.2 3 _ rfl).2
  have z4 := (Z1.out.2 4 _ rfl).1
  have y4 := (Z1.out.2 4 _ rfl).2
  have z5 := (Z1.out.2 5 _ rfl).1
  have y5 := (Z1.out.2 5 _ rfl).2
  have z6 := (Z1.out.2 6 _ rfl).1
  have y6 := (Z1.out.2 6 _ rfl).2
  have z7 := (Z1.out.2 7 _ rfl).1
  have y7 := (Z1.out.2 7 _ rfl).2
  go_wp2_with fail
  refine bodyPost_ret (v := .tuple #[.agg #[.int .i64 0, .int .i64 0, .int .i64 0, .int .i64 0, .int .i64 0, .int .i64 0, .int .i64 0, .int .i64 0], .int .i64 x]) (by simp [results, Tryz.results8, go_sem, z0, z1, z2, z3, z4, z5, z6, z7]) rfl ?_
  exact ⟨Lx.evZ, x, rfl, HF.out, ((((((((B1.out.setCell (p := ⟨w.heap.size, 0, none⟩) (Nat.le_refl _) _).setCell (p := ⟨w.heap.size, 1, none⟩) (Nat.le_refl _) _).setCell (p := ⟨w.heap.size, 2, none⟩) (Nat.le_refl _) _).setCell (p := ⟨w.heap.size, 3, none⟩) (Nat.le_refl _) _).setCell (p := ⟨w.heap.size, 4, none⟩) (Nat.le_refl _) _).setCell (p := ⟨w.heap.size, 5, none⟩) (Nat.le_refl _) _).setCell (p := ⟨w.heap.size, 6, none⟩) (Nat.le_refl _) _).setCell (p := ⟨w.heap.size, 7, none⟩) (Nat.le_refl _) _)⟩
set_option maxRecDepth 100000 in
theorem r36_parse_long (s : ByteArray) (ad : Option Addr) (m cap : Nat) (NS : List ByteArray) (w : World) (h : Lx.IsNames w ad m NS) (hz : ∀ x ∈ NS, x.size ≤ maxLen) (hN : Lx.nmErr NS = 0) (hs : 65536 < s.size) :
    Calls Tryz.prog 8 #[.string s, .slice ad m cap] w (RfPost NS s w) := by
  have HL := Lib.hid (fun W (b : Below w.heap.size w W) => r36list_any ad m cap NS W (h.below b) hz)
  have HF := Lib.hid (show Lx.ParseEv NS s Lx.evZ 11 from .inr (.inl ⟨hN, hs, rfl, rfl⟩))
  rw [hN] at HL
  have hsi : (65536 : Int) < (s.size : Int) := by omega
  have hba : Below w.heap.size w (w.alloc (.cells #[.int .i64 0, .int .i64 0, .int .i64 0, .int .i64 0, .int .i64 0, .int .i64 0, .int .i64 0, .int .i64 0] 26)) := (Below.refl _ w).alloc (Nat.le_refl _) _
  have BA := Lib.hid hba
  have ZA := Lib.hid (Lx.EvBox.new w 0 0 0 0 0 0 0 0 26)
  clear h hz hba hN
  go_enter Tryz.func8, Tryz.ntmps8
  go_wp2_with fail
  refine (HL.out _ BA.out).mono ?_
  rintro e w1 ⟨rfl, c1⟩
  have Z1 := Lib.hid (ZA.out.below c1)
  have B1 := Lib.hid (BA.out.trans (c1.mono BA.out.size))
  clear c1 ZA BA HL
  have z0 := (Z1.out.2 0 _ rfl).1
  have y0 := (Z1.out.2 0 _ rfl).2
  have z1 := (Z1.out.2 1 _ rfl).1
  have y1 := (Z1.out.2 1 _ rfl).2
  have z2 := (Z1.out.2 2 _ rfl).1
  have y2 := (Z1.out.2 2 _ rfl).2
  have z3 := (Z1.out.2 3 _ rfl).1
  have y3 := (Z1.out.2 3 _ rfl).2
  have z4 := (Z1.out.2 4 _ rfl).1
  have y4 := (Z1.out.2 4 _ rfl).2
  have z5 := (Z1.out.2 5 _ rfl).1
  have y5 := (Z1.out.2 5 _ rfl).2
  have z6 := (Z1.out.2 6 _ rfl).1
  have y6 := (Z1.out.2 6 _ rfl).2
  have z7 := (Z1.out.2 7 _ rfl).1
  have y7 := (Z1.out.2 7 _ rfl).2
  go_wp2_with fail
  refine bodyPost_ret (v := .tuple #[.agg #[.int .i64 0, .int .i64 0, .int .i64 0, .int .i64 0, .int .i64 0, .int .i64 0, .int .i64 0, .int .i64 0], .int .i64 11]) (by simp [results, Tryz.results8, go_sem, z0, z1, z2, z3, z4, z5, z6, z7]) rfl ?_
  exact ⟨Lx.evZ, 11, rfl, HF.out, ((((((((B1.out.setCell (p := ⟨w.heap.size, 0, none⟩) (Nat.le_refl _) _).setCell (p := ⟨w.heap.size, 1, none⟩) (Nat.le_refl _) _).setCell (p := ⟨w.heap.size, 2, none⟩) (Nat.le_refl _) _).setCell (p := ⟨w.heap.size, 3, none⟩) (Nat.le_refl _) _).setCell (p := ⟨w.heap.size, 4, none⟩) (Nat.le_refl _) _).setCell (p := ⟨w.heap.size, 5, none⟩) (Nat.le_refl _) _).setCell (p := ⟨w.heap.size, 6, none⟩) (Nat.le_refl _) _).setCell (p := ⟨w.heap.size, 7, none⟩) (Nat.le_refl _) _)⟩
set_option maxRecDepth 100000 in
theorem r36_parse_few (s : ByteArray) (ad : Option Addr) (m cap : Nat) (NS : List ByteArray) (w : World) (h : Lx.IsNames w ad m NS) (hz : ∀ x ∈ NS, x.size ≤ maxLen) (hN : Lx.nmErr NS = 0) (hs : s.size ≤ 65536) (hc : (Lx.spS s).length < 3) :
    Calls Tryz.prog 8 #[.string s, .slice ad m cap] w (RfPost NS s w) := by
  have HL := Lib.hid (fun W (b : Below w.heap.size w W) => r36list_any ad m cap NS W (h.below b) hz)
  have HF := Lib.hid (show Lx.ParseEv NS s Lx.evZ 10 from .inr (.inr ⟨hN, hs, Lx.len_bad ((Lx.nmErr_ok NS).1 hN) (.inl hc)⟩))
  rw [hN] at HL
  have HS := Lib.hid (fun W => r36split_any s W hs)
  have hnb : (Lx.spS s).length ≤ 65537 := by have := (Lx.spS_bd s).2; omega
  generalize Lx.spS s = P at *
  obtain ⟨np, hnp⟩ : ∃ np, P.length = np := ⟨_, rfl⟩
  rw [hnp] at hc HS hnb
  have b3 : (np : Int) < 3 := by omega
  have bs : decide ((65536 : Int) < (s.size : Int)) = false := decide_eq_false (by omega)
  have hnb2 : (np : Int) ≤ 65537 := by omega
  have hba : Below w.heap.size w (w.alloc (.cells #[.int .i64 0, .int .i64 0, .int .i64 0, .int .i64 0, .int .i64 0, .int .i64 0, .int .i64 0, .int .i64 0] 26)) := (Below.refl _ w).alloc (Nat.le_refl _) _
  have BA := Lib.hid hba
  have ZA := Lib.hid (Lx.EvBox.new w 0 0 0 0 0 0 0 0 26)
  clear h hz hba hN hs hnp
  go_enter Tryz.func8, Tryz.ntmps8
  go_wp2_with fail
  refine (HL.out _ BA.out).mono ?_
  rintro e w1 ⟨rfl, c1⟩
  have Z0 := Lib.hid (ZA.out.below c1)
  have B0 := Lib.hid (BA.out.trans (c1.mono BA.out.size))
  clear c1 ZA BA HL
  go_wp2_with fail
  refine (HS.out _).mono ?_
  rintro e w2 ⟨v, rfl, hrow, c2⟩
  obtain ⟨ad2, c2', rfl⟩ := Lx.ownSlice hrow
  have Z1 := Lib.hid (Z0.out.below c2)
  have B1 := Lib.hid (B0.out.trans (c2.mono B0.out.size))
  clear c2 Z0 B0 HS hrow
  have z0 := (Z1.out.2 0 _ rfl).1
  have y0 := (Z1.out.2 0 _ rfl).2
  have z1 := (Z1.out.2 1 _ rfl).1
  have y1 := (Z1.out.2 1 _ rfl).2
  have z2 := (Z1.out.2 2 _ rfl).1
  have y2 := (Z1.out.2 2 _ rfl).2
  have z3 := (Z1.out.2 3 _ rfl).1
  have y3 := (Z1.out.2 3 _ rfl).2
  have z4 := (Z1.out.2 4 _ rfl).1
  have y4 := (Z1.out.2 4 _ rfl).2
  have z5 := (Z1.out.2 5 _ rfl).1
  have y5 := (Z1.out.2 5 _ rfl).2
  have z6 := (Z1.out.2 6 _ rfl).1
  have y6 := (Z1.out.2 6 _ rfl).2
  have z7 := (Z1.out.2 7 _ rfl).1
  have y7 := (Z1.out.2 7 _ rfl).2
  go_wp2_with fail
  refine bodyPost_ret (v := .tuple #[.agg #[.int .i64 0, .int .i64 0, .int .i64 0, .int .i64 0, .int .i64 0, .int .i64 0, .int .i64 0, .int .i64 0], .int .i64 10]) (by simp [results, Tryz.results8, go_sem, z0, z1, z2, z3, z4, z5, z6, z7]) rfl ?_
  exact ⟨Lx.evZ, 10, rfl, HF.out, ((((((((B1.out.setCell (p := ⟨w.heap.size, 0, none⟩) (Nat.le_refl _) _).setCell (p := ⟨w.heap.size, 1, none⟩) (Nat.le_refl _) _).setCell (p := ⟨w.heap.size, 2, none⟩) (Nat.le_refl _) _).setCell (p := ⟨w.heap.size, 3, none⟩) (Nat.le_refl _) _).setCell (p := ⟨w.heap.size, 4, none⟩) (Nat.le_refl _) _).setCell (p := ⟨w.heap.size, 5, none⟩) (Nat.le_refl _) _).setCell (p := ⟨w.heap.size, 6, none⟩) (Nat.le_refl _) _).setCell (p := ⟨w.heap.size, 7, none⟩) (Nat.le_refl _) _)⟩
set_option maxRecDepth 100000 in
theorem r36_parse_many (s : ByteArray) (ad : Option Addr) (m cap : Nat) (NS : List ByteArray) (w : World) (h : Lx.IsNames w ad m NS) (hz : ∀ x ∈ NS, x.size ≤ maxLen) (hN : Lx.nmErr NS = 0) (hs : s.size ≤ 65536) (hc : 6 < (Lx.spS s).length) :
    Calls Tryz.prog 8 #[.string s, .slice ad m cap] w (RfPost NS s w) := by
  have HL := Lib.hid (fun W (b : Below w.heap.size w W) => r36list_any ad m cap NS W (h.below b) hz)
  have HF := Lib.hid (show Lx.ParseEv NS s Lx.evZ 10 from .inr (.inr ⟨hN, hs, Lx.len_bad ((Lx.nmErr_ok NS).1 hN) (.inr hc)⟩))
  rw [hN] at HL
  have HS := Lib.hid (fun W => r36split_any s W hs)
  have hnb : (Lx.spS s).length ≤ 65537 := by have := (Lx.spS_bd s).2; omega
  generalize Lx.spS s = P at *
  obtain ⟨np, hnp⟩ : ∃ np, P.length = np := ⟨_, rfl⟩
  rw [hnp] at hc HS hnb
  have b3 : decide ((np : Int) < 3) = false := decide_eq_false (by omega)
  have b6 : (6 : Int) < (np : Int) := by omega
  have bs : decide ((65536 : Int) < (s.size : Int)) = false := decide_eq_false (by omega)
  have hnb2 : (np : Int) ≤ 65537 := by omega
  have hba : Below w.heap.size w (w.alloc (.cells #[.int .i64 0, .int .i64 0, .int .i64 0, .int .i64 0, .int .i64 0, .int .i64 0, .int .i64 0, .int .i64 0] 26)) := (Below.refl _ w).alloc (Nat.le_refl _) _
  have BA := Lib.hid hba
  have ZA := Lib.hid (Lx.EvBox.new w 0 0 0 0 0 0 0 0 26)
  clear h hz hba hN hs hnp
  go_enter Tryz.func8, Tryz.ntmps8
  go_wp2_with fail
  refine (HL.out _ BA.out).mono ?_
  rintro e w1 ⟨rfl, c1⟩
  have Z0 := Lib.hid (ZA.out.below c1)
  have B0 := Lib.hid (BA.out.trans (c1.mono BA.out.size))
  clear c1 ZA BA HL
  go_wp2_with fail
  refine (HS.out _).mono ?_
  rintro e w2 ⟨v, rfl, hrow, c2⟩
  obtain ⟨ad2, c2', rfl⟩ := Lx.ownSlice hrow
  have Z1 := Lib.hid (Z0.out.below c2)
  have B1 := Lib.hid (B0.out.trans (c2.mono B0.out.size))
  clear c2 Z0 B0 HS hrow
  have z0 := (Z1.out.2 0 _ rfl).1
  have y0 := (Z1.out.2 0 _ rfl).2
  have z1 := (Z1.out.2 1 _ rfl).1
  have y1 := (Z1.out.2 1 _ rfl).2
  have z2 := (Z1.out.2 2 _ rfl).1
  have y2 := (Z1.out.2 2 _ rfl).2
  have z3 := (Z1.out.2 3 _ rfl).1
  have y3 := (Z1.out.2 3 _ rfl).2
  have z4 := (Z1.out.2 4 _ rfl).1
  have y4 := (Z1.out.2 4 _ rfl).2
  have z5 := (Z1.out.2 5 _ rfl).1
  have y5 := (Z1.out.2 5 _ rfl).2
  have z6 := (Z1.out.2 6 _ rfl).1
  have y6 := (Z1.out.2 6 _ rfl).2
  have z7 := (Z1.out.2 7 _ rfl).1
  have y7 := (Z1.out.2 7 _ rfl).2
  go_wp2_with fail
  refine bodyPost_ret (v := .tuple #[.agg #[.int .i64 0, .int .i64 0, .int .i64 0, .int .i64 0, .int .i64 0, .int .i64 0, .int .i64 0, .int .i64 0], .int .i64 10]) (by simp [results, Tryz.results8, go_sem, z0, z1, z2, z3, z4, z5, z6, z7]) rfl ?_
  exact ⟨Lx.evZ, 10, rfl, HF.out, ((((((((B1.out.setCell (p := ⟨w.heap.size, 0, none⟩) (Nat.le_refl _) _).setCell (p := ⟨w.heap.size, 1, none⟩) (Nat.le_refl _) _).setCell (p := ⟨w.heap.size, 2, none⟩) (Nat.le_refl _) _).setCell (p := ⟨w.heap.size, 3, none⟩) (Nat.le_refl _) _).setCell (p := ⟨w.heap.size, 4, none⟩) (Nat.le_refl _) _).setCell (p := ⟨w.heap.size, 5, none⟩) (Nat.le_refl _) _).setCell (p := ⟨w.heap.size, 6, none⟩) (Nat.le_refl _) _).setCell (p := ⟨w.heap.size, 7, none⟩) (Nat.le_refl _) _)⟩
theorem r36parse_any (s : ByteArray) (ad : Option Addr) (m cap : Nat) (NS : List ByteArray) (w : World) (h : Lx.IsNames w ad m NS) (hz : ∀ x ∈ NS, x.size ≤ maxLen) :
    Calls Tryz.prog 8 #[.string s, .slice ad m cap] w (RfPost NS s w) := by
  by_cases hN : Lx.nmErr NS = 0
  · by_cases hs : s.size ≤ 65536
    · by_cases h3 : 3 ≤ (Lx.spS s).length
      · by_cases h6 : (Lx.spS s).length ≤ 6
        · have hb := Lx.kindOf_bd (Lx.pAt (Lx.bl (Lx.spS s)) 1)
          obtain ⟨K, hK⟩ : ∃ K, Lx.kindOf (Lx.pAt (Lx.bl (Lx.spS s)) 1) = K := ⟨_, rfl⟩
          rw [hK] at hb
          by_cases hk : K ≤ 3
          · obtain ⟨q, rfl⟩ : ∃ q : Nat, K = q := ⟨K.toNat, by omega⟩
            exact r36_parse_3 q s ad m cap NS w h hz hN hs h3 h6 hK (by omega)
          · obtain rfl | rfl | rfl | rfl | rfl : K = 4 ∨ K = 5 ∨ K = 6 ∨ K = 7 ∨ K = 8 := by omega
            · exact r36_parse_4 s ad m cap NS w h hz hN hs h3 h6 hK
            · exact r36_parse_5 s ad m cap NS w h hz hN hs h3 h6 hK
            · exact r36_parse_6 s ad m cap NS w h hz hN hs h3 h6 hK
            · exact r36_parse_7 s ad m cap NS w h hz hN hs h3 h6 hK
            · exact r36_parse_8 s ad m cap NS w h hz hN hs h3 h6 hK
        · exact r36_parse_many s ad m cap NS w h hz hN hs (by omega)
      · exact r36_parse_few s ad m cap NS w h hz hN hs (by omega)
    · exact r36_parse_long s ad m cap NS w h hz hN (by omega)
  · exact r36_parse_nm s ad m cap NS w h hz hN
namespace Lx
theorem refTo_step (s : ByteArray) (k : Nat) (h : k ≤ s.size) : ∃ B, refTo s (k + 1) = refTo s k ++ B := by
  by_cases hlt : k < s.size
  · rw [refTo_in s k h, refTo_in s (k + 1) hlt]
    by_cases hc : isLF s[k] = true
    · rw [(from_hit s isLF k hlt hc).2]; exact ⟨_, rfl⟩
    · rw [(from_miss s isLF k hlt (by simpa using hc)).2]; exact ⟨[], by simp⟩
  · obtain rfl : k = s.size := by omega
    by_cases hl : fromAt s isLF s.size < s.size
    · rw [refTo_last s hl]; exact ⟨_, rfl⟩
    · rw [refTo_none s hl]; exact ⟨[], by simp⟩
theorem refTo_pre (s : ByteArray) : ∀ (d k : Nat), k + d = s.size + 1 → ∃ B, refTo s (s.size + 1) = refTo s k ++ B
  | 0, k, h => ⟨[], by rw [← h]; simp⟩
  | d + 1, k, h => by
    obtain ⟨B, hB⟩ := refTo_step s k (by omega)
    obtain ⟨C, hC⟩ := refTo_pre s d (k + 1) (by omega)
    exact ⟨B ++ C, by rw [hC, hB, List.append_assoc]⟩
theorem txL_ref (s : ByteArray) : txL s = (refTo s (s.size + 1)).map (·.2) := by rw [refTo_out]; rfl
/-- A line that is none is told by its number. -/
theorem allEv_bad {NS : List ByteArray} {s : ByteArray} {k f : Nat} {line : ByteArray} {out : List EvV} (hk : k ≤ s.size) (hr : refTo s (k + 1) = refTo s k ++ [(f, line)]) (hl : LinesEv NS ((refTo s k).map (·.2)) out) (hb : ReadsEv NS line.data.toList evZ 10) :
    AllEv NS (txL s) [] (((refTo s k).length : Int) + 1) 10 := by
  obtain ⟨B, hB⟩ := refTo_pre s (s.size - k) (k + 1) (by omega)
  have e : txL s = (refTo s k).map (·.2) ++ (line :: B.map (·.2)) := by rw [txL_ref, hB, hr]; simp
  refine .inr ⟨rfl, rfl, (refTo s k).length, line, out, ?_, rfl, hb, ?_⟩
  · rw [e, List.getElem?_append_right (by simp)]; simp
  · rw [e, List.take_left' (by simp)]; exact hl
end Lx
theorem r36_parseAll_nm (s : ByteArray) (ad : Option Addr) (m cap : Nat) (NS : List ByteArray) (w : World) (h : Lx.IsNames w ad m NS) (hz : ∀ x ∈ NS, x.size ≤ maxLen) (hN : Lx.nmErr NS ≠ 0) :
    Calls Tryz.prog 10 #[.string s, .slice ad m cap] w (AllPostE NS s w) := by
  have HL := Lib.hid (r36list_any ad m cap NS w h hz)
  have HNN := Lib.hid hN
  obtain ⟨x, hx⟩ : ∃ x, Lx.nmErr NS = x := ⟨_, rfl⟩
  rw [hx] at HL hN
  have HX := Lib.hid hx
  have e1 : (x == 0) = false := by rw [beq_eq_false_iff_ne]; exact hN
  have e2 : (x != 0) = true := by rw [bne_iff_ne]; exact hN
  clear h hz hx hN
  go_enter Tryz.func10, Tryz.ntmps10
  go_wp2_with fail
  refine HL.out.mono ?_
  rintro e w1 ⟨rfl, c1⟩
  go_wp2_with fail
  go_ret3
  exact ⟨_, [], 0, x, rfl, .inl ⟨HNN.out, rfl, rfl, HX.out.symm⟩, World.ownsRow_nil _ _ _ _, c1⟩
theorem r36_parseAll_long (s : ByteArray) (ad : Option Addr) (m cap : Nat) (NS : List ByteArray) (w : World) (h : Lx.IsNames w ad m NS) (hz : ∀ x ∈ NS, x.size ≤ maxLen) (hN : Lx.nmErr NS = 0) (hs : 65536 < s.size) :
    Calls Tryz.prog 10 #[.string s, .slice ad m cap] w (AllPostE NS s w) := by
  have HL := Lib.hid (r36list_any ad m cap NS w h hz)
  have HNN := Lib.hid hN
  rw [hN] at HL
  have hsi : (65536 : Int) < (s.size : Int) := by omega
  have HSS := Lib.hid hs
  clear h hz hN hs
  go_enter Tryz.func10, Tryz.ntmps10
  go_wp2_with fail
  refine HL.out.mono ?_
  rintro e w1 ⟨rfl, c1⟩
  go_wp2_with fail
  go_ret3
  exact ⟨_, [], 0, 11, rfl, .inr (.inl ⟨HNN.out, HSS.out, rfl, rfl, rfl⟩), World.ownsRow_nil _ _ _ _, c1⟩
set_option maxRecDepth 100000 in
set_option maxHeartbeats 3200000 in
theorem r36_parseAll_in (s : ByteArray) (ad : Option Addr) (m cap : Nat) (NS : List ByteArray) (w : World) (h : Lx.IsNames w ad m NS) (hz : ∀ x ∈ NS, x.size ≤ maxLen) (hN : Lx.nmErr NS = 0) (hs : s.size ≤ 65536) :
    Calls Tryz.prog 10 #[.string s, .slice ad m cap] w (AllPostE NS s w) := by
  obtain ⟨i0, hi, hz0, hz1, hz2⟩ := info_parts infoEv
  have HL := Lib.hid (r36list_any ad m cap NS w h hz)
  rw [hN] at HL
  have HP := Lib.hid (fun (x : ByteArray) W (b : Below w.heap.size w W) => r36parse_any x ad m cap NS W (h.below b) hz)
  unfold RfPost at HP
  have HPA := Lib.hid (fun (out : List Lx.EvV) (n x : Int) (ha : Lx.AllEv NS (Lx.txL s) out n x) => (show Lx.ParseAllEv NS s out n x from .inr (.inr ⟨hN, hs, ha⟩)))
  have HRE := Lib.hid (fun (l : ByteArray) (o : Lx.EvV) (x : Int) (hp : Lx.ParseEv NS l o x) (hl : l.size ≤ 65536) => (show Lx.ReadsEv NS l.data.toList o x from by
    rcases hp with ⟨a, _⟩ | ⟨_, a, _⟩ | ⟨_, _, a⟩
    · exact absurd hN a
    · omega
    · exact a))
  have bs : decide ((65536 : Int) < (s.size : Int)) = false := decide_eq_false (by omega)
  have hsI : (s.size : Int) ≤ 65536 := by omega
  clear h hz hN
  go_enter Tryz.func10, Tryz.ntmps10
  go_wp2_with fail
  refine HL.out.mono ?_
  rintro e w1 ⟨rfl, c1⟩
  have B1 := Lib.hid c1
  clear c1 HL
  go_wp2_with fail
  go_loopw [8, 9, 10, 11] (fun ov fv lv iv wr => ∃ (k : Nat) (out : List Lx.EvV), k ≤ s.size + 1 ∧ iv = .int .i64 k ∧ (k ≤ s.size → fv = .int .i64 (Lx.fromAt s isLF k)) ∧ lv = .int .i64 (((Lx.refTo s k).length : Int) + 1) ∧ Lx.LinesEv NS ((Lx.refTo s k).map (·.2)) out ∧ wr.ownsRow w.heap.size 26 8 ov out.length (Lx.evCells out) ∧ Below w.heap.size w wr)
    (fun _ _ _ i _ => s.size + 1 - (intOf i).toNat)
  case atStart => exact ⟨0, [], Nat.zero_le _, rfl, fun _ => rfl, by rw [Lx.refTo_in s 0 (Nat.zero_le _)]; rfl, by rw [Lx.refTo_in s 0 (Nat.zero_le _)]; exact rfl, World.ownsRow_nil _ _ _ _, B1.out⟩
  case round =>
    obtain ⟨k, out, hk, rfl, hf, rfl, hlin, hrow, hb⟩ := hrel
    by_cases hle : k ≤ s.size
    · obtain rfl := hf hle
      clear hf
      have hfl := Lx.fromAt_le s isLF k
      have hml := Lx.refTo_le s k hle
      have hol := Lx.linesEv_len hlin
      rw [List.length_map] at hol
      obtain ⟨a, ha⟩ : ∃ a, (Lx.refTo s k).length = a := ⟨_, rfl⟩
      obtain ⟨q, hq⟩ : ∃ q, out.length = q := ⟨_, rfl⟩
      rw [ha] at hml hol ⊢
      rw [hq] at hol hrow
      have HA := Lib.hid ha
      have HQ := Lib.hid hq
      have Hlin := Lib.hid hlin
      have Hrow := Lib.hid hrow
      have Hb := Lib.hid hb
      clear hlin hrow hb hq ha
      subst hol
      obtain ⟨ad', cp', rfl⟩ := Lx.ownSlice Hrow.out
      have hai : (q : Int) ≤ 65536 := by omega
      by_cases hlt : k < s.size
      · have hki : (k : Int) < (s.size : Int) := by omega
        have hkl : (k : Int) ≤ (s.size : Int) := by omega
        by_cases hc : isLF s[k] = true
        · have hr := Lx.from_hit s isLF k hlt hc
          have hcb : ((s[k].toNat : Int) != 10) = false := by rw [bne_eq_false_iff_eq]; exact (Lx.isLF_iff _).1 hc
          have hne : ((k : Int) == (s.size : Int)) = false := by rw [beq_eq_false_iff_ne]; omega
          have HR := Lib.hid (show Lx.refTo s (k + 1) = Lx.refTo s k ++ [(Lx.fromAt s isLF k, s.extract (Lx.fromAt s isLF k) k)] from by rw [Lx.refTo_in s _ (by omega), hr.2, Lx.refTo_in s k (by omega)])
          have HFR := Lib.hid hr.1
          have hfi : ((Lx.fromAt s isLF k : Nat) : Int) ≤ (k : Int) := by omega
          have hlsz : (s.extract (Lx.fromAt s isLF k) k).size ≤ 65536 := by rw [Lx.ext_size s _ k hfl (by omega)]; omega
          clear hr hc
          have HPL := Lib.hid (HP.out (s.extract (Lx.fromAt s isLF k) k) wr Hb.out)
          have HR1 := Lib.hid (show (Lx.refTo s (k + 1)).length = q + 1 from by rw [HR.out, List.length_append, HA.out]; rfl)
          have HR2 := Lib.hid (show (Lx.refTo s (k + 1)).map (·.2) = (Lx.refTo s k).map (·.2) ++ [(s.extract (Lx.fromAt s isLF k) k)] from by rw [HR.out]; simp)
          go_wp2_with fail
          refine HPL.out.mono ?_
          rintro e w5 ⟨⟨ok, ot, oj, od, oa, orr, oy, on⟩, x, rfl, hpe, c5⟩
          have hre := HRE.out _ _ _ hpe hlsz
          have HB5 := Lib.hid (Hb.out.trans (c5.mono Hb.out.size))
          have Hrow5 := Lib.hid (Lx.ownBelowO Hrow.out c5)
          unfold Lx.EvV.val
          dsimp only
          clear hpe c5 HPL
          rcases hre with ⟨rfl, hps⟩ | ⟨rfl, hz', hno⟩
          · have hsn := Lib.hid (Lx.linesEv_snoc Hlin.out (l := (s.extract (Lx.fromAt s isLF k) k)) (o := ⟨ok, ot, oj, od, oa, orr, oy, on⟩) (.inl ⟨rfl, hps⟩))
            have hoc := Lib.hid (Lx.evCells_snoc out ⟨ok, ot, oj, od, oa, orr, oy, on⟩)
            have hcs : ∀ j u, ([.int .i64 ok, .int .i64 ot, .int .i64 oj, .int .i64 od, .int .i64 oa, .int .i64 orr, .int .i64 oy, .int .i64 on] : List Value)[j]? = some u → ((w5.alloc (.cells #[.int .i64 ok, .int .i64 ot, .int .i64 oj, .int .i64 od, .int .i64 oa, .int .i64 orr, .int .i64 oy, .int .i64 on] 26)).alloc (.cells #[.int .i64 ok, .int .i64 ot, .int .i64 oj, .int .i64 od, .int .i64 oa, .int .i64 orr, .int .i64 oy, .int .i64 on] 26)).cell? ((⟨w5.heap.size + 1, 0, none⟩ : Addr).add j) = some u := by
              have := Lx.cell_eight_new (w5.alloc (.cells #[.int .i64 ok, .int .i64 ot, .int .i64 oj, .int .i64 od, .int .i64 oa, .int .i64 orr, .int .i64 oy, .int .i64 on] 26)) ⟨ok, ot, oj, od, oa, orr, oy, on⟩ 26
              rw [World.size_alloc] at this
              exact this
            have HCS := Lib.hid hcs
            have hbz := HB5.out.size
            clear hps hcs
            go_wp2_with (at_builtin; refine wpList_append_own _ rfl _ _ 30 rfl w.heap.size 26 i0 _ 8 64 Tryz.underlying30 hi hz0 hz1 hz2 rfl (by decide) _ _ _ rfl ((Hrow5.out.alloc _).alloc _) ⟨w5.heap.size + 1, 0, none⟩ 1 1 [.int .i64 ok, .int .i64 ot, .int .i64 oj, .int .i64 od, .int .i64 oa, .int .i64 orr, .int .i64 oy, .int .i64 on] rfl rfl HCS.out (by simp [Value.oneCell']) (by unfold maxLen; omega) (by omega) (by simp; omega) ?_)
            intro v' w6 hown' hgrow _
            have hb6 := ((HB5.out.alloc HB5.out.size (.cells #[.int .i64 ok, .int .i64 ot, .int .i64 oj, .int .i64 od, .int .i64 oa, .int .i64 orr, .int .i64 oy, .int .i64 on] 26)).alloc (HB5.out.alloc HB5.out.size _).size (.cells #[.int .i64 ok, .int .i64 ot, .int .i64 oj, .int .i64 od, .int .i64 oa, .int .i64 orr, .int .i64 oy, .int .i64 on] 26)).grown hgrow (by simp; omega) (Lx.ownBase Hrow5.out)
            clear hgrow
            go_wp2_with fail
            go_roundw
            case rel => exact ⟨k + 1, out ++ [⟨ok, ot, oj, od, oa, orr, oy, on⟩], by omega, by go_num, fun _ => by rw [HFR.out]; go_num, by rw [HR1.out]; go_num, by rw [HR2.out]; exact hsn.out, by rw [List.length_append, HQ.out, hoc.out]; exact hown', hb6⟩
            case measure => simp [intOf]; try omega
          · have HBAD := Lib.hid (Lx.allEv_bad (NS := NS) (s := s) (k := k) (by omega) HR.out Hlin.out (by rw [← hz'] ; exact .inr ⟨rfl, hz', hno⟩))
            rw [HA.out] at HBAD
            injection hz' with z1 z2 z3 z4 z5 z6 z7 z8
            subst z1 z2 z3 z4 z5 z6 z7 z8
            clear hno
            go_wp2_with fail
            go_ret3
            exact ⟨_, [], _, _, rfl, HPA.out _ _ _ HBAD.out, World.ownsRow_nil _ _ _ _, HB5.out.alloc HB5.out.size _⟩
        · have hc' : isLF s[k] = false := by simpa using hc
          have hr := Lx.from_miss s isLF k hlt hc'
          have hcb : ((s[k].toNat : Int) != 10) = true := by rw [bne_iff_ne]; intro e; exact hc ((Lx.isLF_iff _).2 e)
          have Hr := Lib.hid hr
          clear hr hc hc'
          go_wp2_with fail
          go_roundw
          case rel => exact ⟨k + 1, out, by omega, by go_num, fun _ => by rw [Hr.out.1], by rw [Lx.refTo_in s _ (by omega), Hr.out.2, ← Lx.refTo_in s k (by omega), HA.out], by rw [Lx.refTo_in s _ (by omega), Hr.out.2, ← Lx.refTo_in s k (by omega)]; exact Hlin.out, by rw [HQ.out]; exact Hrow.out, Hb.out⟩
          case measure => simp [intOf]; try omega
      · obtain rfl : k = s.size := by omega
        have hki : decide ((s.size : Int) < (s.size : Int)) = false := decide_eq_false (by omega)
        have hkl : (s.size : Int) ≤ (s.size : Int) := Int.le_refl _
        by_cases hlast : Lx.fromAt s isLF s.size < s.size
        · have HR := Lib.hid (Lx.refTo_last s hlast)
          have hfe : (((Lx.fromAt s isLF s.size : Nat) : Int) == (s.size : Int)) = false := by rw [beq_eq_false_iff_ne]; omega
          have hfe2 : (Lx.fromAt s isLF s.size == s.size) = false := by rw [beq_eq_false_iff_ne]; omega
          have hfi : ((Lx.fromAt s isLF s.size : Nat) : Int) ≤ (s.size : Int) := by omega
          have hlsz : (s.extract (Lx.fromAt s isLF s.size) s.size).size ≤ 65536 := by rw [Lx.ext_size s _ s.size hfl (by omega)]; omega
          have HPL := Lib.hid (HP.out (s.extract (Lx.fromAt s isLF s.size) s.size) wr Hb.out)
          have HR1 := Lib.hid (show (Lx.refTo s (s.size + 1)).length = q + 1 from by rw [HR.out, List.length_append, HA.out]; rfl)
          have HR2 := Lib.hid (show (Lx.refTo s (s.size + 1)).map (·.2) = (Lx.refTo s s.size).map (·.2) ++ [(s.extract (Lx.fromAt s isLF s.size) s.size)] from by rw [HR.out]; simp)
          go_wp2_with fail
          refine HPL.out.mono ?_
          rintro e w5 ⟨⟨ok, ot, oj, od, oa, orr, oy, on⟩, x, rfl, hpe, c5⟩
          have hre := HRE.out _ _ _ hpe hlsz
          have HB5 := Lib.hid (Hb.out.trans (c5.mono Hb.out.size))
          have Hrow5 := Lib.hid (Lx.ownBelowO Hrow.out c5)
          unfold Lx.EvV.val
          dsimp only
          clear hpe c5 HPL
          rcases hre with ⟨rfl, hps⟩ | ⟨rfl, hz', hno⟩
          · have hsn := Lib.hid (Lx.linesEv_snoc Hlin.out (l := (s.extract (Lx.fromAt s isLF s.size) s.size)) (o := ⟨ok, ot, oj, od, oa, orr, oy, on⟩) (.inl ⟨rfl, hps⟩))
            have hoc := Lib.hid (Lx.evCells_snoc out ⟨ok, ot, oj, od, oa, orr, oy, on⟩)
            have hcs : ∀ j u, ([.int .i64 ok, .int .i64 ot, .int .i64 oj, .int .i64 od, .int .i64 oa, .int .i64 orr, .int .i64 oy, .int .i64 on] : List Value)[j]? = some u → ((w5.alloc (.cells #[.int .i64 ok, .int .i64 ot, .int .i64 oj, .int .i64 od, .int .i64 oa, .int .i64 orr, .int .i64 oy, .int .i64 on] 26)).alloc (.cells #[.int .i64 ok, .int .i64 ot, .int .i64 oj, .int .i64 od, .int .i64 oa, .int .i64 orr, .int .i64 oy, .int .i64 on] 26)).cell? ((⟨w5.heap.size + 1, 0, none⟩ : Addr).add j) = some u := by
              have := Lx.cell_eight_new (w5.alloc (.cells #[.int .i64 ok, .int .i64 ot, .int .i64 oj, .int .i64 od, .int .i64 oa, .int .i64 orr, .int .i64 oy, .int .i64 on] 26)) ⟨ok, ot, oj, od, oa, orr, oy, on⟩ 26
              rw [World.size_alloc] at this
              exact this
            have HCS := Lib.hid hcs
            have hbz := HB5.out.size
            clear hps hcs
            go_wp2_with (at_builtin; refine wpList_append_own _ rfl _ _ 30 rfl w.heap.size 26 i0 _ 8 64 Tryz.underlying30 hi hz0 hz1 hz2 rfl (by decide) _ _ _ rfl ((Hrow5.out.alloc _).alloc _) ⟨w5.heap.size + 1, 0, none⟩ 1 1 [.int .i64 ok, .int .i64 ot, .int .i64 oj, .int .i64 od, .int .i64 oa, .int .i64 orr, .int .i64 oy, .int .i64 on] rfl rfl HCS.out (by simp [Value.oneCell']) (by unfold maxLen; omega) (by omega) (by simp; omega) ?_)
            intro v' w6 hown' hgrow _
            have hb6 := ((HB5.out.alloc HB5.out.size (.cells #[.int .i64 ok, .int .i64 ot, .int .i64 oj, .int .i64 od, .int .i64 oa, .int .i64 orr, .int .i64 oy, .int .i64 on] 26)).alloc (HB5.out.alloc HB5.out.size _).size (.cells #[.int .i64 ok, .int .i64 ot, .int .i64 oj, .int .i64 od, .int .i64 oa, .int .i64 orr, .int .i64 oy, .int .i64 on] 26)).grown hgrow (by simp; omega) (Lx.ownBase Hrow5.out)
            clear hgrow
            go_wp2_with fail
            go_roundw
            case rel => exact ⟨s.size + 1, out ++ [⟨ok, ot, oj, od, oa, orr, oy, on⟩], by omega, by go_num, fun h => by omega, by rw [HR1.out]; go_num, by rw [HR2.out]; exact hsn.out, by rw [List.length_append, HQ.out, hoc.out]; exact hown', hb6⟩
            case measure => simp [intOf]; try omega
          · have HBAD := Lib.hid (Lx.allEv_bad (NS := NS) (s := s) (k := s.size) (by omega) HR.out Hlin.out (by rw [← hz'] ; exact .inr ⟨rfl, hz', hno⟩))
            rw [HA.out] at HBAD
            injection hz' with z1 z2 z3 z4 z5 z6 z7 z8
            subst z1 z2 z3 z4 z5 z6 z7 z8
            clear hno
            go_wp2_with fail
            go_ret3
            exact ⟨_, [], _, _, rfl, HPA.out _ _ _ HBAD.out, World.ownsRow_nil _ _ _ _, HB5.out.alloc HB5.out.size _⟩
        · have hr := Lx.refTo_none s hlast
          have hfe : Lx.fromAt s isLF s.size = s.size := by omega
          have Hr := Lib.hid hr
          rw [hfe]
          clear hr hlast hfe
          go_wp2_with fail
          go_roundw
          case rel => exact ⟨s.size + 1, out, by omega, by go_num, fun h => by omega, by rw [Hr.out, HA.out], by rw [Hr.out]; exact Hlin.out, by rw [HQ.out]; exact Hrow.out, Hb.out⟩
          case measure => simp [intOf]; try omega
    · obtain rfl : k = s.size + 1 := by omega
      have HF := Lib.hid (show Lx.AllEv NS (Lx.txL s) out 0 0 from .inl ⟨rfl, rfl, by rw [Lx.txL_ref]; exact hlin⟩)
      have Hrow := Lib.hid hrow
      have hkd : decide (((s.size : Nat) : Int) + 1 ≤ ((s.size : Nat) : Int)) = false := decide_eq_false (by omega)
      clear hrow hf hlin
      go_wp2_with fail
      go_ret3
      exact ⟨_, out, _, _, rfl, HPA.out _ _ _ HF.out, Hrow.out, hb⟩
theorem r36parseAll_any (s : ByteArray) (ad : Option Addr) (m cap : Nat) (NS : List ByteArray) (w : World) (h : Lx.IsNames w ad m NS) (hz : ∀ x ∈ NS, x.size ≤ maxLen) :
    Calls Tryz.prog 10 #[.string s, .slice ad m cap] w (AllPostE NS s w) := by
  by_cases hN : Lx.nmErr NS = 0
  · by_cases hs : s.size ≤ 65536
    · exact r36_parseAll_in s ad m cap NS w h hz hN hs
    · exact r36_parseAll_long s ad m cap NS w h hz hN (by omega)
  · exact r36_parseAll_nm s ad m cap NS w h hz hN
end Go.Proofs.YtmpcekpdnikghaaGreatDoor
namespace Go.Proofs.YtmpcekpdnikghaaGreatDoor
open Go.RowKit

set_option maxRecDepth 100000 in
set_option maxHeartbeats 1600000 in
theorem r36same_any (ad : Option Addr) (n cap : Nat) (L : List Lx.EvV) (ad' : Option Addr) (m cap' : Nat) (M : List Lx.EvV) (w : World) (h : Lx.IsEvs w ad n L) (h' : Lx.IsEvs w ad' m M) (hn : n ≤ 1000000000) (hm : m ≤ 1000000000) :
    Calls Tryz.prog 11 #[.slice ad n cap, .slice ad' m cap'] w (SameIsE L M w) := by
  have hL := h.1
  have hM := h'.1
  have H := Lib.hid h
  have H' := Lib.hid h'
  have HL := Lib.hid hL
  have HM := Lib.hid hM
  obtain ⟨x, hx⟩ : ∃ x : Nat, max n m = x := ⟨_, rfl⟩
  have hxn : n ≤ x ∧ m ≤ x ∧ (x = n ∨ x = m) := by omega
  have HX := Lib.hid hxn
  clear h h' hL hM hx hxn
  go_enter Tryz.func11, Tryz.ntmps11
  go_wp2_with fail
  go_loopw [6] (fun i wr => ∃ k : Nat, k ≤ n ∧ k ≤ m ∧ i = .int .i64 k ∧ L.take k = M.take k ∧ Below w.heap.size w wr) (fun i _ => x - (intOf i).toNat)
  case atStart => exact ⟨0, Nat.zero_le _, Nat.zero_le _, rfl, rfl, Below.refl _ _⟩
  case round =>
    obtain ⟨k, hkn, hkm, rfl, htk, hb⟩ := hrel
    have Htk := Lib.hid htk
    have Hb := Lib.hid hb
    clear htk hb
    by_cases hkx : k < x
    · skip
      by_cases h1 : k < n
      · have hn0 : decide ((n : Int) ≤ (k : Int)) = false := decide_eq_false (by omega)
        have hn1 : (k : Int) < (n : Int) := by omega
        by_cases h2 : k < m
        · have hm0 : decide ((m : Int) ≤ (k : Int)) = false := decide_eq_false (by omega)
          have hm1 : (k : Int) < (m : Int) := by omega
          obtain ⟨a, ha⟩ : ∃ a, L[k]? = some a := ⟨_, List.getElem?_eq_getElem (by rw [HL.out]; exact h1)⟩
          obtain ⟨b, hbb⟩ : ∃ b, M[k]? = some b := ⟨_, List.getElem?_eq_getElem (by rw [HM.out]; exact h2)⟩
          obtain ⟨g, off, rfl, lt, hc⟩ := (H.out.below Hb.out).2 (by omega)
          obtain ⟨g', off', rfl, lt', hc'⟩ := (H'.out.below Hb.out).2 (by omega)
          have HA := Lib.hid ha
          have HBB := Lib.hid hbb
          have heq := fun W => eqEv a b W
          have HE := Lib.hid (Lx.evEq_iff a b)
          obtain ⟨B, hB⟩ : ∃ B, Lx.evEq a b = B := ⟨_, rfl⟩
          rw [hB] at heq HE
          obtain ⟨ak, at', aj, ad1, aa, ar, ay, an⟩ := a
          obtain ⟨bk, bt, bj, bd, ba, br, by', bn⟩ := b
          have p0 : wr.cell? ⟨g, off + k * 8, none⟩ = some (.int .i64 ak) := hc k _ ha 0 _ rfl
          have p1 : wr.cell? ⟨g, off + k * 8 + 1, none⟩ = some (.int .i64 at') := hc k _ ha 1 _ rfl
          have p2 : wr.cell? ⟨g, off + k * 8 + 2, none⟩ = some (.int .i64 aj) := hc k _ ha 2 _ rfl
          have p3 : wr.cell? ⟨g, off + k * 8 + 3, none⟩ = some (.int .i64 ad1) := hc k _ ha 3 _ rfl
          have p4 : wr.cell? ⟨g, off + k * 8 + 4, none⟩ = some (.int .i64 aa) := hc k _ ha 4 _ rfl
          have p5 : wr.cell? ⟨g, off + k * 8 + 5, none⟩ = some (.int .i64 ar) := hc k _ ha 5 _ rfl
          have p6 : wr.cell? ⟨g, off + k * 8 + 6, none⟩ = some (.int .i64 ay) := hc k _ ha 6 _ rfl
          have p7 : wr.cell? ⟨g, off + k * 8 + 7, none⟩ = some (.int .i64 an) := hc k _ ha 7 _ rfl
          have q0 : wr.cell? ⟨g', off' + k * 8, none⟩ = some (.int .i64 bk) := hc' k _ hbb 0 _ rfl
          have q1 : wr.cell? ⟨g', off' + k * 8 + 1, none⟩ = some (.int .i64 bt) := hc' k _ hbb 1 _ rfl
          have q2 : wr.cell? ⟨g', off' + k * 8 + 2, none⟩ = some (.int .i64 bj) := hc' k _ hbb 2 _ rfl
          have q3 : wr.cell? ⟨g', off' + k * 8 + 3, none⟩ = some (.int .i64 bd) := hc' k _ hbb 3 _ rfl
          have q4 : wr.cell? ⟨g', off' + k * 8 + 4, none⟩ = some (.int .i64 ba) := hc' k _ hbb 4 _ rfl
          have q5 : wr.cell? ⟨g', off' + k * 8 + 5, none⟩ = some (.int .i64 br) := hc' k _ hbb 5 _ rfl
          have q6 : wr.cell? ⟨g', off' + k * 8 + 6, none⟩ = some (.int .i64 by') := hc' k _ hbb 6 _ rfl
          have q7 : wr.cell? ⟨g', off' + k * 8 + 7, none⟩ = some (.int .i64 bn) := hc' k _ hbb 7 _ rfl
          unfold Lx.EvV.val at heq
          dsimp only at heq
          clear hc hc' ha hbb hB
          cases B
          · have hne : (⟨ak, at', aj, ad1, aa, ar, ay, an⟩ : Lx.EvV) ≠ ⟨bk, bt, bj, bd, ba, br, by', bn⟩ := fun e => by have := HE.out.2 e; cases this
            have HNE := Lib.hid hne
            clear hne
            go_wp2_with fail
            go_quiet (fail)
            go_wp2_with fail
            go_ret2
            exact ⟨_, _, rfl, .inl ⟨rfl, k, rfl, by rw [HL.out]; omega, by rw [HM.out]; omega, Htk.out, by rw [HA.out, HBB.out]; exact fun e => HNE.out (Option.some.inj e)⟩, Hb.out.trans (below_drewN _ _ _)⟩
          · have HS := Lib.hid (Lx.take_succ_eq Htk.out HA.out HBB.out (HE.out.1 rfl))
            go_wp2_with fail
            go_quiet (fail)
            go_wp2_with fail
            go_roundw
            case rel => exact ⟨k + 1, by omega, by omega, by go_num, HS.out, Hb.out.trans (below_drewN _ _ _)⟩
            case measure => simp [intOf]; omega
        · have hm0 : decide ((m : Int) ≤ (k : Int)) = true := decide_eq_true (by omega)
          have HR := Lib.hid (show L[k]? ≠ M[k]? from by rw [List.getElem?_eq_getElem (by rw [HL.out]; exact h1), List.getElem?_eq_none (l := M) (by rw [HM.out]; omega)]; exact fun c => by cases c)
          go_wp2_with fail
          go_quiet (fail)
          go_wp2_with fail
          go_ret2
          exact ⟨_, _, rfl, .inl ⟨rfl, k, rfl, by rw [HL.out]; omega, by rw [HM.out]; omega, Htk.out, HR.out⟩, Hb.out.trans (below_drewN _ _ _)⟩
      · have hn0 : decide ((n : Int) ≤ (k : Int)) = true := decide_eq_true (by omega)
        have hn1 : n ≤ k := by omega
        have hnl : decide ((k : Int) < (n : Int)) = false := decide_eq_false (by omega)
        have h2 : k < m := by have := HX.out; omega
        have h2i : (k : Int) < (m : Int) := by omega
        have HR := Lib.hid (show L[k]? ≠ M[k]? from by rw [List.getElem?_eq_none (l := L) (by rw [HL.out]; omega), List.getElem?_eq_getElem (by rw [HM.out]; exact h2)]; exact fun c => by cases c)
        go_wp2_with fail
        go_quiet (fail)
        go_wp2_with fail
        go_ret2
        exact ⟨_, _, rfl, .inl ⟨rfl, k, rfl, by rw [HL.out]; omega, by rw [HM.out]; omega, Htk.out, HR.out⟩, Hb.out.trans (below_drewN _ _ _)⟩
    · have hx3 := HX.out
      have hkx0 : decide ((k : Int) < (n : Int)) = false := decide_eq_false (by omega)
      have hkx1 : decide ((k : Int) < (m : Int)) = false := decide_eq_false (by omega)
      have HEQ := Lib.hid (show L = M from by
        have h1 := Htk.out
        rw [List.take_of_length_le (by rw [HL.out]; have := HX.out; omega), List.take_of_length_le (by rw [HM.out]; have := HX.out; omega)] at h1
        exact h1)
      go_wp2_with fail
      go_ret2
      exact ⟨_, _, rfl, .inr ⟨rfl, rfl, HEQ.out⟩, Hb.out⟩
set_option maxRecDepth 100000 in
set_option maxHeartbeats 1600000 in
theorem r36count_any (ad : Option Addr) (n cap : Nat) (L : List Lx.EvV) (x : Int) (w : World) (h : Lx.IsEvs w ad n L) (hn : n ≤ 1000000000) :
    Calls Tryz.prog 18 #[.slice ad n cap, .int .i64 x] w fun e w' => e = .returned (.int .i64 (Lx.cntE L x : Nat)) ∧ Below w.heap.size w w' := by
  have H := Lib.hid h
  clear h
  go_enter Tryz.func18, Tryz.ntmps18
  go_wp2_with fail
  go_loopw [5, 6] (fun c i wr => ∃ k : Nat, k ≤ n ∧ i = .int .i64 k ∧ c = .int .i64 (((L.take k).filter (Lx.isK x)).length : Nat) ∧ Below w.heap.size w wr) (fun _ i _ => n - (intOf i).toNat)
  case atStart => exact ⟨0, Nat.zero_le _, rfl, rfl, Below.refl _ _⟩
  case round =>
    obtain ⟨k, hk, rfl, rfl, hb⟩ := hrel
    have hle := Lx.filt_len (Lx.isK x) L k
    have Hb := Lib.hid hb
    clear hb
    by_cases hlt : k < n
    · have hki : (k : Int) < (n : Int) := by omega
      obtain ⟨o, ho⟩ : ∃ o, L[k]? = some o := ⟨_, List.getElem?_eq_getElem (by rw [H.out.1]; exact hlt)⟩
      obtain ⟨g, off, rfl, lt, hc⟩ := (H.out.below Hb.out).2 (by omega)
      have hst := Lx.filt_take (p := Lx.isK x) ho
      obtain ⟨q, hq⟩ : ∃ q, ((L.take k).filter (Lx.isK x)).length = q := ⟨_, rfl⟩
      rw [hq] at hle ⊢
      obtain ⟨ok, ot, oj, od, oa, or, oy, on⟩ := o
      have c0 : wr.cell? ⟨g, off + k * 8, none⟩ = some (.int .i64 ok) := hc k _ ho 0 _ rfl
      have c1 : wr.cell? ⟨g, off + k * 8 + 1, none⟩ = some (.int .i64 ot) := hc k _ ho 1 _ rfl
      have c2 : wr.cell? ⟨g, off + k * 8 + 2, none⟩ = some (.int .i64 oj) := hc k _ ho 2 _ rfl
      have c3 : wr.cell? ⟨g, off + k * 8 + 3, none⟩ = some (.int .i64 od) := hc k _ ho 3 _ rfl
      have c4 : wr.cell? ⟨g, off + k * 8 + 4, none⟩ = some (.int .i64 oa) := hc k _ ho 4 _ rfl
      have c5 : wr.cell? ⟨g, off + k * 8 + 5, none⟩ = some (.int .i64 or) := hc k _ ho 5 _ rfl
      have c6 : wr.cell? ⟨g, off + k * 8 + 6, none⟩ = some (.int .i64 oy) := hc k _ ho 6 _ rfl
      have c7 : wr.cell? ⟨g, off + k * 8 + 7, none⟩ = some (.int .i64 on) := hc k _ ho 7 _ rfl
      unfold Lx.isK at hst
      dsimp only at hst
      clear hc ho
      by_cases hx : ok = x
      · have HS := Lib.hid (hst.1 (by rw [beq_iff_eq]; exact hx))
        have Hq := Lib.hid hq
        have hxe : (ok == x) = true := by rw [beq_iff_eq]; exact hx
        clear hst hx hq
        go_wp2_with fail
        go_roundw
        case rel => exact ⟨k + 1, by omega, by go_num, by show _ = Value.int .i64 ((((L.take (k + 1)).filter fun o => o.k == x).length : Nat) : Int); rw [HS.out, List.length_append]; show _ = Value.int .i64 ((((L.take k).filter (Lx.isK x)).length + 1 : Nat) : Int); rw [Hq.out]; go_num, Hb.out⟩
        case measure => simp [intOf]; omega
      · have HS := Lib.hid (hst.2 (by rw [beq_eq_false_iff_ne]; exact hx))
        have Hq := Lib.hid hq
        have hxe : (ok == x) = false := by rw [beq_eq_false_iff_ne]; exact hx
        clear hst hx hq
        go_wp2_with fail
        go_roundw
        case rel => exact ⟨k + 1, by omega, by go_num, by show _ = Value.int .i64 ((((L.take (k + 1)).filter fun o => o.k == x).length : Nat) : Int); rw [HS.out]; show _ = Value.int .i64 ((((L.take k).filter (Lx.isK x)).length : Nat) : Int); rw [Hq.out], Hb.out⟩
        case measure => simp [intOf]; omega
    · obtain rfl : k = n := by omega
      have hki : decide ((k : Int) < (k : Int)) = false := decide_eq_false (by omega)
      have ht : L.take k = L := List.take_of_length_le (by rw [H.out.1]; exact Nat.le_refl _)
      rw [ht]
      go_wp2_with fail
      go_ret
      exact ⟨rfl, Hb.out⟩
set_option maxRecDepth 100000 in
set_option maxHeartbeats 1600000 in
theorem r36of_any (ad : Option Addr) (n cap : Nat) (L : List Lx.EvV) (j d : Int) (w : World) (h : Lx.IsEvs w ad n L) (hn : n ≤ 1000000) :
    Calls Tryz.prog 16 #[.slice ad n cap, .int .i64 j, .int .i64 d] w (OfPost L j d w) := by
  obtain ⟨i0, hi, hz0, hz1, hz2⟩ := info_parts infoEv
  have H := Lib.hid h
  clear h
  go_enter Tryz.func16, Tryz.ntmps16
  go_wp2_with fail
  go_loopw [7, 8] (fun tx i wr => ∃ k : Nat, k ≤ n ∧ i = .int .i64 k ∧ wr.ownsRow w.heap.size 26 8 tx ((L.take k).filter (Lx.isOf j d)).length (Lx.evCells ((L.take k).filter (Lx.isOf j d))) ∧ Below w.heap.size w wr) (fun _ i _ => n - (intOf i).toNat)
  case atStart => exact ⟨0, Nat.zero_le _, rfl, World.ownsRow_nil _ _ _ _, Below.refl _ _⟩
  case round =>
    obtain ⟨k, hk, rfl, hrow, hb⟩ := hrel
    have hle := Lx.filt_len (Lx.isOf j d) L k
    have Hb := Lib.hid hb
    have Hrow := Lib.hid hrow
    clear hb hrow
    by_cases hlt : k < n
    · have hki : (k : Int) < (n : Int) := by omega
      obtain ⟨o, ho⟩ : ∃ o, L[k]? = some o := ⟨_, List.getElem?_eq_getElem (by rw [H.out.1]; exact hlt)⟩
      obtain ⟨g, off, rfl, lt, hc⟩ := (H.out.below Hb.out).2 (by omega)
      have hst := Lx.filt_take (p := Lx.isOf j d) ho
      have hsn := Lx.evCells_snoc ((L.take k).filter (Lx.isOf j d)) o
      obtain ⟨q, hq⟩ : ∃ q, ((L.take k).filter (Lx.isOf j d)).length = q := ⟨_, rfl⟩
      have Hrow0 := Hrow
      rw [hq] at hle Hrow
      obtain ⟨ok, ot, oj, od, oa, or, oy, on⟩ := o
      have c0 : wr.cell? ⟨g, off + k * 8, none⟩ = some (.int .i64 ok) := hc k _ ho 0 _ rfl
      have c1 : wr.cell? ⟨g, off + k * 8 + 1, none⟩ = some (.int .i64 ot) := hc k _ ho 1 _ rfl
      have c2 : wr.cell? ⟨g, off + k * 8 + 2, none⟩ = some (.int .i64 oj) := hc k _ ho 2 _ rfl
      have c3 : wr.cell? ⟨g, off + k * 8 + 3, none⟩ = some (.int .i64 od) := hc k _ ho 3 _ rfl
      have c4 : wr.cell? ⟨g, off + k * 8 + 4, none⟩ = some (.int .i64 oa) := hc k _ ho 4 _ rfl
      have c5 : wr.cell? ⟨g, off + k * 8 + 5, none⟩ = some (.int .i64 or) := hc k _ ho 5 _ rfl
      have c6 : wr.cell? ⟨g, off + k * 8 + 6, none⟩ = some (.int .i64 oy) := hc k _ ho 6 _ rfl
      have c7 : wr.cell? ⟨g, off + k * 8 + 7, none⟩ = some (.int .i64 on) := hc k _ ho 7 _ rfl
      have Hq := Lib.hid hq
      have Hsn := Lib.hid hsn
      have HST := Lib.hid hst
      have hbz := Hb.out.size
      clear hc ho hsn hst hq
      have no := fun e => Lx.own_of_eq Hrow0.out (HST.out.2 e)
      have NO := Lib.hid no
      clear no Hrow0
      by_cases h1 : 1 ≤ ok
      · have d1 : decide (1 ≤ ok) = true := decide_eq_true h1
        by_cases h2 : ok ≤ 5
        · have d2 : decide (ok ≤ 5) = true := decide_eq_true h2
          by_cases h3 : oj = j
          · have d3 : (oj == j) = true := by rw [beq_iff_eq]; exact h3
            by_cases h4 : od = d
            · have d4 : (od == d) = true := by rw [beq_iff_eq]; exact h4
              have hy := HST.out.1 (by unfold Lx.isOf; dsimp only; rw [d1, d2, d3, d4]; rfl)
              have HY := Lib.hid hy
              subst h3 h4
              obtain ⟨a0, cp0, rfl⟩ := Lx.slice_of_row Hrow.out
              have hcs : ∀ j' u, ([.int .i64 ok, .int .i64 ot, .int .i64 oj, .int .i64 od, .int .i64 oa, .int .i64 or, .int .i64 oy, .int .i64 on] : List Value)[j']? = some u → (wr.alloc (.cells #[.int .i64 ok, .int .i64 ot, .int .i64 oj, .int .i64 od, .int .i64 oa, .int .i64 or, .int .i64 oy, .int .i64 on] 26)).cell? ((⟨wr.heap.size, 0, none⟩ : Addr).add j') = some u := by
                exact Lx.cell_eight_new wr ⟨ok, ot, oj, od, oa, or, oy, on⟩ 26
              have HCS := Lib.hid hcs
              clear hcs hy NO d3 d4 Hsn
              have Hsn := Lib.hid (Lx.evCells_snoc ((L.take k).filter (Lx.isOf oj od)) ⟨ok, ot, oj, od, oa, or, oy, on⟩)
              go_wp2_with (at_builtin; refine wpList_append_own _ rfl _ _ 30 rfl w.heap.size 26 i0 _ 8 64 Tryz.underlying30 hi hz0 hz1 hz2 rfl (by decide) _ _ _ rfl (Hrow.out.alloc _) ⟨wr.heap.size, 0, none⟩ 1 1 [.int .i64 ok, .int .i64 ot, .int .i64 oj, .int .i64 od, .int .i64 oa, .int .i64 or, .int .i64 oy, .int .i64 on] rfl rfl HCS.out (by simp [Value.oneCell']) (by unfold maxLen; omega) (by omega) (by simp; omega) ?_)
              intro v' w6 hown' hgrow _
              have hb6 := (Hb.out.alloc Hb.out.size (.cells #[.int .i64 ok, .int .i64 ot, .int .i64 oj, .int .i64 od, .int .i64 oa, .int .i64 or, .int .i64 oy, .int .i64 on] 26)).grown hgrow (by simp; omega) (Lx.ownBase Hrow.out)
              clear hgrow
              go_wp2_with fail
              go_roundw
              case rel => exact ⟨k + 1, by omega, by go_num, by rw [HY.out, List.length_append, Hq.out, Hsn.out]; exact hown', hb6⟩
              case measure => simp [intOf]; omega
            · have d4 : (od == d) = false := by rw [beq_eq_false_iff_ne]; exact h4
              have HY := Lib.hid (NO.out (by unfold Lx.isOf; dsimp only; rw [d1, d2, d3, d4]; rfl))
              subst h3
              clear h4 NO d3
              go_wp2_with fail
              go_roundw
              case rel => exact ⟨k + 1, by omega, by go_num, HY.out, Hb.out⟩
              case measure => simp [intOf]; omega
          · have d3 : (oj == j) = false := by rw [beq_eq_false_iff_ne]; exact h3
            have HY := Lib.hid (NO.out (by unfold Lx.isOf; dsimp only; rw [d1, d2, d3]; rfl))
            clear h3 NO
            go_wp2_with fail
            go_roundw
            case rel => exact ⟨k + 1, by omega, by go_num, HY.out, Hb.out⟩
            case measure => simp [intOf]; omega
        · have d2 : decide (ok ≤ 5) = false := decide_eq_false h2
          have HY := Lib.hid (NO.out (by unfold Lx.isOf; dsimp only; rw [d1, d2]; rfl))
          clear NO
          go_wp2_with fail
          go_roundw
          case rel => exact ⟨k + 1, by omega, by go_num, HY.out, Hb.out⟩
          case measure => simp [intOf]; omega
      · have d1 : decide (1 ≤ ok) = false := decide_eq_false h1
        have HY := Lib.hid (NO.out (by unfold Lx.isOf; dsimp only; rw [d1]; rfl))
        clear NO
        go_wp2_with fail
        go_roundw
        case rel => exact ⟨k + 1, by omega, by go_num, HY.out, Hb.out⟩
        case measure => simp [intOf]; omega
    · obtain rfl : k = n := by omega
      have hki : decide ((k : Int) < (k : Int)) = false := decide_eq_false (by omega)
      have ht : L.take k = L := List.take_of_length_le (by rw [H.out.1]; exact Nat.le_refl _)
      have Hr := Hrow.out
      rw [ht] at Hr
      have HR := Lib.hid Hr
      clear Hr hle
      go_wp2_with fail
      go_ret
      exact ⟨_, rfl, HR.out, Hb.out⟩
end Go.Proofs.YtmpcekpdnikghaaGreatDoor
