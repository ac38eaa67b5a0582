/- The walks of lex.Name and of its reference: both compute isName. -/
import Derived.Test.YtmpcekpdnikghaaGreatDoorProg
import Derived.Test.YtmpcekpdnikghaaGreatDoorLx
import Derived.WalkKit
import Derived.WalkSpells
import Derived.WalkLawsBesides
import Derived.BigQuiet
import Derived.BigGuardPart
import Derived.Lib.Hide
import Derived.Lib.Strings
namespace Go.Proofs.YtmpcekpdnikghaaGreatDoor
open Go.RowKit

set_option maxHeartbeats 400000 in
theorem name_any (s : ByteArray) (w : World) (hs : s.size ≤ maxLen) :
    Calls Tryz.prog 36 #[.string s] w fun e w' => e = .returned (.bool (Lx.isName s)) ∧ w = w' := by
  unfold maxLen at hs
  by_cases h0 : s.toList = []
  · have h0b : s.toList.isEmpty = true := by simpa using h0
    have h1 := Lx.size_of_nil h0
    go_enter Tryz.func36, Tryz.ntmps36
    go_wp2
    go_ret
    exact ⟨Lx.ret_bool (by simp [Lx.isName, h1]), rfl⟩
  · have h0b : s.toList.isEmpty = false := by simpa using h0
    have h1 := Lx.size_of_ne h0
    by_cases h24 : s.size ≤ 24
    · go_enter Tryz.func36, Tryz.ntmps36
      go_wp2
      go_loop [15] (fun i => ∃ k : Nat, k ≤ s.size ∧ i = .int .i64 k ∧ (s.data.toList.take k).all Lx.nameByte = true) (fun i => s.size - (intOf i).toNat)
      case atStart => exact ⟨0, Nat.zero_le _, rfl, by simp⟩
      case round =>
        obtain ⟨k, hk, rfl, hall⟩ := hrel
        have Hall := Lib.hid hall
        clear hall
        by_cases hlt : k < s.size
        · have h32 := Lx.or32 s[k]
          go_wp2
          all_goals first
            | (have hn : Lx.nameByte s[k] = false := by
                 rw [Lx.nameByte_no]
                 have : ((s[k].toNat : Int) != 95) = true := by assumption
                 rw [bne_iff_ne] at this
                 omega
               go_ret
               exact ⟨Lx.ret_bool (by rw [Lx.isName, Lx.all_of_not _ _ _ hlt hn]; simp), rfl⟩)
            | (have hn : Lx.nameByte s[k] = true := by
                 rw [Lx.nameByte_iff]
                 first
                   | omega
                   | (have : ((s[k].toNat : Int) != 95) = false := by assumption
                      rw [bne_eq_false_iff_eq] at this
                      omega)
               go_round
               case rel => exact ⟨k + 1, by omega, by go_num, by rw [Lx.all_take_succ _ _ _ hlt, Hall.out, hn]; rfl⟩
               case measure => simp [intOf]; omega)
        · go_wp2
          go_ret
          have hall := Hall.out
          rw [Lx.all_take_size _ _ _ (by omega)] at hall
          exact ⟨Lx.ret_bool (by simp [Lx.isName, hall, h1, h24]), rfl⟩
    · go_enter Tryz.func36, Tryz.ntmps36
      go_wp2
      go_ret
      exact ⟨Lx.ret_bool (by simp [Lx.isName, h24]), rfl⟩

set_option maxHeartbeats 400000 in
theorem ref_name_any (s : ByteArray) (w : World) (hs : s.size ≤ maxLen) :
    Calls Tryz.prog 43 #[.string s] w fun e w' => e = .returned (.bool (Lx.isName s)) ∧ w = w' := by
  unfold maxLen at hs
  by_cases h1 : 1 ≤ s.size
  · by_cases h24 : s.size ≤ 24
    · go_enter Tryz.func43, Tryz.ntmps43
      go_wp2
      go_loop [3] (fun i => ∃ k : Nat, k ≤ s.size ∧ i = .int .i64 k ∧ (s.data.toList.take k).all Lx.nameByte = true) (fun i => s.size - (intOf i).toNat)
      case atStart => exact ⟨0, Nat.zero_le _, rfl, by simp⟩
      case round =>
        obtain ⟨k, hk, rfl, hall⟩ := hrel
        have Hall := Lib.hid hall
        clear hall
        by_cases hlt : k < s.size
        · go_wp2
          all_goals first
            | (have hn : Lx.nameByte s[k] = false := by
                 rw [Lx.nameByte_no]
                 have : (!((s[k].toNat : Int) == 95)) = true := by assumption
                 simp at this
                 omega
               go_ret
               exact ⟨Lx.ret_bool (by rw [Lx.isName, Lx.all_of_not _ _ _ hlt hn]; simp), rfl⟩)
            | (have hn : Lx.nameByte s[k] = true := by
                 rw [Lx.nameByte_iff]
                 first
                   | omega
                   | (have : (!((s[k].toNat : Int) == 95)) = false := by assumption
                      simp at this
                      omega)
               go_round
               case rel => exact ⟨k + 1, by omega, by go_num, by rw [Lx.all_take_succ _ _ _ hlt, Hall.out, hn]; rfl⟩
               case measure => simp [intOf]; omega)
        · go_wp2
          go_ret
          have hall := Hall.out
          rw [Lx.all_take_size _ _ _ (by omega)] at hall
          exact ⟨Lx.ret_bool (by simp [Lx.isName, hall, h1, h24]), rfl⟩
    · have h24' : 24 < s.size := by omega
      clear h24
      go_enter Tryz.func43, Tryz.ntmps43
      go_wp2
      all_goals go_ret
      exact ⟨Lx.ret_bool (by simp [Lx.isName]; omega), rfl⟩
  · go_enter Tryz.func43, Tryz.ntmps43
    go_wp2
    go_ret
    exact ⟨Lx.ret_bool (by simp [Lx.isName, h1]), rfl⟩
end Go.Proofs.YtmpcekpdnikghaaGreatDoor
