/- The walk of units.Int. -/
import Derived.Test.YtpjocfkolnfjiaaGreatDoorNumber
import Derived.Test.YtpjocfkolnfjiaaGreatDoorIntLx
namespace Go.Proofs.YtpjocfkolnfjiaaGreatDoor
open Go.RowKit

theorem int_any (s : ByteArray) (lo hi : Int) (w : World) (hs : s.size ≤ 140737488355328) (env : Env w) :
    Calls Tryz.prog 75 #[.string s, .int .i64 lo, .int .i64 hi] w fun e w' => e = .returned (.tuple #[.int .i64 (Lx.intV s.data.toList lo hi), .int .i64 (Lx.intE s.data.toList lo hi)]) ∧ Below w.heap.size w w' := by
  have hN := number_any s w hs env
  rcases Lx.num_split s.data.toList with h | ⟨h1, h⟩ | ⟨h1, h⟩
  · have hb : lo ≤ Lx.numRes s.data.toList ∧ Lx.numRes s.data.toList ≤ hi ∨ Lx.numRes s.data.toList < lo ∨ (lo ≤ Lx.numRes s.data.toList ∧ hi < Lx.numRes s.data.toList) := by omega
    rw [h] at hN
    rcases hb with hin | hlo | ⟨hlo, hhi⟩
    · have hg := Lx.int_good (lo := lo) (hi := hi) ⟨h, hin.1, hin.2⟩
      obtain ⟨i1, i2⟩ := hin
      rw [hg.1, hg.2]
      clear hg h
      generalize Lx.numRes s.data.toList = n at hN i1 i2 ⊢
      go_enter Tryz.func75, Tryz.ntmps75
      go_wp2_with fail
      refine hN.mono ?_
      rintro e w1 ⟨rfl, hb⟩
      go_wp2_with fail
      go_ret2
      exact ⟨rfl, hb⟩
    · have hg := Lx.int_bad (l := s.data.toList) (lo := lo) (hi := hi) (by omega) (by omega)
      rw [hg.1, hg.2]
      clear hg h
      generalize Lx.numRes s.data.toList = n at hN hlo
      go_enter Tryz.func75, Tryz.ntmps75
      go_wp2_with fail
      refine hN.mono ?_
      rintro e w1 ⟨rfl, hb⟩
      go_wp2_with fail
      go_ret2
      exact ⟨rfl, hb⟩
    · have hg := Lx.int_bad (l := s.data.toList) (lo := lo) (hi := hi) (by omega) (by omega)
      rw [hg.1, hg.2]
      clear hg h
      generalize Lx.numRes s.data.toList = n at hN hlo hhi
      go_enter Tryz.func75, Tryz.ntmps75
      go_wp2_with fail
      refine hN.mono ?_
      rintro e w1 ⟨rfl, hb⟩
      go_wp2_with fail
      all_goals
        go_ret2
        exact ⟨rfl, hb⟩
  · have hg := Lx.int_form (lo := lo) (hi := hi) h
    rw [hg.1, hg.2]
    rw [h, h1] at hN
    clear hg h h1
    go_enter Tryz.func75, Tryz.ntmps75
    go_wp2_with fail
    refine hN.mono ?_
    rintro e w1 ⟨rfl, hb⟩
    go_wp2_with fail
    go_ret2
    exact ⟨rfl, hb⟩
  · have hg := Lx.int_bad (l := s.data.toList) (lo := lo) (hi := hi) (by omega) (by omega)
    rw [hg.1, hg.2]
    rw [h, h1] at hN
    clear hg h h1
    go_enter Tryz.func75, Tryz.ntmps75
    go_wp2_with fail
    refine hN.mono ?_
    rintro e w1 ⟨rfl, hb⟩
    go_wp2_with fail
    go_ret2
    exact ⟨rfl, hb⟩
end Go.Proofs.YtpjocfkolnfjiaaGreatDoor
