/- The walks of lex.Place and of its reference: both give the line and the column of a place. -/
import Derived.Test.YtcnhoolbnllmkaaDoorProg
import Derived.Test.YtcnhoolbnllmkaaDoorLx
import Derived.Test.YtcnhoolbnllmkaaDoorShelf
import Derived.WalkKit
import Derived.WalkSpells
import Derived.WalkLawsBesides
import Derived.Deep.QuietTactic
import Derived.BigQuiet
import Derived.Lib.Hide
import Derived.Lib.Strings
namespace Go.Proofs.YtcnhoolbnllmkaaDoor
open Go.RowKit

set_option maxHeartbeats 400000 in
theorem place_in (s : ByteArray) (k : Nat) (w : World) (hs : s.size ≤ 1000000000) (hk : k ≤ s.size) :
    Calls Tryd.prog 14 #[.string s, .int .i64 k] w fun e w' => e = .returned (.tuple #[.int .i64 (Lx.lineAt s k), .int .i64 (Lx.colAt s k), .int .i64 0]) ∧ w = w' := by
  have hcount : ∀ W : World, (Calls Tryd.prog 36 #[.string (s.extract 0 k), .string ⟨#[10]⟩] W fun e w' => e = .returned (.int .i64 (Lx.lineAt s k - 1)) ∧ W = w') := fun W => by
    refine (Tryd.strings_Count_one (s.extract 0 k) 10 W).mono ?_
    rintro e w' ⟨rfl, rfl⟩
    exact ⟨Lx.ret_int (by rw [Lx.count_ext, Lx.lineAt]; omega), rfl⟩
  have hlast : ∀ W : World, (Calls Tryd.prog 37 #[.string (s.extract 0 k), .int .u8 10] W fun e w' => e = .returned (.int .i64 ((k : Int) - Lx.colAt s k)) ∧ W = w') := fun W => by
    refine (Tryd.strings_LastIndexByte (s.extract 0 k) 10 (by rw [Lx.size_ext s k hk]; omega) W).mono ?_
    rintro e w' ⟨rfl, rfl⟩
    exact ⟨Lx.ret_int (by rw [Lx.lastIndexByte_ext s 10 k hk, Lx.colAt]; omega), rfl⟩
  have b1 := Lx.line_bd s k
  have b2 := Lx.col_bd s k
  have hk2 : (k : Int) ≤ (s.size : Int) := by omega
  obtain ⟨n1, h1⟩ : ∃ n1, n1 = Lx.lineAt s k - 1 := ⟨_, rfl⟩
  obtain ⟨n2, h2⟩ : ∃ n2, n2 = (k : Int) - Lx.colAt s k := ⟨_, rfl⟩
  rw [← h1] at hcount
  rw [← h2] at hlast
  have c1 : 0 ≤ n1 ∧ n1 ≤ k := by omega
  have c2 : -1 ≤ n2 ∧ n2 < k := by omega
  have H1 := Lib.hid (show 1 + n1 = Lx.lineAt s k by omega)
  have H2 := Lib.hid (show (k : Int) - n2 = Lx.colAt s k by omega)
  clear h1 h2 b1 b2
  obtain ⟨c11, c12⟩ := c1
  obtain ⟨c21, c22⟩ := c2
  have Hc := Lib.hid hcount
  have Hl := Lib.hid hlast
  clear hcount hlast
  go_enter Tryd.func14, Tryd.ntmps14
  go_wp2_with (first | (go_at_call 36; refine (Hc.out _).mono ?_; rintro e w' ⟨rfl, rfl⟩) | (go_at_call 37; refine (Hl.out _).mono ?_; rintro e w' ⟨rfl, rfl⟩))
  go_ret3
  exact ⟨Lx.ret_t3 (Lx.v_int H1.out) (Lx.v_int H2.out) rfl, rfl⟩

set_option maxHeartbeats 400000 in
theorem place_out (s : ByteArray) (i : Int) (w : World) (hi : i < 0 ∨ (s.size : Int) < i) :
    Calls Tryd.prog 14 #[.string s, .int .i64 i] w fun e w' => e = .returned (.tuple #[.int .i64 0, .int .i64 0, .int .i64 3]) ∧ w = w' := by
  by_cases h : i < 0
  · go_enter Tryd.func14, Tryd.ntmps14
    go_wp2
    go_ret3
    exact ⟨rfl, rfl⟩
  · have h2 : (s.size : Int) < i := by omega
    clear hi
    go_enter Tryd.func14, Tryd.ntmps14
    go_wp2
    go_ret3
    exact ⟨rfl, rfl⟩

end Go.Proofs.YtcnhoolbnllmkaaDoor
