/- The walks of lex.Cut and of its reference: both cut at the first such byte. -/
import Derived.Test.YtpjocfkolnfjiaaGreatDoorProg
import Derived.Test.YtpjocfkolnfjiaaGreatDoorLx
import Derived.Test.YtpjocfkolnfjiaaGreatDoorShelf
import Derived.WalkKit
import Derived.WalkSpells
import Derived.WalkLawsBesides
import Derived.Deep.QuietTactic
import Derived.BigQuiet
import Derived.Lib.Hide
import Derived.Lib.Strings
namespace Go.Proofs.YtpjocfkolnfjiaaGreatDoor
open Go.RowKit

set_option maxHeartbeats 400000 in
theorem cut_any (s : ByteArray) (c : UInt8) (w : World) (hs : s.size ≤ maxLen) :
    Calls Tryz.prog 45 #[.string s, .int .u8 c.toNat] w fun e w' => e = .returned (.tuple #[.string (Lx.cutA s c), .string (Lx.cutB s c), .bool (Lx.cutIs s c)]) ∧ ∃ n, w' = w.drewN n := by
  unfold maxLen at hs
  obtain ⟨i, hi⟩ : ∃ i, i = Lib.indexByte s.data.toList c := ⟨_, rfl⟩
  have hidx : (Calls Tryz.prog 64 #[.string s, .int .u8 c.toNat] w fun e w' => e = .returned (.int .i64 i) ∧ w = w') := by
    refine (Tryz.strings_IndexByte s c.toNat w).mono ?_
    rintro e w' ⟨rfl, rfl⟩
    exact ⟨by rw [hi]; simp, rfl⟩
  by_cases h : i < 0
  · have hv := Lx.cut_no s c (hi ▸ h)
    have Hv := Lib.hid hv
    clear hv hi
    go_enter Tryz.func45, Tryz.ntmps45
    go_wp2_with (go_at_call 64; refine hidx.mono ?_; rintro e w' ⟨rfl, rfl⟩)
    go_ret3
    exact ⟨Lx.ret_t3 (Lx.v_str Hv.out.1) (Lx.v_str Hv.out.2.1) (Lx.v_bool Hv.out.2.2), 0, rfl⟩
  · have hv := Lx.cut_yes s c (hi ▸ h)
    rw [← hi] at hv
    obtain ⟨n, rfl⟩ := Int.eq_ofNat_of_zero_le (Int.not_lt.1 h)
    have hn := hv.1
    have Hv := Lib.hid hv.2
    clear hv hi
    go_enter Tryz.func45, Tryz.ntmps45
    go_wp2_with (go_at_call 64; refine hidx.mono ?_; rintro e w' ⟨rfl, rfl⟩)
    go_quiet (fail)
    go_wp2
    go_ret3
    have e := Hv.out
    exact ⟨Lx.ret_t3 (Lx.v_str (by rw [Lx.cutA, e.1]; rfl)) (Lx.v_str (by rw [Lx.cutB, e.1]; rfl)) (Lx.v_bool e.2.symm), nq, rfl⟩

end Go.Proofs.YtpjocfkolnfjiaaGreatDoor
