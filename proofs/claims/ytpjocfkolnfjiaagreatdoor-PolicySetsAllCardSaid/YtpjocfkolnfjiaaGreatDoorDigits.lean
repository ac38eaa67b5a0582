/- The walks of lex.Digits and of its reference: both write a number's decimal digits. -/
import Derived.Test.YtpjocfkolnfjiaaGreatDoorProg
import Derived.Test.YtpjocfkolnfjiaaGreatDoorLx
import Derived.Test.YtpjocfkolnfjiaaGreatDoorNum
import Derived.Test.YtpjocfkolnfjiaaGreatDoorDigitsP
import Derived.Test.YtpjocfkolnfjiaaGreatDoorConv
import Derived.Test.YtpjocfkolnfjiaaGreatDoorShelf
import Derived.Test.YtpjocfkolnfjiaaGreatDoorEnv
import Derived.WalkKit
import Derived.WalkSpells
import Derived.WalkLawsBesides
import Derived.BigQuiet
import Derived.BigGuardPart
import Derived.Lib.Hide
import Derived.Lib.Strings
namespace Go.Proofs.YtpjocfkolnfjiaaGreatDoor
open Go.RowKit


theorem digits_any (n : Int) (w : World) (h0 : -9223372036854775808 ≤ n) (h1 : n ≤ 9223372036854775807) (env : Env w) :
    Calls Tryz.prog 90 #[.int .i64 n] w fun e w' => e = .returned (.string ⟨(Lib.itoa n).toArray⟩) ∧ Below w.heap.size w w' := by
  have hf := Tryz.strconv_FormatInt_10 n h0 h1 w env.pow
  go_enter Tryz.func90, Tryz.ntmps90
  go_wp2_with (go_at_call 109; refine hf.mono ?_; rintro e w' ⟨rfl, k, os, rfl⟩)
  go_ret
  exact ⟨rfl, ⟨rfl, rfl, rfl, by simp [Sort.grow, World.drewN], fun j hj => by simp [Sort.grow, World.drewN, Array.getElem?_append, hj]⟩⟩

end Go.Proofs.YtpjocfkolnfjiaaGreatDoor
