/- The walk of strings.Cut at one byte, for a text of any length. -/
import Derived.Test.YtnnkamfpcodnnaaGreatDoorShelf2
import Derived.Test.YtnnkamfpcodnnaaGreatDoorLx
import Derived.WalkKit
import Derived.WalkSpells
import Derived.WalkLawsBesides
import Derived.RegionTactic
import Derived.Deep.QuietTactic
import Derived.BigQuiet
import Derived.Lib.CutLaws
import Derived.Lib.IndexBytes
import Derived.Lib.Hide
import Derived.Below
namespace Go.Proofs.YtnnkamfpcodnnaaGreatDoor
open Go.RowKit

def CutIsW (s : ByteArray) (c : UInt8) (w : World) (e : Ending) (w' : World) : Prop := e = .returned (.tuple #[.string ⟨(Lib.cut s.data.toList [c]).1.toArray⟩, .string ⟨(Lib.cut s.data.toList [c]).2.1.toArray⟩, .bool (Lib.cut s.data.toList [c]).2.2]) ∧ ∃ n, w' = w.drewN n
set_option maxHeartbeats 2000000 in
set_option maxRecDepth 100000 in
theorem slCut_one (s : ByteArray) (c : UInt8) (w : World) (hs : s.size ≤ maxLen) :
    Calls Tryz.prog 48 #[.string s, .string ⟨#[c]⟩] w (CutIsW s c w) := by
  have hI := fun W => Tryz.stringslite_Index_one s c W
  unfold CutIsW
  rcases Lib.indexB_cases s ⟨#[c]⟩ with hix | ⟨i, hix, hroom⟩
  · obtain ⟨e1, e2, e3⟩ := Lib.cutB_miss s ⟨#[c]⟩ hix
    have hix' : Lib.indexByte s.data.toList c = -1 := (Lib.index_one _ _).symm.trans hix
    rw [hix'] at hI
    have HI := Lib.hid hI
    have E := Lib.hid (⟨e1, e2, e3⟩ : _ ∧ _ ∧ _)
    clear hI hix hix' e1 e2 e3
    go_enter Tryz.func48, Tryz.ntmps48
    go_wp2_with fail
    refine (HI.out _).mono ?_
    rintro e w' ⟨rfl, rfl⟩
    go_wp2_with fail
    go_ret3
    exact ⟨Lx.ret_t3 (Lx.v_str E.out.1.symm) (Lx.v_str E.out.2.1.symm) (Lx.v_bool E.out.2.2.symm), 0, rfl⟩
  · obtain ⟨e1, e2, e3⟩ := Lib.cutB_hit s ⟨#[c]⟩ i hix
    have hix' : Lib.indexByte s.data.toList c = i := (Lib.index_one _ _).symm.trans hix
    rw [hix'] at hI
    have z1 : (⟨#[c]⟩ : ByteArray).size = 1 := rfl
    rw [z1] at hroom e2
    have HI := Lib.hid hI
    have E := Lib.hid (⟨e1, e2, e3⟩ : _ ∧ _ ∧ _)
    have c1 : (0 : Int) ≤ ↑i := by omega
    have c2 : (↑i : Int) ≤ ↑s.size := by omega
    have c3 : (0 : Int) ≤ ↑i + 1 := by omega
    have c4 : (↑i + 1 : Int) ≤ ↑s.size := by omega
    unfold maxLen at hs
    clear hI hix hix' e1 e2 e3 z1
    go_enter Tryz.func48, Tryz.ntmps48
    go_wp2_with fail
    refine (HI.out _).mono ?_
    rintro e w' ⟨rfl, rfl⟩
    go_wp2_with fail
    go_quiet (fail)
    go_wp2_with fail
    go_ret3
    exact ⟨Lx.ret_t3 (Lx.v_str E.out.1.symm) (Lx.v_str E.out.2.1.symm) (Lx.v_bool E.out.2.2.symm), _, rfl⟩
theorem cut_one (s : ByteArray) (c : UInt8) (w : World) (hs : s.size ≤ maxLen) :
    Calls Tryz.prog 31 #[.string s, .string ⟨#[c]⟩] w (CutIsW s c w) := by
  have H := Lib.hid (fun W => slCut_one s c W hs)
  unfold CutIsW at H ⊢
  go_enter Tryz.func31, Tryz.ntmps31
  go_wp2_with fail
  refine (H.out _).mono ?_
  rintro e w' ⟨rfl, n, rfl⟩
  go_wp2_with fail
  go_ret3
  exact ⟨rfl, n, rfl⟩
end Go.Proofs.YtnnkamfpcodnnaaGreatDoor
