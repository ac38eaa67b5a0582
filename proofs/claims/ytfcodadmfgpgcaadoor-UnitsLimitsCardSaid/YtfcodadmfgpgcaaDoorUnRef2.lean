/- The walks of the references of units.Print at any number, Normal and Pair. -/
import Derived.Test.YtfcodadmfgpgcaaDoorUnRefPrint
import Derived.Test.YtfcodadmfgpgcaaDoorCut
import Derived.Test.YtfcodadmfgpgcaaDoorCutLx
namespace Go.Proofs.YtfcodadmfgpgcaaDoor
open Go.RowKit

theorem ref_print_any (d : Int) (w : World) :
    Calls Tryd.prog 28 #[.int .i64 d] w fun e w' => e = .returned (.tuple #[.string ⟨(Lx.prnV d).toArray⟩, .int .i64 (Lx.prnE d)]) ∧ Below w.heap.size w w' := by
  by_cases hin : 0 ≤ d ∧ d ≤ 68719476736
  · obtain ⟨e1, e2⟩ := Lx.prn_in hin
    rw [e1, e2]
    by_cases h0 : d = 0
    · subst h0
      clear e1 e2 hin
      go_enter Tryd.func28, Tryd.ntmps28
      go_wp2
      go_ret2
      exact ⟨rfl, Below.refl _ _⟩
    · have h := ref_print_pos d.toNat (by omega) (by omega) w
      rw [Int.toNat_of_nonneg hin.1] at h
      exact h
  · obtain ⟨e1, e2⟩ := Lx.prn_out hin
    rw [e1, e2]
    rcases (show d < 0 ∨ 68719476736 < d by omega) with h | h
    · clear e1 e2 hin
      go_enter Tryd.func28, Tryd.ntmps28
      go_wp2
      go_ret2
      exact ⟨rfl, Below.refl _ _⟩
    · have h2 : 0 ≤ d := by omega
      clear e1 e2 hin
      go_enter Tryd.func28, Tryd.ntmps28
      go_wp2
      all_goals first | (exfalso; omega) | (go_ret2; exact ⟨rfl, Below.refl _ _⟩)
/-- units.Print at a text that is known. -/
theorem ref_print_in (d : Nat) (hd : d ≤ 68719476736) (w : World) :
    Calls Tryd.prog 28 #[.int .i64 d] w fun e w' => e = .returned (.tuple #[.string ⟨(Lx.prnS d).toArray⟩, .int .i64 0]) ∧ Below w.heap.size w w' := by
  have h := ref_print_any d w
  rw [(Lx.prn_in (d := d) (by omega)).1, (Lx.prn_in (d := d) (by omega)).2, Int.toNat_natCast] at h
  exact h

end Go.Proofs.YtfcodadmfgpgcaaDoor
