/- The reference of chapter 36: numbers, words, reasons. -/
import Derived.Test.YtmpcekpdnikghaaDoorEvA
import Derived.Test.YtmpcekpdnikghaaDoorDigits
namespace Go.Proofs.YtmpcekpdnikghaaDoor
open Go.RowKit

theorem r36number_any (n : Int) (w : World) (h0 : -9223372036854775808 ≤ n) (h1 : n ≤ 9223372036854775807) :
    Calls Tryd.prog 25 #[.int .i64 n] w fun e w' => e = .returned (.string ⟨(Lx.untilW n).toArray⟩) ∧ Below w.heap.size w w' := by
  by_cases hn : n = 4611686018427387904
  · subst hn
    have hv : (⟨(Lx.untilW 4611686018427387904).toArray⟩ : ByteArray) = ⟨#[110, 101, 118, 101, 114]⟩ := rfl
    rw [hv]
    go_enter Tryd.func25, Tryd.ntmps25
    go_wp2_with fail
    go_ret
    exact ⟨rfl, Below.refl _ _⟩
  · have hb : (n == 4611686018427387904) = false := by rw [beq_eq_false_iff_ne]; exact hn
    have hv : Lx.untilW n = Lib.itoa n := by unfold Lx.untilW; rw [if_neg hn]
    rw [hv]
    have HD := Lib.hid (ref_digits_any n w h0 h1)
    clear hn hv
    go_enter Tryd.func25, Tryd.ntmps25
    go_wp2_with fail
    refine HD.out.mono ?_
    rintro e w1 ⟨rfl, c1⟩
    go_wp2_with fail
    go_ret
    exact ⟨rfl, c1⟩
set_option maxHeartbeats 1600000 in
theorem r36word_any (k : Nat) (hk : k < 9) (w : World) :
    Calls Tryd.prog 26 #[.int .i64 k] w fun e w' => e = .returned (.string ⟨(Lx.evWord k).toArray⟩) ∧ Below w.heap.size w w' := by
  rcases Lx.nine hk with rfl | rfl | rfl | rfl | rfl | rfl | rfl | rfl | rfl <;>
  · go_enter Tryd.func26, Tryd.ntmps26
    go_wp2_with fail
    go_ret
    exact ⟨rfl, (Below.refl _ _).alloc (Nat.le_refl _) _⟩
theorem Lx.seven {q : Nat} (h : q < 7) : q = 0 ∨ q = 1 ∨ q = 2 ∨ q = 3 ∨ q = 4 ∨ q = 5 ∨ q = 6 := by omega
set_option maxHeartbeats 1600000 in
theorem r36why_any (k : Nat) (hk : k < 7) (w : World) :
    Calls Tryd.prog 28 #[.int .i64 k] w fun e w' => e = .returned (.string ⟨(Lx.reasonW k).toArray⟩) ∧ Below w.heap.size w w' := by
  rcases Lx.seven hk with rfl | rfl | rfl | rfl | rfl | rfl | rfl <;>
  · go_enter Tryd.func28, Tryd.ntmps28
    go_wp2_with fail
    go_ret
    exact ⟨rfl, (Below.refl _ _).alloc (Nat.le_refl _) _⟩
end Go.Proofs.YtmpcekpdnikghaaDoor
