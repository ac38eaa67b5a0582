/- Plain facts: what the texts of events say of them. No program in sight. -/
import Derived.Test.YtmpcekpdnikghaaGreatDoorEvP
import Derived.Test.YtmpcekpdnikghaaGreatDoorEvO
namespace Go.Proofs.YtmpcekpdnikghaaGreatDoor.Lx
open Go Go.RowKit

theorem pr_ok {NS : List ByteArray} {o : EvV} (h : prE NS o = 0) : NOk NS ∧ Good o ∧ (o.k ≠ 6 → o.j < NS.length) ∧ prS NS o = evText o (nmAt NS o.j) := by
  have hs : prS NS o = evText o (nmAt NS o.j) := by unfold prS; rw [if_pos h]
  unfold prE at h
  by_cases hn : nmErr NS = 0
  · rw [if_neg (fun c => c hn)] at h
    unfold wrE at h
    by_cases he : evErr o = 0
    · rw [if_neg (fun c => c he)] at h
      refine ⟨(nmErr_ok NS).1 hn, (evErr_good o).1 he, fun h6 => ?_, hs⟩
      by_cases hr : o.k ≠ 6 ∧ (NS.length : Int) ≤ o.j
      · rw [if_pos hr] at h; omega
      · rcases Int.lt_or_le o.j (NS.length : Int) with c | c
        · exact c
        · exact absurd ⟨h6, c⟩ hr
    · rw [if_pos he] at h; exact absurd h he
  · rw [if_pos hn] at h; exact absurd h hn
theorem pr_of {NS : List ByteArray} {o : EvV} (hN : NOk NS) (g : Good o) (hj : o.k ≠ 6 → o.j < NS.length) : prE NS o = 0 ∧ prS NS o = evText o (nmAt NS o.j) := by
  have h : prE NS o = 0 := by
    unfold prE
    rw [if_neg (fun c => c ((nmErr_ok NS).2 hN))]
    exact (wr_ok g hj).1
  exact ⟨h, by unfold prS; rw [if_pos h]⟩
theorem pr_bad {NS : List ByteArray} {o : EvV} (h : prE NS o ≠ 0) : prS NS o = [] := by unfold prS; rw [if_neg h]
theorem pr_eps {NS : List ByteArray} {o : EvV} (h : prE NS o = 0) : EvPs NS (prS NS o) o := by
  obtain ⟨_, g, hj, hs⟩ := pr_ok h
  exact ⟨g, hj, hs.symm⟩
theorem pr_inj {NS : List ByteArray} {o p : EvV} (h : prE NS o = 0) (h' : prE NS p = 0) : prS NS o = prS NS p ↔ o = p := by
  constructor
  · intro e
    have a := pr_eps h
    have b := pr_eps h'
    rw [← e] at b
    exact ps_one (pr_ok h).1 a b
  · rintro rfl; rfl
theorem pr_rd {NS : List ByteArray} {o : EvV} (h : prE NS o = 0) : (prS NS o).length ≤ 150 := by
  obtain ⟨hN, g, hj, hs⟩ := pr_ok h
  rw [hs]
  refine evText_len g ?_
  unfold nmAt
  cases hx : NS[o.j.toNat]? with
  | none => exact Nat.zero_le _
  | some x =>
    have := hN.2.1 x (List.mem_of_getElem? hx)
    unfold isName at this
    rw [Bool.and_eq_true, Bool.and_eq_true, decide_eq_true_iff, decide_eq_true_iff] at this
    have := this.1.2
    rw [Lib.size_eq] at this; exact this
end Go.Proofs.YtmpcekpdnikghaaGreatDoor.Lx
