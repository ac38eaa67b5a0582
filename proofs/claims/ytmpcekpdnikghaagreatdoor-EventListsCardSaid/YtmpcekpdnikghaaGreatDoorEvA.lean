/- The walks of the small functions of events: kinds, valid, in, the uses of a kind. -/
import Derived.Test.YtmpcekpdnikghaaGreatDoorProg
import Derived.Test.YtmpcekpdnikghaaGreatDoorEvLx
import Derived.Test.YtmpcekpdnikghaaGreatDoorName
import Derived.WalkKit
import Derived.WalkSpells
import Derived.WalkLawsBesides
import Derived.Deep.RegionHeld3
import Derived.Deep.QuietTactic
import Derived.BigQuiet
import Derived.RegionTactic
namespace Go.Proofs.YtmpcekpdnikghaaGreatDoor
open Go.RowKit

theorem valid_any (t : Int) (w : World) : Calls Tryz.prog 59 #[.int .i64 t] w fun e w' => e = .returned (.bool (Lx.timeV t)) ∧ w' = w := by
  by_cases h0 : 0 ≤ t
  · by_cases h1 : t ≤ 253402300799
    · have e1 : decide (0 ≤ t) = true := decide_eq_true h0
      have e2 : decide (t ≤ 253402300799) = true := decide_eq_true h1
      have hv : Lx.timeV t = true := decide_eq_true ⟨h0, h1⟩
      rw [hv]; clear hv h0 h1
      go_enter Tryz.func59, Tryz.ntmps59
      go_wp2_with fail
      go_ret
      exact ⟨rfl, rfl⟩
    · have e1 : decide (0 ≤ t) = true := decide_eq_true h0
      have e2 : decide (t ≤ 253402300799) = false := decide_eq_false h1
      have hv : Lx.timeV t = false := decide_eq_false (fun h => h1 h.2)
      rw [hv]; clear hv h0 h1
      go_enter Tryz.func59, Tryz.ntmps59
      go_wp2_with fail
      go_ret
      exact ⟨rfl, rfl⟩
  · have e1 : decide (0 ≤ t) = false := decide_eq_false h0
    have hv : Lx.timeV t = false := decide_eq_false (fun h => h0 h.1)
    rw [hv]; clear hv h0
    go_enter Tryz.func59, Tryz.ntmps59
    go_wp2_with fail
    go_ret
    exact ⟨rfl, rfl⟩
theorem in_any (u : Bool) (n lo hi : Int) (w : World) : Calls Tryz.prog 60 #[.bool u, .int .i64 n, .int .i64 lo, .int .i64 hi] w fun e w' => e = .returned (.bool (Lx.inV u n lo hi)) ∧ w' = w := by
  cases u
  · go_enter Tryz.func60, Tryz.ntmps60
    go_wp2_with fail
    go_ret
    refine ⟨Lx.ret_bool ?_, rfl⟩
    unfold Lx.inV; rw [if_neg (by decide), Bool.eq_iff_iff]; simp
  · by_cases h0 : lo ≤ n
    · have hv : Lx.inV true n lo hi = decide (n ≤ hi) := by unfold Lx.inV; rw [if_pos rfl, Bool.eq_iff_iff]; simp [h0]
      have e1 : decide (lo ≤ n) = true := decide_eq_true h0
      rw [hv]; clear hv h0
      go_enter Tryz.func60, Tryz.ntmps60
      go_wp2_with fail
      go_ret
      exact ⟨rfl, rfl⟩
    · have hv : Lx.inV true n lo hi = false := by unfold Lx.inV; rw [if_pos rfl]; exact decide_eq_false (fun h => h0 h.1)
      have e1 : decide (lo ≤ n) = false := decide_eq_false h0
      rw [hv]; clear hv h0
      go_enter Tryz.func60, Tryz.ntmps60
      go_wp2_with fail
      go_ret
      exact ⟨rfl, rfl⟩
namespace Lx
def usesN (q : Nat) : Int := if q = 0 then 0 else if q ≤ 3 then 7 else if q = 4 then 11 else if q = 5 then 19 else if q = 6 then 16 else if q = 7 then 9 else if q = 8 then 1 else 0
def useB (q : Nat) (f : Int) : Bool := !(bits .and .i64 (usesN q) f == 0)
theorem nine {q : Nat} (h : q < 9) : q = 0 ∨ q = 1 ∨ q = 2 ∨ q = 3 ∨ q = 4 ∨ q = 5 ∨ q = 6 ∨ q = 7 ∨ q = 8 := by omega
theorem use_all {q : Nat} (h0 : 1 ≤ q) (h : q < 9) : useB q 1 = uJ q ∧ useB q 2 = uD q ∧ useB q 4 = uR q ∧ useB q 8 = uN q ∧ useB q 16 = uY q := by
  rcases nine h with rfl | rfl | rfl | rfl | rfl | rfl | rfl | rfl | rfl <;> first | omega | decide +kernel
/-- The table of the kinds lies in block g. -/
def KindsAt (w : World) (g : Nat) : Prop := g < w.heap.size ∧ ∀ q : Nat, q < 9 → w.cell? ⟨g, q * 3, none⟩ = some (.string ⟨(evWord q).toArray⟩) ∧ w.cell? ⟨g, q * 3 + 1, none⟩ = some (.int .i64 (usesN q)) ∧ w.cell? ⟨g, q * 3 + 2, none⟩ = some (.int .i64 (yMax q))
theorem KindsAt.below {w w' : World} {g : Nat} (h : KindsAt w g) (hb : Below w.heap.size w w') : KindsAt w' g :=
  ⟨Nat.lt_of_lt_of_le h.1 hb.size, fun q hq => ⟨(hb.cell (p := ⟨g, q * 3, none⟩) h.1).trans (h.2 q hq).1, (hb.cell (p := ⟨g, q * 3 + 1, none⟩) h.1).trans (h.2 q hq).2.1, (hb.cell (p := ⟨g, q * 3 + 2, none⟩) h.1).trans (h.2 q hq).2.2⟩⟩
def EvBox (w : World) (b : Nat) (o : EvV) : Prop := b < w.heap.size ∧ ∀ (j : Nat) (v : Value), o.cells[j]? = some v → w.cell? ⟨b, j, none⟩ = some v ∧ w.frozen? ⟨b, j, none⟩ = false
theorem EvBox.below {w w' : World} {b : Nat} {o : EvV} (h : EvBox w b o) (hb : Below w.heap.size w w') : EvBox w' b o :=
  ⟨Nat.lt_of_lt_of_le h.1 hb.size, fun j v hv => ⟨(hb.cell (p := ⟨b, j, none⟩) h.1).trans (h.2 j v hv).1, (hb.frozen (p := ⟨b, j, none⟩) h.1).trans (h.2 j v hv).2⟩⟩
theorem EvBox.new (w : World) (k t j d a r y n : Int) (T : TypeId) : EvBox (w.alloc (.cells #[.int .i64 k, .int .i64 t, .int .i64 j, .int .i64 d, .int .i64 a, .int .i64 r, .int .i64 y, .int .i64 n] T)) w.heap.size ⟨k, t, j, d, a, r, y, n⟩ := by
  refine ⟨by simp, fun i v hv => ?_⟩
  unfold EvV.cells at hv
  match i, hv with
  | 0, hv => simp at hv; subst hv; simp
  | 1, hv => simp at hv; subst hv; simp
  | 2, hv => simp at hv; subst hv; simp
  | 3, hv => simp at hv; subst hv; simp
  | 4, hv => simp at hv; subst hv; simp
  | 5, hv => simp at hv; subst hv; simp
  | 6, hv => simp at hv; subst hv; simp
  | 7, hv => simp at hv; subst hv; simp
theorem EvBox.eight {w : World} {b : Nat} {k t j d a r y n : Int} (h : EvBox w b ⟨k, t, j, d, a, r, y, n⟩) :
    w.cell? ⟨b, 0, none⟩ = some (.int .i64 k) ∧ w.cell? ⟨b, 1, none⟩ = some (.int .i64 t) ∧ w.cell? ⟨b, 2, none⟩ = some (.int .i64 j) ∧ w.cell? ⟨b, 3, none⟩ = some (.int .i64 d) ∧
    w.cell? ⟨b, 4, none⟩ = some (.int .i64 a) ∧ w.cell? ⟨b, 5, none⟩ = some (.int .i64 r) ∧ w.cell? ⟨b, 6, none⟩ = some (.int .i64 y) ∧ w.cell? ⟨b, 7, none⟩ = some (.int .i64 n) :=
  ⟨(h.2 0 _ rfl).1, (h.2 1 _ rfl).1, (h.2 2 _ rfl).1, (h.2 3 _ rfl).1, (h.2 4 _ rfl).1, (h.2 5 _ rfl).1, (h.2 6 _ rfl).1, (h.2 7 _ rfl).1⟩
end Lx
def KindsPost (w : World) (e : Ending) (w' : World) : Prop := ∃ g, e = .returned (.slice (some ⟨g, 0, none⟩) 9 9) ∧ w.heap.size ≤ g ∧ Lx.KindsAt w' g ∧ Below w.heap.size w w'
theorem kinds_any (w : World) : Calls Tryz.prog 37 #[] w (KindsPost w) := by
  go_enter Tryz.func37, Tryz.ntmps37
  go_wp2_with fail
  go_ret
  refine ⟨_, rfl, Nat.le_refl _, ⟨by simp, fun q hq => ?_⟩, (Below.refl _ w).alloc (Nat.le_refl _) _⟩
  rcases Lx.nine hq with rfl | rfl | rfl | rfl | rfl | rfl | rfl | rfl | rfl <;> exact ⟨by simp; decide, by simp; decide, by simp; decide⟩
theorem uses_any (q : Nat) (f : Int) (b : Nat) (w : World) (h1 : w.cell? ⟨b, 1, none⟩ = some (.int .i64 (Lx.usesN q))) :
    Calls Tryz.prog 58 #[.int .i64 f, .pointer (some ⟨b, 0, none⟩)] w fun e w' => e = .returned (.bool (Lx.useB q f)) ∧ w' = w := by
  unfold Lx.useB
  generalize Lx.usesN q = u at *
  go_enter Tryz.func58, Tryz.ntmps58
  go_wp2_with fail
  go_ret
  exact ⟨rfl, rfl⟩
end Go.Proofs.YtmpcekpdnikghaaGreatDoor
