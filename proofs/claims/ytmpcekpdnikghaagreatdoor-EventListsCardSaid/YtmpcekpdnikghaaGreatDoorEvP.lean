/- The walk of event.Print. -/
import Derived.Test.YtmpcekpdnikghaaGreatDoorEvW
namespace Go.Proofs.YtmpcekpdnikghaaGreatDoor
open Go.RowKit

namespace Lx
def wrE (NS : List ByteArray) (o : EvV) : Int := if evErr o ≠ 0 then evErr o else if o.k ≠ 6 ∧ (NS.length : Int) ≤ o.j then 3 else 0
def wrS (NS : List ByteArray) (o : EvV) : List UInt8 := if wrE NS o = 0 then evText o (nmAt NS o.j) else []
def prE (NS : List ByteArray) (o : EvV) : Int := if nmErr NS ≠ 0 then nmErr NS else wrE NS o
def prS (NS : List ByteArray) (o : EvV) : List UInt8 := if prE NS o = 0 then evText o (nmAt NS o.j) else []
theorem nmAt_some {NS : List ByteArray} {p : Nat} {x : ByteArray} (h : NS[p]? = some x) : nmAt NS (p : Nat) = x.data.toList := by
  unfold nmAt; rw [Int.toNat_natCast, h]; rfl
theorem wr_ok {NS : List ByteArray} {o : EvV} (g : Good o) (hj : o.k ≠ 6 → o.j < NS.length) : wrE NS o = 0 ∧ wrS NS o = evText o (nmAt NS o.j) := by
  have h0 := (evErr_good o).2 g
  have h : wrE NS o = 0 := by
    unfold wrE
    rw [if_neg (fun c => c h0), if_neg]
    rintro ⟨a, b⟩
    have := hj a; omega
  exact ⟨h, by unfold wrS; rw [if_pos h]⟩
theorem wr_range {NS : List ByteArray} {o : EvV} (g : Good o) (hk : o.k ≠ 6) (hj : (NS.length : Int) ≤ o.j) : wrE NS o = 3 ∧ wrS NS o = [] := by
  have h0 := (evErr_good o).2 g
  have h : wrE NS o = 3 := by unfold wrE; rw [if_neg (fun c => c h0), if_pos ⟨hk, hj⟩]
  exact ⟨h, by unfold wrS; rw [if_neg (by omega)]⟩
theorem wr_bad {NS : List ByteArray} {o : EvV} (h : evErr o ≠ 0) : wrE NS o = evErr o ∧ wrS NS o = [] := by
  have h0 : wrE NS o = evErr o := by unfold wrE; rw [if_pos h]
  exact ⟨h0, by unfold wrS; rw [if_neg (by omega)]⟩
end Lx
set_option maxRecDepth 100000 in
theorem write_any (o : Lx.EvV) (ad : Option Addr) (m cap : Nat) (NS : List ByteArray) (w : World) (env : EEnv w) (h : Lx.IsNames w ad m NS) (hs : ∀ x ∈ NS, x.size ≤ 24) :
    Calls Tryz.prog 30 #[o.val, .slice ad m cap] w (WriteIs (Lx.wrS NS o) (Lx.wrE NS o) w) := by
  by_cases he : Lx.evErr o = 0
  · have g := (Lx.evErr_good o).1 he
    by_cases h6 : o.k = 6
    · obtain ⟨wa, wb⟩ := Lx.wr_ok (NS := NS) g (fun c => absurd h6 c)
      rw [wa, wb]
      have hg := g
      obtain ⟨k, t, j, d, a, r, y, n⟩ := o
      unfold Lx.Good at hg
      simp only at hg h6
      subst h6
      obtain ⟨rfl, rfl, rfl, rfl, rfl⟩ : j = 0 ∧ d = 0 ∧ a = 0 ∧ r = 0 ∧ n = 0 := by omega
      obtain ⟨x, hx, hxs⟩ : ∃ x : ByteArray, Lx.nmAt NS 0 = x.data.toList ∧ x.size ≤ 24 := by
        cases hx : NS[0]? with
        | none => exact ⟨⟨#[]⟩, by unfold Lx.nmAt; rw [show (0 : Int).toNat = 0 from rfl, hx]; rfl, by decide⟩
        | some x => exact ⟨x, Lx.nmAt_some hx, hs x (List.mem_of_getElem? hx)⟩
      simp only
      rw [hx]
      exact write_6 t y x hxs ad m cap w env g
    · have hj0 : 0 ≤ o.j ∧ o.j ≤ 63 := by unfold Lx.Good at g; omega
      obtain ⟨p, hp⟩ : ∃ p : Nat, o.j = p := ⟨o.j.toNat, by omega⟩
      obtain ⟨q, hq⟩ : ∃ q : Nat, o.k = q := ⟨o.k.toNat, by have := Lx.good_kind g; omega⟩
      have hk := Lx.good_kind g
      by_cases hr : m ≤ p
      · obtain ⟨wa, wb⟩ := Lx.wr_range (NS := NS) g h6 (by rw [h.1]; omega)
        rw [wa, wb]
        obtain ⟨k, t, j, d, a, r, y, n⟩ := o
        simp only at hp hq hk h6 hj0
        subst hp hq
        exact write_range q t d a r n y p ad m cap w env (by omega) (by omega) (by omega) hr g
      · obtain ⟨x, hx⟩ : ∃ x, NS[p]? = some x := ⟨_, List.getElem?_eq_getElem (by rw [h.1]; omega)⟩
        have hxs := hs x (List.mem_of_getElem? hx)
        obtain ⟨wa, wb⟩ := Lx.wr_ok (NS := NS) g (fun _ => by rw [h.1]; omega)
        rw [wa, wb]
        have hg := g
        obtain ⟨k, t, j, d, a, r, y, n⟩ := o
        unfold Lx.Good at hg
        simp only at hp hq hk h6 hj0 hg
        subst hp
        simp only
        rw [Lx.nmAt_some hx]
        rcases Lx.kind_cases hk with rfl | rfl | rfl | rfl | rfl | rfl | rfl | rfl
        · obtain ⟨rfl, rfl⟩ : y = 0 ∧ n = 0 := by omega
          exact write_1 t d a r p x hxs ad m cap NS w env h hx g
        · obtain ⟨rfl, rfl⟩ : y = 0 ∧ n = 0 := by omega
          exact write_2 t d a r p x hxs ad m cap NS w env h hx g
        · obtain ⟨rfl, rfl⟩ : y = 0 ∧ n = 0 := by omega
          exact write_3 t d a r p x hxs ad m cap NS w env h hx g
        · obtain ⟨rfl, rfl⟩ : y = 0 ∧ r = 0 := by omega
          exact write_4 t d a n p x hxs ad m cap NS w env h hx g
        · obtain ⟨rfl, rfl⟩ : r = 0 ∧ n = 0 := by omega
          exact write_5 t d a y p x hxs ad m cap NS w env h hx g
        · omega
        · obtain ⟨rfl, rfl, rfl, rfl⟩ : d = 0 ∧ a = 0 ∧ r = 0 ∧ y = 0 := by omega
          exact write_7 t n p x hxs ad m cap NS w env h hx g
        · obtain ⟨rfl, rfl, rfl, rfl, rfl⟩ : d = 0 ∧ a = 0 ∧ r = 0 ∧ y = 0 ∧ n = 0 := by omega
          exact write_8 t p x hxs ad m cap NS w env h hx g
  · obtain ⟨wa, wb⟩ := Lx.wr_bad (NS := NS) he
    rw [wa, wb]
    exact write_bad o ad m cap w he
set_option maxRecDepth 100000 in
theorem evprint_any (o : Lx.EvV) (ad : Option Addr) (m cap : Nat) (NS : List ByteArray) (w : World) (env : EEnv w) (h : Lx.IsNames w ad m NS) (hs : ∀ x ∈ NS, x.size ≤ maxLen) (hm : m ≤ maxLen) :
    Calls Tryz.prog 19 #[o.val, .slice ad m cap] w (WriteIs (Lx.prS NS o) (Lx.prE NS o) w) := by
  by_cases hn : Lx.nmErr NS = 0
  · have h24 : ∀ x ∈ NS, x.size ≤ 24 := fun x hx => by
      have := ((Lx.nmErr_ok NS).1 hn).2.1 x hx
      unfold Lx.isName at this
      rw [Bool.and_eq_true, Bool.and_eq_true, decide_eq_true_iff, decide_eq_true_iff] at this
      exact this.1.2
    have HW := Lib.hid (fun W (b : Below w.heap.size w W) => write_any o ad m cap NS W (env.below b) (h.below b) h24)
    have e1 : Lx.prE NS o = Lx.wrE NS o := by unfold Lx.prE; rw [if_neg (fun c => c hn)]
    have e2 : Lx.prS NS o = Lx.wrS NS o := by unfold Lx.prS Lx.wrS; rw [e1]
    rw [e1, e2]
    generalize Lx.wrS NS o = s at *
    generalize Lx.wrE NS o = x at *
    obtain ⟨k, t, j, d, a, r, y, n⟩ := o
    unfold Lx.EvV.val WriteIs at HW
    unfold Lx.EvV.val
    dsimp only at HW ⊢
    have hba : Below w.heap.size w (w.alloc (.cells #[.int .i64 k, .int .i64 t, .int .i64 j, .int .i64 d, .int .i64 a, .int .i64 r, .int .i64 y, .int .i64 n] 26)) := (Below.refl _ w).alloc (Nat.le_refl _) _
    have BO0 := Lib.hid (Lx.EvBox.new w k t j d a r y n 26)
    have B0 := Lib.hid hba
    have HN2 := Lib.hid (fun W (b : Below w.heap.size w W) => names_any ad m cap NS W (h.below b) hs hm)
    rw [hn] at HN2
    clear h hs h24 env e1 e2 hn hm hba
    go_enter Tryz.func19, Tryz.ntmps19
    go_wp2_with fail
    refine (HN2.out _ B0.out).mono ?_
    rintro e w1 ⟨rfl, c1⟩
    have B1 := Lib.hid (B0.out.trans (c1.mono B0.out.size))
    obtain ⟨q0, q1, q2, q3, q4, q5, q6, q7⟩ := (BO0.out.below c1).eight
    clear c1
    go_wp2_with fail
    refine (HW.out _ B1.out).mono ?_
    rintro e w2 ⟨rfl, c2⟩
    go_wp2_with fail
    go_ret2
    exact ⟨rfl, B1.out.trans (c2.mono B1.out.size)⟩
  · have e1 : Lx.prE NS o = Lx.nmErr NS := by unfold Lx.prE; rw [if_pos hn]
    have e2 : Lx.prS NS o = [] := by unfold Lx.prS; rw [if_neg (by omega)]
    rw [e1, e2]
    obtain ⟨k, t, j, d, a, r, y, n⟩ := o
    unfold Lx.EvV.val
    dsimp only
    have hba : Below w.heap.size w (w.alloc (.cells #[.int .i64 k, .int .i64 t, .int .i64 j, .int .i64 d, .int .i64 a, .int .i64 r, .int .i64 y, .int .i64 n] 26)) := (Below.refl _ w).alloc (Nat.le_refl _) _
    have B0 := Lib.hid hba
    have HN2 := Lib.hid (fun W (b : Below w.heap.size w W) => names_any ad m cap NS W (h.below b) hs hm)
    have hne : (Lx.nmErr NS != 0) = true := by rw [bne_iff_ne]; exact hn
    generalize Lx.nmErr NS = x at *
    clear h hs env e1 e2 hn hm hba
    go_enter Tryz.func19, Tryz.ntmps19
    go_wp2_with fail
    refine (HN2.out _ B0.out).mono ?_
    rintro e w1 ⟨rfl, c1⟩
    go_wp2_with fail
    go_ret2
    exact ⟨rfl, B0.out.trans (c1.mono B0.out.size)⟩
end Go.Proofs.YtmpcekpdnikghaaGreatDoor
