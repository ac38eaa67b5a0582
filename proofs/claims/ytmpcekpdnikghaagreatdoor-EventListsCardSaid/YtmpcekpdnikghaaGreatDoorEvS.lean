/- The state of event.read: the result's box, the reader, the event's box, the kind's box; the map of the words. -/
import Derived.Test.YtmpcekpdnikghaaGreatDoorEvN
import Derived.Test.YtmpcekpdnikghaaGreatDoorEvW
namespace Go.Proofs.YtmpcekpdnikghaaGreatDoor
open Go.RowKit
open Go.Maps (Keyed)

namespace Lx
theorem Kp.frozen {b c i : Nat} {w w' : World} (h : Kp b w w') (hc : c < w.heap.size) (hn : c ≠ b) : w'.frozen? ⟨c, i, none⟩ = w.frozen? ⟨c, i, none⟩ := by
  unfold World.frozen?
  simp only [h.2.2 c hc hn]
theorem EvBox.kp {w w' : World} {b c : Nat} {o : EvV} (h : EvBox w c o) (hk : Kp b w w') (hn : c ≠ b) : EvBox w' c o :=
  ⟨Nat.lt_of_lt_of_le h.1 hk.2.1, fun j v hv => ⟨(hk.cell h.1 hn).trans (h.2 j v hv).1, (hk.frozen h.1 hn).trans (h.2 j v hv).2⟩⟩
theorem KBox.kp {w w' : World} {b c k : Nat} (h : KBox w c k) (hk : Kp b w w') (hn : c ≠ b) : KBox w' c k :=
  ⟨Nat.lt_of_lt_of_le h.1 hk.2.1, (hk.cell h.1 hn).trans h.2.1, (hk.cell h.1 hn).trans h.2.2.1, (hk.cell h.1 hn).trans h.2.2.2⟩
theorem KBox.below {w w' : World} {c k : Nat} (h : KBox w c k) (hb : Below w.heap.size w w') : KBox w' c k :=
  ⟨Nat.lt_of_lt_of_le h.1 hb.size, (hb.cell (p := ⟨c, 0, none⟩) h.1).trans h.2.1, (hb.cell (p := ⟨c, 1, none⟩) h.1).trans h.2.2.1, (hb.cell (p := ⟨c, 2, none⟩) h.1).trans h.2.2.2⟩
theorem Rd.kp {w w' : World} {c b g : Nat} {P : List ByteArray} {q : Nat} {bad : Bool} (h : Rd w b g P q bad) (hk : Kp c w w') (hn : b ≠ c) (hg : g ≠ c) : Rd w' b g P q bad := by
  obtain ⟨A0, C0, h0, hA⟩ := h.sl
  exact ⟨h.le, Nat.lt_of_lt_of_le h.lt hk.2.1, ⟨A0, C0, (hk.cell h.lt hn).trans h0, hA⟩, (hk.cell h.lt hn).trans h.bd, (hk.frozen h.lt hn).trans h.f0, (hk.frozen h.lt hn).trans h.f1, Nat.lt_of_lt_of_le h.gl hk.2.1, h.ne, fun i x hx => (hk.cell h.gl hg).trans (h.ps i x hx)⟩
theorem EvBox.set {w : World} {b j : Nat} {o o' : EvV} {v : Value} (h : EvBox w b o) (hj : j < 8) (ho : o'.cells = o.cells.set j v) : EvBox (w.setCell ⟨b, j, none⟩ v) b o' := by
  refine ⟨Nat.lt_of_lt_of_le h.1 Kp.set.2.1, fun i u hu => ?_⟩
  rw [ho, List.getElem?_set] at hu
  by_cases hij : j = i
  · subst hij
    rw [if_pos rfl] at hu
    have h8 : o.cells.length = 8 := rfl
    rw [if_pos (by omega)] at hu
    obtain rfl := Option.some.inj hu
    have hc : ∃ u0, o.cells[j]? = some u0 := ⟨_, List.getElem?_eq_getElem (by omega)⟩
    obtain ⟨u0, hc⟩ := hc
    exact ⟨set_cell (h.2 j u0 hc).1 _, (set_frozen _).trans (h.2 j u0 hc).2⟩
  · rw [if_neg hij] at hu
    exact ⟨(set_other _ hij).trans (h.2 i u hu).1, (set_frozen _).trans (h.2 i u hu).2⟩
/-- The state of read. -/
structure RS (w W : World) (b0 R E kb g : Nat) (P : List ByteArray) (i : Nat) (bad : Bool) (o : EvV) (k : Nat) : Prop where
  bel : Below w.heap.size w W
  z : EvBox W b0 evZ
  e : EvBox W E o
  kx : KBox W kb k
  rd : Rd W R g P (min i P.length) bad
  h0 : w.heap.size ≤ b0
  hR : w.heap.size ≤ R
  hE : w.heap.size ≤ E
  n1 : b0 ≠ R
  n2 : E ≠ R
  n3 : kb ≠ R
  n4 : b0 ≠ E
  n5 : kb ≠ E
  n6 : g ≠ E
variable {w W W' : World} {b0 R E kb g : Nat} {P : List ByteArray} {i i' : Nat} {bad bad' : Bool} {o o' : EvV} {k : Nat}
theorem RS.kp (h : RS w W b0 R E kb g P i bad o k) (hk : Kp R W W') (rd : Rd W' R g P (min i' P.length) bad') : RS w W' b0 R E kb g P i' bad' o k :=
  ⟨h.bel.trans (hk.1.mono h.hR), h.z.kp hk h.n1, h.e.kp hk h.n2, h.kx.kp hk h.n3, rd, h.h0, h.hR, h.hE, h.n1, h.n2, h.n3, h.n4, h.n5, h.n6⟩
theorem RS.below (h : RS w W b0 R E kb g P i bad o k) (hb : Below W.heap.size W W') : RS w W' b0 R E kb g P i bad o k :=
  ⟨h.bel.trans (hb.mono h.bel.size), h.z.below hb, h.e.below hb, h.kx.below hb, h.rd.below hb, h.h0, h.hR, h.hE, h.n1, h.n2, h.n3, h.n4, h.n5, h.n6⟩
theorem RS.set (h : RS w W b0 R E kb g P i bad o k) {j : Nat} {v : Value} (hj : j < 8) (ho : o'.cells = o.cells.set j v) : RS w (W.setCell ⟨E, j, none⟩ v) b0 R E kb g P i bad o' k :=
  ⟨h.bel.setCell (p := ⟨E, j, none⟩) h.hE _, h.z.kp Kp.set h.n4, h.e.set hj ho, h.kx.kp Kp.set h.n5, h.rd.kp Kp.set h.n2.symm h.n6, h.h0, h.hR, h.hE, h.n1, h.n2, h.n3, h.n4, h.n5, h.n6⟩
theorem RS.setBad (h : RS w W b0 R E kb g P i bad o k) (b : Bool) : RS w (W.setCell ⟨R, 1, none⟩ (.bool b)) b0 R E kb g P i b o k :=
  ⟨h.bel.setCell (p := ⟨R, 1, none⟩) h.hR _, h.z.kp Kp.set h.n1, h.e.kp Kp.set h.n2, h.kx.kp Kp.set h.n3, h.rd.put1 b, h.h0, h.hR, h.hE, h.n1, h.n2, h.n3, h.n4, h.n5, h.n6⟩
theorem Kp.grown {w w' : World} {b : Nat} (hg : w.grownBy w' (some b)) (hb : b < w.heap.size) : Kp b w w' :=
  ⟨(Below.refl b w).grown hg (Nat.le_of_lt hb) (fun j hj => by cases hj; exact Nat.le_refl _), hg.size, fun c hc hn => hg.block c hc (fun e => hn (Option.some.inj e))⟩
theorem KindsAt.kp {w w' : World} {b g : Nat} (h : KindsAt w g) (hk : Kp b w w') (hn : g ≠ b) : KindsAt w' g :=
  ⟨Nat.lt_of_lt_of_le h.1 hk.2.1, fun q hq => ⟨(hk.cell h.1 hn).trans (h.2 q hq).1, (hk.cell h.1 hn).trans (h.2 q hq).2.1, (hk.cell h.1 hn).trans (h.2 q hq).2.2⟩⟩
theorem mapBelow {P : Program} {K : TypeId} {R : Value → Option (DataW Unit × List MemPlace)} {w w' : World} {b n : Nat} {D : DataW Unit} (h : w.ownsMap P K R b n D) (hb : Below w.heap.size w w') : w'.ownsMap P K R b n D := by
  have hlt := h.lt
  obtain ⟨es, clock, hbk, r⟩ := h
  exact ⟨es, clock, (hb.block b hlt).trans hbk, r⟩
theorem mapKp {P : Program} {K : TypeId} {R : Value → Option (DataW Unit × List MemPlace)} {w w' : World} {b c n : Nat} {D : DataW Unit} (h : w.ownsMap P K R b n D) (hk : Kp c w w') (hn : b ≠ c) : w'.ownsMap P K R b n D := by
  have hlt := h.lt
  obtain ⟨es, clock, hbk, r⟩ := h
  exact ⟨es, clock, (hk.2.2 b hlt hn).trans hbk, r⟩
theorem Rd.new (w : World) (P : List ByteArray) (T T' : TypeId) : Rd ((w.alloc (.cells (P.map Value.string).toArray T)).alloc (.cells #[.slice (some ⟨w.heap.size, 0, none⟩) P.length P.length, .bool false] T')) (w.heap.size + 1) w.heap.size P (min 0 P.length) false := by
  have h1 : (w.alloc (.cells (P.map Value.string).toArray T)).heap.size = w.heap.size + 1 := World.size_alloc _ _
  have hc : ∀ (v : Value) (j : Nat), (#[Value.slice (some ⟨w.heap.size, 0, none⟩) P.length P.length, .bool false] : Array Value)[j]? = some v → ((w.alloc (.cells (P.map Value.string).toArray T)).alloc (.cells #[.slice (some ⟨w.heap.size, 0, none⟩) P.length P.length, .bool false] T')).cell? ⟨w.heap.size + 1, j, none⟩ = some v := by
    intro v j hv
    rw [← h1]
    simpa using hv
  have hf : ∀ j, ((w.alloc (.cells (P.map Value.string).toArray T)).alloc (.cells #[.slice (some ⟨w.heap.size, 0, none⟩) P.length P.length, .bool false] T')).frozen? ⟨w.heap.size + 1, j, none⟩ = false := by
    intro j
    rw [← h1]
    simp
  refine ⟨by omega, by simp, ⟨_, _, ?_, fun h => ⟨rfl, rfl⟩⟩, hc _ 1 rfl, hf 0, hf 1, by simp; omega, by omega, fun i x hx => ?_⟩
  · rw [Nat.zero_min, Nat.sub_zero]; exact hc _ 0 rfl
  · have e : ((w.alloc (.cells (P.map Value.string).toArray T)).alloc (.cells #[.slice (some ⟨w.heap.size, 0, none⟩) P.length P.length, .bool false] T')).cell? ⟨w.heap.size, i, none⟩ = (w.alloc (.cells (P.map Value.string).toArray T)).cell? ⟨w.heap.size, i, none⟩ := World.cell?_alloc_past _ _ _ (by simp)
    rw [e]
    simp [hx]
/-! ### the map of the words -/
theorem pAt_small (P : List ByteArray) (i : Nat) (h : ∀ x ∈ P, x.size ≤ maxLen) : (⟨(pAt (bl P) i).toArray⟩ : ByteArray).data.toList.length ≤ maxLen := by
  show (pAt (bl P) i).length ≤ maxLen
  unfold pAt bl
  rw [List.getD_eq_getElem?_getD, List.getElem?_map]
  cases hx : P[i]? with
  | none => exact Nat.zero_le _
  | some x => have := h x (List.mem_of_getElem? hx); rw [Lib.size_eq] at this; exact this
theorem word_small (k : Nat) : (⟨(evWord (k : Nat)).toArray⟩ : ByteArray).data.toList.length ≤ maxLen := by
  show (evWord (k : Nat)).length ≤ maxLen
  unfold evWord; (repeat' split) <;> (unfold maxLen; decide)

def wordR (v : Value) : Option (DataW Unit × List MemPlace) := match v with
  | .int .i64 n => some (.lit (.int .i64 n), [])
  | _ => none
def wordD : Nat → DataW Unit
  | 0 => .map []
  | k + 1 => (wordD k).put (.string (evWord (k : Nat))) (.lit (.int .i64 (k : Nat)))
theorem wordD_other (l : List UInt8) (z : DataW Unit) : ∀ n : Nat, (∀ k : Nat, k < n → l ≠ evWord (k : Nat)) → (wordD n).atKey (.string l) z = z
  | 0, _ => rfl
  | n + 1, h => by
    unfold wordD
    rw [Go.Maps.atKey_put_other (fun e => h n (Nat.lt_succ_self n) (Lit.string.inj e))]
    exact wordD_other l z n (fun k hk => h k (Nat.lt_succ_of_lt hk))
theorem wordD_at (l : List UInt8) : (wordD 9).atKey (.string l) (.lit (.int .i64 0)) = .lit (.int .i64 (kindOf l)) := by
  by_cases h : ∃ k : Nat, k < 9 ∧ l = evWord (k : Nat)
  · obtain ⟨k, hk, rfl⟩ := h
    rcases nine hk with rfl | rfl | rfl | rfl | rfl | rfl | rfl | rfl | rfl <;> kernel_rfl
  · rw [wordD_other l _ 9 (fun k hk e => h ⟨k, hk, e⟩)]
    have : kindOf l = 0 := by
      cases hz : decide (kindOf l = 0) with
      | true => exact of_decide_eq_true hz
      | false =>
        exfalso
        have hne := of_decide_eq_false hz
        have hw := kindOf_back hne
        have hb := kindOf_bd l
        exact h ⟨(kindOf l).toNat, by omega, by rw [show (((kindOf l).toNat : Nat) : Int) = kindOf l by omega]; exact hw⟩
    rw [this]
end Lx
end Go.Proofs.YtmpcekpdnikghaaGreatDoor
