/- The walk of civil.Parse. -/
import Derived.Test.YtnnkamfpcodnnaaGreatDoorCv2
import Derived.Laws.RangeString
import Derived.RegionTactic
import Derived.BigRegion
import Derived.Deep.QuietTactic
import Derived.BigQuiet
namespace Go.Proofs.YtnnkamfpcodnnaaGreatDoor
open Go.RowKit

namespace Lx
def fieldAt (k : Nat) : Nat := if k < 4 then 0 else if k = 5 ∨ k = 6 then 1 else if k = 8 ∨ k = 9 then 2 else if k = 11 ∨ k = 12 then 3 else if k = 14 ∨ k = 15 then 4 else if k = 17 ∨ k = 18 then 5 else 9
def sepZ (k : Nat) : Int := if k ≤ 4 then 0 else if k ≤ 7 then 1 else if k ≤ 10 then 2 else if k ≤ 13 then 3 else if k ≤ 16 then 4 else 5
/-- The number of field j in the first k bytes. -/
def gV (s : ByteArray) (j : Nat) : Nat → Int
  | 0 => 0
  | k + 1 => if fieldAt k = j then gV s j k * 10 + ((s.data[k]!.toNat : Int) - 48) else gV s j k
def okTo (s : ByteArray) (k : Nat) : Prop := ∀ j, j < k → okAt j s.data[j]! = true
/-- How many digits of field j stand in the first k bytes. -/
def gC (j : Nat) : Nat → Nat
  | 0 => 0
  | k + 1 => if fieldAt k = j then gC j k + 1 else gC j k
theorem okTo_succ {s : ByteArray} {k : Nat} (h : okTo s k) (h2 : okAt k s.data[k]! = true) : okTo s (k + 1) := by
  intro j hj
  by_cases e : j = k
  · subst e; exact h2
  · exact h j (by omega)
theorem field_form {k : Nat} (hk : k < 19) {j : Nat} (hj : j < 6) (h : fieldAt k = j) : formAt k = 48 := by
  have : k = 0 ∨ k = 1 ∨ k = 2 ∨ k = 3 ∨ k = 4 ∨ k = 5 ∨ k = 6 ∨ k = 7 ∨ k = 8 ∨ k = 9 ∨ k = 10 ∨ k = 11 ∨ k = 12 ∨ k = 13 ∨ k = 14 ∨ k = 15 ∨ k = 16 ∨ k = 17 ∨ k = 18 := by omega
  rcases this with rfl | rfl | rfl | rfl | rfl | rfl | rfl | rfl | rfl | rfl | rfl | rfl | rfl | rfl | rfl | rfl | rfl | rfl | rfl <;> first | rfl | (exfalso; revert h; simp [fieldAt]; omega)
theorem gV_bd {s : ByteArray} {j : Nat} (hj : j < 6) : ∀ {k : Nat}, okTo s k → k ≤ 19 → 0 ≤ gV s j k ∧ gV s j k < ((10 ^ gC j k : Nat) : Int)
  | 0, _, _ => by simp [gV, gC]
  | k + 1, h, hk => by
    have ih := gV_bd (s := s) hj (k := k) (fun i hi => h i (by omega)) (by omega)
    unfold gV gC
    by_cases hf : fieldAt k = j
    · rw [if_pos hf, if_pos hf]
      have ho := h k (by omega)
      unfold okAt at ho
      rw [if_pos (field_form (by omega) hj hf), isDig_iff] at ho
      rw [Nat.pow_succ]
      omega
    · rw [if_neg hf, if_neg hf]; exact ih
theorem okAt_dig {k : Nat} {c : UInt8} (hf : formAt k = 48) (h0 : 48 ≤ (c.toNat : Int)) (h9 : (c.toNat : Int) ≤ 57) : okAt k c = true := by
  unfold okAt; rw [if_pos hf, isDig_iff]; exact ⟨h0, h9⟩
theorem okAt_nodig {k : Nat} {c : UInt8} (hf : formAt k = 48) (h : (c.toNat : Int) < 48 ∨ 57 < (c.toNat : Int)) : okAt k c = false := by
  unfold okAt; rw [if_pos hf, isDig_no]; omega
theorem okAt_sep {k : Nat} {c : UInt8} {x : Nat} (hf : formAt k ≠ 48) (hx : (formAt k).toNat = x) (h : (c.toNat : Int) = (x : Int)) : okAt k c = true := by
  unfold okAt; rw [if_neg hf, beq_iff_eq]; apply UInt8.toNat_inj.1; omega
theorem okAt_nosep {k : Nat} {c : UInt8} {x : Nat} (hf : formAt k ≠ 48) (hx : (formAt k).toNat = x) (h : ¬ (c.toNat : Int) = (x : Int)) : okAt k c = false := by
  unfold okAt; rw [if_neg hf, beq_eq_false_iff_ne]; intro e; rw [e] at h; omega
theorem at_get (s : ByteArray) (k : Nat) (h : k < s.size) : s.data.toList[k]? = some s.data[k]! := by
  have h' : k < s.data.toList.length := by rw [← Lib.size_eq]; exact h
  rw [List.getElem?_eq_getElem h']
  rw [getElem!_pos s.data k h]; rfl
theorem list19 (s : ByteArray) (hs : s.size = 19) : s.data.toList = [s.data[0]!, s.data[1]!, s.data[2]!, s.data[3]!, s.data[4]!, s.data[5]!, s.data[6]!, s.data[7]!, s.data[8]!, s.data[9]!, s.data[10]!, s.data[11]!, s.data[12]!, s.data[13]!, s.data[14]!, s.data[15]!, s.data[16]!, s.data[17]!, s.data[18]!] := by
  apply List.ext_getElem?
  intro k
  by_cases hk : k < 19
  · rw [at_get s k (by omega)]
    have : k = 0 ∨ k = 1 ∨ k = 2 ∨ k = 3 ∨ k = 4 ∨ k = 5 ∨ k = 6 ∨ k = 7 ∨ k = 8 ∨ k = 9 ∨ k = 10 ∨ k = 11 ∨ k = 12 ∨ k = 13 ∨ k = 14 ∨ k = 15 ∨ k = 16 ∨ k = 17 ∨ k = 18 := by omega
    rcases this with rfl | rfl | rfl | rfl | rfl | rfl | rfl | rfl | rfl | rfl | rfl | rfl | rfl | rfl | rfl | rfl | rfl | rfl | rfl <;> rfl
  · rw [List.getElem?_eq_none (by rw [← Lib.size_eq]; omega), List.getElem?_eq_none (by simp; omega)]
theorem dg_of {c : UInt8} {n : Int} (h : (c.toNat : Int) = 48 + n) (h0 : 0 ≤ n) (h9 : n ≤ 9) : c = dg n := by
  apply UInt8.toNat_inj.1
  have := dg_toNat h0 h9
  omega
theorem okTo_civ (s : ByteArray) (hs : s.size = 19) (h : okTo s 19) :
    s.data.toList = civText (gV s 0 19) (gV s 1 19) (gV s 2 19) (gV s 3 19) (gV s 4 19) (gV s 5 19) ∧
    (0 ≤ gV s 0 19 ∧ gV s 0 19 ≤ 9999 ∧ 0 ≤ gV s 1 19 ∧ gV s 1 19 ≤ 99 ∧ 0 ≤ gV s 2 19 ∧ gV s 2 19 ≤ 99 ∧ 0 ≤ gV s 3 19 ∧ gV s 3 19 ≤ 99 ∧ 0 ≤ gV s 4 19 ∧ gV s 4 19 ≤ 99 ∧ 0 ≤ gV s 5 19 ∧ gV s 5 19 ≤ 99) := by
  have hd : ∀ j, j < 19 → formAt j = 48 → 48 ≤ (s.data[j]!.toNat : Int) ∧ (s.data[j]!.toNat : Int) ≤ 57 := by
    intro j hj hf
    have := h j hj
    unfold okAt at this
    rw [if_pos hf, isDig_iff] at this
    exact this
  have hp : ∀ j, j < 19 → formAt j ≠ 48 → s.data[j]! = formAt j := by
    intro j hj hf
    have := h j hj
    unfold okAt at this
    rw [if_neg hf, beq_iff_eq] at this
    exact this
  have p0 := hd 0 (by omega) rfl
  have p1 := hd 1 (by omega) rfl
  have p2 := hd 2 (by omega) rfl
  have p3 := hd 3 (by omega) rfl
  have p4 := hp 4 (by omega) (by decide)
  have p5 := hd 5 (by omega) rfl
  have p6 := hd 6 (by omega) rfl
  have p7 := hp 7 (by omega) (by decide)
  have p8 := hd 8 (by omega) rfl
  have p9 := hd 9 (by omega) rfl
  have p10 := hp 10 (by omega) (by decide)
  have p11 := hd 11 (by omega) rfl
  have p12 := hd 12 (by omega) rfl
  have p13 := hp 13 (by omega) (by decide)
  have p14 := hd 14 (by omega) rfl
  have p15 := hd 15 (by omega) rfl
  have p16 := hp 16 (by omega) (by decide)
  have p17 := hd 17 (by omega) rfl
  have p18 := hd 18 (by omega) rfl
  rw [list19 s hs]
  have e0 : gV s 0 19 = (((0 * 10 + ((s.data[0]!.toNat : Int) - 48)) * 10 + ((s.data[1]!.toNat : Int) - 48)) * 10 + ((s.data[2]!.toNat : Int) - 48)) * 10 + ((s.data[3]!.toNat : Int) - 48) := rfl
  have e1 : gV s 1 19 = (0 * 10 + ((s.data[5]!.toNat : Int) - 48)) * 10 + ((s.data[6]!.toNat : Int) - 48) := rfl
  have e2 : gV s 2 19 = (0 * 10 + ((s.data[8]!.toNat : Int) - 48)) * 10 + ((s.data[9]!.toNat : Int) - 48) := rfl
  have e3 : gV s 3 19 = (0 * 10 + ((s.data[11]!.toNat : Int) - 48)) * 10 + ((s.data[12]!.toNat : Int) - 48) := rfl
  have e4 : gV s 4 19 = (0 * 10 + ((s.data[14]!.toNat : Int) - 48)) * 10 + ((s.data[15]!.toNat : Int) - 48) := rfl
  have e5 : gV s 5 19 = (0 * 10 + ((s.data[17]!.toNat : Int) - 48)) * 10 + ((s.data[18]!.toNat : Int) - 48) := rfl
  rw [p4, p7, p10, p13, p16]
  clear hd hp h
  generalize s.data[0]! = b0 at *
  generalize s.data[1]! = b1 at *
  generalize s.data[2]! = b2 at *
  generalize s.data[3]! = b3 at *
  generalize s.data[5]! = b5 at *
  generalize s.data[6]! = b6 at *
  generalize s.data[8]! = b8 at *
  generalize s.data[9]! = b9 at *
  generalize s.data[11]! = b11 at *
  generalize s.data[12]! = b12 at *
  generalize s.data[14]! = b14 at *
  generalize s.data[15]! = b15 at *
  generalize s.data[17]! = b17 at *
  generalize s.data[18]! = b18 at *
  refine ⟨?_, by omega⟩
  rw [e0, e1, e2, e3, e4, e5]
  unfold civText d4 d2
  simp only [List.cons_append, List.nil_append, List.cons.injEq, and_true]
  refine ⟨dg_of (by omega) (by omega) (by omega), dg_of (by omega) (by omega) (by omega), dg_of (by omega) (by omega) (by omega), dg_of (by omega) (by omega) (by omega), rfl, dg_of (by omega) (by omega) (by omega), dg_of (by omega) (by omega) (by omega), rfl, dg_of (by omega) (by omega) (by omega), dg_of (by omega) (by omega) (by omega), rfl, dg_of (by omega) (by omega) (by omega), dg_of (by omega) (by omega) (by omega), rfl, dg_of (by omega) (by omega) (by omega), dg_of (by omega) (by omega) (by omega), rfl, dg_of (by omega) (by omega) (by omega), dg_of (by omega) (by omega) (by omega)⟩
end Lx
@[go_sem] theorem cell_iter (w : World) (A : Array Value) (T : TypeId) (F : ByteArray) (p i : Nat) : ((w.alloc (.cells A T)).iter F p).cell? ⟨w.heap.size, i, none⟩ = A[i]? := World.cell?_alloc2_first A T _ i
@[go_sem] theorem frozen_iter (w : World) (A : Array Value) (T : TypeId) (F : ByteArray) (p i : Nat) : ((w.alloc (.cells A T)).iter F p).frozen? ⟨w.heap.size, i, none⟩ = false := World.frozen?_alloc2_first A T _ i
@[go_sem] theorem set_iter (w : World) (A : Array Value) (T : TypeId) (F : ByteArray) (p i : Nat) (v : Value) : ((w.alloc (.cells A T)).iter F p).setCell ⟨w.heap.size, i, none⟩ v = (w.alloc (.cells (A.setIfInBounds i v) T)).iter F p := by
  unfold World.iter
  rw [World.setCell_alloc_past (w := w.alloc (.cells A T)) _ w.heap.size i v (by rw [World.size_alloc]; omega), World.setCell_alloc_new]
theorem pos_it (w : World) (A : Array Value) (T : TypeId) (F : ByteArray) (p n : Nat) : (((w.alloc (.cells A T)).iter F p).drewN n).iterPos (w.heap.size + 1) = p := by
  have := World.iterPos_iter (w.alloc (.cells A T)) F p
  rw [World.size_alloc] at this
  exact this
namespace Lx
def arr (s : ByteArray) (k : Nat) : Array Value := #[.int .i64 (gV s 0 k), .int .i64 (gV s 1 k), .int .i64 (gV s 2 k), .int .i64 (gV s 3 k), .int .i64 (gV s 4 k), .int .i64 (gV s 5 k)]
theorem arr_get (s : ByteArray) (k : Nat) {f : Nat} (hf : f < 6) : (arr s k)[f]? = some (.int .i64 (gV s f k)) := by
  have : f = 0 ∨ f = 1 ∨ f = 2 ∨ f = 3 ∨ f = 4 ∨ f = 5 := by omega
  rcases this with rfl | rfl | rfl | rfl | rfl | rfl <;> rfl
theorem gV_other (s : ByteArray) {k f j : Nat} (h : fieldAt k = f) (hj : f ≠ j) : gV s j (k + 1) = gV s j k := by
  show (if fieldAt k = j then _ else _) = _
  rw [if_neg (by omega)]
theorem gV_same (s : ByteArray) {k f : Nat} (h : fieldAt k = f) : gV s f (k + 1) = gV s f k * 10 + ((s.data[k]!.toNat : Int) - 48) := by
  show (if fieldAt k = f then _ else _) = _
  rw [if_pos h]
theorem arr_set (s : ByteArray) (k : Nat) {f : Nat} (hf : f < 6) (h : fieldAt k = f) {b : UInt8} (hb : s.data[k]! = b) :
    (arr s k).setIfInBounds f (.int .i64 (gV s f k * 10 + ((b.toNat : Int) - 48))) = arr s (k + 1) := by
  have hs := gV_same s h
  rw [hb] at hs
  rw [← hs]
  have : f = 0 ∨ f = 1 ∨ f = 2 ∨ f = 3 ∨ f = 4 ∨ f = 5 := by omega
  rcases this with rfl | rfl | rfl | rfl | rfl | rfl <;> unfold arr
  · rw [gV_other s (j := 1) h (by decide), gV_other s (j := 2) h (by decide), gV_other s (j := 3) h (by decide), gV_other s (j := 4) h (by decide), gV_other s (j := 5) h (by decide)]; rfl
  · rw [gV_other s (j := 0) h (by decide), gV_other s (j := 2) h (by decide), gV_other s (j := 3) h (by decide), gV_other s (j := 4) h (by decide), gV_other s (j := 5) h (by decide)]; rfl
  · rw [gV_other s (j := 0) h (by decide), gV_other s (j := 1) h (by decide), gV_other s (j := 3) h (by decide), gV_other s (j := 4) h (by decide), gV_other s (j := 5) h (by decide)]; rfl
  · rw [gV_other s (j := 0) h (by decide), gV_other s (j := 1) h (by decide), gV_other s (j := 2) h (by decide), gV_other s (j := 4) h (by decide), gV_other s (j := 5) h (by decide)]; rfl
  · rw [gV_other s (j := 0) h (by decide), gV_other s (j := 1) h (by decide), gV_other s (j := 2) h (by decide), gV_other s (j := 3) h (by decide), gV_other s (j := 5) h (by decide)]; rfl
  · rw [gV_other s (j := 0) h (by decide), gV_other s (j := 1) h (by decide), gV_other s (j := 2) h (by decide), gV_other s (j := 3) h (by decide), gV_other s (j := 4) h (by decide)]; rfl
theorem arr_sep (s : ByteArray) (k : Nat) (h : fieldAt k = 9) : arr s (k + 1) = arr s k := by
  unfold arr
  rw [gV_other s (j := 0) h (by decide), gV_other s (j := 1) h (by decide), gV_other s (j := 2) h (by decide), gV_other s (j := 3) h (by decide), gV_other s (j := 4) h (by decide), gV_other s (j := 5) h (by decide)]
def formB (k : Nat) : UInt8 := formAt k
theorem pos_facts {k : Nat} (h : k < 19) : (fieldAt k < 6 ∧ formAt k = 48 ∧ sepZ k = (fieldAt k : Int) ∧ sepZ (k + 1) = sepZ k) ∨ (fieldAt k = 9 ∧ formAt k ≠ 48 ∧ sepZ (k + 1) = sepZ k + 1 ∧ 0 ≤ sepZ k ∧ sepZ k ≤ 5) := by
  have : k = 0 ∨ k = 1 ∨ k = 2 ∨ k = 3 ∨ k = 4 ∨ k = 5 ∨ k = 6 ∨ k = 7 ∨ k = 8 ∨ k = 9 ∨ k = 10 ∨ k = 11 ∨ k = 12 ∨ k = 13 ∨ k = 14 ∨ k = 15 ∨ k = 16 ∨ k = 17 ∨ k = 18 := by omega
  rcases this with rfl | rfl | rfl | rfl | rfl | rfl | rfl | rfl | rfl | rfl | rfl | rfl | rfl | rfl | rfl | rfl | rfl | rfl | rfl <;> decide
theorem form_get {k : Nat} (h : k < 19) : (⟨#[48, 48, 48, 48, 45, 48, 48, 45, 48, 48, 32, 48, 48, 58, 48, 48, 58, 48, 48]⟩ : ByteArray)[k]'h = formAt k := by
  have : k = 0 ∨ k = 1 ∨ k = 2 ∨ k = 3 ∨ k = 4 ∨ k = 5 ∨ k = 6 ∨ k = 7 ∨ k = 8 ∨ k = 9 ∨ k = 10 ∨ k = 11 ∨ k = 12 ∨ k = 13 ∨ k = 14 ∨ k = 15 ∨ k = 16 ∨ k = 17 ∨ k = 18 := by omega
  rcases this with rfl | rfl | rfl | rfl | rfl | rfl | rfl | rfl | rfl | rfl | rfl | rfl | rfl | rfl | rfl | rfl | rfl | rfl | rfl <;> rfl
theorem form_ascii (k : Nat) : (formAt k).toNat < 128 := by unfold formAt; (repeat' split) <;> decide
theorem gC_le (j k : Nat) (hj : j < 6) (h : k ≤ 18) (hf : fieldAt k = j) : gC j k ≤ 3 := by
  have : k = 0 ∨ k = 1 ∨ k = 2 ∨ k = 3 ∨ k = 4 ∨ k = 5 ∨ k = 6 ∨ k = 7 ∨ k = 8 ∨ k = 9 ∨ k = 10 ∨ k = 11 ∨ k = 12 ∨ k = 13 ∨ k = 14 ∨ k = 15 ∨ k = 16 ∨ k = 17 ∨ k = 18 := by omega
  rcases this with rfl | rfl | rfl | rfl | rfl | rfl | rfl | rfl | rfl | rfl | rfl | rfl | rfl | rfl | rfl | rfl | rfl | rfl | rfl <;> first | (exfalso; revert hf; simp [fieldAt]; omega) | (subst hf; decide)
theorem gV_lim {s : ByteArray} {j k : Nat} (hj : j < 6) (h : okTo s k) (hk : k ≤ 18) (hf : fieldAt k = j) : 0 ≤ gV s j k ∧ gV s j k < 1000 := by
  have h1 := gV_bd (j := j) hj h (by omega)
  have h2 : 10 ^ gC j k ≤ 10 ^ 3 := Nat.pow_le_pow_right (by omega) (gC_le j k hj hk hf)
  omega
end Lx
def ParseTm (s : ByteArray) (w : World) (e : Ending) (w' : World) : Prop := ∃ v x, e = .returned (.tuple #[.int .i64 v, .int .i64 x]) ∧ Lx.TimeIs s.data.toList v x ∧ Below w.heap.size w w'
theorem below_iter (w : World) (A : Array Value) (T : TypeId) (F : ByteArray) (p n : Nat) : Below w.heap.size w (((w.alloc (.cells A T)).iter F p).drewN n) :=
  (((Below.refl _ w).alloc (Nat.le_refl _) _).alloc (by rw [World.size_alloc]; omega) _).trans (below_drewN _ _ n)
set_option maxRecDepth 100000 in
set_option maxHeartbeats 4000000 in
theorem cv_parse_in (s : ByteArray) (w : World) (hs : s.size = 19) :
    Calls Tryz.prog 60 #[.string s] w (ParseTm s w) := by
  have h1 : ((s.size : Int) != 19) = false := by rw [bne_eq_false_iff_eq]; omega
  have h2 : 19 ≤ s.size := by omega
  have h3 : (19 : Int) ≤ (s.size : Int) := by omega
  have Hs := Lib.hid hs
  clear hs
  go_enter Tryz.func60, Tryz.ntmps60
  go_wp2_with fail
  go_loopw [5] (fun c wr => ∃ pos nq : Nat, pos ≤ 19 ∧ c = .int .i64 (Lx.sepZ pos) ∧ wr = (((w.alloc (.cells (Lx.arr s pos) 101)).iter ⟨#[48, 48, 48, 48, 45, 48, 48, 45, 48, 48, 32, 48, 48, 58, 48, 48, 58, 48, 48]⟩ pos).drewN nq) ∧ Lx.okTo s pos) (fun _ wr => 19 - wr.iterPos (w.heap.size + 1))
  case atStart => exact ⟨0, 0, by omega, rfl, rfl, fun j hj => absurd hj (by omega)⟩
  case round =>
    obtain ⟨pos, nq, hp, rfl, rfl, hok⟩ := hrel
    have Hok := Lib.hid hok
    clear hok
    by_cases hlt : pos < 19
    · have hnx0 : ∀ ty, (Instr.next (.pointer (some ⟨w.heap.size + 1, 0, none⟩)) true ty).run Tryz.prog (((w.alloc (.cells (Lx.arr s pos) 101)).iter ⟨#[48, 48, 48, 48, 45, 48, 48, 45, 48, 48, 32, 48, 48, 58, 48, 48, 58, 48, 48]⟩ pos).drewN nq) = .ok (.tuple #[.bool true, .int .i64 (pos : Int), .int .i32 ((Lx.formAt pos).toNat : Int)]) (((w.alloc (.cells (Lx.arr s pos) 101)).iter ⟨#[48, 48, 48, 48, 45, 48, 48, 45, 48, 48, 32, 48, 48, 58, 48, 48, 58, 48, 48]⟩ (pos + 1)).drewN nq) := fun ty => by
        have := run_next_ascii (P := Tryz.prog) ((w.alloc (.cells (Lx.arr s pos) 101)).drewN nq) ⟨#[48, 48, 48, 48, 45, 48, 48, 45, 48, 48, 32, 48, 48, 58, 48, 48, 58, 48, 48]⟩ pos ty hlt (by rw [Lx.form_get hlt]; exact Lx.form_ascii pos)
        rw [Lx.form_get hlt, show ((w.alloc (.cells (Lx.arr s pos) 101)).drewN nq).heap.size = w.heap.size + 1 from World.size_alloc _ _] at this
        exact this
      have hlti : (pos : Int) < 19 := by omega
      have hpi : (pos : Int) < (s.size : Int) := by omega
      have hps : pos < s.size := by omega
      obtain ⟨b, hb⟩ : ∃ b : UInt8, s[pos] = b := ⟨_, rfl⟩
      have hb2 : s.data[pos]! = b := by rw [← hb]; exact Lx.getB s pos hps
      have Hb2 := Lib.hid hb2
      have hub : (b.toNat : Int) < 256 := by have := UInt8.toNat_lt b; omega
      have hfg := Lx.form_get hlt
      have hps2 : Lx.sepZ (pos + 1) = Lx.sepZ (pos + 1) := rfl
      rcases Lx.pos_facts hlt with ⟨f6, f48, hsz, hsz1⟩ | ⟨f9, fn48, hsz1, hz0, hz5⟩
      · obtain ⟨f, hf⟩ : ∃ f, Lx.fieldAt pos = f := ⟨_, rfl⟩
        rw [hf] at f6 hsz
        obtain ⟨hg1, hg2⟩ := Lx.gV_lim f6 Hok.out (by omega) hf
        have hget := Lx.arr_get s pos f6
        have hset := Lx.arr_set s pos f6 hf hb2
        have hfi : (f : Int) < 6 := by omega
        rw [f48] at hfg hnx0
        have hnx : ∀ ty, (Instr.next (.pointer (some ⟨w.heap.size + 1, 0, none⟩)) true ty).run Tryz.prog (((w.alloc (.cells (Lx.arr s pos) 101)).iter ⟨#[48, 48, 48, 48, 45, 48, 48, 45, 48, 48, 32, 48, 48, 58, 48, 48, 58, 48, 48]⟩ pos).drewN nq) = .ok (.tuple #[.bool true, .int .i64 (pos : Int), .int .i32 48]) (((w.alloc (.cells (Lx.arr s pos) 101)).iter ⟨#[48, 48, 48, 48, 45, 48, 48, 45, 48, 48, 32, 48, 48, 58, 48, 48, 58, 48, 48]⟩ (pos + 1)).drewN nq) := hnx0
        have HF48 := Lib.hid f48
        rw [hsz]
        have Hz := Lib.hid (hsz1.trans hsz)
        have Hget := Lib.hid hget
        clear hf hsz hsz1 f48 hnx0 hb2 hps2 hget
        by_cases hd : 48 ≤ (b.toNat : Int) ∧ (b.toNat : Int) ≤ 57
        · obtain ⟨d0, d1⟩ := hd
          have dd0 : decide ((b.toNat : Int) < 48) = false := decide_eq_false (by omega)
          have dd1 : decide (57 < (b.toNat : Int)) = false := decide_eq_false (by omega)
          have hcell : ((w.alloc (.cells (Lx.arr s pos) 101)).iter ⟨#[48, 48, 48, 48, 45, 48, 48, 45, 48, 48, 32, 48, 48, 58, 48, 48, 58, 48, 48]⟩ (pos + 1)).cell? ⟨w.heap.size, f, none⟩ = some (.int .i64 (Lx.gV s f pos)) := (cell_iter w _ _ _ _ f).trans Hget.out
          have hw : ∀ n, ((((w.alloc (.cells (Lx.arr s pos) 101)).iter ⟨#[48, 48, 48, 48, 45, 48, 48, 45, 48, 48, 32, 48, 48, 58, 48, 48, 58, 48, 48]⟩ (pos + 1)).drewN n).setCell ⟨w.heap.size, f, none⟩ (.int .i64 (Lx.gV s f pos * 10 + ((b.toNat : Int) - 48)))) = (((w.alloc (.cells (Lx.arr s (pos + 1)) 101)).iter ⟨#[48, 48, 48, 48, 45, 48, 48, 45, 48, 48, 32, 48, 48, 58, 48, 48, 58, 48, 48]⟩ (pos + 1)).drewN n) := fun n => by
            rw [← hset]
            exact congrArg (fun W => World.drewN W n) (set_iter w _ 101 _ (pos + 1) f _)
          clear hset
          go_wp2_with fail
          go_quiet (fail)
          go_wp2_with fail
          go_region
          all_goals
            go_wp2_with fail
            refine ⟨⟨pos + 1, _, by omega, by rw [Hz.out], rfl, Lx.okTo_succ Hok.out (Lx.okAt_dig HF48.out (by rw [Hb2.out]; exact d0) (by rw [Hb2.out]; exact d1))⟩, ?_⟩
            rw [pos_it, pos_it]
            omega
        · have hbad := Lx.okAt_nodig (k := pos) (c := b) HF48.out (by omega)
          have Hbad := Lib.hid hbad
          clear hbad hg1 hg2 hset
          by_cases hlo : (b.toNat : Int) < 48
          case' pos =>
            have dd0 : decide ((b.toNat : Int) < 48) = true := decide_eq_true hlo
            clear hd
          case' neg =>
            have dd0 : decide ((b.toNat : Int) < 48) = false := decide_eq_false hlo
            have dd1 : decide (57 < (b.toNat : Int)) = true := decide_eq_true (by omega)
            clear hd
          all_goals
            go_wp2_with fail
            go_quiet (fail)
            go_wp2_with fail
            go_ret2
            exact ⟨_, _, rfl, Lx.timeIs_form (by decide) (.inr ⟨pos, b, hlt, by rw [← Hb2.out]; exact Lx.at_get s pos hps, Hbad.out⟩), below_iter _ _ _ _ _ _⟩
      · obtain ⟨c, hc⟩ : ∃ c, Lx.formAt pos = c := ⟨_, rfl⟩
        have hb' : s[pos] = b := hb
        rw [hc] at fn48 hfg hnx0
        have hci : ((c.toNat : Int) != 48) = true := by
          rw [bne_iff_ne]; intro e; apply fn48; apply UInt8.toNat_inj.1; show c.toNat = 48; omega
        have Hc := Lib.hid hc
        have Hz := Lib.hid hsz1
        have Hset := Lib.hid (Lx.arr_sep s pos f9)
        have hcu : (c.toNat : Int) < 128 := by have := Lx.form_ascii pos; rw [hc] at this; omega
        clear hc hsz1 f9 hb2 hps2
        obtain ⟨z, hz⟩ : ∃ z, z = Lx.sepZ pos := ⟨_, rfl⟩
        rw [← hz] at Hz hz0 hz5 ⊢
        clear hz
        by_cases hd : b = c
        · subst hd
          have hgood : Lx.okAt pos b = true := by
            unfold Lx.okAt; rw [Hc.out, if_neg fn48]; exact beq_self_eq_true b
          have Hgood := Lib.hid hgood
          clear hgood fn48
          go_wp2_with fail
          go_quiet (fail)
          go_wp2_with fail
          refine ⟨⟨pos + 1, _, by omega, by rw [Hz.out], by rw [Hset.out], Lx.okTo_succ Hok.out (by rw [Hb2.out]; exact Hgood.out)⟩, ?_⟩
          rw [pos_it, pos_it]
          omega
        · have dd : ((b.toNat : Int) == (c.toNat : Int)) = false := by
            rw [beq_eq_false_iff_ne]; intro e; apply hd; apply UInt8.toNat_inj.1; omega
          have hbad : Lx.okAt pos b = false := by
            unfold Lx.okAt; rw [Hc.out, if_neg fn48, beq_eq_false_iff_ne]; exact hd
          have Hbad := Lib.hid hbad
          clear hbad hd fn48
          go_wp2_with fail
          go_quiet (fail)
          go_wp2_with fail
          go_ret2
          exact ⟨_, _, rfl, Lx.timeIs_form (by decide) (.inr ⟨pos, b, hlt, by rw [← Hb2.out]; exact Lx.at_get s pos hps, Hbad.out⟩), below_iter _ _ _ _ _ _⟩
    · obtain rfl : pos = 19 := by omega
      have hnx : ∀ ty, (Instr.next (.pointer (some ⟨w.heap.size + 1, 0, none⟩)) true ty).run Tryz.prog (((w.alloc (.cells (Lx.arr s 19) 101)).iter ⟨#[48, 48, 48, 48, 45, 48, 48, 45, 48, 48, 32, 48, 48, 58, 48, 48, 58, 48, 48]⟩ 19).drewN nq) = .ok (.tuple #[.bool false]) (((w.alloc (.cells (Lx.arr s 19) 101)).iter ⟨#[48, 48, 48, 48, 45, 48, 48, 45, 48, 48, 32, 48, 48, 58, 48, 48, 58, 48, 48]⟩ 19).drewN nq) := fun ty => by
        have := run_next_end (P := Tryz.prog) ((w.alloc (.cells (Lx.arr s 19) 101)).drewN nq) ⟨#[48, 48, 48, 48, 45, 48, 48, 45, 48, 48, 32, 48, 48, 58, 48, 48, 58, 48, 48]⟩ 19 ty (by decide)
        rw [show ((w.alloc (.cells (Lx.arr s 19) 101)).drewN nq).heap.size = w.heap.size + 1 from World.size_alloc _ _] at this
        exact this
      obtain ⟨hciv, hbd⟩ := Lx.okTo_civ s Hs.out Hok.out
      have hbel := below_iter w (Lx.arr s 19) 101 ⟨#[48, 48, 48, 48, 45, 48, 48, 45, 48, 48, 32, 48, 48, 58, 48, 48, 58, 48, 48]⟩ 19 nq
      have Hciv := Lib.hid hciv
      clear hciv hp hlt
      unfold Lx.arr at hnx hbel ⊢
      generalize Lx.gV s 0 19 = v0 at *
      generalize Lx.gV s 1 19 = v1 at *
      generalize Lx.gV s 2 19 = v2 at *
      generalize Lx.gV s 3 19 = v3 at *
      generalize Lx.gV s 4 19 = v4 at *
      generalize Lx.gV s 5 19 = v5 at *
      by_cases hT : Lx.TmOk v0 v1 v2 v3 v4 v5
      · have HT := Lib.hid (fun W => cv_time_ok v0 v1 v2 v3 v4 v5 W hT)
        have his := Lx.timeIs_ok hT
        have His := Lib.hid his
        unfold civV at HT
        clear his hT hbd
        go_wp2_with fail
        refine (HT.out _).mono ?_
        rintro e w' ⟨rfl, hb1⟩
        go_wp2_with fail
        go_ret2
        exact ⟨_, _, rfl, by rw [Hciv.out]; exact His.out, hbel.trans (hb1.mono hbel.size)⟩
      · have HT := Lib.hid (fun W => cv_time_no v0 v1 v2 v3 v4 v5 W hT (by omega) (by omega) (by omega))
        have his := Lx.timeIs_bad (e := 2) hbd hT (by decide)
        have His := Lib.hid his
        unfold civV at HT
        clear his hT hbd
        go_wp2_with fail
        refine (HT.out _).mono ?_
        rintro e w' ⟨rfl, hb1⟩
        go_wp2_with fail
        go_ret2
        exact ⟨_, _, rfl, by rw [Hciv.out]; exact His.out, hbel.trans (hb1.mono hbel.size)⟩
theorem cv_parse_len (s : ByteArray) (w : World) (hs : s.size ≠ 19) :
    Calls Tryz.prog 60 #[.string s] w (ParseTm s w) := by
  have h1 : ((s.size : Int) != 19) = true := by rw [bne_iff_ne]; omega
  have Hs := Lib.hid hs
  clear hs
  go_enter Tryz.func60, Tryz.ntmps60
  go_wp2_with fail
  go_ret2
  exact ⟨_, _, rfl, Lx.timeIs_form (by decide) (.inl (by rw [← Lib.size_eq]; exact Hs.out)), Below.refl _ _⟩
theorem cv_parse (s : ByteArray) (w : World) : Calls Tryz.prog 60 #[.string s] w (ParseTm s w) := by
  by_cases h : s.size = 19
  · exact cv_parse_in s w h
  · exact cv_parse_len s w h
end Go.Proofs.YtnnkamfpcodnnaaGreatDoor
