/- Policies: the keys, in order, each with its functions. Policies: find: a key by its name. -/
import Derived.Test.YtpjocfkolnfjiaaGreatDoorPoM3
import Derived.Deep.CutRange
import Derived.Lib.Strings
namespace Go.Proofs.YtpjocfkolnfjiaaGreatDoor
open Go.RowKit

namespace Lx
def ptr (b : Nat) : Value := .pointer (some ⟨b, 0, none⟩)
/-- How the value of a key is written, and read. -/
def getF (b1 b2 b3 b4 : Nat) (k : Nat) : Value := match k with
  | 0 => .func (.func 50) #[] #[ptr (b1 + 2)]
  | 1 => .func (.func 50) #[] #[ptr (b2 + 2)]
  | 2 => .func (.func 54) #[] #[ptr b3]
  | 3 => .func (.func 54) #[] #[ptr b4]
  | 4 => .func (.func 34) #[] #[]
  | 5 => .func (.func 36) #[] #[]
  | 6 => .func (.func 38) #[] #[]
  | _ => .func (.func 40) #[] #[]
def setF (b1 b2 b3 b4 : Nat) (k : Nat) : Value := match k with
  | 0 => .func (.func 52) #[] #[ptr b1, ptr (b1 + 1), ptr (b1 + 2)]
  | 1 => .func (.func 52) #[] #[ptr b2, ptr (b2 + 1), ptr (b2 + 2)]
  | 2 => .func (.func 56) #[] #[ptr b3]
  | 3 => .func (.func 56) #[] #[ptr b4]
  | 4 => .func (.func 35) #[] #[]
  | 5 => .func (.func 37) #[] #[]
  | 6 => .func (.func 39) #[] #[]
  | _ => .func (.func 41) #[] #[]
def keyCells (b1 b2 b3 b4 : Nat) : List Value := (List.range 8).flatMap fun k => [.string ⟨(keyW k).toArray⟩, getF b1 b2 b3 b4 k, setF b1 b2 b3 b4 k]
/-- The boxes of the keys' functions. -/
structure KeyBox (w : World) (B b1 b2 b3 b4 : Nat) : Prop where
  n1 : B ≤ b1 ∧ b1 + 2 < w.heap.size
  n2 : B ≤ b2 ∧ b2 + 2 < w.heap.size
  n3 : B ≤ b3 ∧ b3 < w.heap.size
  n4 : B ≤ b4 ∧ b4 < w.heap.size
  a0 : w.cell? ⟨b1, 0, none⟩ = some (.int .i64 1)
  a1 : w.cell? ⟨b1 + 1, 0, none⟩ = some (.int .i64 1000)
  a2 : w.cell? ⟨b1 + 2, 0, none⟩ = some (.func (.func 29) #[] #[])
  p0 : w.cell? ⟨b2, 0, none⟩ = some (.int .i64 0)
  p1 : w.cell? ⟨b2 + 1, 0, none⟩ = some (.int .i64 100)
  p2 : w.cell? ⟨b2 + 2, 0, none⟩ = some (.func (.func 30) #[] #[])
  s0 : w.cell? ⟨b3, 0, none⟩ = some (.func (.func 32) #[] #[])
  d0 : w.cell? ⟨b4, 0, none⟩ = some (.func (.func 33) #[] #[])
theorem KeyBox.below {w w' : World} {B b1 b2 b3 b4 : Nat} (h : KeyBox w B b1 b2 b3 b4) (hb : Below w.heap.size w w') : KeyBox w' B b1 b2 b3 b4 := by
  have hs := hb.size
  have hc : ∀ b, b < w.heap.size → w'.cell? ⟨b, 0, none⟩ = w.cell? ⟨b, 0, none⟩ := fun b k => hb.cell (p := ⟨b, 0, none⟩) k
  obtain ⟨n1, n2, n3, n4, a0, a1, a2, p0, p1, p2, s0, d0⟩ := h
  exact ⟨⟨n1.1, by omega⟩, ⟨n2.1, by omega⟩, ⟨n3.1, by omega⟩, ⟨n4.1, by omega⟩, (hc _ (by omega)).trans a0, (hc _ (by omega)).trans a1, (hc _ (by omega)).trans a2, (hc _ (by omega)).trans p0, (hc _ (by omega)).trans p1, (hc _ (by omega)).trans p2, (hc _ (by omega)).trans s0, (hc _ (by omega)).trans d0⟩
/-- The keys lie in a row. -/
def KeysIn (w : World) (g b1 b2 b3 b4 : Nat) : Prop := g < w.heap.size ∧ ∀ (j : Nat) (v : Value), (keyCells b1 b2 b3 b4)[j]? = some v → w.cell? ⟨g, j, none⟩ = some v
theorem KeysIn.below {w w' : World} {g b1 b2 b3 b4 : Nat} (h : KeysIn w g b1 b2 b3 b4) (hb : Below w.heap.size w w') : KeysIn w' g b1 b2 b3 b4 :=
  ⟨Nat.lt_of_lt_of_le h.1 hb.size, fun j v hj => (hb.cell (p := ⟨g, j, none⟩) h.1).trans (h.2 j v hj)⟩
end Lx
set_option maxRecDepth 100000 in
set_option maxHeartbeats 1600000 in
theorem keys_any (w : World) :
    Calls Tryz.prog 21 #[] w fun e w' => ∃ g b1 b2 b3 b4, e = .returned (.slice (some ⟨g, 0, none⟩) 8 8) ∧ Lx.KeyBox w' w.heap.size b1 b2 b3 b4 ∧ Lx.KeysIn w' g b1 b2 b3 b4 ∧ Below w.heap.size w w' := by
  go_enter Tryz.func21, Tryz.ntmps21
  go_wp2_with fail
  refine (numeric_any _ _ _ _ _).mono ?_
  rintro e w1 ⟨b1, rfl, l1, u1, a0, a1, a2, B1⟩
  go_wp2_with fail
  refine (numeric_any _ _ _ _ _).mono ?_
  rintro e w2 ⟨b2, rfl, l2, u2, p0, p1, p2, B2⟩
  go_wp2_with fail
  refine (timed_any _ _ _).mono ?_
  rintro e w3 ⟨b3, rfl, l3, u3, s0, B3⟩
  go_wp2_with fail
  refine (timed_any _ _ _).mono ?_
  rintro e w4 ⟨b4, rfl, l4, u4, d0, B4⟩
  go_wp2_with fail
  go_ret
  obtain ⟨W, hW⟩ : ∃ W, W = w4.alloc (.cells (Lx.keyCells b1 b2 b3 b4).toArray 59) := ⟨_, rfl⟩
  have C4 : Below w4.heap.size w4 W := by rw [hW]; exact (Below.refl _ _).alloc (Nat.le_refl _) _
  have C3 : Below w3.heap.size w3 W := B4.trans (C4.mono B4.size)
  have C2 : Below w2.heap.size w2 W := B3.trans (C3.mono B3.size)
  have C1 : Below w1.heap.size w1 W := B2.trans (C2.mono B2.size)
  have k1 := B1.size
  have k2 := B2.size
  have k3 := B3.size
  have z1 := C1.size
  have z2 := C2.size
  have z3 := C3.size
  have z4 := C4.size
  have hlt : w4.heap.size < W.heap.size := by rw [hW]; simp
  have hk : ∀ (j : Nat) (v : Value), (Lx.keyCells b1 b2 b3 b4)[j]? = some v → W.cell? ⟨w4.heap.size, j, none⟩ = some v := by
    intro j v hj
    have : (Lx.keyCells b1 b2 b3 b4).toArray[j]? = some v := by rw [List.getElem?_toArray]; exact hj
    rw [hW]; simpa using this
  refine ⟨w4.heap.size, b1, b2, b3, b4, rfl, ?_, ?_, ?_⟩
  · show Lx.KeyBox (w4.alloc (.cells (Lx.keyCells b1 b2 b3 b4).toArray 59)) _ _ _ _ _
    rw [← hW]
    exact ⟨⟨l1, by omega⟩, ⟨by omega, by omega⟩, ⟨by omega, by omega⟩, ⟨by omega, by omega⟩, (C1.cell (p := ⟨b1, 0, none⟩) (by show b1 < _; omega)).trans a0, (C1.cell (p := ⟨b1 + 1, 0, none⟩) (by show b1 + 1 < _; omega)).trans a1, (C1.cell (p := ⟨b1 + 2, 0, none⟩) (by show b1 + 2 < _; omega)).trans a2,
      (C2.cell (p := ⟨b2, 0, none⟩) (by show b2 < _; omega)).trans p0, (C2.cell (p := ⟨b2 + 1, 0, none⟩) (by show b2 + 1 < _; omega)).trans p1, (C2.cell (p := ⟨b2 + 2, 0, none⟩) (by show b2 + 2 < _; omega)).trans p2, (C3.cell (p := ⟨b3, 0, none⟩) u3).trans s0, (C4.cell (p := ⟨b4, 0, none⟩) u4).trans d0⟩
  · show Lx.KeysIn (w4.alloc (.cells (Lx.keyCells b1 b2 b3 b4).toArray 59)) _ _ _ _ _
    rw [← hW]
    exact ⟨hlt, hk⟩
  · show Below _ _ (w4.alloc (.cells (Lx.keyCells b1 b2 b3 b4).toArray 59))
    rw [← hW]
    exact B1.trans (C1.mono B1.size)
end Go.Proofs.YtpjocfkolnfjiaaGreatDoor
namespace Go.Proofs.YtpjocfkolnfjiaaGreatDoor
open Go.RowKit

namespace Lx
theorem keyIx_le (l : List UInt8) : keyIx l ≤ 8 := by
  unfold keyIx
  (repeat' split) <;> omega
theorem keyIx_none {l : List UInt8} (h : ∀ j, j < 8 → keyW j ≠ l) : keyIx l = 8 := by
  have := keyIx_le l
  by_cases c : keyIx l < 8
  · exact absurd (keyIx_back c).symm (h _ c)
  · omega
theorem keyCells_at {k : Nat} (b1 b2 b3 b4 : Nat) (h : k < 8) : (keyCells b1 b2 b3 b4)[k * 3]? = some (.string ⟨(keyW k).toArray⟩) ∧ (keyCells b1 b2 b3 b4)[k * 3 + 1]? = some (getF b1 b2 b3 b4 k) ∧ (keyCells b1 b2 b3 b4)[k * 3 + 2]? = some (setF b1 b2 b3 b4 k) := by
  obtain h | h | h | h | h | h | h | h : k = 0 ∨ k = 1 ∨ k = 2 ∨ k = 3 ∨ k = 4 ∨ k = 5 ∨ k = 6 ∨ k = 7 := by omega
  all_goals (subst h; exact ⟨rfl, rfl, rfl⟩)
theorem one_fn {b1 b2 b3 b4 k : Nat} (h : k < 8) : (getF b1 b2 b3 b4 k).oneCell' = true ∧ (setF b1 b2 b3 b4 k).oneCell' = true := by
  obtain h | h | h | h | h | h | h | h : k = 0 ∨ k = 1 ∨ k = 2 ∨ k = 3 ∨ k = 4 ∨ k = 5 ∨ k = 6 ∨ k = 7 := by omega
  all_goals (subst h; exact ⟨rfl, rfl⟩)
end Lx
theorem findF_any (n s : ByteArray) (v1 v2 : Value) (c : Nat) (w : World) (hl : c < w.heap.size) (hc : w.cell? ⟨c, 0, none⟩ = some (.string s)) :
    Calls Tryz.prog 43 #[.agg #[.string n, v1, v2], .pointer (some ⟨c, 0, none⟩)] w fun e w' => e = .returned (.bool (n.toList == s.toList)) ∧ Below w.heap.size w w' := by
  have hb0 : Below w.heap.size w (w.alloc (.cells #[.string n, v1, v2] 59)) := (Below.refl _ w).alloc (Nat.le_refl _) _
  have c1 := (hb0.cell (p := ⟨c, 0, none⟩) hl).trans hc
  go_enter Tryz.func43, Tryz.ntmps43
  go_wp2_with fail
  go_ret
  exact ⟨rfl, hb0⟩
set_option maxRecDepth 100000 in
set_option maxHeartbeats 1600000 in
theorem idxKey_any (s : ByteArray) (g c b1 b2 b3 b4 : Nat) (w : World) (hl : c < w.heap.size) (hc : w.cell? ⟨c, 0, none⟩ = some (.string s)) (hk : Lx.KeysIn w g b1 b2 b3 b4) :
    Calls Tryz.prog 42 #[.slice (some ⟨g, 0, none⟩) 8 8, .func (.func 43) #[] #[.pointer (some ⟨c, 0, none⟩)]] w fun e w' => (∃ k : Nat, k < 8 ∧ Lx.keyIx s.data.toList = k ∧ e = .returned (.int .i64 k) ∨ k = 8 ∧ Lx.keyIx s.data.toList = 8 ∧ e = .returned (.int .i64 (-1))) ∧ Below w.heap.size w w' := by
  have HK := Lib.hid hk
  clear hk
  go_enter Tryz.func42, Tryz.ntmps42
  go_wp2_with fail
  go_loopw [8] (fun i wr => ∃ k : Nat, k ≤ 8 ∧ i = .int .i64 k ∧ (∀ j, j < k → Lx.keyW j ≠ s.data.toList) ∧ Below w.heap.size w wr) (fun i _ => 8 - (intOf i).toNat)
  case atStart => exact ⟨0, Nat.zero_le _, rfl, fun j hj => absurd hj (Nat.not_lt_zero _), Below.refl _ _⟩
  case round =>
    obtain ⟨k, hk, rfl, hno, hbel⟩ := hrel
    have Hno := Lib.hid hno
    clear hno
    by_cases hlt : k < 8
    · have hki : (k : Int) < 8 := by omega
      have K := Lib.hid (HK.out.below hbel)
      obtain ⟨e0, e1, e2⟩ := Lx.keyCells_at b1 b2 b3 b4 hlt
      have r0 := K.out.2 _ _ e0
      have r1 := K.out.2 _ _ e1
      have r2 := K.out.2 _ _ e2
      obtain ⟨N, hN⟩ : ∃ N : ByteArray, N = ⟨(Lx.keyW k).toArray⟩ := ⟨_, rfl⟩
      obtain ⟨GV, hGV⟩ : ∃ G, G = Lx.getF b1 b2 b3 b4 k := ⟨_, rfl⟩
      obtain ⟨SV, hSV⟩ : ∃ G, G = Lx.setF b1 b2 b3 b4 k := ⟨_, rfl⟩
      rw [← hN] at r0
      rw [← hGV] at r1
      rw [← hSV] at r2
      have HN := Lib.hid hN
      have HF := Lib.hid (findF_any N s GV SV c wr (Nat.lt_of_lt_of_le hl hbel.size) ((hbel.cell (p := ⟨c, 0, none⟩) hl).trans hc))
      clear hN hGV hSV e0 e1 e2
      by_cases hq : (N.toList == s.toList) = true
      · have hy := hq
        rw [hq] at HF
        have HE := Lib.hid (show Lx.keyIx s.data.toList = k from by
          have := eq_of_beq hy
          rw [Lib.toList_data, Lib.toList_data, HN.out] at this
          rw [← this]; exact Lx.keyIx_key hlt)
        clear hy hq
        go_wp2_with fail
        refine HF.out.mono ?_
        rintro e w1 ⟨rfl, cb⟩
        go_wp2_with fail
        go_ret
        exact ⟨⟨k, .inl ⟨hlt, HE.out, rfl⟩⟩, hbel.trans (cb.mono hbel.size)⟩
      · have hy := hq
        have hq' : (N.toList == s.toList) = false := by simpa using hq
        rw [hq'] at HF
        have HE := Lib.hid (show ∀ j, j < k + 1 → Lx.keyW j ≠ s.data.toList from by
          intro j hj e
          rcases Nat.lt_or_eq_of_le (Nat.le_of_lt_succ hj) with h | h
          · exact Hno.out j h e
          · subst h
            apply hy
            rw [beq_iff_eq, Lib.toList_data, Lib.toList_data, HN.out]; exact e)
        clear hy hq hq'
        go_wp2_with fail
        refine HF.out.mono ?_
        rintro e w1 ⟨rfl, cb⟩
        go_wp2_with fail
        go_roundw
        case rel => exact ⟨k + 1, by omega, by go_num, HE.out, hbel.trans (cb.mono hbel.size)⟩
        case measure => simp [intOf]; omega
    · obtain rfl : k = 8 := by omega
      have HE := Lib.hid (Lx.keyIx_none Hno.out)
      go_wp2_with fail
      go_ret
      exact ⟨⟨8, .inr ⟨rfl, HE.out, rfl⟩⟩, hbel⟩
namespace Lx
theorem KeyBox.set {w : World} {B b1 b2 b3 b4 : Nat} (h : KeyBox w B b1 b2 b3 b4) {q : Addr} (hq : q.block < B) (v : Value) : KeyBox (w.setCell q v) B b1 b2 b3 b4 := by
  have hz : (w.setCell q v).heap.size = w.heap.size := by simp [World.setCell]
  have hc : ∀ b, B ≤ b → (w.setCell q v).cell? ⟨b, 0, none⟩ = w.cell? ⟨b, 0, none⟩ := fun b k => World.cell?_of_block (w := w) (Below.heap_setCell _ _ _ _ (by show b ≠ _; omega))
  obtain ⟨n1, n2, n3, n4, a0, a1, a2, p0, p1, p2, s0, d0⟩ := h
  exact ⟨⟨n1.1, by omega⟩, ⟨n2.1, by omega⟩, ⟨n3.1, by omega⟩, ⟨n4.1, by omega⟩, (hc _ (by omega)).trans a0, (hc _ (by omega)).trans a1, (hc _ (by omega)).trans a2, (hc _ (by omega)).trans p0, (hc _ (by omega)).trans p1, (hc _ (by omega)).trans p2, (hc _ (by omega)).trans s0, (hc _ (by omega)).trans d0⟩
theorem KeyBox.mono {w : World} {B B' b1 b2 b3 b4 : Nat} (h : KeyBox w B b1 b2 b3 b4) (hB : B' ≤ B) : KeyBox w B' b1 b2 b3 b4 := by
  obtain ⟨n1, n2, n3, n4, a0, a1, a2, p0, p1, p2, s0, d0⟩ := h
  exact ⟨⟨by omega, n1.2⟩, ⟨by omega, n2.2⟩, ⟨by omega, n3.2⟩, ⟨by omega, n4.2⟩, a0, a1, a2, p0, p1, p2, s0, d0⟩
end Lx
/-- What find says: a key of which what it is made of is known, or none. -/
def FindPost (s : ByteArray) (w : World) (e : Ending) (w' : World) : Prop :=
  (Lx.keyIx s.data.toList = 8 ∧ e = .returned (.tuple #[.agg #[.string ⟨#[]⟩, .nilFunc, .nilFunc], .bool false]) ∧ Below w.heap.size w w') ∨
  ∃ k b1 b2 b3 b4, k < 8 ∧ Lx.keyIx s.data.toList = k ∧ e = .returned (.tuple #[.agg #[.string ⟨(Lx.keyW k).toArray⟩, Lx.getF b1 b2 b3 b4 k, Lx.setF b1 b2 b3 b4 k], .bool true]) ∧ Lx.KeyBox w' w.heap.size b1 b2 b3 b4 ∧ Below w.heap.size w w'
set_option maxRecDepth 100000 in
set_option maxHeartbeats 1600000 in
theorem find_any (s : ByteArray) (w : World) : Calls Tryz.prog 22 #[.string s] w (FindPost s w) := by
  have hb0 : Below w.heap.size w (w.alloc (.cells #[.string s] 9)) := (Below.refl _ w).alloc (Nat.le_refl _) _
  go_enter Tryz.func22, Tryz.ntmps22
  go_upto_region 1 with (fail)
  obtain ⟨W1, hW1⟩ : ∃ W, W = (w.alloc (.cells #[.string s] 9)).alloc (.cells #[.string ⟨#[]⟩, .nilFunc, .nilFunc] 59) := ⟨_, rfl⟩
  have e1 : (w.alloc (.cells #[.string s] 9)).heap.size = w.heap.size + 1 := by simp
  have q : ∀ j : Nat, (hj : j < 3) → W1.frozen? ⟨w.heap.size + 1, j, none⟩ = false := by
    intro j hj
    rw [hW1]
    obtain h | h | h : j = 0 ∨ j = 1 ∨ j = 2 := by omega
    all_goals (subst h; simp)
  have t0 : W1.cell? ⟨w.heap.size + 1, 0, none⟩ = some (.string ⟨#[]⟩) := by rw [hW1]; simp
  have t1 : W1.cell? ⟨w.heap.size + 1, 1, none⟩ = some .nilFunc := by rw [hW1]; simp
  have t2 : W1.cell? ⟨w.heap.size + 1, 2, none⟩ = some .nilFunc := by rw [hW1]; simp
  have c0 : W1.cell? ⟨w.heap.size, 0, none⟩ = some (.string s) := by rw [hW1, World.cell?_alloc_past _ _ _ (by simp)]; simp
  have B1 : Below w.heap.size w W1 := by rw [hW1]; exact hb0.alloc hb0.size _
  have l1 : w.heap.size + 1 < W1.heap.size := by rw [hW1]; simp
  have f0 := q 0 (by omega)
  have f1 := q 1 (by omega)
  have f2 := q 2 (by omega)
  rw [← hW1]
  clear hW1 hb0 e1 q
  go_wp2_with fail
  refine (keys_any _).mono ?_
  rintro e w2 ⟨g, b1, b2, b3, b4, rfl, KB, KI, b⟩
  have B2 := B1.trans (b.mono B1.size)
  have l2 := Nat.lt_of_lt_of_le l1 b.size
  have c0' := (b.cell (p := ⟨w.heap.size, 0, none⟩) (by show w.heap.size < _; omega)).trans c0
  have T : ∀ w3, Below w2.heap.size w2 w3 → w3.cell? ⟨w.heap.size + 1, 0, none⟩ = some (.string ⟨#[]⟩) ∧ w3.cell? ⟨w.heap.size + 1, 1, none⟩ = some .nilFunc ∧ w3.cell? ⟨w.heap.size + 1, 2, none⟩ = some .nilFunc ∧ w3.frozen? ⟨w.heap.size + 1, 0, none⟩ = false ∧ w3.frozen? ⟨w.heap.size + 1, 1, none⟩ = false ∧ w3.frozen? ⟨w.heap.size + 1, 2, none⟩ = false := by
    intro w3 b3'
    have h : ∀ j, w3.cell? ⟨w.heap.size + 1, j, none⟩ = W1.cell? ⟨w.heap.size + 1, j, none⟩ := fun j => (b3'.cell (p := ⟨w.heap.size + 1, j, none⟩) l2).trans (b.cell (p := ⟨w.heap.size + 1, j, none⟩) l1)
    have h' : ∀ j, w3.frozen? ⟨w.heap.size + 1, j, none⟩ = W1.frozen? ⟨w.heap.size + 1, j, none⟩ := fun j => (b3'.frozen (p := ⟨w.heap.size + 1, j, none⟩) l2).trans (b.frozen (p := ⟨w.heap.size + 1, j, none⟩) l1)
    exact ⟨(h 0).trans t0, (h 1).trans t1, (h 2).trans t2, (h' 0).trans f0, (h' 1).trans f1, (h' 2).trans f2⟩
  have HT := Lib.hid T
  have HI := Lib.hid (idxKey_any s g w.heap.size b1 b2 b3 b4 w2 (by omega) c0' KI)
  have HKB := Lib.hid KB
  have HKI := Lib.hid KI
  have HB2 := Lib.hid B2
  have s1 : w.heap.size ≤ W1.heap.size := by omega
  clear T t0 t1 t2 f0 f1 f2 c0 c0' KB KI B2 b
  go_wp2_with fail
  refine HI.out.mono ?_
  rintro e w3 ⟨⟨k, ⟨hk, he, rfl⟩ | ⟨rfl, he, rfl⟩⟩, b'⟩
  · obtain ⟨t0, t1, t2, f0, f1, f2⟩ := HT.out w3 b'
    have KI3 := HKI.out.below b'
    have KB3 := Lib.hid (HKB.out.below b')
    have B3 := Lib.hid (HB2.out.trans (b'.mono HB2.out.size))
    obtain ⟨e0, e1, e2⟩ := Lx.keyCells_at b1 b2 b3 b4 hk
    have r0 := KI3.2 _ _ e0
    have r1 := KI3.2 _ _ e1
    have r2 := KI3.2 _ _ e2
    have HE := Lib.hid he
    have one := Lib.hid (Lx.one_fn (b1 := b1) (b2 := b2) (b3 := b3) (b4 := b4) hk)
    have hkp : (0 : Int) ≤ (k : Int) := by omega
    have hk8 : (k : Int) < 8 := by omega
    obtain ⟨N, hN⟩ : ∃ N : ByteArray, N = ⟨(Lx.keyW k).toArray⟩ := ⟨_, rfl⟩
    obtain ⟨GV, hGV⟩ : ∃ G, G = Lx.getF b1 b2 b3 b4 k := ⟨_, rfl⟩
    obtain ⟨SV, hSV⟩ : ∃ G, G = Lx.setF b1 b2 b3 b4 k := ⟨_, rfl⟩
    rw [← hN] at r0
    rw [← hGV] at r1 one
    rw [← hSV] at r2 one
    have HN := Lib.hid hN
    have HG := Lib.hid hGV
    have HS := Lib.hid hSV
    have g1 : ∀ (q : Addr) (W : World), (store q GV).run Tryz.prog W = stored Tryz.prog W q GV .plain := fun q W => run_store Tryz.prog W q _ _ one.out.1
    have g2 : ∀ (q : Addr) (W : World), (store q SV).run Tryz.prog W = stored Tryz.prog W q SV .plain := fun q W => run_store Tryz.prog W q _ _ one.out.2
    clear e0 e1 e2 he hN hGV hSV KI3 HI HT HKI b'
    go_wp2_with fail
    refine bodyPost_ret (v := .tuple #[.agg #[.string N, GV, SV], .bool true]) ?_ rfl (.inr ⟨k, b1, b2, b3, b4, hk, HE.out, by rw [HN.out, HG.out, HS.out], ?_, ?_⟩)
    · simp [results, Tryz.results22, go_sem, t0, t1, t2]
    · exact (((KB3.out.set (by show w.heap.size + 1 < _; exact l1) _).set (by show w.heap.size + 1 < _; exact l1) _).set (by show w.heap.size + 1 < _; exact l1) _).mono s1
    · exact ((B3.out.setCell (Nat.le_succ _) _).setCell (Nat.le_succ _) _).setCell (Nat.le_succ _) _
  · have HE := Lib.hid he
    obtain ⟨t0, t1, t2, f0, f1, f2⟩ := HT.out w3 b'
    have B3 := Lib.hid (HB2.out.trans (b'.mono HB2.out.size))
    clear he HI HT HKI b'
    have g3 : ∀ (q : Addr) (W : World), (store q .nilFunc).run Tryz.prog W = stored Tryz.prog W q .nilFunc .plain := fun q W => run_store Tryz.prog W q _ _ rfl
    go_wp2_with fail
    refine bodyPost_ret (v := .tuple #[.agg #[.string ⟨#[]⟩, .nilFunc, .nilFunc], .bool false]) ?_ rfl (.inl ⟨HE.out, rfl, ?_⟩)
    · simp [results, Tryz.results22, go_sem, t0, t1, t2]
    · exact ((B3.out.setCell (Nat.le_succ _) _).setCell (Nat.le_succ _) _).setCell (Nat.le_succ _) _
end Go.Proofs.YtpjocfkolnfjiaaGreatDoor
