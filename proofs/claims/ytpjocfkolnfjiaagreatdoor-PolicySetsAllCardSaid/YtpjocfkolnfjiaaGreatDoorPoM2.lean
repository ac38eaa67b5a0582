/- Policies: in, rule, first, and what they lean on. Policies: the checks of a limit, a breaker, retries, a misfire policy; of a policy. -/
import Derived.Test.YtpjocfkolnfjiaaGreatDoorProg
import Derived.Test.YtpjocfkolnfjiaaGreatDoorPoM1
import Derived.WalkKit
import Derived.WalkSpells
import Derived.WalkLawsBesides
import Derived.BigQuiet
import Derived.BigGuardPart
import Derived.Lib.Hide
import Derived.Deep.RegionHeld
import Derived.Laws.StructEq
import Derived.KernelRfl
import Derived.Deep.CutRange
namespace Go.Proofs.YtpjocfkolnfjiaaGreatDoor
open Go.RowKit

theorem inInt_any (n lo hi : Int) (w : World) : Calls Tryz.prog 10 #[.int .i64 n, .int .i64 lo, .int .i64 hi] w fun e w' => e = .returned (.bool (Lx.inI n lo hi)) ∧ w' = w := by
  by_cases h : lo ≤ n
  · have hv : Lx.inI n lo hi = decide (n ≤ hi) := by unfold Lx.inI; rw [Bool.eq_iff_iff]; simp [h]
    have e1 : decide (lo ≤ n) = true := decide_eq_true h
    rw [hv]; clear hv h
    go_enter Tryz.func10, Tryz.ntmps10
    go_wp2_with fail
    go_ret
    exact ⟨rfl, rfl⟩
  · have hv : Lx.inI n lo hi = false := decide_eq_false (fun c => h c.1)
    have e1 : decide (lo ≤ n) = false := decide_eq_false h
    rw [hv]; clear hv h
    go_enter Tryz.func10, Tryz.ntmps10
    go_wp2_with fail
    go_ret
    exact ⟨rfl, rfl⟩
theorem inI64_any (n lo hi : Int) (w : World) : Calls Tryz.prog 11 #[.int .i64 n, .int .i64 lo, .int .i64 hi] w fun e w' => e = .returned (.bool (Lx.inI n lo hi)) ∧ w' = w := by
  by_cases h : lo ≤ n
  · have hv : Lx.inI n lo hi = decide (n ≤ hi) := by unfold Lx.inI; rw [Bool.eq_iff_iff]; simp [h]
    have e1 : decide (lo ≤ n) = true := decide_eq_true h
    rw [hv]; clear hv h
    go_enter Tryz.func11, Tryz.ntmps11
    go_wp2_with fail
    go_ret
    exact ⟨rfl, rfl⟩
  · have hv : Lx.inI n lo hi = false := decide_eq_false (fun c => h c.1)
    have e1 : decide (lo ≤ n) = false := decide_eq_false h
    rw [hv]; clear hv h
    go_enter Tryz.func11, Tryz.ntmps11
    go_wp2_with fail
    go_ret
    exact ⟨rfl, rfl⟩
namespace Lx
/-- What Index says of a row of Booleans: -1 where all are true. -/
def IdxIs (L : List Bool) (r : Int) : Prop := L.all id = true ∧ r = -1 ∨ L.all id = false ∧ 0 ≤ r
/-- The cells of a row of Booleans, of numbers. -/
def BCells (w : World) (g : Nat) (L : List Bool) : Prop := ∀ (i : Nat) (b : Bool), L[i]? = some b → w.cell? ⟨g, i, none⟩ = some (.bool b)
def ICells (w : World) (g : Nat) (L : List Int) : Prop := ∀ (i : Nat) (b : Int), L[i]? = some b → w.cell? ⟨g, i, none⟩ = some (.int .i64 b)
theorem all_upto {L : List Bool} (h : ∀ (i : Nat) (b : Bool), L[i]? = some b → b = true) : L.all id = true := by
  rw [List.all_eq_true]
  intro b hb
  obtain ⟨i, hi⟩ := List.mem_iff_getElem?.1 hb
  exact h i b hi
theorem all_not {L : List Bool} {i : Nat} (h : L[i]? = some false) : L.all id = false := by
  rw [List.all_eq_false]
  exact ⟨false, List.mem_of_getElem? h, by simp⟩
end Lx
theorem idxF_any (g n cap : Nat) (L : List Bool) (w : World) (hL : L.length = n) (hn : n ≤ 1000) (hc : Lx.BCells w g L) :
    Calls Tryz.prog 44 #[.slice (some ⟨g, 0, none⟩) n cap, .bool false] w fun e w' => ∃ r : Int, e = .returned (.int .i64 r) ∧ Lx.IdxIs L r ∧ w' = w := by
  have HC := Lib.hid hc
  have HL := Lib.hid hL
  clear hc hL
  go_enter Tryz.func44, Tryz.ntmps44
  go_wp2_with fail
  go_loop [8] (fun i => ∃ k : Nat, k ≤ n ∧ i = .int .i64 k ∧ ∀ (j : Nat) (b : Bool), j < k → L[j]? = some b → b = true) (fun i => n - (intOf i).toNat)
  case atStart => exact ⟨0, Nat.zero_le _, rfl, fun j b hj => absurd hj (Nat.not_lt_zero _)⟩
  case round =>
    obtain ⟨k, hk, rfl, hall⟩ := hrel
    have HA := Lib.hid hall
    clear hall
    by_cases hlt : k < n
    · have hki : (k : Int) < (n : Int) := by omega
      obtain ⟨b, hb⟩ : ∃ b, L[k]? = some b := ⟨_, List.getElem?_eq_getElem (by rw [HL.out]; exact hlt)⟩
      have cb := HC.out k b hb
      have HB := Lib.hid hb
      clear hb
      cases b
      · go_wp2_with fail
        go_ret
        exact ⟨_, rfl, .inr ⟨Lx.all_not HB.out, by omega⟩, rfl⟩
      · go_wp2_with fail
        go_round
        case rel => exact ⟨k + 1, by omega, by go_num, fun j b hj hb => by rcases Nat.lt_or_eq_of_le (Nat.le_of_lt_succ hj) with c | c; (exact HA.out j b c hb); (subst c; rw [HB.out] at hb; cases hb; rfl)⟩
        case measure => simp [intOf]; omega
    · obtain rfl : k = n := by omega
      have hki : decide ((k : Int) < (k : Int)) = false := decide_eq_false (by omega)
      go_wp2_with fail
      go_ret
      exact ⟨_, rfl, .inl ⟨Lx.all_upto (fun i b hi => HA.out i b (by rw [← HL.out]; exact (List.getElem?_eq_some_iff.1 hi).1) hi), rfl⟩, rfl⟩
theorem hasF_any (g n cap : Nat) (L : List Bool) (w : World) (hL : L.length = n) (hn : n ≤ 1000) (hc : Lx.BCells w g L) :
    Calls Tryz.prog 23 #[.slice (some ⟨g, 0, none⟩) n cap, .bool false] w fun e w' => e = .returned (.bool (!L.all id)) ∧ w' = w := by
  have H := Lib.hid (idxF_any g n cap L w hL hn hc)
  unfold Lx.IdxIs at H
  generalize L.all id = B at *
  clear hL hc
  go_enter Tryz.func23, Tryz.ntmps23
  go_wp2_with fail
  refine H.out.mono ?_
  rintro e w1 ⟨r, rfl, hr, rfl⟩
  rcases hr with ⟨rfl, rfl⟩ | ⟨rfl, hr⟩
  · go_wp2_with fail
    go_ret
    exact ⟨rfl, rfl⟩
  · have h0 : decide (0 ≤ r) = true := decide_eq_true hr
    go_wp2_with fail
    go_ret
    exact ⟨rfl, rfl⟩
theorem rule_any (g n cap : Nat) (L : List Bool) (w : World) (hL : L.length = n) (hn : n ≤ 1000) (hc : Lx.BCells w g L) :
    Calls Tryz.prog 9 #[.slice (some ⟨g, 0, none⟩) n cap] w fun e w' => e = .returned (.int .i64 (Lx.ruleE (L.all id))) ∧ w' = w := by
  have H := Lib.hid (hasF_any g n cap L w hL hn hc)
  generalize L.all id = B at *
  clear hL hc
  cases B
  · go_enter Tryz.func9, Tryz.ntmps9
    go_wp2_with fail
    refine H.out.mono ?_
    rintro e w1 ⟨rfl, rfl⟩
    go_wp2_with fail
    go_ret
    exact ⟨rfl, rfl⟩
  · go_enter Tryz.func9, Tryz.ntmps9
    go_wp2_with fail
    refine H.out.mono ?_
    rintro e w1 ⟨rfl, rfl⟩
    go_wp2_with fail
    go_ret
    exact ⟨rfl, rfl⟩
namespace Lx
theorem first_hit {L : List Int} {k : Nat} (h : L[k]? = some 10) : firstE L = 10 := by
  unfold firstE; rw [if_pos (List.mem_of_getElem? h)]
/-- What first has found before part k. -/
def fsO (L : List Int) (k : Nat) : Int := if (L.take k).all (· == 0) = true then 0 else 16
theorem fsO_zero {L : List Int} {k : Nat} (h : L[k]? = some 0) : fsO L (k + 1) = fsO L k := by
  unfold fsO
  have e : L.take (k + 1) = L.take k ++ [0] := by rw [List.take_add_one, h]; rfl
  rw [e, List.all_append]; simp
theorem fsO_bad {L : List Int} {k : Nat} {x : Int} (h : L[k]? = some x) (hx : x ≠ 0) : fsO L (k + 1) = 16 := by
  unfold fsO
  have e : L.take (k + 1) = L.take k ++ [x] := by rw [List.take_add_one, h]; rfl
  rw [e, List.all_append]; simp [hx]
theorem first_end {L : List Int} (h : ∀ (i : Nat) (x : Int), L[i]? = some x → x ≠ 10) : firstE L = fsO L L.length := by
  unfold firstE fsO
  rw [if_neg (fun c => by obtain ⟨i, hi⟩ := List.mem_iff_getElem?.1 c; exact h i 10 hi rfl), List.take_length]
end Lx
theorem first_any (g n cap : Nat) (L : List Int) (w : World) (hL : L.length = n) (hn : n ≤ 1000) (hc : Lx.ICells w g L) :
    Calls Tryz.prog 12 #[.slice (some ⟨g, 0, none⟩) n cap] w fun e w' => e = .returned (.int .i64 (Lx.firstE L)) ∧ w' = w := by
  have HC := Lib.hid hc
  have HL := Lib.hid hL
  obtain ⟨z, hz⟩ : ∃ z, z = Lx.firstE L := ⟨_, rfl⟩
  rw [← hz]
  have HZ := Lib.hid hz
  clear hc hL hz
  go_enter Tryz.func12, Tryz.ntmps12
  go_wp2_with fail
  go_loop [3, 8] (fun o i => ∃ k : Nat, k ≤ n ∧ i = .int .i64 k ∧ o = .int .i64 (Lx.fsO L k) ∧ ∀ (j : Nat) (b : Int), j < k → L[j]? = some b → b ≠ 10) (fun _ i => n - (intOf i).toNat)
  case atStart => exact ⟨0, Nat.zero_le _, rfl, rfl, fun j b hj => absurd hj (Nat.not_lt_zero _)⟩
  case round =>
    obtain ⟨k, hk, rfl, rfl, hall⟩ := hrel
    have HA := Lib.hid hall
    clear hall
    by_cases hlt : k < n
    · have hki : (k : Int) < (n : Int) := by omega
      obtain ⟨x, hx⟩ : ∃ x, L[k]? = some x := ⟨_, List.getElem?_eq_getElem (by rw [HL.out]; exact hlt)⟩
      have cb := HC.out k x hx
      have HB := Lib.hid hx
      clear hx
      by_cases h10 : x = 10
      · subst h10
        have hs := HZ.out.trans (Lx.first_hit HB.out)
        subst hs
        clear HZ
        go_wp2_with fail
        go_ret
        exact ⟨rfl, rfl⟩
      · have e10 : (x == 10) = false := by rw [beq_eq_false_iff_ne]; exact h10
        have HN := Lib.hid (show ∀ (j : Nat) (b : Int), j < k + 1 → L[j]? = some b → b ≠ 10 from fun j b hj hb => by rcases Nat.lt_or_eq_of_le (Nat.le_of_lt_succ hj) with c | c; (exact HA.out j b c hb); (subst c; rw [HB.out] at hb; cases hb; exact h10))
        by_cases h0 : x = 0
        · subst h0
          have HS := Lib.hid (Lx.fsO_zero HB.out)
          generalize Lx.fsO L k = f at *
          clear h10
          go_wp2_with fail
          go_round
          case rel => exact ⟨k + 1, by omega, by go_num, by rw [HS.out], HN.out⟩
          case measure => simp [intOf]; omega
        · have e0 : (x != 0) = true := by rw [bne_iff_ne]; exact h0
          have HS := Lib.hid (Lx.fsO_bad HB.out h0)
          generalize Lx.fsO L k = f at *
          clear h10 h0
          go_wp2_with fail
          go_round
          case rel => exact ⟨k + 1, by omega, by go_num, by rw [HS.out], HN.out⟩
          case measure => simp [intOf]; omega
    · obtain rfl : k = n := by omega
      have hki : decide ((k : Int) < (k : Int)) = false := decide_eq_false (by omega)
      have hs := HZ.out.trans (Lx.first_end (fun i x hi => HA.out i x (by rw [← HL.out]; exact (List.getElem?_eq_some_iff.1 hi).1) hi))
      rw [HL.out] at hs
      subst hs
      clear HZ
      go_wp2_with fail
      go_ret
      exact ⟨rfl, rfl⟩
end Go.Proofs.YtpjocfkolnfjiaaGreatDoor
namespace Go.Proofs.YtpjocfkolnfjiaaGreatDoor
open Go.RowKit

theorem bcells_new (w : World) (L : List Bool) (T : TypeId) : Lx.BCells (w.alloc (.cells (L.map Value.bool).toArray T)) w.heap.size L := by
  intro i b hi
  have : (L.map Value.bool).toArray[i]? = some (.bool b) := by rw [List.getElem?_toArray, List.getElem?_map, hi]; rfl
  simpa using this
theorem bcellsD (w : World) (cs : Array Value) (L : List Bool) (T : TypeId) (h : cs = (L.map Value.bool).toArray) : Lx.BCells (w.alloc (.cells cs T)).drew w.heap.size L := by
  subst h
  intro i b hi
  exact bcells_new w L T i b hi
theorem icellsD (w : World) (cs : Array Value) (L : List Int) (T : TypeId) (h : cs = (L.map (Value.int .i64)).toArray) : Lx.ICells (w.alloc (.cells cs T)).drew w.heap.size L := by
  subst h
  intro i b hi
  have : (L.map (Value.int .i64)).toArray[i]? = some (.int .i64 b) := by rw [List.getElem?_toArray, List.getElem?_map, hi]; rfl
  show (w.alloc (.cells (L.map (Value.int .i64)).toArray T)).cell? ⟨w.heap.size, i, none⟩ = _
  simpa using this
theorem icells_new (w : World) (L : List Int) (T : TypeId) : Lx.ICells (w.alloc (.cells (L.map (Value.int .i64)).toArray T)) w.heap.size L := by
  intro i b hi
  have : (L.map (Value.int .i64)).toArray[i]? = some (.int .i64 b) := by rw [List.getElem?_toArray, List.getElem?_map, hi]; rfl
  simpa using this
set_option maxRecDepth 100000 in
set_option maxHeartbeats 1600000 in
theorem checkLimit_any (t u : Int) (w : World) :
    Calls Tryz.prog 14 #[.agg #[.int .i64 t, .int .i64 u]] w fun e w' => e = .returned (.int .i64 (Lx.limErr t u)) ∧ Below w.heap.size w w' := by
  have hb0 : Below w.heap.size w (w.alloc (.cells #[.int .i64 t, .int .i64 u] 23)) := (Below.refl _ w).alloc (Nat.le_refl _) _
  have hlt : w.heap.size < (w.alloc (.cells #[.int .i64 t, .int .i64 u] 23)).heap.size := by simp
  have q0 : (w.alloc (.cells #[.int .i64 t, .int .i64 u] 23)).cell? ⟨w.heap.size, 0, none⟩ = some (.int .i64 t) := by simp
  have q1 : (w.alloc (.cells #[.int .i64 t, .int .i64 u] 23)).cell? ⟨w.heap.size, 1, none⟩ = some (.int .i64 u) := by simp
  by_cases h : 0 < t
  · have hd : decide (0 < t) = true := decide_eq_true h
    have HV := Lib.hid (show Lx.limErr t u = Lx.ruleE ([Lx.inI t 0 68719476736, Lx.inI u 0 68719476736, true].all id) from by
      unfold Lx.limErr Lx.ruleE Lx.limOk Lx.inI
      by_cases a : 0 ≤ t ∧ t ≤ 68719476736 <;> by_cases b : 0 ≤ u ∧ u ≤ 68719476736 <;> simp [a, b, h] <;> omega)
    go_enter Tryz.func14, Tryz.ntmps14
    go_wp2_with fail
    obtain ⟨W0, hW0⟩ : ∃ W0, W0 = w.alloc (.cells #[.int .i64 t, .int .i64 u] 23) := ⟨_, rfl⟩
    rw [← hW0] at hb0 hlt q0 q1 ⊢
    have HSS := Lib.hid (show ∀ wx, Below W0.heap.size W0 wx → Below W0.heap.size W0 wx ∧ wx.cell? ⟨w.heap.size, 0, none⟩ = some (.int .i64 t) ∧ wx.cell? ⟨w.heap.size, 1, none⟩ = some (.int .i64 u) from fun wx b => ⟨b, (b.cell (p := ⟨w.heap.size, 0, none⟩) hlt).trans q0, (b.cell (p := ⟨w.heap.size, 1, none⟩) hlt).trans q1⟩)
    have hS0 := HSS.out W0.drew ((Below.refl _ _).drew)
    have B0 := Lib.hid hb0
    clear hW0 hb0 hlt q0 q1 h
    refine wp_region_held_drew (S := (fun wx => Below W0.heap.size W0 wx ∧ wx.cell? ⟨w.heap.size, 0, none⟩ = some (.int .i64 t) ∧ wx.cell? ⟨w.heap.size, 1, none⟩ = some (.int .i64 u))) (by kernel_rfl) ?_ (fun hHeld => ?_)
    · exact hS0
    refine' wpAnyH_take (i := 0) (oi := _) (v := _) ?hi0r1 (by kernel_rfl) (by kernel_rfl) (by kernel_rfl) ?hq0r1 ?hy0r1 (by assumption) ?re0r1
    case hi0r1 => simp only [List.getElem?_toArray, List.getElem?_cons_zero]; rfl
    case hq0r1 => exact fun _ _ _ h => h
    case hy0r1 =>
      refine Or.inl ⟨by rfl, ?_⟩
      intro w hSw; (try dsimp only at hSw); go_simp; try with_reducible rfl
    try simp only [Act.put, List.setIfInBounds_toArray, List.set_cons_zero, List.set_cons_succ]
    refine' wpAnyH_take (i := 1) (oi := _) (v := _) ?hi1r1 (by kernel_rfl) (by kernel_rfl) (by kernel_rfl) ?hq1r1 ?hy1r1 (by assumption) ?re1r1
    case hi1r1 => simp only [List.getElem?_toArray, List.getElem?_cons_succ, List.getElem?_cons_zero]; rfl
    case hq1r1 => exact fun _ _ _ h => h
    case hy1r1 =>
      refine Or.inl ⟨by rfl, ?_⟩
      intro w hSw; (try dsimp only at hSw); go_simp; try with_reducible rfl
    try simp only [Act.put, List.setIfInBounds_toArray, List.set_cons_zero, List.set_cons_succ]
    refine' wpAnyH_take (i := 3) (oi := _) (v := _) ?hi3r1 (by kernel_rfl) (by kernel_rfl) (by kernel_rfl) ?hq3r1 ?hy3r1 (by assumption) ?re3r1
    case hi3r1 => simp only [List.getElem?_toArray, List.getElem?_cons_succ, List.getElem?_cons_zero]; rfl
    case hq3r1 => exact fun _ _ _ h => h
    case hy3r1 =>
      refine Or.inl ⟨by rfl, ?_⟩
      intro w hSw; (try dsimp only at hSw); go_simp; try with_reducible rfl
    try simp only [Act.put, List.setIfInBounds_toArray, List.set_cons_zero, List.set_cons_succ]
    refine' wpAnyH_take (i := 4) (oi := _) (v := _) ?hi4r1 (by kernel_rfl) (by kernel_rfl) (by kernel_rfl) ?hq4r1 ?hy4r1 (by assumption) ?re4r1
    case hi4r1 => simp only [List.getElem?_toArray, List.getElem?_cons_succ, List.getElem?_cons_zero]; rfl
    case hq4r1 => exact fun _ _ _ h => h
    case hy4r1 =>
      refine Or.inl ⟨by rfl, ?_⟩
      intro w hSw; (try dsimp only at hSw); go_simp; try with_reducible rfl
    try simp only [Act.put, List.setIfInBounds_toArray, List.set_cons_zero, List.set_cons_succ]
    refine' wpAnyH_take (i := 6) (oi := _) (v := _) ?hi6r1 (by kernel_rfl) (by kernel_rfl) (by kernel_rfl) ?hq6r1 ?hy6r1 (by assumption) ?re6r1
    case hi6r1 => simp only [List.getElem?_toArray, List.getElem?_cons_succ, List.getElem?_cons_zero]; rfl
    case hq6r1 => exact fun _ _ _ h => h
    case hy6r1 =>
      refine Or.inl ⟨by rfl, ?_⟩
      intro w hSw; (try dsimp only at hSw); go_simp; try with_reducible rfl
    try simp only [Act.put, List.setIfInBounds_toArray, List.set_cons_zero, List.set_cons_succ]
    refine' wpAnyH_take (i := 7) (oi := _) (v := _) ?hi7r1 (by kernel_rfl) (by kernel_rfl) (by kernel_rfl) ?hq7r1 ?hy7r1 (by assumption) ?re7r1
    case hi7r1 => simp only [List.getElem?_toArray, List.getElem?_cons_succ, List.getElem?_cons_zero]; rfl
    case hq7r1 => exact fun _ _ _ h => h
    case hy7r1 =>
      refine Or.inl ⟨by rfl, ?_⟩
      intro w hSw; (try dsimp only at hSw); go_simp; try with_reducible rfl
    try simp only [Act.put, List.setIfInBounds_toArray, List.set_cons_zero, List.set_cons_succ]
    refine' wpAnyH_take (i := 8) (oi := _) (v := _) ?hi8r1 (by kernel_rfl) (by kernel_rfl) (by kernel_rfl) ?hq8r1 ?hy8r1 (by assumption) ?re8r1
    case hi8r1 => simp only [List.getElem?_toArray, List.getElem?_cons_succ, List.getElem?_cons_zero]; rfl
    case hq8r1 => exact fun _ _ _ h => h
    case hy8r1 =>
      refine Or.inl ⟨by rfl, ?_⟩
      intro w hSw; (try dsimp only at hSw); go_simp; try with_reducible rfl
    try simp only [Act.put, List.setIfInBounds_toArray, List.set_cons_zero, List.set_cons_succ]
    refine wpAnyH_ready (rs := [2]) (by kernel_rfl) (by simp) ?_
    refine' AllReadyH.cons (o := _) ?hi2r1 (fun K hK => ?st2r1) AllReadyH.nil
    case hi2r1 => simp only [List.getElem?_toArray, List.getElem?_cons_succ, List.getElem?_cons_zero]; rfl
    go_simp
    go_at_call 11; refine (inI64_any _ _ _ _).mono ?_; rintro e w8 ⟨rfl, rfl⟩; have k8 := hHeld
    try go_wp2_with fail
    refine hK.out _ _ ?_ (fun hHeld => ?_)
    · exact k8
    clear hK K
    try simp only [Act.put, List.setIfInBounds_toArray, List.set_cons_zero, List.set_cons_succ]
    refine wpAnyH_ready (rs := [5]) (by kernel_rfl) (by simp) ?_
    refine' AllReadyH.cons (o := _) ?hi5r1 (fun K hK => ?st5r1) AllReadyH.nil
    case hi5r1 => simp only [List.getElem?_toArray, List.getElem?_cons_succ, List.getElem?_cons_zero]; rfl
    go_simp
    go_at_call 11; refine (inI64_any _ _ _ _).mono ?_; rintro e w8 ⟨rfl, rfl⟩; have k8 := hHeld
    try go_wp2_with fail
    refine hK.out _ _ ?_ (fun hHeld => ?_)
    · exact k8
    clear hK K
    try simp only [Act.put, List.setIfInBounds_toArray, List.set_cons_zero, List.set_cons_succ]
    refine' wpAnyH_take (i := 9) (oi := _) (v := _) ?hi9r1 (by kernel_rfl) (by kernel_rfl) (by kernel_rfl) ?hq9r1 ?hy9r1 (by assumption) ?re9r1
    case hi9r1 => simp only [List.getElem?_toArray, List.getElem?_cons_succ, List.getElem?_cons_zero]; rfl
    case hq9r1 => exact fun _ _ _ h => h
    case hy9r1 =>
      refine Or.inl ⟨by rfl, ?_⟩
      intro w hSw; (try dsimp only at hSw); go_simp; try with_reducible rfl
    try simp only [Act.put, List.setIfInBounds_toArray, List.set_cons_zero, List.set_cons_succ]
    refine' wpAnyH_take (i := 10) (oi := _) (v := undef) ?hi10r1 (by kernel_rfl) (by kernel_rfl) (by kernel_rfl) ?hq10r1 ?hy10r1 (by assumption) ?re10r1
    case hi10r1 => simp only [List.getElem?_toArray, List.getElem?_cons_succ, List.getElem?_cons_zero]; rfl
    case hq10r1 => exact fun _ _ _ h => h
    case hy10r1 => exact Or.inr ⟨by rfl, rfl⟩
    try simp only [Act.put, List.setIfInBounds_toArray, List.set_cons_zero, List.set_cons_succ]
    refine' wpAnyH_take (i := 11) (oi := _) (v := undef) ?hi11r1 (by kernel_rfl) (by kernel_rfl) (by kernel_rfl) ?hq11r1 ?hy11r1 (by assumption) ?re11r1
    case hi11r1 => simp only [List.getElem?_toArray, List.getElem?_cons_succ, List.getElem?_cons_zero]; rfl
    case hq11r1 => exact fun _ _ _ h => h
    case hy11r1 => exact Or.inr ⟨by rfl, rfl⟩
    try simp only [Act.put, List.setIfInBounds_toArray, List.set_cons_zero, List.set_cons_succ]
    refine' wpAnyH_take (i := 12) (oi := _) (v := undef) ?hi12r1 (by kernel_rfl) (by kernel_rfl) (by kernel_rfl) ?hq12r1 ?hy12r1 (by assumption) ?re12r1
    case hi12r1 => simp only [List.getElem?_toArray, List.getElem?_cons_succ, List.getElem?_cons_zero]; rfl
    case hq12r1 => exact fun _ _ _ h => h
    case hy12r1 => exact Or.inr ⟨by rfl, rfl⟩
    try simp only [Act.put, List.setIfInBounds_toArray, List.set_cons_zero, List.set_cons_succ]
    refine' wpAnyH_take (i := 13) (oi := _) (v := _) ?hi13r1 (by kernel_rfl) (by kernel_rfl) (by kernel_rfl) ?hq13r1 ?hy13r1 (by assumption) ?re13r1
    case hi13r1 => simp only [List.getElem?_toArray, List.getElem?_cons_succ, List.getElem?_cons_zero]; rfl
    case hq13r1 => exact fun _ _ _ h => h
    case hy13r1 =>
      refine Or.inl ⟨by rfl, ?_⟩
      intro w hSw; (try dsimp only at hSw); go_simp; try with_reducible rfl
    try simp only [Act.put, List.setIfInBounds_toArray, List.set_cons_zero, List.set_cons_succ]
    refine wpAnyH_ready (rs := [14]) (by kernel_rfl) (by simp) ?_
    refine' AllReadyH.cons (o := _) ?hi14r1 (fun K hK => ?st14r1) AllReadyH.nil
    case hi14r1 => simp only [List.getElem?_toArray, List.getElem?_cons_succ, List.getElem?_cons_zero]; rfl
    go_simp
    have k8 := HSS.out (World.drew (W0.alloc (.cells #[.bool (Lx.inI t 0 68719476736), .bool (Lx.inI u 0 68719476736), .bool true] 4))) (((Below.refl _ _).alloc (Nat.le_refl _) _).drew)
    try go_wp2_with fail
    refine hK.out _ _ ?_ (fun hHeld => ?_)
    · exact k8
    clear hK K
    try simp only [Act.put, List.setIfInBounds_toArray, List.set_cons_zero, List.set_cons_succ]
    refine wpAnyH_ready (rs := [15]) (by kernel_rfl) (by simp) ?_
    refine' AllReadyH.cons (o := _) ?hi15r1 (fun K hK => ?st15r1) AllReadyH.nil
    case hi15r1 => simp only [List.getElem?_toArray, List.getElem?_cons_succ, List.getElem?_cons_zero]; rfl
    go_simp
    go_at_call 9; have hbc := bcellsD W0 _ [Lx.inI t 0 68719476736, Lx.inI u 0 68719476736, true] 4 rfl; refine (rule_any W0.heap.size 3 3 [Lx.inI t 0 68719476736, Lx.inI u 0 68719476736, true] _ rfl (by omega) hbc).mono ?_; rintro e w8 ⟨rfl, rfl⟩; rw [← HV.out]; have k8 := hHeld
    try go_wp2_with fail
    refine hK.out _ _ ?_ (fun hHeld => ?_)
    · exact k8
    clear hK K
    try simp only [Act.put, List.setIfInBounds_toArray, List.set_cons_zero, List.set_cons_succ]
    refine' wpAnyH_take (i := 16) (oi := _) (v := _) ?hi16r1 (by kernel_rfl) (by kernel_rfl) (by kernel_rfl) ?hq16r1 ?hy16r1 (by assumption) ?re16r1
    case hi16r1 => simp only [List.getElem?_toArray, List.getElem?_cons_succ, List.getElem?_cons_zero]; rfl
    case hq16r1 => exact fun _ _ _ h => h
    case hy16r1 =>
      refine Or.inl ⟨by rfl, ?_⟩
      intro w hSw; (try dsimp only at hSw); go_simp; try with_reducible rfl
    try simp only [Act.put, List.setIfInBounds_toArray, List.set_cons_zero, List.set_cons_succ]
    refine wpAnyH_done (by kernel_rfl) ?_ _
    go_wp2_with fail
    go_ret
    exact ⟨rfl, B0.out.trans (k8.1.mono B0.out.size)⟩
  · have hd : decide (0 < t) = false := decide_eq_false h
    have HV := Lib.hid (show Lx.limErr t u = Lx.ruleE ([Lx.inI t 0 68719476736, Lx.inI u 0 68719476736, u == 0].all id) from by
      unfold Lx.limErr Lx.ruleE Lx.limOk Lx.inI
      by_cases a : 0 ≤ t ∧ t ≤ 68719476736 <;> by_cases b : 0 ≤ u ∧ u ≤ 68719476736 <;> by_cases c : u = 0 <;> simp [a, b, h, c] <;> omega)
    go_enter Tryz.func14, Tryz.ntmps14
    go_wp2_with fail
    obtain ⟨W0, hW0⟩ : ∃ W0, W0 = w.alloc (.cells #[.int .i64 t, .int .i64 u] 23) := ⟨_, rfl⟩
    rw [← hW0] at hb0 hlt q0 q1 ⊢
    have HSS := Lib.hid (show ∀ wx, Below W0.heap.size W0 wx → Below W0.heap.size W0 wx ∧ wx.cell? ⟨w.heap.size, 0, none⟩ = some (.int .i64 t) ∧ wx.cell? ⟨w.heap.size, 1, none⟩ = some (.int .i64 u) from fun wx b => ⟨b, (b.cell (p := ⟨w.heap.size, 0, none⟩) hlt).trans q0, (b.cell (p := ⟨w.heap.size, 1, none⟩) hlt).trans q1⟩)
    have hS0 := HSS.out W0.drew ((Below.refl _ _).drew)
    have B0 := Lib.hid hb0
    clear hW0 hb0 hlt q0 q1 h
    refine wp_region_held_drew (S := (fun wx => Below W0.heap.size W0 wx ∧ wx.cell? ⟨w.heap.size, 0, none⟩ = some (.int .i64 t) ∧ wx.cell? ⟨w.heap.size, 1, none⟩ = some (.int .i64 u))) (by kernel_rfl) ?_ (fun hHeld => ?_)
    · exact hS0
    refine' wpAnyH_take (i := 0) (oi := _) (v := _) ?hi0r2 (by kernel_rfl) (by kernel_rfl) (by kernel_rfl) ?hq0r2 ?hy0r2 (by assumption) ?re0r2
    case hi0r2 => simp only [List.getElem?_toArray, List.getElem?_cons_zero]; rfl
    case hq0r2 => exact fun _ _ _ h => h
    case hy0r2 =>
      refine Or.inl ⟨by rfl, ?_⟩
      intro w hSw; (try dsimp only at hSw); go_simp; try with_reducible rfl
    try simp only [Act.put, List.setIfInBounds_toArray, List.set_cons_zero, List.set_cons_succ]
    refine' wpAnyH_take (i := 1) (oi := _) (v := _) ?hi1r2 (by kernel_rfl) (by kernel_rfl) (by kernel_rfl) ?hq1r2 ?hy1r2 (by assumption) ?re1r2
    case hi1r2 => simp only [List.getElem?_toArray, List.getElem?_cons_succ, List.getElem?_cons_zero]; rfl
    case hq1r2 => exact fun _ _ _ h => h
    case hy1r2 =>
      refine Or.inl ⟨by rfl, ?_⟩
      intro w hSw; (try dsimp only at hSw); go_simp; try with_reducible rfl
    try simp only [Act.put, List.setIfInBounds_toArray, List.set_cons_zero, List.set_cons_succ]
    refine' wpAnyH_take (i := 3) (oi := _) (v := _) ?hi3r2 (by kernel_rfl) (by kernel_rfl) (by kernel_rfl) ?hq3r2 ?hy3r2 (by assumption) ?re3r2
    case hi3r2 => simp only [List.getElem?_toArray, List.getElem?_cons_succ, List.getElem?_cons_zero]; rfl
    case hq3r2 => exact fun _ _ _ h => h
    case hy3r2 =>
      refine Or.inl ⟨by rfl, ?_⟩
      intro w hSw; (try dsimp only at hSw); go_simp; try with_reducible rfl
    try simp only [Act.put, List.setIfInBounds_toArray, List.set_cons_zero, List.set_cons_succ]
    refine' wpAnyH_take (i := 4) (oi := _) (v := _) ?hi4r2 (by kernel_rfl) (by kernel_rfl) (by kernel_rfl) ?hq4r2 ?hy4r2 (by assumption) ?re4r2
    case hi4r2 => simp only [List.getElem?_toArray, List.getElem?_cons_succ, List.getElem?_cons_zero]; rfl
    case hq4r2 => exact fun _ _ _ h => h
    case hy4r2 =>
      refine Or.inl ⟨by rfl, ?_⟩
      intro w hSw; (try dsimp only at hSw); go_simp; try with_reducible rfl
    try simp only [Act.put, List.setIfInBounds_toArray, List.set_cons_zero, List.set_cons_succ]
    refine' wpAnyH_take (i := 6) (oi := _) (v := _) ?hi6r2 (by kernel_rfl) (by kernel_rfl) (by kernel_rfl) ?hq6r2 ?hy6r2 (by assumption) ?re6r2
    case hi6r2 => simp only [List.getElem?_toArray, List.getElem?_cons_succ, List.getElem?_cons_zero]; rfl
    case hq6r2 => exact fun _ _ _ h => h
    case hy6r2 =>
      refine Or.inl ⟨by rfl, ?_⟩
      intro w hSw; (try dsimp only at hSw); go_simp; try with_reducible rfl
    try simp only [Act.put, List.setIfInBounds_toArray, List.set_cons_zero, List.set_cons_succ]
    refine' wpAnyH_take (i := 7) (oi := _) (v := _) ?hi7r2 (by kernel_rfl) (by kernel_rfl) (by kernel_rfl) ?hq7r2 ?hy7r2 (by assumption) ?re7r2
    case hi7r2 => simp only [List.getElem?_toArray, List.getElem?_cons_succ, List.getElem?_cons_zero]; rfl
    case hq7r2 => exact fun _ _ _ h => h
    case hy7r2 =>
      refine Or.inl ⟨by rfl, ?_⟩
      intro w hSw; (try dsimp only at hSw); go_simp; try with_reducible rfl
    try simp only [Act.put, List.setIfInBounds_toArray, List.set_cons_zero, List.set_cons_succ]
    refine' wpAnyH_take (i := 8) (oi := _) (v := _) ?hi8r2 (by kernel_rfl) (by kernel_rfl) (by kernel_rfl) ?hq8r2 ?hy8r2 (by assumption) ?re8r2
    case hi8r2 => simp only [List.getElem?_toArray, List.getElem?_cons_succ, List.getElem?_cons_zero]; rfl
    case hq8r2 => exact fun _ _ _ h => h
    case hy8r2 =>
      refine Or.inl ⟨by rfl, ?_⟩
      intro w hSw; (try dsimp only at hSw); go_simp; try with_reducible rfl
    try simp only [Act.put, List.setIfInBounds_toArray, List.set_cons_zero, List.set_cons_succ]
    refine wpAnyH_ready (rs := [2]) (by kernel_rfl) (by simp) ?_
    refine' AllReadyH.cons (o := _) ?hi2r2 (fun K hK => ?st2r2) AllReadyH.nil
    case hi2r2 => simp only [List.getElem?_toArray, List.getElem?_cons_succ, List.getElem?_cons_zero]; rfl
    go_simp
    go_at_call 11; refine (inI64_any _ _ _ _).mono ?_; rintro e w8 ⟨rfl, rfl⟩; have k8 := hHeld
    try go_wp2_with fail
    refine hK.out _ _ ?_ (fun hHeld => ?_)
    · exact k8
    clear hK K
    try simp only [Act.put, List.setIfInBounds_toArray, List.set_cons_zero, List.set_cons_succ]
    refine wpAnyH_ready (rs := [5]) (by kernel_rfl) (by simp) ?_
    refine' AllReadyH.cons (o := _) ?hi5r2 (fun K hK => ?st5r2) AllReadyH.nil
    case hi5r2 => simp only [List.getElem?_toArray, List.getElem?_cons_succ, List.getElem?_cons_zero]; rfl
    go_simp
    go_at_call 11; refine (inI64_any _ _ _ _).mono ?_; rintro e w8 ⟨rfl, rfl⟩; have k8 := hHeld
    try go_wp2_with fail
    refine hK.out _ _ ?_ (fun hHeld => ?_)
    · exact k8
    clear hK K
    try simp only [Act.put, List.setIfInBounds_toArray, List.set_cons_zero, List.set_cons_succ]
    refine' wpAnyH_take (i := 9) (oi := _) (v := _) ?hi9r2 (by kernel_rfl) (by kernel_rfl) (by kernel_rfl) ?hq9r2 ?hy9r2 (by assumption) ?re9r2
    case hi9r2 => simp only [List.getElem?_toArray, List.getElem?_cons_succ, List.getElem?_cons_zero]; rfl
    case hq9r2 => exact fun _ _ _ h => h
    case hy9r2 =>
      refine Or.inl ⟨by rfl, ?_⟩
      intro w hSw; (try dsimp only at hSw); go_simp; try with_reducible rfl
    try simp only [Act.put, List.setIfInBounds_toArray, List.set_cons_zero, List.set_cons_succ]
    refine' wpAnyH_take (i := 10) (oi := _) (v := _) ?hi10r2 (by kernel_rfl) (by kernel_rfl) (by kernel_rfl) ?hq10r2 ?hy10r2 (by assumption) ?re10r2
    case hi10r2 => simp only [List.getElem?_toArray, List.getElem?_cons_succ, List.getElem?_cons_zero]; rfl
    case hq10r2 => exact fun _ _ _ h => h
    case hy10r2 =>
      refine Or.inl ⟨by rfl, ?_⟩
      intro w hSw; (try dsimp only at hSw); go_simp; try with_reducible rfl
    try simp only [Act.put, List.setIfInBounds_toArray, List.set_cons_zero, List.set_cons_succ]
    refine' wpAnyH_take (i := 11) (oi := _) (v := _) ?hi11r2 (by kernel_rfl) (by kernel_rfl) (by kernel_rfl) ?hq11r2 ?hy11r2 (by assumption) ?re11r2
    case hi11r2 => simp only [List.getElem?_toArray, List.getElem?_cons_succ, List.getElem?_cons_zero]; rfl
    case hq11r2 => exact fun _ _ _ h => h
    case hy11r2 =>
      refine Or.inl ⟨by rfl, ?_⟩
      intro w hSw; (try dsimp only at hSw); go_simp; try with_reducible rfl
    try simp only [Act.put, List.setIfInBounds_toArray, List.set_cons_zero, List.set_cons_succ]
    refine' wpAnyH_take (i := 12) (oi := _) (v := _) ?hi12r2 (by kernel_rfl) (by kernel_rfl) (by kernel_rfl) ?hq12r2 ?hy12r2 (by assumption) ?re12r2
    case hi12r2 => simp only [List.getElem?_toArray, List.getElem?_cons_succ, List.getElem?_cons_zero]; rfl
    case hq12r2 => exact fun _ _ _ h => h
    case hy12r2 =>
      refine Or.inl ⟨by rfl, ?_⟩
      intro w hSw; (try dsimp only at hSw); go_simp; try with_reducible rfl
    try simp only [Act.put, List.setIfInBounds_toArray, List.set_cons_zero, List.set_cons_succ]
    refine' wpAnyH_take (i := 13) (oi := _) (v := _) ?hi13r2 (by kernel_rfl) (by kernel_rfl) (by kernel_rfl) ?hq13r2 ?hy13r2 (by assumption) ?re13r2
    case hi13r2 => simp only [List.getElem?_toArray, List.getElem?_cons_succ, List.getElem?_cons_zero]; rfl
    case hq13r2 => exact fun _ _ _ h => h
    case hy13r2 =>
      refine Or.inl ⟨by rfl, ?_⟩
      intro w hSw; (try dsimp only at hSw); go_simp; try with_reducible rfl
    try simp only [Act.put, List.setIfInBounds_toArray, List.set_cons_zero, List.set_cons_succ]
    refine wpAnyH_ready (rs := [14]) (by kernel_rfl) (by simp) ?_
    refine' AllReadyH.cons (o := _) ?hi14r2 (fun K hK => ?st14r2) AllReadyH.nil
    case hi14r2 => simp only [List.getElem?_toArray, List.getElem?_cons_succ, List.getElem?_cons_zero]; rfl
    go_simp
    have k8 := HSS.out (World.drew (W0.alloc (.cells #[.bool (Lx.inI t 0 68719476736), .bool (Lx.inI u 0 68719476736), .bool (u == 0)] 4))) (((Below.refl _ _).alloc (Nat.le_refl _) _).drew)
    try go_wp2_with fail
    refine hK.out _ _ ?_ (fun hHeld => ?_)
    · exact k8
    clear hK K
    try simp only [Act.put, List.setIfInBounds_toArray, List.set_cons_zero, List.set_cons_succ]
    refine wpAnyH_ready (rs := [15]) (by kernel_rfl) (by simp) ?_
    refine' AllReadyH.cons (o := _) ?hi15r2 (fun K hK => ?st15r2) AllReadyH.nil
    case hi15r2 => simp only [List.getElem?_toArray, List.getElem?_cons_succ, List.getElem?_cons_zero]; rfl
    go_simp
    go_at_call 9; have hbc := bcellsD W0 _ [Lx.inI t 0 68719476736, Lx.inI u 0 68719476736, (u == 0)] 4 rfl; refine (rule_any W0.heap.size 3 3 [Lx.inI t 0 68719476736, Lx.inI u 0 68719476736, (u == 0)] _ rfl (by omega) hbc).mono ?_; rintro e w8 ⟨rfl, rfl⟩; rw [← HV.out]; have k8 := hHeld
    try go_wp2_with fail
    refine hK.out _ _ ?_ (fun hHeld => ?_)
    · exact k8
    clear hK K
    try simp only [Act.put, List.setIfInBounds_toArray, List.set_cons_zero, List.set_cons_succ]
    refine' wpAnyH_take (i := 16) (oi := _) (v := _) ?hi16r2 (by kernel_rfl) (by kernel_rfl) (by kernel_rfl) ?hq16r2 ?hy16r2 (by assumption) ?re16r2
    case hi16r2 => simp only [List.getElem?_toArray, List.getElem?_cons_succ, List.getElem?_cons_zero]; rfl
    case hq16r2 => exact fun _ _ _ h => h
    case hy16r2 =>
      refine Or.inl ⟨by rfl, ?_⟩
      intro w hSw; (try dsimp only at hSw); go_simp; try with_reducible rfl
    try simp only [Act.put, List.setIfInBounds_toArray, List.set_cons_zero, List.set_cons_succ]
    refine wpAnyH_done (by kernel_rfl) ?_ _
    go_wp2_with fail
    go_ret
    exact ⟨rfl, B0.out.trans (k8.1.mono B0.out.size)⟩
theorem eqBr (f o p : Int) (w : World) : (Op.equalIn 10000 25 (.agg #[.int .i64 f, .int .i64 o, .int .i64 p]) (.agg #[.int .i64 0, .int .i64 0, .int .i64 0])).run Tryz.prog w = .ok (Lx.brZ f o p) w := by
  unfold Lx.brZ
  have u3 := Tryz.underlying3
  have a3 := Tryz.isAgg3
  have z3 := Tryz.sizeOf3
  have u2 := Tryz.underlying2
  have a2 := Tryz.isAgg2
  have z2 := Tryz.sizeOf2
  have hS : Tryz.prog.underlying 25 = some (.struct (Tryz.prog.fieldsOf 25)) := by kernel_rfl
  rw [show (10000 : Nat) = 9999 + 1 from rfl, run_equalIn_agg w 9999 25 _ _ hS (by kernel_rfl)]
  simp only [Program.fieldsOf, Tryz.underlying25]
  go_simp
  by_cases h0 : f = 0 <;> by_cases h1 : o = 0 <;> by_cases h2 : p = 0 <;> simp [h0, h1, h2]
theorem eqRe (m b c j : Int) (w : World) : (Op.equalIn 10000 27 (.agg #[.int .i64 m, .int .i64 b, .int .i64 c, .int .i64 j]) (.agg #[.int .i64 0, .int .i64 0, .int .i64 0, .int .i64 0])).run Tryz.prog w = .ok (Lx.reZ m b c j) w := by
  unfold Lx.reZ
  have u3 := Tryz.underlying3
  have a3 := Tryz.isAgg3
  have z3 := Tryz.sizeOf3
  have u2 := Tryz.underlying2
  have a2 := Tryz.isAgg2
  have z2 := Tryz.sizeOf2
  have hS : Tryz.prog.underlying 27 = some (.struct (Tryz.prog.fieldsOf 27)) := by kernel_rfl
  rw [show (10000 : Nat) = 9999 + 1 from rfl, run_equalIn_agg w 9999 27 _ _ hS (by kernel_rfl)]
  simp only [Program.fieldsOf, Tryz.underlying27]
  go_simp
  by_cases h0 : m = 0 <;> by_cases h1 : b = 0 <;> by_cases h2 : c = 0 <;> by_cases h3 : j = 0 <;> simp [h0, h1, h2, h3]
set_option maxRecDepth 100000 in
set_option maxHeartbeats 1600000 in
theorem checkBr_any (f o p : Int) (w : World) :
    Calls Tryz.prog 15 #[.agg #[.int .i64 f, .int .i64 o, .int .i64 p]] w fun e w' => e = .returned (.int .i64 (Lx.brErr f o p)) ∧ Below w.heap.size w w' := by
  have heq := eqBr f o p
  cases hz : Lx.brZ f o p
  · have HV := Lib.hid (show Lx.brErr f o p = Lx.ruleE ([Lx.inI f 1 100, Lx.inI o 1 68719476736, Lx.inI p 1 100].all id) from by
      unfold Lx.brErr Lx.ruleE Lx.brOk
      rw [hz]
      simp)
    rw [hz] at heq
    clear hz
    go_enter Tryz.func15, Tryz.ntmps15
    go_upto_region 1 with (fail)
    obtain ⟨W0, hW0⟩ : ∃ W0, W0 = w.alloc (.cells #[.int .i64 f, .int .i64 o, .int .i64 p] 25) := ⟨_, rfl⟩
    rw [← hW0]
    have B0 := Lib.hid (show Below w.heap.size w W0 from by rw [hW0]; exact (Below.refl _ w).alloc (Nat.le_refl _) _)
    have hlt : w.heap.size < W0.heap.size := by rw [hW0]; simp
    have q0 : W0.cell? ⟨w.heap.size, 0, none⟩ = some (.int .i64 f) := by rw [hW0]; simp
    have q1 : W0.cell? ⟨w.heap.size, 1, none⟩ = some (.int .i64 o) := by rw [hW0]; simp
    have q2 : W0.cell? ⟨w.heap.size, 2, none⟩ = some (.int .i64 p) := by rw [hW0]; simp
    have HSS := Lib.hid (show ∀ wx, Below W0.heap.size W0 wx → Below W0.heap.size W0 wx ∧ wx.cell? ⟨w.heap.size, 0, none⟩ = some (.int .i64 f) ∧ wx.cell? ⟨w.heap.size, 1, none⟩ = some (.int .i64 o) ∧ wx.cell? ⟨w.heap.size, 2, none⟩ = some (.int .i64 p) from fun wx b => ⟨b, (b.cell (p := ⟨w.heap.size, 0, none⟩) hlt).trans q0, (b.cell (p := ⟨w.heap.size, 1, none⟩) hlt).trans q1, (b.cell (p := ⟨w.heap.size, 2, none⟩) hlt).trans q2⟩)
    clear hW0 hlt q0 q1 q2
    have hS1 := HSS.out W0 (Below.refl _ _)
    have hS0 := HSS.out W0.drew ((Below.refl _ _).drew)
    obtain ⟨-, q0, q1, q2⟩ := hS1
    go_wp2_with fail
    clear q0 q1 q2 heq
    refine wp_region_held_drew (S := (fun wx => Below W0.heap.size W0 wx ∧ wx.cell? ⟨w.heap.size, 0, none⟩ = some (.int .i64 f) ∧ wx.cell? ⟨w.heap.size, 1, none⟩ = some (.int .i64 o) ∧ wx.cell? ⟨w.heap.size, 2, none⟩ = some (.int .i64 p))) (by kernel_rfl) ?_ (fun hHeld => ?_)
    · exact hS0
    refine' wpAnyH_take (i := 0) (oi := _) (v := _) ?hi0r3 (by kernel_rfl) (by kernel_rfl) (by kernel_rfl) ?hq0r3 ?hy0r3 (by assumption) ?re0r3
    case hi0r3 => simp only [List.getElem?_toArray, List.getElem?_cons_zero]; rfl
    case hq0r3 => exact fun _ _ _ h => h
    case hy0r3 =>
      refine Or.inl ⟨by rfl, ?_⟩
      intro w hSw; (try dsimp only at hSw); go_simp; try with_reducible rfl
    try simp only [Act.put, List.setIfInBounds_toArray, List.set_cons_zero, List.set_cons_succ]
    refine' wpAnyH_take (i := 1) (oi := _) (v := _) ?hi1r3 (by kernel_rfl) (by kernel_rfl) (by kernel_rfl) ?hq1r3 ?hy1r3 (by assumption) ?re1r3
    case hi1r3 => simp only [List.getElem?_toArray, List.getElem?_cons_succ, List.getElem?_cons_zero]; rfl
    case hq1r3 => exact fun _ _ _ h => h
    case hy1r3 =>
      refine Or.inl ⟨by rfl, ?_⟩
      intro w hSw; (try dsimp only at hSw); go_simp; try with_reducible rfl
    try simp only [Act.put, List.setIfInBounds_toArray, List.set_cons_zero, List.set_cons_succ]
    refine' wpAnyH_take (i := 3) (oi := _) (v := _) ?hi3r3 (by kernel_rfl) (by kernel_rfl) (by kernel_rfl) ?hq3r3 ?hy3r3 (by assumption) ?re3r3
    case hi3r3 => simp only [List.getElem?_toArray, List.getElem?_cons_succ, List.getElem?_cons_zero]; rfl
    case hq3r3 => exact fun _ _ _ h => h
    case hy3r3 =>
      refine Or.inl ⟨by rfl, ?_⟩
      intro w hSw; (try dsimp only at hSw); go_simp; try with_reducible rfl
    try simp only [Act.put, List.setIfInBounds_toArray, List.set_cons_zero, List.set_cons_succ]
    refine' wpAnyH_take (i := 4) (oi := _) (v := _) ?hi4r3 (by kernel_rfl) (by kernel_rfl) (by kernel_rfl) ?hq4r3 ?hy4r3 (by assumption) ?re4r3
    case hi4r3 => simp only [List.getElem?_toArray, List.getElem?_cons_succ, List.getElem?_cons_zero]; rfl
    case hq4r3 => exact fun _ _ _ h => h
    case hy4r3 =>
      refine Or.inl ⟨by rfl, ?_⟩
      intro w hSw; (try dsimp only at hSw); go_simp; try with_reducible rfl
    try simp only [Act.put, List.setIfInBounds_toArray, List.set_cons_zero, List.set_cons_succ]
    refine' wpAnyH_take (i := 6) (oi := _) (v := _) ?hi6r3 (by kernel_rfl) (by kernel_rfl) (by kernel_rfl) ?hq6r3 ?hy6r3 (by assumption) ?re6r3
    case hi6r3 => simp only [List.getElem?_toArray, List.getElem?_cons_succ, List.getElem?_cons_zero]; rfl
    case hq6r3 => exact fun _ _ _ h => h
    case hy6r3 =>
      refine Or.inl ⟨by rfl, ?_⟩
      intro w hSw; (try dsimp only at hSw); go_simp; try with_reducible rfl
    try simp only [Act.put, List.setIfInBounds_toArray, List.set_cons_zero, List.set_cons_succ]
    refine' wpAnyH_take (i := 7) (oi := _) (v := _) ?hi7r3 (by kernel_rfl) (by kernel_rfl) (by kernel_rfl) ?hq7r3 ?hy7r3 (by assumption) ?re7r3
    case hi7r3 => simp only [List.getElem?_toArray, List.getElem?_cons_succ, List.getElem?_cons_zero]; rfl
    case hq7r3 => exact fun _ _ _ h => h
    case hy7r3 =>
      refine Or.inl ⟨by rfl, ?_⟩
      intro w hSw; (try dsimp only at hSw); go_simp; try with_reducible rfl
    try simp only [Act.put, List.setIfInBounds_toArray, List.set_cons_zero, List.set_cons_succ]
    refine wpAnyH_ready (rs := [2]) (by kernel_rfl) (by simp) ?_
    refine' AllReadyH.cons (o := _) ?hi2r3 (fun K hK => ?st2r3) AllReadyH.nil
    case hi2r3 => simp only [List.getElem?_toArray, List.getElem?_cons_succ, List.getElem?_cons_zero]; rfl
    go_simp
    go_at_call 10; refine (inInt_any _ _ _ _).mono ?_; rintro e w8 ⟨rfl, rfl⟩; have k8 := hHeld
    try go_wp2_with fail
    refine hK.out _ _ ?_ (fun hHeld => ?_)
    · exact k8
    clear hK K
    try simp only [Act.put, List.setIfInBounds_toArray, List.set_cons_zero, List.set_cons_succ]
    refine wpAnyH_ready (rs := [5]) (by kernel_rfl) (by simp) ?_
    refine' AllReadyH.cons (o := _) ?hi5r3 (fun K hK => ?st5r3) AllReadyH.nil
    case hi5r3 => simp only [List.getElem?_toArray, List.getElem?_cons_succ, List.getElem?_cons_zero]; rfl
    go_simp
    go_at_call 11; refine (inI64_any _ _ _ _).mono ?_; rintro e w8 ⟨rfl, rfl⟩; have k8 := hHeld
    try go_wp2_with fail
    refine hK.out _ _ ?_ (fun hHeld => ?_)
    · exact k8
    clear hK K
    try simp only [Act.put, List.setIfInBounds_toArray, List.set_cons_zero, List.set_cons_succ]
    refine wpAnyH_ready (rs := [8]) (by kernel_rfl) (by simp) ?_
    refine' AllReadyH.cons (o := _) ?hi8r3 (fun K hK => ?st8r3) AllReadyH.nil
    case hi8r3 => simp only [List.getElem?_toArray, List.getElem?_cons_succ, List.getElem?_cons_zero]; rfl
    go_simp
    go_at_call 10; refine (inInt_any _ _ _ _).mono ?_; rintro e w8 ⟨rfl, rfl⟩; have k8 := hHeld
    try go_wp2_with fail
    refine hK.out _ _ ?_ (fun hHeld => ?_)
    · exact k8
    clear hK K
    try simp only [Act.put, List.setIfInBounds_toArray, List.set_cons_zero, List.set_cons_succ]
    refine wpAnyH_ready (rs := [9]) (by kernel_rfl) (by simp) ?_
    refine' AllReadyH.cons (o := _) ?hi9r3 (fun K hK => ?st9r3) AllReadyH.nil
    case hi9r3 => simp only [List.getElem?_toArray, List.getElem?_cons_succ, List.getElem?_cons_zero]; rfl
    go_simp
    have k8 := HSS.out (World.drew (W0.alloc (.cells #[.bool (Lx.inI f 1 100), .bool (Lx.inI o 1 68719476736), .bool (Lx.inI p 1 100)] 4))) (((Below.refl _ _).alloc (Nat.le_refl _) _).drew)
    try go_wp2_with fail
    refine hK.out _ _ ?_ (fun hHeld => ?_)
    · exact k8
    clear hK K
    try simp only [Act.put, List.setIfInBounds_toArray, List.set_cons_zero, List.set_cons_succ]
    refine wpAnyH_ready (rs := [10]) (by kernel_rfl) (by simp) ?_
    refine' AllReadyH.cons (o := _) ?hi10r3 (fun K hK => ?st10r3) AllReadyH.nil
    case hi10r3 => simp only [List.getElem?_toArray, List.getElem?_cons_succ, List.getElem?_cons_zero]; rfl
    go_simp
    go_at_call 9; have hbc := bcellsD W0 _ [Lx.inI f 1 100, Lx.inI o 1 68719476736, Lx.inI p 1 100] 4 rfl; refine (rule_any W0.heap.size 3 3 [Lx.inI f 1 100, Lx.inI o 1 68719476736, Lx.inI p 1 100] _ rfl (by omega) hbc).mono ?_; rintro e w8 ⟨rfl, rfl⟩; rw [← HV.out]; have k8 := hHeld
    try go_wp2_with fail
    refine hK.out _ _ ?_ (fun hHeld => ?_)
    · exact k8
    clear hK K
    try simp only [Act.put, List.setIfInBounds_toArray, List.set_cons_zero, List.set_cons_succ]
    refine' wpAnyH_take (i := 11) (oi := _) (v := _) ?hi11r3 (by kernel_rfl) (by kernel_rfl) (by kernel_rfl) ?hq11r3 ?hy11r3 (by assumption) ?re11r3
    case hi11r3 => simp only [List.getElem?_toArray, List.getElem?_cons_succ, List.getElem?_cons_zero]; rfl
    case hq11r3 => exact fun _ _ _ h => h
    case hy11r3 =>
      refine Or.inl ⟨by rfl, ?_⟩
      intro w hSw; (try dsimp only at hSw); go_simp; try with_reducible rfl
    try simp only [Act.put, List.setIfInBounds_toArray, List.set_cons_zero, List.set_cons_succ]
    refine wpAnyH_done (by kernel_rfl) ?_ _
    go_wp2_with fail
    go_ret
    exact ⟨rfl, B0.out.trans (k8.1.mono B0.out.size)⟩
  · have HV := Lib.hid (show Lx.brErr f o p = 0 from by unfold Lx.brErr Lx.brOk; rw [hz]; rfl)
    rw [hz] at heq
    clear hz
    go_enter Tryz.func15, Tryz.ntmps15
    go_upto_region 1 with (fail)
    obtain ⟨W0, hW0⟩ : ∃ W0, W0 = w.alloc (.cells #[.int .i64 f, .int .i64 o, .int .i64 p] 25) := ⟨_, rfl⟩
    rw [← hW0]
    have B0 := Lib.hid (show Below w.heap.size w W0 from by rw [hW0]; exact (Below.refl _ w).alloc (Nat.le_refl _) _)
    have hlt : w.heap.size < W0.heap.size := by rw [hW0]; simp
    have q0 : W0.cell? ⟨w.heap.size, 0, none⟩ = some (.int .i64 f) := by rw [hW0]; simp
    have q1 : W0.cell? ⟨w.heap.size, 1, none⟩ = some (.int .i64 o) := by rw [hW0]; simp
    have q2 : W0.cell? ⟨w.heap.size, 2, none⟩ = some (.int .i64 p) := by rw [hW0]; simp
    have HSS := Lib.hid (show ∀ wx, Below W0.heap.size W0 wx → Below W0.heap.size W0 wx ∧ wx.cell? ⟨w.heap.size, 0, none⟩ = some (.int .i64 f) ∧ wx.cell? ⟨w.heap.size, 1, none⟩ = some (.int .i64 o) ∧ wx.cell? ⟨w.heap.size, 2, none⟩ = some (.int .i64 p) from fun wx b => ⟨b, (b.cell (p := ⟨w.heap.size, 0, none⟩) hlt).trans q0, (b.cell (p := ⟨w.heap.size, 1, none⟩) hlt).trans q1, (b.cell (p := ⟨w.heap.size, 2, none⟩) hlt).trans q2⟩)
    clear hW0 hlt q0 q1 q2
    obtain ⟨-, q0, q1, q2⟩ := HSS.out W0 (Below.refl _ _)
    go_wp2_with fail
    go_ret
    exact ⟨Lx.ret_int HV.out.symm, B0.out⟩
set_option maxRecDepth 100000 in
set_option maxHeartbeats 1600000 in
theorem checkRe_any (m b c j : Int) (w : World) :
    Calls Tryz.prog 16 #[.agg #[.int .i64 m, .int .i64 b, .int .i64 c, .int .i64 j]] w fun e w' => e = .returned (.int .i64 (Lx.reErr m b c j)) ∧ Below w.heap.size w w' := by
  have heq := eqRe m b c j
  cases hz : Lx.reZ m b c j
  · have HV := Lib.hid (show Lx.reErr m b c j = Lx.ruleE ([Lx.inI m 1 20, Lx.inI b 1 68719476736, Lx.inI c b 68719476736, Lx.inI j 0 68719476736].all id) from by
      unfold Lx.reErr Lx.ruleE Lx.reOk
      rw [hz]
      simp)
    rw [hz] at heq
    clear hz
    go_enter Tryz.func16, Tryz.ntmps16
    go_upto_region 1 with (fail)
    obtain ⟨W0, hW0⟩ : ∃ W0, W0 = w.alloc (.cells #[.int .i64 m, .int .i64 b, .int .i64 c, .int .i64 j] 27) := ⟨_, rfl⟩
    rw [← hW0]
    have B0 := Lib.hid (show Below w.heap.size w W0 from by rw [hW0]; exact (Below.refl _ w).alloc (Nat.le_refl _) _)
    have hlt : w.heap.size < W0.heap.size := by rw [hW0]; simp
    have q0 : W0.cell? ⟨w.heap.size, 0, none⟩ = some (.int .i64 m) := by rw [hW0]; simp
    have q1 : W0.cell? ⟨w.heap.size, 1, none⟩ = some (.int .i64 b) := by rw [hW0]; simp
    have q2 : W0.cell? ⟨w.heap.size, 2, none⟩ = some (.int .i64 c) := by rw [hW0]; simp
    have q3 : W0.cell? ⟨w.heap.size, 3, none⟩ = some (.int .i64 j) := by rw [hW0]; simp
    have HSS := Lib.hid (show ∀ wx, Below W0.heap.size W0 wx → Below W0.heap.size W0 wx ∧ wx.cell? ⟨w.heap.size, 0, none⟩ = some (.int .i64 m) ∧ wx.cell? ⟨w.heap.size, 1, none⟩ = some (.int .i64 b) ∧ wx.cell? ⟨w.heap.size, 2, none⟩ = some (.int .i64 c) ∧ wx.cell? ⟨w.heap.size, 3, none⟩ = some (.int .i64 j) from fun wx b => ⟨b, (b.cell (p := ⟨w.heap.size, 0, none⟩) hlt).trans q0, (b.cell (p := ⟨w.heap.size, 1, none⟩) hlt).trans q1, (b.cell (p := ⟨w.heap.size, 2, none⟩) hlt).trans q2, (b.cell (p := ⟨w.heap.size, 3, none⟩) hlt).trans q3⟩)
    clear hW0 hlt q0 q1 q2 q3
    have hS1 := HSS.out W0 (Below.refl _ _)
    have hS0 := HSS.out W0.drew ((Below.refl _ _).drew)
    obtain ⟨-, q0, q1, q2, q3⟩ := hS1
    go_wp2_with fail
    clear q0 q1 q2 q3 heq
    refine wp_region_held_drew (S := (fun wx => Below W0.heap.size W0 wx ∧ wx.cell? ⟨w.heap.size, 0, none⟩ = some (.int .i64 m) ∧ wx.cell? ⟨w.heap.size, 1, none⟩ = some (.int .i64 b) ∧ wx.cell? ⟨w.heap.size, 2, none⟩ = some (.int .i64 c) ∧ wx.cell? ⟨w.heap.size, 3, none⟩ = some (.int .i64 j))) (by kernel_rfl) ?_ (fun hHeld => ?_)
    · exact hS0
    refine' wpAnyH_take (i := 0) (oi := _) (v := _) ?hi0r4 (by kernel_rfl) (by kernel_rfl) (by kernel_rfl) ?hq0r4 ?hy0r4 (by assumption) ?re0r4
    case hi0r4 => simp only [List.getElem?_toArray, List.getElem?_cons_zero]; rfl
    case hq0r4 => exact fun _ _ _ h => h
    case hy0r4 =>
      refine Or.inl ⟨by rfl, ?_⟩
      intro w hSw; (try dsimp only at hSw); go_simp; try with_reducible rfl
    try simp only [Act.put, List.setIfInBounds_toArray, List.set_cons_zero, List.set_cons_succ]
    refine' wpAnyH_take (i := 1) (oi := _) (v := _) ?hi1r4 (by kernel_rfl) (by kernel_rfl) (by kernel_rfl) ?hq1r4 ?hy1r4 (by assumption) ?re1r4
    case hi1r4 => simp only [List.getElem?_toArray, List.getElem?_cons_succ, List.getElem?_cons_zero]; rfl
    case hq1r4 => exact fun _ _ _ h => h
    case hy1r4 =>
      refine Or.inl ⟨by rfl, ?_⟩
      intro w hSw; (try dsimp only at hSw); go_simp; try with_reducible rfl
    try simp only [Act.put, List.setIfInBounds_toArray, List.set_cons_zero, List.set_cons_succ]
    refine' wpAnyH_take (i := 3) (oi := _) (v := _) ?hi3r4 (by kernel_rfl) (by kernel_rfl) (by kernel_rfl) ?hq3r4 ?hy3r4 (by assumption) ?re3r4
    case hi3r4 => simp only [List.getElem?_toArray, List.getElem?_cons_succ, List.getElem?_cons_zero]; rfl
    case hq3r4 => exact fun _ _ _ h => h
    case hy3r4 =>
      refine Or.inl ⟨by rfl, ?_⟩
      intro w hSw; (try dsimp only at hSw); go_simp; try with_reducible rfl
    try simp only [Act.put, List.setIfInBounds_toArray, List.set_cons_zero, List.set_cons_succ]
    refine' wpAnyH_take (i := 4) (oi := _) (v := _) ?hi4r4 (by kernel_rfl) (by kernel_rfl) (by kernel_rfl) ?hq4r4 ?hy4r4 (by assumption) ?re4r4
    case hi4r4 => simp only [List.getElem?_toArray, List.getElem?_cons_succ, List.getElem?_cons_zero]; rfl
    case hq4r4 => exact fun _ _ _ h => h
    case hy4r4 =>
      refine Or.inl ⟨by rfl, ?_⟩
      intro w hSw; (try dsimp only at hSw); go_simp; try with_reducible rfl
    try simp only [Act.put, List.setIfInBounds_toArray, List.set_cons_zero, List.set_cons_succ]
    refine' wpAnyH_take (i := 6) (oi := _) (v := _) ?hi6r4 (by kernel_rfl) (by kernel_rfl) (by kernel_rfl) ?hq6r4 ?hy6r4 (by assumption) ?re6r4
    case hi6r4 => simp only [List.getElem?_toArray, List.getElem?_cons_succ, List.getElem?_cons_zero]; rfl
    case hq6r4 => exact fun _ _ _ h => h
    case hy6r4 =>
      refine Or.inl ⟨by rfl, ?_⟩
      intro w hSw; (try dsimp only at hSw); go_simp; try with_reducible rfl
    try simp only [Act.put, List.setIfInBounds_toArray, List.set_cons_zero, List.set_cons_succ]
    refine' wpAnyH_take (i := 7) (oi := _) (v := _) ?hi7r4 (by kernel_rfl) (by kernel_rfl) (by kernel_rfl) ?hq7r4 ?hy7r4 (by assumption) ?re7r4
    case hi7r4 => simp only [List.getElem?_toArray, List.getElem?_cons_succ, List.getElem?_cons_zero]; rfl
    case hq7r4 => exact fun _ _ _ h => h
    case hy7r4 =>
      refine Or.inl ⟨by rfl, ?_⟩
      intro w hSw; (try dsimp only at hSw); go_simp; try with_reducible rfl
    try simp only [Act.put, List.setIfInBounds_toArray, List.set_cons_zero, List.set_cons_succ]
    refine' wpAnyH_take (i := 8) (oi := _) (v := _) ?hi8r4 (by kernel_rfl) (by kernel_rfl) (by kernel_rfl) ?hq8r4 ?hy8r4 (by assumption) ?re8r4
    case hi8r4 => simp only [List.getElem?_toArray, List.getElem?_cons_succ, List.getElem?_cons_zero]; rfl
    case hq8r4 => exact fun _ _ _ h => h
    case hy8r4 =>
      refine Or.inl ⟨by rfl, ?_⟩
      intro w hSw; (try dsimp only at hSw); go_simp; try with_reducible rfl
    try simp only [Act.put, List.setIfInBounds_toArray, List.set_cons_zero, List.set_cons_succ]
    refine' wpAnyH_take (i := 9) (oi := _) (v := _) ?hi9r4 (by kernel_rfl) (by kernel_rfl) (by kernel_rfl) ?hq9r4 ?hy9r4 (by assumption) ?re9r4
    case hi9r4 => simp only [List.getElem?_toArray, List.getElem?_cons_succ, List.getElem?_cons_zero]; rfl
    case hq9r4 => exact fun _ _ _ h => h
    case hy9r4 =>
      refine Or.inl ⟨by rfl, ?_⟩
      intro w hSw; (try dsimp only at hSw); go_simp; try with_reducible rfl
    try simp only [Act.put, List.setIfInBounds_toArray, List.set_cons_zero, List.set_cons_succ]
    refine' wpAnyH_take (i := 11) (oi := _) (v := _) ?hi11r4 (by kernel_rfl) (by kernel_rfl) (by kernel_rfl) ?hq11r4 ?hy11r4 (by assumption) ?re11r4
    case hi11r4 => simp only [List.getElem?_toArray, List.getElem?_cons_succ, List.getElem?_cons_zero]; rfl
    case hq11r4 => exact fun _ _ _ h => h
    case hy11r4 =>
      refine Or.inl ⟨by rfl, ?_⟩
      intro w hSw; (try dsimp only at hSw); go_simp; try with_reducible rfl
    try simp only [Act.put, List.setIfInBounds_toArray, List.set_cons_zero, List.set_cons_succ]
    refine' wpAnyH_take (i := 12) (oi := _) (v := _) ?hi12r4 (by kernel_rfl) (by kernel_rfl) (by kernel_rfl) ?hq12r4 ?hy12r4 (by assumption) ?re12r4
    case hi12r4 => simp only [List.getElem?_toArray, List.getElem?_cons_succ, List.getElem?_cons_zero]; rfl
    case hq12r4 => exact fun _ _ _ h => h
    case hy12r4 =>
      refine Or.inl ⟨by rfl, ?_⟩
      intro w hSw; (try dsimp only at hSw); go_simp; try with_reducible rfl
    try simp only [Act.put, List.setIfInBounds_toArray, List.set_cons_zero, List.set_cons_succ]
    refine wpAnyH_ready (rs := [2]) (by kernel_rfl) (by simp) ?_
    refine' AllReadyH.cons (o := _) ?hi2r4 (fun K hK => ?st2r4) AllReadyH.nil
    case hi2r4 => simp only [List.getElem?_toArray, List.getElem?_cons_succ, List.getElem?_cons_zero]; rfl
    go_simp
    go_at_call 10; refine (inInt_any _ _ _ _).mono ?_; rintro e w8 ⟨rfl, rfl⟩; have k8 := hHeld
    try go_wp2_with fail
    refine hK.out _ _ ?_ (fun hHeld => ?_)
    · exact k8
    clear hK K
    try simp only [Act.put, List.setIfInBounds_toArray, List.set_cons_zero, List.set_cons_succ]
    refine wpAnyH_ready (rs := [5]) (by kernel_rfl) (by simp) ?_
    refine' AllReadyH.cons (o := _) ?hi5r4 (fun K hK => ?st5r4) AllReadyH.nil
    case hi5r4 => simp only [List.getElem?_toArray, List.getElem?_cons_succ, List.getElem?_cons_zero]; rfl
    go_simp
    go_at_call 11; refine (inI64_any _ _ _ _).mono ?_; rintro e w8 ⟨rfl, rfl⟩; have k8 := hHeld
    try go_wp2_with fail
    refine hK.out _ _ ?_ (fun hHeld => ?_)
    · exact k8
    clear hK K
    try simp only [Act.put, List.setIfInBounds_toArray, List.set_cons_zero, List.set_cons_succ]
    refine wpAnyH_ready (rs := [10]) (by kernel_rfl) (by simp) ?_
    refine' AllReadyH.cons (o := _) ?hi10r4 (fun K hK => ?st10r4) AllReadyH.nil
    case hi10r4 => simp only [List.getElem?_toArray, List.getElem?_cons_succ, List.getElem?_cons_zero]; rfl
    go_simp
    go_at_call 11; refine (inI64_any _ _ _ _).mono ?_; rintro e w8 ⟨rfl, rfl⟩; have k8 := hHeld
    try go_wp2_with fail
    refine hK.out _ _ ?_ (fun hHeld => ?_)
    · exact k8
    clear hK K
    try simp only [Act.put, List.setIfInBounds_toArray, List.set_cons_zero, List.set_cons_succ]
    refine wpAnyH_ready (rs := [13]) (by kernel_rfl) (by simp) ?_
    refine' AllReadyH.cons (o := _) ?hi13r4 (fun K hK => ?st13r4) AllReadyH.nil
    case hi13r4 => simp only [List.getElem?_toArray, List.getElem?_cons_succ, List.getElem?_cons_zero]; rfl
    go_simp
    go_at_call 11; refine (inI64_any _ _ _ _).mono ?_; rintro e w8 ⟨rfl, rfl⟩; have k8 := hHeld
    try go_wp2_with fail
    refine hK.out _ _ ?_ (fun hHeld => ?_)
    · exact k8
    clear hK K
    try simp only [Act.put, List.setIfInBounds_toArray, List.set_cons_zero, List.set_cons_succ]
    refine wpAnyH_ready (rs := [14]) (by kernel_rfl) (by simp) ?_
    refine' AllReadyH.cons (o := _) ?hi14r4 (fun K hK => ?st14r4) AllReadyH.nil
    case hi14r4 => simp only [List.getElem?_toArray, List.getElem?_cons_succ, List.getElem?_cons_zero]; rfl
    go_simp
    have k8 := HSS.out (World.drew (W0.alloc (.cells #[.bool (Lx.inI m 1 20), .bool (Lx.inI b 1 68719476736), .bool (Lx.inI c b 68719476736), .bool (Lx.inI j 0 68719476736)] 4))) (((Below.refl _ _).alloc (Nat.le_refl _) _).drew)
    try go_wp2_with fail
    refine hK.out _ _ ?_ (fun hHeld => ?_)
    · exact k8
    clear hK K
    try simp only [Act.put, List.setIfInBounds_toArray, List.set_cons_zero, List.set_cons_succ]
    refine wpAnyH_ready (rs := [15]) (by kernel_rfl) (by simp) ?_
    refine' AllReadyH.cons (o := _) ?hi15r4 (fun K hK => ?st15r4) AllReadyH.nil
    case hi15r4 => simp only [List.getElem?_toArray, List.getElem?_cons_succ, List.getElem?_cons_zero]; rfl
    go_simp
    go_at_call 9; have hbc := bcellsD W0 _ [Lx.inI m 1 20, Lx.inI b 1 68719476736, Lx.inI c b 68719476736, Lx.inI j 0 68719476736] 4 rfl; refine (rule_any W0.heap.size 4 4 [Lx.inI m 1 20, Lx.inI b 1 68719476736, Lx.inI c b 68719476736, Lx.inI j 0 68719476736] _ rfl (by omega) hbc).mono ?_; rintro e w8 ⟨rfl, rfl⟩; rw [← HV.out]; have k8 := hHeld
    try go_wp2_with fail
    refine hK.out _ _ ?_ (fun hHeld => ?_)
    · exact k8
    clear hK K
    try simp only [Act.put, List.setIfInBounds_toArray, List.set_cons_zero, List.set_cons_succ]
    refine' wpAnyH_take (i := 16) (oi := _) (v := _) ?hi16r4 (by kernel_rfl) (by kernel_rfl) (by kernel_rfl) ?hq16r4 ?hy16r4 (by assumption) ?re16r4
    case hi16r4 => simp only [List.getElem?_toArray, List.getElem?_cons_succ, List.getElem?_cons_zero]; rfl
    case hq16r4 => exact fun _ _ _ h => h
    case hy16r4 =>
      refine Or.inl ⟨by rfl, ?_⟩
      intro w hSw; (try dsimp only at hSw); go_simp; try with_reducible rfl
    try simp only [Act.put, List.setIfInBounds_toArray, List.set_cons_zero, List.set_cons_succ]
    refine wpAnyH_done (by kernel_rfl) ?_ _
    go_wp2_with fail
    go_ret
    exact ⟨rfl, B0.out.trans (k8.1.mono B0.out.size)⟩
  · have HV := Lib.hid (show Lx.reErr m b c j = 0 from by unfold Lx.reErr Lx.reOk; rw [hz]; rfl)
    rw [hz] at heq
    clear hz
    go_enter Tryz.func16, Tryz.ntmps16
    go_upto_region 1 with (fail)
    obtain ⟨W0, hW0⟩ : ∃ W0, W0 = w.alloc (.cells #[.int .i64 m, .int .i64 b, .int .i64 c, .int .i64 j] 27) := ⟨_, rfl⟩
    rw [← hW0]
    have B0 := Lib.hid (show Below w.heap.size w W0 from by rw [hW0]; exact (Below.refl _ w).alloc (Nat.le_refl _) _)
    have hlt : w.heap.size < W0.heap.size := by rw [hW0]; simp
    have q0 : W0.cell? ⟨w.heap.size, 0, none⟩ = some (.int .i64 m) := by rw [hW0]; simp
    have q1 : W0.cell? ⟨w.heap.size, 1, none⟩ = some (.int .i64 b) := by rw [hW0]; simp
    have q2 : W0.cell? ⟨w.heap.size, 2, none⟩ = some (.int .i64 c) := by rw [hW0]; simp
    have q3 : W0.cell? ⟨w.heap.size, 3, none⟩ = some (.int .i64 j) := by rw [hW0]; simp
    have HSS := Lib.hid (show ∀ wx, Below W0.heap.size W0 wx → Below W0.heap.size W0 wx ∧ wx.cell? ⟨w.heap.size, 0, none⟩ = some (.int .i64 m) ∧ wx.cell? ⟨w.heap.size, 1, none⟩ = some (.int .i64 b) ∧ wx.cell? ⟨w.heap.size, 2, none⟩ = some (.int .i64 c) ∧ wx.cell? ⟨w.heap.size, 3, none⟩ = some (.int .i64 j) from fun wx b => ⟨b, (b.cell (p := ⟨w.heap.size, 0, none⟩) hlt).trans q0, (b.cell (p := ⟨w.heap.size, 1, none⟩) hlt).trans q1, (b.cell (p := ⟨w.heap.size, 2, none⟩) hlt).trans q2, (b.cell (p := ⟨w.heap.size, 3, none⟩) hlt).trans q3⟩)
    clear hW0 hlt q0 q1 q2 q3
    obtain ⟨-, q0, q1, q2, q3⟩ := HSS.out W0 (Below.refl _ _)
    go_wp2_with fail
    go_ret
    exact ⟨Lx.ret_int HV.out.symm, B0.out⟩
set_option maxRecDepth 100000 in
theorem checkMis_any (k q : Int) (w : World) :
    Calls Tryz.prog 13 #[.int .i64 k, .int .i64 q] w fun e w' => e = .returned (.int .i64 (Lx.misErr k q)) ∧ Below w.heap.size w w' := by
  by_cases h : k = 3
  · subst h
    have HV := Lib.hid (show Lx.misErr 3 q = Lx.ruleE ([Lx.inI q 1 100].all id) from by unfold Lx.misErr Lx.ruleE Lx.misOk; simp)
    go_enter Tryz.func13, Tryz.ntmps13
    go_wp2_with fail
    refine (inInt_any _ _ _ _).mono ?_
    rintro e w1 ⟨rfl, rfl⟩
    go_wp2_with fail
    refine (rule_any w1.heap.size 1 1 [Lx.inI q 1 100] _ rfl (by omega) (bcells_new w1 [Lx.inI q 1 100] 4)).mono ?_
    rintro e w2 ⟨rfl, rfl⟩
    rw [← HV.out]
    go_wp2_with fail
    go_ret
    exact ⟨rfl, (Below.refl _ _).alloc (Nat.le_refl _) _⟩
  · have hk : (k == 3) = false := by rw [beq_eq_false_iff_ne]; exact h
    have HV := Lib.hid (show Lx.misErr k q = Lx.ruleE ([Lx.inI k 0 2, q == 0].all id) from by
      unfold Lx.misErr Lx.ruleE Lx.misOk
      rw [if_neg h]
      by_cases hq : q = 0 <;> simp [hq])
    clear h
    go_enter Tryz.func13, Tryz.ntmps13
    go_wp2_with fail
    refine (inInt_any _ _ _ _).mono ?_
    rintro e w1 ⟨rfl, rfl⟩
    go_wp2_with fail
    refine (rule_any w1.heap.size 2 2 [Lx.inI k 0 2, q == 0] _ rfl (by omega) (bcells_new w1 [Lx.inI k 0 2, q == 0] 4)).mono ?_
    rintro e w2 ⟨rfl, rfl⟩
    rw [← HV.out]
    go_wp2_with fail
    go_ret
    exact ⟨rfl, (Below.refl _ _).alloc (Nat.le_refl _) _⟩
namespace Lx
theorem pol_first (p : PolV) : polE p = firstE [ruleE (fldOk p), misErr p.mis p.keep, limErr p.lt p.lu, brErr p.bf p.bo p.bp, reErr p.rm p.rb p.rc p.rj] := by
  unfold polE polOk ruleE misErr limErr brErr reErr
  generalize fldOk p = a
  generalize misOk p.mis p.keep = b
  generalize limOk p.lt p.lu = c
  generalize brOk p.bf p.bo p.bp = d
  generalize reOk p.rm p.rb p.rc p.rj = e
  cases a <;> cases b <;> cases c <;> cases d <;> cases e <;> decide
end Lx
set_option maxRecDepth 100000 in
set_option maxHeartbeats 3200000 in
theorem polCheck_any (p : Lx.PolV) (w : World) :
    Calls Tryz.prog 4 #[p.val] w fun e w' => e = .returned (.int .i64 (Lx.polE p)) ∧ Below w.heap.size w w' := by
  have HV2 := Lib.hid (Lx.pol_first p)
  obtain ⟨cap, pri, spl, dl, mis, keep, lt, lu, bf, bo, bp, rm, rb, rc, rj⟩ := p
  unfold Lx.PolV.val
  generalize Lx.polE ⟨cap, pri, spl, dl, mis, keep, lt, lu, bf, bo, bp, rm, rb, rc, rj⟩ = Z at *
  have hfl : Lx.ruleE (Lx.fldOk ⟨cap, pri, spl, dl, mis, keep, lt, lu, bf, bo, bp, rm, rb, rc, rj⟩) = Lx.ruleE ([Lx.inI cap 1 1000, Lx.inI pri 0 100, Lx.inI spl 0 68719476736, Lx.inI dl 0 68719476736].all id) := by unfold Lx.fldOk; simp
  obtain ⟨F, hF⟩ : ∃ F, F = Lx.ruleE (Lx.fldOk ⟨cap, pri, spl, dl, mis, keep, lt, lu, bf, bo, bp, rm, rb, rc, rj⟩) := ⟨_, rfl⟩
  have HV := Lib.hid (hF.trans hfl)
  rw [← hF] at HV2
  dsimp only at HV2 ⊢
  clear hF hfl
  go_enter Tryz.func4, Tryz.ntmps4
  go_upto_region 1 with (fail)
  obtain ⟨W0, hW0⟩ : ∃ W0, W0 = w.alloc (.cells #[.int .i64 cap, .int .i64 pri, .int .i64 spl, .int .i64 dl, .int .i64 mis, .int .i64 keep, .int .i64 lt, .int .i64 lu, .int .i64 bf, .int .i64 bo, .int .i64 bp, .int .i64 rm, .int .i64 rb, .int .i64 rc, .int .i64 rj] 29) := ⟨_, rfl⟩
  rw [← hW0]
  have B0 := Lib.hid (show Below w.heap.size w W0 from by rw [hW0]; exact (Below.refl _ w).alloc (Nat.le_refl _) _)
  have hlt : w.heap.size < W0.heap.size := by rw [hW0]; simp
  have q0 : W0.cell? ⟨w.heap.size, 0, none⟩ = some (.int .i64 cap) := by rw [hW0]; simp
  have q1 : W0.cell? ⟨w.heap.size, 1, none⟩ = some (.int .i64 pri) := by rw [hW0]; simp
  have q2 : W0.cell? ⟨w.heap.size, 2, none⟩ = some (.int .i64 spl) := by rw [hW0]; simp
  have q3 : W0.cell? ⟨w.heap.size, 3, none⟩ = some (.int .i64 dl) := by rw [hW0]; simp
  have q4 : W0.cell? ⟨w.heap.size, 4, none⟩ = some (.int .i64 mis) := by rw [hW0]; simp
  have q5 : W0.cell? ⟨w.heap.size, 5, none⟩ = some (.int .i64 keep) := by rw [hW0]; simp
  have q6 : W0.cell? ⟨w.heap.size, 6, none⟩ = some (.int .i64 lt) := by rw [hW0]; simp
  have q7 : W0.cell? ⟨w.heap.size, 7, none⟩ = some (.int .i64 lu) := by rw [hW0]; simp
  have q8 : W0.cell? ⟨w.heap.size, 8, none⟩ = some (.int .i64 bf) := by rw [hW0]; simp
  have q9 : W0.cell? ⟨w.heap.size, 9, none⟩ = some (.int .i64 bo) := by rw [hW0]; simp
  have q10 : W0.cell? ⟨w.heap.size, 10, none⟩ = some (.int .i64 bp) := by rw [hW0]; simp
  have q11 : W0.cell? ⟨w.heap.size, 11, none⟩ = some (.int .i64 rm) := by rw [hW0]; simp
  have q12 : W0.cell? ⟨w.heap.size, 12, none⟩ = some (.int .i64 rb) := by rw [hW0]; simp
  have q13 : W0.cell? ⟨w.heap.size, 13, none⟩ = some (.int .i64 rc) := by rw [hW0]; simp
  have q14 : W0.cell? ⟨w.heap.size, 14, none⟩ = some (.int .i64 rj) := by rw [hW0]; simp
  have HSS := Lib.hid (show ∀ wx, Below W0.heap.size W0 wx → Below W0.heap.size W0 wx ∧ wx.cell? ⟨w.heap.size, 0, none⟩ = some (.int .i64 cap) ∧ wx.cell? ⟨w.heap.size, 1, none⟩ = some (.int .i64 pri) ∧ wx.cell? ⟨w.heap.size, 2, none⟩ = some (.int .i64 spl) ∧ wx.cell? ⟨w.heap.size, 3, none⟩ = some (.int .i64 dl) ∧ wx.cell? ⟨w.heap.size, 4, none⟩ = some (.int .i64 mis) ∧ wx.cell? ⟨w.heap.size, 5, none⟩ = some (.int .i64 keep) ∧ wx.cell? ⟨w.heap.size, 6, none⟩ = some (.int .i64 lt) ∧ wx.cell? ⟨w.heap.size, 7, none⟩ = some (.int .i64 lu) ∧ wx.cell? ⟨w.heap.size, 8, none⟩ = some (.int .i64 bf) ∧ wx.cell? ⟨w.heap.size, 9, none⟩ = some (.int .i64 bo) ∧ wx.cell? ⟨w.heap.size, 10, none⟩ = some (.int .i64 bp) ∧ wx.cell? ⟨w.heap.size, 11, none⟩ = some (.int .i64 rm) ∧ wx.cell? ⟨w.heap.size, 12, none⟩ = some (.int .i64 rb) ∧ wx.cell? ⟨w.heap.size, 13, none⟩ = some (.int .i64 rc) ∧ wx.cell? ⟨w.heap.size, 14, none⟩ = some (.int .i64 rj) from fun wx b => ⟨b, (b.cell (p := ⟨w.heap.size, 0, none⟩) hlt).trans q0, (b.cell (p := ⟨w.heap.size, 1, none⟩) hlt).trans q1, (b.cell (p := ⟨w.heap.size, 2, none⟩) hlt).trans q2, (b.cell (p := ⟨w.heap.size, 3, none⟩) hlt).trans q3, (b.cell (p := ⟨w.heap.size, 4, none⟩) hlt).trans q4, (b.cell (p := ⟨w.heap.size, 5, none⟩) hlt).trans q5, (b.cell (p := ⟨w.heap.size, 6, none⟩) hlt).trans q6, (b.cell (p := ⟨w.heap.size, 7, none⟩) hlt).trans q7, (b.cell (p := ⟨w.heap.size, 8, none⟩) hlt).trans q8, (b.cell (p := ⟨w.heap.size, 9, none⟩) hlt).trans q9, (b.cell (p := ⟨w.heap.size, 10, none⟩) hlt).trans q10, (b.cell (p := ⟨w.heap.size, 11, none⟩) hlt).trans q11, (b.cell (p := ⟨w.heap.size, 12, none⟩) hlt).trans q12, (b.cell (p := ⟨w.heap.size, 13, none⟩) hlt).trans q13, (b.cell (p := ⟨w.heap.size, 14, none⟩) hlt).trans q14⟩)
  clear hW0 hlt q0 q1 q2 q3 q4 q5 q6 q7 q8 q9 q10 q11 q12 q13 q14
  have hS0 := HSS.out W0.drew ((Below.refl _ _).drew)
  refine wp_region_held_drew (S := (fun wx => Below W0.heap.size W0 wx ∧ wx.cell? ⟨w.heap.size, 0, none⟩ = some (.int .i64 cap) ∧ wx.cell? ⟨w.heap.size, 1, none⟩ = some (.int .i64 pri) ∧ wx.cell? ⟨w.heap.size, 2, none⟩ = some (.int .i64 spl) ∧ wx.cell? ⟨w.heap.size, 3, none⟩ = some (.int .i64 dl) ∧ wx.cell? ⟨w.heap.size, 4, none⟩ = some (.int .i64 mis) ∧ wx.cell? ⟨w.heap.size, 5, none⟩ = some (.int .i64 keep) ∧ wx.cell? ⟨w.heap.size, 6, none⟩ = some (.int .i64 lt) ∧ wx.cell? ⟨w.heap.size, 7, none⟩ = some (.int .i64 lu) ∧ wx.cell? ⟨w.heap.size, 8, none⟩ = some (.int .i64 bf) ∧ wx.cell? ⟨w.heap.size, 9, none⟩ = some (.int .i64 bo) ∧ wx.cell? ⟨w.heap.size, 10, none⟩ = some (.int .i64 bp) ∧ wx.cell? ⟨w.heap.size, 11, none⟩ = some (.int .i64 rm) ∧ wx.cell? ⟨w.heap.size, 12, none⟩ = some (.int .i64 rb) ∧ wx.cell? ⟨w.heap.size, 13, none⟩ = some (.int .i64 rc) ∧ wx.cell? ⟨w.heap.size, 14, none⟩ = some (.int .i64 rj))) (by kernel_rfl) ?_ (fun hHeld => ?_)
  · exact hS0
  refine' wpAnyH_take (i := 0) (oi := _) (v := _) ?hi0r5 (by kernel_rfl) (by kernel_rfl) (by kernel_rfl) ?hq0r5 ?hy0r5 (by assumption) ?re0r5
  case hi0r5 => simp only [List.getElem?_toArray, List.getElem?_cons_zero]; rfl
  case hq0r5 => exact fun _ _ _ h => h
  case hy0r5 =>
    refine Or.inl ⟨by rfl, ?_⟩
    intro w hSw; (try dsimp only at hSw); go_simp; try with_reducible rfl
  try simp only [Act.put, List.setIfInBounds_toArray, List.set_cons_zero, List.set_cons_succ]
  refine' wpAnyH_take (i := 1) (oi := _) (v := _) ?hi1r5 (by kernel_rfl) (by kernel_rfl) (by kernel_rfl) ?hq1r5 ?hy1r5 (by assumption) ?re1r5
  case hi1r5 => simp only [List.getElem?_toArray, List.getElem?_cons_succ, List.getElem?_cons_zero]; rfl
  case hq1r5 => exact fun _ _ _ h => h
  case hy1r5 =>
    refine Or.inl ⟨by rfl, ?_⟩
    intro w hSw; (try dsimp only at hSw); go_simp; try with_reducible rfl
  try simp only [Act.put, List.setIfInBounds_toArray, List.set_cons_zero, List.set_cons_succ]
  refine' wpAnyH_take (i := 3) (oi := _) (v := _) ?hi3r5 (by kernel_rfl) (by kernel_rfl) (by kernel_rfl) ?hq3r5 ?hy3r5 (by assumption) ?re3r5
  case hi3r5 => simp only [List.getElem?_toArray, List.getElem?_cons_succ, List.getElem?_cons_zero]; rfl
  case hq3r5 => exact fun _ _ _ h => h
  case hy3r5 =>
    refine Or.inl ⟨by rfl, ?_⟩
    intro w hSw; (try dsimp only at hSw); go_simp; try with_reducible rfl
  try simp only [Act.put, List.setIfInBounds_toArray, List.set_cons_zero, List.set_cons_succ]
  refine' wpAnyH_take (i := 4) (oi := _) (v := _) ?hi4r5 (by kernel_rfl) (by kernel_rfl) (by kernel_rfl) ?hq4r5 ?hy4r5 (by assumption) ?re4r5
  case hi4r5 => simp only [List.getElem?_toArray, List.getElem?_cons_succ, List.getElem?_cons_zero]; rfl
  case hq4r5 => exact fun _ _ _ h => h
  case hy4r5 =>
    refine Or.inl ⟨by rfl, ?_⟩
    intro w hSw; (try dsimp only at hSw); go_simp; try with_reducible rfl
  try simp only [Act.put, List.setIfInBounds_toArray, List.set_cons_zero, List.set_cons_succ]
  refine' wpAnyH_take (i := 6) (oi := _) (v := _) ?hi6r5 (by kernel_rfl) (by kernel_rfl) (by kernel_rfl) ?hq6r5 ?hy6r5 (by assumption) ?re6r5
  case hi6r5 => simp only [List.getElem?_toArray, List.getElem?_cons_succ, List.getElem?_cons_zero]; rfl
  case hq6r5 => exact fun _ _ _ h => h
  case hy6r5 =>
    refine Or.inl ⟨by rfl, ?_⟩
    intro w hSw; (try dsimp only at hSw); go_simp; try with_reducible rfl
  try simp only [Act.put, List.setIfInBounds_toArray, List.set_cons_zero, List.set_cons_succ]
  refine' wpAnyH_take (i := 7) (oi := _) (v := _) ?hi7r5 (by kernel_rfl) (by kernel_rfl) (by kernel_rfl) ?hq7r5 ?hy7r5 (by assumption) ?re7r5
  case hi7r5 => simp only [List.getElem?_toArray, List.getElem?_cons_succ, List.getElem?_cons_zero]; rfl
  case hq7r5 => exact fun _ _ _ h => h
  case hy7r5 =>
    refine Or.inl ⟨by rfl, ?_⟩
    intro w hSw; (try dsimp only at hSw); go_simp; try with_reducible rfl
  try simp only [Act.put, List.setIfInBounds_toArray, List.set_cons_zero, List.set_cons_succ]
  refine' wpAnyH_take (i := 9) (oi := _) (v := _) ?hi9r5 (by kernel_rfl) (by kernel_rfl) (by kernel_rfl) ?hq9r5 ?hy9r5 (by assumption) ?re9r5
  case hi9r5 => simp only [List.getElem?_toArray, List.getElem?_cons_succ, List.getElem?_cons_zero]; rfl
  case hq9r5 => exact fun _ _ _ h => h
  case hy9r5 =>
    refine Or.inl ⟨by rfl, ?_⟩
    intro w hSw; (try dsimp only at hSw); go_simp; try with_reducible rfl
  try simp only [Act.put, List.setIfInBounds_toArray, List.set_cons_zero, List.set_cons_succ]
  refine' wpAnyH_take (i := 10) (oi := _) (v := _) ?hi10r5 (by kernel_rfl) (by kernel_rfl) (by kernel_rfl) ?hq10r5 ?hy10r5 (by assumption) ?re10r5
  case hi10r5 => simp only [List.getElem?_toArray, List.getElem?_cons_succ, List.getElem?_cons_zero]; rfl
  case hq10r5 => exact fun _ _ _ h => h
  case hy10r5 =>
    refine Or.inl ⟨by rfl, ?_⟩
    intro w hSw; (try dsimp only at hSw); go_simp; try with_reducible rfl
  try simp only [Act.put, List.setIfInBounds_toArray, List.set_cons_zero, List.set_cons_succ]
  refine wpAnyH_ready (rs := [2]) (by kernel_rfl) (by simp) ?_
  refine' AllReadyH.cons (o := _) ?hi2r5 (fun K hK => ?st2r5) AllReadyH.nil
  case hi2r5 => simp only [List.getElem?_toArray, List.getElem?_cons_succ, List.getElem?_cons_zero]; rfl
  go_simp
  go_at_call 10; refine (inInt_any _ _ _ _).mono ?_; rintro e w8 ⟨rfl, rfl⟩; have k8 := hHeld
  try go_wp2_with fail
  refine hK.out _ _ ?_ (fun hHeld => ?_)
  · exact k8
  clear hK K
  try simp only [Act.put, List.setIfInBounds_toArray, List.set_cons_zero, List.set_cons_succ]
  refine wpAnyH_ready (rs := [5]) (by kernel_rfl) (by simp) ?_
  refine' AllReadyH.cons (o := _) ?hi5r5 (fun K hK => ?st5r5) AllReadyH.nil
  case hi5r5 => simp only [List.getElem?_toArray, List.getElem?_cons_succ, List.getElem?_cons_zero]; rfl
  go_simp
  go_at_call 10; refine (inInt_any _ _ _ _).mono ?_; rintro e w8 ⟨rfl, rfl⟩; have k8 := hHeld
  try go_wp2_with fail
  refine hK.out _ _ ?_ (fun hHeld => ?_)
  · exact k8
  clear hK K
  try simp only [Act.put, List.setIfInBounds_toArray, List.set_cons_zero, List.set_cons_succ]
  refine wpAnyH_ready (rs := [8]) (by kernel_rfl) (by simp) ?_
  refine' AllReadyH.cons (o := _) ?hi8r5 (fun K hK => ?st8r5) AllReadyH.nil
  case hi8r5 => simp only [List.getElem?_toArray, List.getElem?_cons_succ, List.getElem?_cons_zero]; rfl
  go_simp
  go_at_call 11; refine (inI64_any _ _ _ _).mono ?_; rintro e w8 ⟨rfl, rfl⟩; have k8 := hHeld
  try go_wp2_with fail
  refine hK.out _ _ ?_ (fun hHeld => ?_)
  · exact k8
  clear hK K
  try simp only [Act.put, List.setIfInBounds_toArray, List.set_cons_zero, List.set_cons_succ]
  refine wpAnyH_ready (rs := [11]) (by kernel_rfl) (by simp) ?_
  refine' AllReadyH.cons (o := _) ?hi11r5 (fun K hK => ?st11r5) AllReadyH.nil
  case hi11r5 => simp only [List.getElem?_toArray, List.getElem?_cons_succ, List.getElem?_cons_zero]; rfl
  go_simp
  go_at_call 11; refine (inI64_any _ _ _ _).mono ?_; rintro e w8 ⟨rfl, rfl⟩; have k8 := hHeld
  try go_wp2_with fail
  refine hK.out _ _ ?_ (fun hHeld => ?_)
  · exact k8
  clear hK K
  try simp only [Act.put, List.setIfInBounds_toArray, List.set_cons_zero, List.set_cons_succ]
  refine wpAnyH_ready (rs := [12]) (by kernel_rfl) (by simp) ?_
  refine' AllReadyH.cons (o := _) ?hi12r5 (fun K hK => ?st12r5) AllReadyH.nil
  case hi12r5 => simp only [List.getElem?_toArray, List.getElem?_cons_succ, List.getElem?_cons_zero]; rfl
  go_simp
  have k8 := HSS.out (World.drew (W0.alloc (.cells #[.bool (Lx.inI cap 1 1000), .bool (Lx.inI pri 0 100), .bool (Lx.inI spl 0 68719476736), .bool (Lx.inI dl 0 68719476736)] 4))) (((Below.refl _ _).alloc (Nat.le_refl _) _).drew)
  try go_wp2_with fail
  refine hK.out _ _ ?_ (fun hHeld => ?_)
  · exact k8
  clear hK K
  try simp only [Act.put, List.setIfInBounds_toArray, List.set_cons_zero, List.set_cons_succ]
  refine wpAnyH_ready (rs := [13]) (by kernel_rfl) (by simp) ?_
  refine' AllReadyH.cons (o := _) ?hi13r5 (fun K hK => ?st13r5) AllReadyH.nil
  case hi13r5 => simp only [List.getElem?_toArray, List.getElem?_cons_succ, List.getElem?_cons_zero]; rfl
  go_simp
  go_at_call 9; have hbc := bcellsD W0 _ [Lx.inI cap 1 1000, Lx.inI pri 0 100, Lx.inI spl 0 68719476736, Lx.inI dl 0 68719476736] 4 rfl; refine (rule_any W0.heap.size 4 4 [Lx.inI cap 1 1000, Lx.inI pri 0 100, Lx.inI spl 0 68719476736, Lx.inI dl 0 68719476736] _ rfl (by omega) hbc).mono ?_; rintro e w8 ⟨rfl, rfl⟩; rw [← HV.out]; have k8 := hHeld
  try go_wp2_with fail
  refine hK.out _ _ ?_ (fun hHeld => ?_)
  · exact k8
  clear hK K
  try simp only [Act.put, List.setIfInBounds_toArray, List.set_cons_zero, List.set_cons_succ]
  refine' wpAnyH_take (i := 14) (oi := _) (v := _) ?hi14r5 (by kernel_rfl) (by kernel_rfl) (by kernel_rfl) ?hq14r5 ?hy14r5 (by assumption) ?re14r5
  case hi14r5 => simp only [List.getElem?_toArray, List.getElem?_cons_succ, List.getElem?_cons_zero]; rfl
  case hq14r5 => exact fun _ _ _ h => h
  case hy14r5 =>
    refine Or.inl ⟨by rfl, ?_⟩
    intro w hSw; (try dsimp only at hSw); go_simp; try with_reducible rfl
  try simp only [Act.put, List.setIfInBounds_toArray, List.set_cons_zero, List.set_cons_succ]
  refine wpAnyH_done (by kernel_rfl) ?_ _
  go_wp2_with fail
  obtain ⟨W1, hW1⟩ : ∃ W1, W1 = World.drew (W0.alloc (.cells #[.bool (Lx.inI cap 1 1000), .bool (Lx.inI pri 0 100), .bool (Lx.inI spl 0 68719476736), .bool (Lx.inI dl 0 68719476736)] 4)) := ⟨_, rfl⟩
  rw [← hW1]
  have k9 := HSS.out W1 (by rw [hW1]; exact (((Below.refl _ _).alloc (Nat.le_refl _) _).drew))
  have B1 := Lib.hid (B0.out.trans (k9.1.mono B0.out.size))
  have hlt1 : w.heap.size < W1.heap.size := World.block_lt_of_cell? W1 _ k9.2.1
  clear hHeld k8 hS0 hW1 HSS HV
  obtain ⟨-, q0, q1, q2, q3, q4, q5, q6, q7, q8, q9, q10, q11, q12, q13, q14⟩ := k9
  have HS1 := Lib.hid (show ∀ wx, Below W1.heap.size W1 wx → Below W1.heap.size W1 wx ∧ wx.cell? ⟨w.heap.size, 0, none⟩ = some (.int .i64 cap) ∧ wx.cell? ⟨w.heap.size, 1, none⟩ = some (.int .i64 pri) ∧ wx.cell? ⟨w.heap.size, 2, none⟩ = some (.int .i64 spl) ∧ wx.cell? ⟨w.heap.size, 3, none⟩ = some (.int .i64 dl) ∧ wx.cell? ⟨w.heap.size, 4, none⟩ = some (.int .i64 mis) ∧ wx.cell? ⟨w.heap.size, 5, none⟩ = some (.int .i64 keep) ∧ wx.cell? ⟨w.heap.size, 6, none⟩ = some (.int .i64 lt) ∧ wx.cell? ⟨w.heap.size, 7, none⟩ = some (.int .i64 lu) ∧ wx.cell? ⟨w.heap.size, 8, none⟩ = some (.int .i64 bf) ∧ wx.cell? ⟨w.heap.size, 9, none⟩ = some (.int .i64 bo) ∧ wx.cell? ⟨w.heap.size, 10, none⟩ = some (.int .i64 bp) ∧ wx.cell? ⟨w.heap.size, 11, none⟩ = some (.int .i64 rm) ∧ wx.cell? ⟨w.heap.size, 12, none⟩ = some (.int .i64 rb) ∧ wx.cell? ⟨w.heap.size, 13, none⟩ = some (.int .i64 rc) ∧ wx.cell? ⟨w.heap.size, 14, none⟩ = some (.int .i64 rj) from fun wx b => ⟨b, (b.cell (p := ⟨w.heap.size, 0, none⟩) hlt1).trans q0, (b.cell (p := ⟨w.heap.size, 1, none⟩) hlt1).trans q1, (b.cell (p := ⟨w.heap.size, 2, none⟩) hlt1).trans q2, (b.cell (p := ⟨w.heap.size, 3, none⟩) hlt1).trans q3, (b.cell (p := ⟨w.heap.size, 4, none⟩) hlt1).trans q4, (b.cell (p := ⟨w.heap.size, 5, none⟩) hlt1).trans q5, (b.cell (p := ⟨w.heap.size, 6, none⟩) hlt1).trans q6, (b.cell (p := ⟨w.heap.size, 7, none⟩) hlt1).trans q7, (b.cell (p := ⟨w.heap.size, 8, none⟩) hlt1).trans q8, (b.cell (p := ⟨w.heap.size, 9, none⟩) hlt1).trans q9, (b.cell (p := ⟨w.heap.size, 10, none⟩) hlt1).trans q10, (b.cell (p := ⟨w.heap.size, 11, none⟩) hlt1).trans q11, (b.cell (p := ⟨w.heap.size, 12, none⟩) hlt1).trans q12, (b.cell (p := ⟨w.heap.size, 13, none⟩) hlt1).trans q13, (b.cell (p := ⟨w.heap.size, 14, none⟩) hlt1).trans q14⟩)
  have hS1 := HS1.out W1.drew ((Below.refl _ _).drew)
  clear q0 q1 q2 q3 q4 q5 q6 q7 q8 q9 q10 q11 q12 q13 q14 hlt1
  refine wp_region_held_drew (S := (fun wx => Below W1.heap.size W1 wx ∧ wx.cell? ⟨w.heap.size, 0, none⟩ = some (.int .i64 cap) ∧ wx.cell? ⟨w.heap.size, 1, none⟩ = some (.int .i64 pri) ∧ wx.cell? ⟨w.heap.size, 2, none⟩ = some (.int .i64 spl) ∧ wx.cell? ⟨w.heap.size, 3, none⟩ = some (.int .i64 dl) ∧ wx.cell? ⟨w.heap.size, 4, none⟩ = some (.int .i64 mis) ∧ wx.cell? ⟨w.heap.size, 5, none⟩ = some (.int .i64 keep) ∧ wx.cell? ⟨w.heap.size, 6, none⟩ = some (.int .i64 lt) ∧ wx.cell? ⟨w.heap.size, 7, none⟩ = some (.int .i64 lu) ∧ wx.cell? ⟨w.heap.size, 8, none⟩ = some (.int .i64 bf) ∧ wx.cell? ⟨w.heap.size, 9, none⟩ = some (.int .i64 bo) ∧ wx.cell? ⟨w.heap.size, 10, none⟩ = some (.int .i64 bp) ∧ wx.cell? ⟨w.heap.size, 11, none⟩ = some (.int .i64 rm) ∧ wx.cell? ⟨w.heap.size, 12, none⟩ = some (.int .i64 rb) ∧ wx.cell? ⟨w.heap.size, 13, none⟩ = some (.int .i64 rc) ∧ wx.cell? ⟨w.heap.size, 14, none⟩ = some (.int .i64 rj))) (by kernel_rfl) ?_ (fun hHeld => ?_)
  · exact hS1
  refine' wpAnyH_take (i := 0) (oi := _) (v := _) ?hi0r6 (by kernel_rfl) (by kernel_rfl) (by kernel_rfl) ?hq0r6 ?hy0r6 (by assumption) ?re0r6
  case hi0r6 => simp only [List.getElem?_toArray, List.getElem?_cons_zero]; rfl
  case hq0r6 => exact fun _ _ _ h => h
  case hy0r6 =>
    refine Or.inl ⟨by rfl, ?_⟩
    intro w hSw; (try dsimp only at hSw); go_simp; try with_reducible rfl
  try simp only [Act.put, List.setIfInBounds_toArray, List.set_cons_zero, List.set_cons_succ]
  refine' wpAnyH_take (i := 1) (oi := _) (v := _) ?hi1r6 (by kernel_rfl) (by kernel_rfl) (by kernel_rfl) ?hq1r6 ?hy1r6 (by assumption) ?re1r6
  case hi1r6 => simp only [List.getElem?_toArray, List.getElem?_cons_succ, List.getElem?_cons_zero]; rfl
  case hq1r6 => exact fun _ _ _ h => h
  case hy1r6 =>
    refine Or.inl ⟨by rfl, ?_⟩
    intro w hSw; (try dsimp only at hSw); go_simp; try with_reducible rfl
  try simp only [Act.put, List.setIfInBounds_toArray, List.set_cons_zero, List.set_cons_succ]
  refine' wpAnyH_take (i := 2) (oi := _) (v := _) ?hi2r6 (by kernel_rfl) (by kernel_rfl) (by kernel_rfl) ?hq2r6 ?hy2r6 (by assumption) ?re2r6
  case hi2r6 => simp only [List.getElem?_toArray, List.getElem?_cons_succ, List.getElem?_cons_zero]; rfl
  case hq2r6 => exact fun _ _ _ h => h
  case hy2r6 =>
    refine Or.inl ⟨by rfl, ?_⟩
    intro w hSw; (try dsimp only at hSw); go_simp; try with_reducible rfl
  try simp only [Act.put, List.setIfInBounds_toArray, List.set_cons_zero, List.set_cons_succ]
  refine' wpAnyH_take (i := 3) (oi := _) (v := _) ?hi3r6 (by kernel_rfl) (by kernel_rfl) (by kernel_rfl) ?hq3r6 ?hy3r6 (by assumption) ?re3r6
  case hi3r6 => simp only [List.getElem?_toArray, List.getElem?_cons_succ, List.getElem?_cons_zero]; rfl
  case hq3r6 => exact fun _ _ _ h => h
  case hy3r6 =>
    refine Or.inl ⟨by rfl, ?_⟩
    intro w hSw; (try dsimp only at hSw); go_simp; try with_reducible rfl
  try simp only [Act.put, List.setIfInBounds_toArray, List.set_cons_zero, List.set_cons_succ]
  refine' wpAnyH_take (i := 4) (oi := _) (v := _) ?hi4r6 (by kernel_rfl) (by kernel_rfl) (by kernel_rfl) ?hq4r6 ?hy4r6 (by assumption) ?re4r6
  case hi4r6 => simp only [List.getElem?_toArray, List.getElem?_cons_succ, List.getElem?_cons_zero]; rfl
  case hq4r6 => exact fun _ _ _ h => h
  case hy4r6 =>
    refine Or.inl ⟨by rfl, ?_⟩
    intro w hSw; (try dsimp only at hSw); go_simp; try with_reducible rfl
  try simp only [Act.put, List.setIfInBounds_toArray, List.set_cons_zero, List.set_cons_succ]
  refine' wpAnyH_take (i := 6) (oi := _) (v := _) ?hi6r6 (by kernel_rfl) (by kernel_rfl) (by kernel_rfl) ?hq6r6 ?hy6r6 (by assumption) ?re6r6
  case hi6r6 => simp only [List.getElem?_toArray, List.getElem?_cons_succ, List.getElem?_cons_zero]; rfl
  case hq6r6 => exact fun _ _ _ h => h
  case hy6r6 =>
    refine Or.inl ⟨by rfl, ?_⟩
    intro w hSw; (try dsimp only at hSw); go_simp; try with_reducible rfl
  try simp only [Act.put, List.setIfInBounds_toArray, List.set_cons_zero, List.set_cons_succ]
  refine' wpAnyH_take (i := 7) (oi := _) (v := _) ?hi7r6 (by kernel_rfl) (by kernel_rfl) (by kernel_rfl) ?hq7r6 ?hy7r6 (by assumption) ?re7r6
  case hi7r6 => simp only [List.getElem?_toArray, List.getElem?_cons_succ, List.getElem?_cons_zero]; rfl
  case hq7r6 => exact fun _ _ _ h => h
  case hy7r6 =>
    refine Or.inl ⟨by rfl, ?_⟩
    intro w hSw; (try dsimp only at hSw); go_simp; try with_reducible rfl
  try simp only [Act.put, List.setIfInBounds_toArray, List.set_cons_zero, List.set_cons_succ]
  refine' wpAnyH_take (i := 9) (oi := _) (v := _) ?hi9r6 (by kernel_rfl) (by kernel_rfl) (by kernel_rfl) ?hq9r6 ?hy9r6 (by assumption) ?re9r6
  case hi9r6 => simp only [List.getElem?_toArray, List.getElem?_cons_succ, List.getElem?_cons_zero]; rfl
  case hq9r6 => exact fun _ _ _ h => h
  case hy9r6 =>
    refine Or.inl ⟨by rfl, ?_⟩
    intro w hSw; (try dsimp only at hSw); go_simp; try with_reducible rfl
  try simp only [Act.put, List.setIfInBounds_toArray, List.set_cons_zero, List.set_cons_succ]
  refine' wpAnyH_take (i := 10) (oi := _) (v := _) ?hi10r6 (by kernel_rfl) (by kernel_rfl) (by kernel_rfl) ?hq10r6 ?hy10r6 (by assumption) ?re10r6
  case hi10r6 => simp only [List.getElem?_toArray, List.getElem?_cons_succ, List.getElem?_cons_zero]; rfl
  case hq10r6 => exact fun _ _ _ h => h
  case hy10r6 =>
    refine Or.inl ⟨by rfl, ?_⟩
    intro w hSw; (try dsimp only at hSw); go_simp; try with_reducible rfl
  try simp only [Act.put, List.setIfInBounds_toArray, List.set_cons_zero, List.set_cons_succ]
  refine' wpAnyH_take (i := 12) (oi := _) (v := _) ?hi12r6 (by kernel_rfl) (by kernel_rfl) (by kernel_rfl) ?hq12r6 ?hy12r6 (by assumption) ?re12r6
  case hi12r6 => simp only [List.getElem?_toArray, List.getElem?_cons_succ, List.getElem?_cons_zero]; rfl
  case hq12r6 => exact fun _ _ _ h => h
  case hy12r6 =>
    refine Or.inl ⟨by rfl, ?_⟩
    intro w hSw; (try dsimp only at hSw); go_simp; try with_reducible rfl
  try simp only [Act.put, List.setIfInBounds_toArray, List.set_cons_zero, List.set_cons_succ]
  refine' wpAnyH_take (i := 13) (oi := _) (v := _) ?hi13r6 (by kernel_rfl) (by kernel_rfl) (by kernel_rfl) ?hq13r6 ?hy13r6 (by assumption) ?re13r6
  case hi13r6 => simp only [List.getElem?_toArray, List.getElem?_cons_succ, List.getElem?_cons_zero]; rfl
  case hq13r6 => exact fun _ _ _ h => h
  case hy13r6 =>
    refine Or.inl ⟨by rfl, ?_⟩
    intro w hSw; (try dsimp only at hSw); go_simp; try with_reducible rfl
  try simp only [Act.put, List.setIfInBounds_toArray, List.set_cons_zero, List.set_cons_succ]
  refine wpAnyH_ready (rs := [5]) (by kernel_rfl) (by simp) ?_
  refine' AllReadyH.cons (o := _) ?hi5r6 (fun K hK => ?st5r6) AllReadyH.nil
  case hi5r6 => simp only [List.getElem?_toArray, List.getElem?_cons_succ, List.getElem?_cons_zero]; rfl
  go_simp
  go_at_call 13; refine (checkMis_any _ _ _).mono ?_; rintro e w8 ⟨rfl, cb⟩; have k8 := HS1.out _ (hHeld.1.trans (cb.mono hHeld.1.size)); clear cb
  try go_wp2_with fail
  refine hK.out _ _ ?_ (fun hHeld => ?_)
  · exact k8
  clear hK K
  try simp only [Act.put, List.setIfInBounds_toArray, List.set_cons_zero, List.set_cons_succ]
  refine wpAnyH_ready (rs := [8]) (by kernel_rfl) (by simp) ?_
  refine' AllReadyH.cons (o := _) ?hi8r6 (fun K hK => ?st8r6) AllReadyH.nil
  case hi8r6 => simp only [List.getElem?_toArray, List.getElem?_cons_succ, List.getElem?_cons_zero]; rfl
  go_simp
  go_at_call 14; refine (checkLimit_any _ _ _).mono ?_; rintro e w8 ⟨rfl, cb⟩; have k8 := HS1.out _ (hHeld.1.trans (cb.mono hHeld.1.size)); clear cb
  try go_wp2_with fail
  refine hK.out _ _ ?_ (fun hHeld => ?_)
  · exact k8
  clear hK K
  try simp only [Act.put, List.setIfInBounds_toArray, List.set_cons_zero, List.set_cons_succ]
  refine wpAnyH_ready (rs := [11]) (by kernel_rfl) (by simp) ?_
  refine' AllReadyH.cons (o := _) ?hi11r6 (fun K hK => ?st11r6) AllReadyH.nil
  case hi11r6 => simp only [List.getElem?_toArray, List.getElem?_cons_succ, List.getElem?_cons_zero]; rfl
  go_simp
  go_at_call 15; refine (checkBr_any _ _ _ _).mono ?_; rintro e w8 ⟨rfl, cb⟩; have k8 := HS1.out _ (hHeld.1.trans (cb.mono hHeld.1.size)); clear cb
  try go_wp2_with fail
  refine hK.out _ _ ?_ (fun hHeld => ?_)
  · exact k8
  clear hK K
  try simp only [Act.put, List.setIfInBounds_toArray, List.set_cons_zero, List.set_cons_succ]
  refine wpAnyH_ready (rs := [14]) (by kernel_rfl) (by simp) ?_
  refine' AllReadyH.cons (o := _) ?hi14r6 (fun K hK => ?st14r6) AllReadyH.nil
  case hi14r6 => simp only [List.getElem?_toArray, List.getElem?_cons_succ, List.getElem?_cons_zero]; rfl
  go_simp
  go_at_call 16; refine (checkRe_any _ _ _ _ _).mono ?_; rintro e w8 ⟨rfl, cb⟩; have k8 := HS1.out _ (hHeld.1.trans (cb.mono hHeld.1.size)); clear cb
  try go_wp2_with fail
  refine hK.out _ _ ?_ (fun hHeld => ?_)
  · exact k8
  clear hK K
  try simp only [Act.put, List.setIfInBounds_toArray, List.set_cons_zero, List.set_cons_succ]
  refine wpAnyH_ready (rs := [15]) (by kernel_rfl) (by simp) ?_
  refine' AllReadyH.cons (o := _) ?hi15r6 (fun K hK => ?st15r6) AllReadyH.nil
  case hi15r6 => simp only [List.getElem?_toArray, List.getElem?_cons_succ, List.getElem?_cons_zero]; rfl
  go_simp
  have k8 := HS1.out (w8.alloc (.cells #[.int .i64 F, .int .i64 (Lx.misErr mis keep), .int .i64 (Lx.limErr lt lu), .int .i64 (Lx.brErr bf bo bp), .int .i64 (Lx.reErr rm rb rc rj)] 30)) (hHeld.1.alloc hHeld.1.size _)
  try go_wp2_with fail
  refine hK.out _ _ ?_ (fun hHeld => ?_)
  · exact k8
  clear hK K
  try simp only [Act.put, List.setIfInBounds_toArray, List.set_cons_zero, List.set_cons_succ]
  refine wpAnyH_ready (rs := [16]) (by kernel_rfl) (by simp) ?_
  refine' AllReadyH.cons (o := _) ?hi16r6 (fun K hK => ?st16r6) AllReadyH.nil
  case hi16r6 => simp only [List.getElem?_toArray, List.getElem?_cons_succ, List.getElem?_cons_zero]; rfl
  go_simp
  go_at_call 12; refine (first_any w8.heap.size 5 5 [F, Lx.misErr mis keep, Lx.limErr lt lu, Lx.brErr bf bo bp, Lx.reErr rm rb rc rj] _ rfl (by omega) (icells_new w8 [F, Lx.misErr mis keep, Lx.limErr lt lu, Lx.brErr bf bo bp, Lx.reErr rm rb rc rj] 30)).mono ?_; rintro e w9 ⟨rfl, rfl⟩; rw [← HV2.out]; have k8 := hHeld
  try go_wp2_with fail
  refine hK.out _ _ ?_ (fun hHeld => ?_)
  · exact k8
  clear hK K
  try simp only [Act.put, List.setIfInBounds_toArray, List.set_cons_zero, List.set_cons_succ]
  refine' wpAnyH_take (i := 17) (oi := _) (v := _) ?hi17r6 (by kernel_rfl) (by kernel_rfl) (by kernel_rfl) ?hq17r6 ?hy17r6 (by assumption) ?re17r6
  case hi17r6 => simp only [List.getElem?_toArray, List.getElem?_cons_succ, List.getElem?_cons_zero]; rfl
  case hq17r6 => exact fun _ _ _ h => h
  case hy17r6 =>
    refine Or.inl ⟨by rfl, ?_⟩
    intro w hSw; (try dsimp only at hSw); go_simp; try with_reducible rfl
  try simp only [Act.put, List.setIfInBounds_toArray, List.set_cons_zero, List.set_cons_succ]
  refine wpAnyH_done (by kernel_rfl) ?_ _
  go_wp2_with fail
  go_ret
  exact ⟨rfl, B1.out.trans (k8.1.mono B1.out.size)⟩
end Go.Proofs.YtpjocfkolnfjiaaGreatDoor
