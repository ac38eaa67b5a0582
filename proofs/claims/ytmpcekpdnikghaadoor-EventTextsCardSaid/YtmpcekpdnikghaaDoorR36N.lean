/- The reference of chapter 36: the first error of names; the law's few. -/
import Derived.Test.YtmpcekpdnikghaaDoorEvB
import Derived.Test.YtmpcekpdnikghaaDoorName
import Derived.Deep.CutRange
import Derived.Deep.QuietTactic
import Derived.BigQuiet
namespace Go.Proofs.YtmpcekpdnikghaaDoor
open Go.RowKit

namespace Lx
/-- At most 100 names of at most 100 bytes. -/
def fewV (NS : List ByteArray) : Bool := decide (NS.length ≤ 100) && NS.all (fun x => decide (x.size ≤ 100))
theorem few_big {NS : List ByteArray} (h : 100 < NS.length) : fewV NS = false := by
  unfold fewV; rw [decide_eq_false (by omega), Bool.false_and]
theorem few_at {NS : List ByteArray} {k : Nat} {x : ByteArray} (h : NS[k]? = some x) (hx : 100 < x.size) : fewV NS = false := by
  unfold fewV
  rw [Bool.and_eq_false_iff]
  refine .inr ?_
  rw [List.all_eq_false]
  exact ⟨x, List.mem_of_getElem? h, by simp; omega⟩
theorem few_all {NS : List ByteArray} (h : NS.length ≤ 100) (hall : ∀ (k : Nat) (x : ByteArray), NS[k]? = some x → x.size ≤ 100) : fewV NS = true := by
  unfold fewV
  rw [decide_eq_true h, Bool.true_and, List.all_eq_true]
  intro x hx
  obtain ⟨k, hk⟩ := List.mem_iff_getElem?.1 hx
  exact decide_eq_true (hall k x hk)
theorem few_of {NS : List ByteArray} (h : fewV NS = true) : NS.length ≤ 100 ∧ ∀ x ∈ NS, x.size ≤ 100 := by
  unfold fewV at h
  rw [Bool.and_eq_true, List.all_eq_true] at h
  exact ⟨of_decide_eq_true h.1, fun x hx => of_decide_eq_true (h.2 x hx)⟩
theorem nm_big {NS : List ByteArray} (h : 64 < NS.length) : nmErr NS = 12 := by unfold nmErr; rw [if_pos h]
theorem nm_at {NS : List ByteArray} (hl : NS.length ≤ 64) {k : Nat} {x : ByteArray} (h : NS[k]? = some x) (hx : isName x = false) : nmErr NS = 15 := by
  unfold nmErr
  rw [if_neg (by omega), if_pos]
  rw [List.any_eq_true]
  exact ⟨x, List.mem_of_getElem? h, by rw [hx]; rfl⟩
theorem nm_any {NS : List ByteArray} (hall : ∀ (k : Nat) (x : ByteArray), NS[k]? = some x → isName x = true) : ¬ (NS.any (fun x => !isName x) = true) := by
  rw [List.any_eq_true]
  rintro ⟨x, hx, h⟩
  obtain ⟨k, hk⟩ := List.mem_iff_getElem?.1 hx
  rw [hall k x hk] at h
  cases h
theorem nm_dup {NS : List ByteArray} (hl : NS.length ≤ 64) (hall : ∀ (k : Nat) (x : ByteArray), NS[k]? = some x → isName x = true) {i k : Nat} {x : ByteArray} (hi : NS[i]? = some x) (hk : NS[k]? = some x) (h : k < i) : nmErr NS = 6 := by
  unfold nmErr
  rw [if_neg (by omega), if_neg (nm_any hall), if_neg]
  intro hd
  obtain ⟨hi', ei⟩ := List.getElem?_eq_some_iff.1 hi
  obtain ⟨hk', ek⟩ := List.getElem?_eq_some_iff.1 hk
  exact (List.pairwise_iff_getElem.1 hd) k i hk' hi' h (ek.trans ei.symm)
theorem nm_fine {NS : List ByteArray} (hl : NS.length ≤ 64) (hall : ∀ (k : Nat) (x : ByteArray), NS[k]? = some x → isName x = true) (hd : ∀ (i k : Nat) (x : ByteArray), NS[i]? = some x → k < i → NS[k]? ≠ some x) : nmErr NS = 0 := by
  unfold nmErr
  rw [if_neg (by omega), if_neg (nm_any hall), if_pos]
  refine List.pairwise_iff_getElem.2 fun k i hk hi h e => ?_
  exact hd i k _ (List.getElem?_eq_getElem hi) h (by rw [List.getElem?_eq_getElem hk, e])
end Lx
set_option maxRecDepth 100000 in
theorem few_any (ad : Option Addr) (n cap : Nat) (NS : List ByteArray) (w : World) (h : Lx.IsNames w ad n NS) (hz : ∀ x ∈ NS, x.size ≤ maxLen) :
    Calls Tryd.prog 10 #[.slice ad n cap] w fun e w' => e = .returned (.bool (Lx.fewV NS)) ∧ Below w.heap.size w w' := by
  have hl := h.1
  by_cases hbig : 100 < n
  · have hs : Lx.fewV NS = false := Lx.few_big (by omega)
    have hbi : (100 : Int) < (n : Int) := by omega
    rw [hs]
    clear hs h hz hl
    go_enter Tryd.func10, Tryd.ntmps10
    go_wp2_with fail
    go_ret
    exact ⟨rfl, Below.refl _ _⟩
  have hbi : (n : Int) ≤ 100 := by omega
  have hbd : decide ((100 : Int) < (n : Int)) = false := decide_eq_false (by omega)
  obtain ⟨z, hzz⟩ : ∃ z, z = Lx.fewV NS := ⟨_, rfl⟩
  rw [← hzz]
  have HZ := Lib.hid hzz
  have H := Lib.hid h
  have HL := Lib.hid hl
  have HJ := Lib.hid hz
  clear hzz h hl hz
  go_enter Tryd.func10, Tryd.ntmps10
  go_wp2_with fail
  go_loopw [3] (fun i wr => ∃ k : Nat, k ≤ n ∧ i = .int .i64 k ∧ (∀ (j : Nat) (x : ByteArray), j < k → NS[j]? = some x → x.size ≤ 100) ∧ Below w.heap.size w wr) (fun i _ => n - (intOf i).toNat)
  case atStart => exact ⟨0, Nat.zero_le _, rfl, (fun j x hj => absurd hj (Nat.not_lt_zero _)), Below.refl _ _⟩
  case round =>
    obtain ⟨k, hk, rfl, hall, hb⟩ := hrel
    have Hb := Lib.hid hb
    have HA := Lib.hid hall
    clear hb hall
    by_cases hlt : k < n
    · have hki : (k : Int) < (n : Int) := by omega
      obtain ⟨x, hx⟩ : ∃ x, NS[k]? = some x := ⟨_, List.getElem?_eq_getElem (by rw [HL.out]; exact hlt)⟩
      obtain ⟨g, off, rfl, lt, hc⟩ := (H.out.below Hb.out).2 (by omega)
      have hcx := hc k x hx
      have hsz := HJ.out x (List.mem_of_getElem? hx)
      unfold maxLen at hsz
      have HX := Lib.hid hx
      clear hc hx
      by_cases h100 : 100 < x.size
      · have d1 : (100 : Int) < (x.size : Int) := by omega
        have hs := HZ.out.trans (Lx.few_at HX.out h100)
        subst hs
        clear HZ
        go_wp2_with fail
        go_ret
        exact ⟨rfl, Hb.out⟩
      · have d1 : (x.size : Int) ≤ 100 := by omega
        go_wp2_with fail
        go_roundw
        case rel => exact ⟨k + 1, by omega, by go_num, (fun j y hj hy => by rcases Nat.lt_or_eq_of_le (Nat.le_of_lt_succ hj) with c | c; (exact HA.out j y c hy); (subst c; rw [HX.out] at hy; cases hy; omega)), Hb.out⟩
        case measure => simp [intOf]; omega
    · obtain rfl : k = n := by omega
      have hki : decide ((k : Int) < (k : Int)) = false := decide_eq_false (by omega)
      have hs := HZ.out.trans (Lx.few_all (by rw [HL.out]; omega) (fun j x hx => HA.out j x (by rw [← HL.out]; exact (List.getElem?_eq_some_iff.1 hx).1) hx))
      subst hs
      clear HZ
      go_wp2_with fail
      go_ret
      exact ⟨rfl, Hb.out⟩
set_option maxRecDepth 100000 in
set_option maxHeartbeats 1600000 in
theorem r36list_any (ad : Option Addr) (n cap : Nat) (NS : List ByteArray) (w : World) (h : Lx.IsNames w ad n NS) (hz : ∀ x ∈ NS, x.size ≤ maxLen) :
    Calls Tryd.prog 24 #[.slice ad n cap] w fun e w' => e = .returned (.int .i64 (Lx.nmErr NS)) ∧ Below w.heap.size w w' := by
  have hl := h.1
  by_cases hbig : 64 < n
  · have hs : Lx.nmErr NS = 12 := Lx.nm_big (by omega)
    have hbi : (64 : Int) < (n : Int) := by omega
    rw [hs]
    clear hs h hz hl
    go_enter Tryd.func24, Tryd.ntmps24
    go_wp2_with fail
    go_ret
    exact ⟨rfl, Below.refl _ _⟩
  have hbi : (n : Int) ≤ 64 := by omega
  have hbd : decide ((64 : Int) < (n : Int)) = false := decide_eq_false (by omega)
  have HNM := Lib.hid (fun (x : ByteArray) (W : World) (hx : x.size ≤ maxLen) => ref_name_any x W hx)
  obtain ⟨z, hzz⟩ : ∃ z, z = Lx.nmErr NS := ⟨_, rfl⟩
  rw [← hzz]
  have HZ := Lib.hid hzz
  have H := Lib.hid h
  have HL := Lib.hid hl
  have HL64 := Lib.hid (show NS.length ≤ 64 by omega)
  have HJ := Lib.hid hz
  clear hzz h hl hz
  go_enter Tryd.func24, Tryd.ntmps24
  go_wp2_with fail
  go_loopw [3] (fun i wr => ∃ k : Nat, k ≤ n ∧ i = .int .i64 k ∧ (∀ (j : Nat) (x : ByteArray), j < k → NS[j]? = some x → Lx.isName x = true) ∧ Below w.heap.size w wr) (fun i _ => n - (intOf i).toNat)
  case atStart => exact ⟨0, Nat.zero_le _, rfl, (fun j x hj => absurd hj (Nat.not_lt_zero _)), Below.refl _ _⟩
  case round =>
    obtain ⟨k, hk, rfl, hall, hb⟩ := hrel
    have Hb := Lib.hid hb
    have HA := Lib.hid hall
    clear hb hall
    by_cases hlt : k < n
    · have hki : (k : Int) < (n : Int) := by omega
      obtain ⟨x, hx⟩ : ∃ x, NS[k]? = some x := ⟨_, List.getElem?_eq_getElem (by rw [HL.out]; exact hlt)⟩
      obtain ⟨g, off, rfl, lt, hc⟩ := (H.out.below Hb.out).2 (by omega)
      have hcx := hc k x hx
      have HN1 := Lib.hid (fun W => HNM.out x W (HJ.out x (List.mem_of_getElem? hx)))
      have HX := Lib.hid hx
      clear hc hx
      cases hnx : Lx.isName x
      · rw [hnx] at HN1
        have hs := HZ.out.trans (Lx.nm_at HL64.out HX.out hnx)
        subst hs
        clear HZ hnx
        go_wp2_with fail
        refine (HN1.out _).mono ?_
        rintro e w1 ⟨rfl, rfl⟩
        go_wp2_with fail
        go_ret
        exact ⟨rfl, Hb.out⟩
      · rw [hnx] at HN1
        have HNX := Lib.hid hnx
        clear hnx
        go_wp2_with fail
        refine (HN1.out _).mono ?_
        rintro e w1 ⟨rfl, rfl⟩
        go_wp2_with fail
        go_roundw
        case rel => exact ⟨k + 1, by omega, by go_num, (fun j y hj hy => by rcases Nat.lt_or_eq_of_le (Nat.le_of_lt_succ hj) with c | c; (exact HA.out j y c hy); (subst c; rw [HX.out] at hy; cases hy; exact HNX.out)), Hb.out⟩
        case measure => simp [intOf]; omega
    · obtain rfl : k = n := by omega
      have hki : decide ((k : Int) < (k : Int)) = false := decide_eq_false (by omega)
      have hall : ∀ (j : Nat) (x : ByteArray), NS[j]? = some x → Lx.isName x = true := fun j x hx => HA.out j x (by rw [← HL.out]; exact (List.getElem?_eq_some_iff.1 hx).1) hx
      have HALL := Lib.hid hall
      have Hb0 := Hb
      clear hall HA HNM Hb
      go_wp2_with fail
      clear hki hlt hk
      go_loopw [4] (fun i wr => ∃ a : Nat, a ≤ k ∧ i = .int .i64 a ∧ (∀ (j b : Nat) (x : ByteArray), j < a → NS[j]? = some x → b < j → NS[b]? ≠ some x) ∧ Below w.heap.size w wr) (fun i _ => k - (intOf i).toNat)
      case atStart => exact ⟨0, Nat.zero_le _, rfl, (fun j b x hj => absurd hj (Nat.not_lt_zero _)), Hb0.out⟩
      case round =>
        obtain ⟨a, ha, rfl, hdis, hb⟩ := hrel
        have Hb := Lib.hid hb
        have HD := Lib.hid hdis
        clear hb hdis Hb0
        by_cases hlt : a < k
        · have hki : (a : Int) < (k : Int) := by omega
          obtain ⟨x, hx⟩ : ∃ x, NS[a]? = some x := ⟨_, List.getElem?_eq_getElem (by rw [HL.out]; exact hlt)⟩
          have HX := Lib.hid hx
          have Hb0 := Hb
          clear hx Hb
          go_wp2_with fail
          go_loopw [5] (fun i wr => ∃ b : Nat, b ≤ a ∧ i = .int .i64 b ∧ (∀ j : Nat, j < b → NS[j]? ≠ some x) ∧ Below w.heap.size w wr) (fun i _ => a - (intOf i).toNat)
          case atStart => exact ⟨0, Nat.zero_le _, rfl, (fun j hj => absurd hj (Nat.not_lt_zero _)), Hb0.out⟩
          case round =>
            obtain ⟨b, hb', rfl, hne, hb⟩ := hrel
            have Hb := Lib.hid hb
            have HE := Lib.hid hne
            clear hb hne Hb0
            by_cases hlb : b < a
            · have hbi2 : (b : Int) < (a : Int) := by omega
              obtain ⟨y, hy⟩ : ∃ y, NS[b]? = some y := ⟨_, List.getElem?_eq_getElem (by rw [HL.out]; omega)⟩
              obtain ⟨g, off, rfl, lt, hc⟩ := (H.out.below Hb.out).2 (by omega)
              have hcx := hc a x HX.out
              have hcy := hc b y hy
              have HY := Lib.hid hy
              have hbk : (b : Int) < (k : Int) := by omega
              clear hc hy
              by_cases hxy : x = y
              · subst hxy
                have hs := HZ.out.trans (Lx.nm_dup HL64.out HALL.out HX.out HY.out hlb)
                subst hs
                have hee : (x.toList == x.toList) = true := by rw [beq_iff_eq]
                clear HZ
                go_wp2_with fail
                go_quiet (fail)
                go_wp2_with fail
                go_ret
                exact ⟨rfl, Hb.out.trans (below_drewN _ _ _)⟩
              · have hee : (x.toList == y.toList) = false := by rw [beq_eq_false_iff_ne]; intro e; rw [Lib.toList_data, Lib.toList_data] at e; exact hxy (ByteArray.ext (Array.toList_inj.1 e))
                have HXY := Lib.hid hxy
                clear hxy
                go_wp2_with fail
                go_quiet (fail)
                go_wp2_with fail
                go_roundw
                case rel => exact ⟨b + 1, by omega, by go_num, (fun j hj hy => by rcases Nat.lt_or_eq_of_le (Nat.le_of_lt_succ hj) with c | c; (exact HE.out j c hy); (subst c; rw [HY.out] at hy; cases hy; exact HXY.out rfl)), Hb.out.trans (below_drewN _ _ _)⟩
                case measure => simp [intOf]; omega
            · obtain rfl : b = a := by omega
              have hbi2 : decide ((b : Int) < (b : Int)) = false := decide_eq_false (by omega)
              go_wp2_with fail
              go_roundw
              case rel => exact ⟨b + 1, by omega, by go_num, (fun j c y hj hy hcj => by rcases Nat.lt_or_eq_of_le (Nat.le_of_lt_succ hj) with d | d; (exact HD.out j c y d hy hcj); (subst d; rw [HX.out] at hy; cases hy; exact HE.out c hcj)), Hb.out⟩
              case measure => simp [intOf]; omega
        · obtain rfl : a = k := by omega
          have hki : decide ((a : Int) < (a : Int)) = false := decide_eq_false (by omega)
          have hs := HZ.out.trans (Lx.nm_fine HL64.out HALL.out (fun i b x hi hbi => HD.out i b x (by rw [← HL.out]; exact (List.getElem?_eq_some_iff.1 hi).1) hi hbi))
          subst hs
          clear HZ
          go_wp2_with fail
          go_ret
          exact ⟨rfl, Hb.out⟩
end Go.Proofs.YtmpcekpdnikghaaDoor
