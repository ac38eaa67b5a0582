/- The walk of LexJoins, in three parts. -/
import Derived.Test.YtlcldmhajnmkdaaDoorFrameS
import Derived.Test.YtlcldmhajnmkdaaDoorJoin
import Derived.Test.YtlcldmhajnmkdaaDoorRead
import Derived.Test.YtlcldmhajnmkdaaDoorRefLines
import Derived.Laws.AppendOwnNone
import Derived.Deep.QuietTactic
import Derived.BigQuiet
namespace Go.Proofs.YtlcldmhajnmkdaaDoor
open Go.RowKit

namespace Lx
def sumTo (ss : List ByteArray) (k : Nat) : Nat := ((ss.take k).map ByteArray.size).sum
theorem sumTo_succ (ss : List ByteArray) (k : Nat) (x : ByteArray) (h : ss[k]? = some x) : sumTo ss (k + 1) = sumTo ss k + x.size := by
  obtain ⟨hk, hx⟩ := List.getElem?_eq_some_iff.1 h
  unfold sumTo
  rw [List.take_succ_eq_append_getElem hk, hx]; simp
theorem sumTo_le (ss : List ByteArray) (M : Nat) (hM : ∀ x ∈ ss, x.size ≤ M) : ∀ k, sumTo ss k ≤ k * M
  | 0 => by simp [sumTo]
  | k + 1 => by
    cases h : ss[k]? with
    | none =>
      have : sumTo ss (k + 1) = sumTo ss k := by
        unfold sumTo
        have hl : ss.length ≤ k := List.getElem?_eq_none_iff.1 h
        rw [List.take_of_length_le (by omega), List.take_of_length_le hl]
      rw [this, Nat.succ_mul]; have := sumTo_le ss M hM k; omega
    | some x =>
      rw [sumTo_succ ss k x h, Nat.succ_mul]
      have := sumTo_le ss M hM k
      have := hM x (List.mem_of_getElem? h)
      omega
theorem size_le_sum (ss : List ByteArray) (n : Nat) (hn : ss.length = n) : ∀ x ∈ ss, x.size ≤ sumTo ss n := by
  intro x hx
  unfold sumTo
  rw [List.take_of_length_le (by omega)]
  induction ss generalizing n with
  | nil => cases hx
  | cons a l ih =>
    rw [List.map_cons, List.sum_cons]
    rcases List.mem_cons.1 hx with rfl | h
    · omega
    · have := ih l.length rfl h; omega
theorem own_empty (w : World) (e : TypeId) : (w.alloc (.cells #[] e)).ownsRow w.heap.size e 1 (.slice (some ⟨w.heap.size, 0, none⟩) 0 0) 0 [] :=
  ⟨rfl, .inr ⟨w.heap.size, 0, #[], rfl, Nat.le_refl _, heap_alloc_new w _, Nat.le_refl _, by decide, rfl, rfl⟩⟩
theorem add_eq (b off j : Nat) : (⟨b, off, none⟩ : Addr).add j = ⟨b, off + j, none⟩ := by
  unfold Addr.add
  split
  · rename_i h; subst h; rfl
  · rfl
end Lx

set_option maxRecDepth 100000 in
set_option maxHeartbeats 800000 in
/-- More than 300 texts: the examples alone. -/
theorem joins_many (A : Option Addr) (len cap : Nat) (ss : List ByteArray) (sep : ByteArray) (w : World) (env : Env w) (hss : IsStrs w A len cap ss) (h300 : 300 < len) :
    Calls Tryd.prog 10 #[.slice A len cap, .string sep] w fun e w' => e = .returned (.bool true) ∧ Below w.heap.size w w' := by
  obtain ⟨_, hm, hl, hsz, hrow⟩ := hss
  unfold maxLen at hm
  obtain ⟨b, off, rfl, hb, hc⟩ := hrow (by omega)
  have hw := works_any w env
  have h3 : (300 : Int) < (len : Int) := by omega
  have Hc := Lib.hid hc
  have Hsz := Lib.hid hsz
  have Hl := Lib.hid hl
  clear hc hrow hsz hl
  go_enter Tryd.func10, Tryd.ntmps10
  go_wp2
  go_loop [5, 16] (fun n i => ∃ (k : Nat) (z : Int), k ≤ len ∧ i = .int .i64 k ∧ n = .int .i64 z) (fun _ i => len - (intOf i).toNat)
  case atStart => exact ⟨0, 0, Nat.zero_le _, rfl, rfl⟩
  case round =>
    obtain ⟨k, z, hk, rfl, rfl⟩ := hrel
    by_cases hlt : k < len
    · obtain ⟨x, hx⟩ : ∃ x, ss[k]? = some x := ⟨_, List.getElem?_eq_getElem (by rw [Hl.out]; exact hlt)⟩
      have hcx := Hc.out k x hx
      clear hx
      go_wp2_with fail
      go_round
      case rel => exact ⟨k + 1, _, by omega, by go_num, rfl⟩
      case measure => simp [intOf]; omega
    · go_wp2_with fail
      refine hw.mono ?_
      rintro e w4 ⟨rfl, hb4⟩
      go_wp2_with fail
      go_ret
      exact ⟨rfl, hb4⟩

theorem infoStr : (Tryd.prog.info? 9).map (fun i => (i.zero, i.size, i.bytes)) = some (some (.string ⟨#[]⟩), 1, 16) := by kernel_rfl
theorem block_of_add' (a : Addr) (n : Nat) : (a.add n).block = a.block := by unfold Addr.add; split <;> rfl

set_option maxRecDepth 100000 in
set_option maxHeartbeats 800000 in
/-- Too many bytes, or too long a separator: the examples alone. -/
theorem joins_big (A : Option Addr) (len cap : Nat) (ss : List ByteArray) (sep : ByteArray) (w : World) (env : Env w) (hss : IsStrs w A len cap ss) (h300 : len ≤ 300) (hn0 : 0 < len) (hbig : 5000 < Lx.sumTo ss len ∨ 300 < sep.size) :
    Calls Tryd.prog 10 #[.slice A len cap, .string sep] w fun e w' => e = .returned (.bool true) ∧ Below w.heap.size w w' := by
  obtain ⟨_, hm, hl, hsz, hrow⟩ := hss
  obtain ⟨b, off, rfl, hb, hc⟩ := hrow (by omega)
  have hw := works_any w env
  have hbd := Lx.sumTo_le ss 140737488351232 hsz
  have Hc := Lib.hid hc
  have Hbd := Lib.hid hbd
  have Hl := Lib.hid hl
  clear hc hrow hsz hl hbd
  go_enter Tryd.func10, Tryd.ntmps10
  go_wp2
  go_loop [5, 16] (fun n i => ∃ (k : Nat), k ≤ len ∧ i = .int .i64 k ∧ n = .int .i64 (Lx.sumTo ss k : Int)) (fun _ i => len - (intOf i).toNat)
  case atStart => exact ⟨0, Nat.zero_le _, rfl, rfl⟩
  case round =>
    obtain ⟨k, hk, rfl, rfl⟩ := hrel
    have hS := Hbd.out k
    by_cases hlt : k < len
    · obtain ⟨x, hx⟩ : ∃ x, ss[k]? = some x := ⟨_, List.getElem?_eq_getElem (by rw [Hl.out]; exact hlt)⟩
      have hcx := Hc.out k x hx
      have hs1 := Lx.sumTo_succ ss k x hx
      have hS1 := Hbd.out (k + 1)
      have hb1 : (Lx.sumTo ss k : Int) + (x.size : Int) ≤ 9000000000000000000 := by omega
      have Hs1 := Lib.hid hs1
      clear hx hs1 hS hS1
      go_wp2_with fail
      go_round
      case rel => exact ⟨k + 1, by omega, by go_num, by rw [Hs1.out]; go_num⟩
      case measure => simp [intOf]; omega
    · obtain rfl : k = len := by omega
      have h3 : (k : Int) ≤ 300 := by omega
      by_cases h5 : 5000 < Lx.sumTo ss k
      · have h5' : (5000 : Int) < (Lx.sumTo ss k : Int) := by omega
        clear hbig hS
        go_wp2_with fail
        refine hw.mono ?_
        rintro e w4 ⟨rfl, hb4⟩
        go_wp2_with fail
        go_ret
        exact ⟨rfl, hb4⟩
      · have h5' : (Lx.sumTo ss k : Int) ≤ 5000 := by omega
        have h6 : (300 : Int) < (sep.size : Int) := by omega
        clear hbig hS h5
        go_wp2_with fail
        refine hw.mono ?_
        rintro e w4 ⟨rfl, hb4⟩
        go_wp2_with fail
        go_ret
        exact ⟨rfl, hb4⟩
set_option maxRecDepth 100000 in
set_option maxHeartbeats 800000 in
/-- The road: both join, and the list stays. -/
theorem joins_main (A : Option Addr) (len cap : Nat) (ss : List ByteArray) (sep : ByteArray) (w : World) (env : Env w) (hss : IsStrs w A len cap ss) (h300 : len ≤ 300) (hn0 : 0 < len) (h5 : Lx.sumTo ss len ≤ 5000) (hsep : sep.size ≤ 300) :
    Calls Tryd.prog 10 #[.slice A len cap, .string sep] w fun e w' => e = .returned (.bool true) ∧ Below w.heap.size w w' := by
  obtain ⟨_, hm, hl, hsz, hrow⟩ := hss
  obtain ⟨b, off, rfl, hb, hc⟩ := hrow (by omega)
  obtain ⟨i0, hi, hz0, hz1, hz2⟩ := info_parts infoStr
  have hsm : ∀ x ∈ ss, x.size ≤ 1000000000 := fun x hx => by have := Lx.size_le_sum ss len hl x hx; omega
  have hbd := Lx.sumTo_le ss 140737488351232 hsz
  have Hc := Lib.hid hc
  have Hbd := Lib.hid hbd
  have Hl := Lib.hid hl
  have Hsm := Lib.hid hsm
  clear hc hrow hsz hl hbd hsm
  go_enter Tryd.func10, Tryd.ntmps10
  go_wp2
  go_loop [5, 16] (fun n i => ∃ (k : Nat), k ≤ len ∧ i = .int .i64 k ∧ n = .int .i64 (Lx.sumTo ss k : Int)) (fun _ i => len - (intOf i).toNat)
  case atStart => exact ⟨0, Nat.zero_le _, rfl, rfl⟩
  case round =>
    obtain ⟨k, hk, rfl, rfl⟩ := hrel
    have hS := Hbd.out k
    by_cases hlt : k < len
    · obtain ⟨x, hx⟩ : ∃ x, ss[k]? = some x := ⟨_, List.getElem?_eq_getElem (by rw [Hl.out]; exact hlt)⟩
      have hcx := Hc.out k x hx
      have hs1 := Lx.sumTo_succ ss k x hx
      have hS1 := Hbd.out (k + 1)
      have hb1 : (Lx.sumTo ss k : Int) + (x.size : Int) ≤ 9000000000000000000 := by omega
      have Hs1 := Lib.hid hs1
      clear hx hs1 hS hS1
      go_wp2_with fail
      go_round
      case rel => exact ⟨k + 1, by omega, by go_num, by rw [Hs1.out]; go_num⟩
      case measure => simp [intOf]; omega
    · obtain rfl : k = len := by omega
      have h3 : (k : Int) ≤ 300 := by omega
      have h5' : (Lx.sumTo ss k : Int) ≤ 5000 := by omega
      have h6 : (sep.size : Int) ≤ 300 := by omega
      clear hS
      have hown0 : (w.alloc (.cells #[] 9)).ownsRow w.heap.size 9 1 (.slice (some ⟨w.heap.size, 0, none⟩) 0 0) 0 [] := Lx.own_empty w 9
      have hnews : ∀ (j : Nat) (u : Value), (ss.map Value.string)[j]? = some u → (w.alloc (.cells #[] 9)).cell? ((⟨b, off, none⟩ : Addr).add j) = some u := by
        intro j u hj
        rw [List.getElem?_map, Option.map_eq_some_iff] at hj
        obtain ⟨x, hx, rfl⟩ := hj
        have := Hc.out j x hx
        rw [World.cell?_alloc_lt _ _ _ (by rw [block_of_add']; exact hb), Lx.add_eq]
        exact this
      have Hown0 := Lib.hid hown0
      have Hnews := Lib.hid hnews
      clear hown0 hnews
      have hbel0 : Below w.heap.size w (w.alloc (.cells #[] 9)) := (Below.refl _ w).alloc (Nat.le_refl _) _
      go_wp2_with (at_builtin; refine wpList_append_own _ rfl _ _ 53 rfl w.heap.size 9 i0 _ 1 16 Tryd.underlying53 hi hz0 hz1 hz2 rfl (by decide) _ _ _ rfl Hown0.out ⟨b, off, none⟩ k cap (ss.map Value.string) rfl (by rw [List.length_map, Hl.out, Nat.mul_one]) Hnews.out (by intro u hu; obtain ⟨x, _, rfl⟩ := List.mem_map.1 hu; rfl) (by unfold maxLen; omega) (by omega) (by simp) ?_)
      intro v' w1 hown1 hgrow _
      have hb1 := hbel0.grown hgrow (by simp) (Lx.own_base Hown0.out)
      try rw [List.nil_append] at hown1
      obtain ⟨g, c1, rfl, lt1, hc1⟩ := Lx.row_pos hown1 hn0
      have hcg : ∀ j x, ss[j]? = some x → w1.cell? ⟨g, 0 + j, none⟩ = some (.string x) := by
        intro j x hx
        rw [Nat.zero_add]
        exact hc1 j _ (by rw [List.getElem?_map, hx]; rfl)
      have HJ := Lib.hid (join_any ss sep g 0 k c1 w1 Hl.out hn0 (by omega) lt1 hcg Hsm.out (by omega))
      clear hown1 hc1
      have Hcg := Lib.hid hcg
      clear hcg
      go_wp2_with fail
      refine HJ.out.mono ?_
      rintro e w2 ⟨rfl, hb2⟩
      have hb2' := hb1.trans (hb2.mono hb1.size)
      have hc2 : ∀ j x, ss[j]? = some x → w2.cell? ⟨b, off + j, none⟩ = some (.string x) := fun j x hx => (hb2'.cell (p := ⟨b, off + j, none⟩) hb).trans (Hc.out j x hx)
      have HR := Lib.hid (ref_join_any ss sep b off k cap w2 Hl.out (by omega) hc2 Hsm.out (by omega))
      have Hc2 := Lib.hid hc2
      have hcg2 : ∀ j x, ss[j]? = some x → w2.cell? ⟨g, j, none⟩ = some (.string x) := fun j x hx => (hb2.cell (p := ⟨g, j, none⟩) lt1).trans (by have := Hcg.out j x hx; rwa [Nat.zero_add] at this)
      have Hcg2 := Lib.hid hcg2
      clear hc2 hcg2
      go_wp2_with fail
      refine HR.out.mono ?_
      rintro e w3 ⟨rfl, rfl⟩
      have env2 := env.below hb2'
      go_wp2_with fail
      go_loopw [55] (fun i wr => ∃ j : Nat, j ≤ k ∧ i = .int .i64 j ∧ ∃ n, wr = w2.drewN n) (fun i _ => k - (intOf i).toNat)
      case atStart => exact ⟨0, Nat.zero_le _, rfl, 0, rfl⟩
      case round =>
        obtain ⟨j, hj, rfl, n, rfl⟩ := hrel
        by_cases hlt : j < k
        · obtain ⟨x, hx⟩ : ∃ x, ss[j]? = some x := ⟨_, List.getElem?_eq_getElem (by rw [Hl.out]; exact hlt)⟩
          have r0 := Hc2.out _ _ hx
          have r1 := Hcg2.out _ _ hx
          have hji : (j : Int) < (k : Int) := by omega
          clear hx
          go_wp2_with fail
          go_quiet (fail)
          go_wp2_with fail
          go_roundw
          case rel => exact ⟨j + 1, by omega, by go_num, _, rfl⟩
          case measure => simp [intOf]; omega
        · go_wp2_with fail
          refine (works_any _ (env2.drewN n)).mono ?_
          rintro e w4 ⟨rfl, hb4⟩
          go_wp2_with fail
          go_ret
          exact ⟨rfl, hb2'.trans ((below_drewN _ w2 n).trans (hb4.mono hb2'.size))⟩

set_option maxRecDepth 100000 in
set_option maxHeartbeats 800000 in
/-- No texts. -/
theorem joins_zero (A : Option Addr) (cap : Nat) (hA : A = none → cap = 0) (sep : ByteArray) (w : World) (env : Env w) :
    Calls Tryd.prog 10 #[.slice A 0 cap, .string sep] w fun e w' => e = .returned (.bool true) ∧ Below w.heap.size w w' := by
  obtain ⟨i0, hi, hz0, hz1, hz2⟩ := info_parts infoStr
  have hw := works_any w env
  have z0 : ¬ ((0 : Int) < ((0 : Nat) : Int)) := by decide
  by_cases hbig : 300 < sep.size
  · have h6 : (300 : Int) < (sep.size : Int) := by omega
    go_enter Tryd.func10, Tryd.ntmps10
    go_wp2
    go_loop [5, 16] (fun n i => i = .int .i64 0 ∧ n = .int .i64 0) (fun _ i => 0)
    case atStart => exact ⟨rfl, rfl⟩
    case round =>
      obtain ⟨rfl, rfl⟩ := hrel
      go_wp2_with fail
      refine hw.mono ?_
      rintro e w4 ⟨rfl, hb4⟩
      go_wp2_with fail
      go_ret
      exact ⟨rfl, hb4⟩
  · have h6 : (sep.size : Int) ≤ 300 := by omega
    go_enter Tryd.func10, Tryd.ntmps10
    go_wp2
    go_loop [5, 16] (fun n i => i = .int .i64 0 ∧ n = .int .i64 0) (fun _ i => 0)
    case atStart => exact ⟨rfl, rfl⟩
    case round =>
      obtain ⟨rfl, rfl⟩ := hrel
      have hown0 : (w.alloc (.cells #[] 9)).ownsRow w.heap.size 9 1 (.slice (some ⟨w.heap.size, 0, none⟩) 0 0) 0 [] := Lx.own_empty w 9
      have hbel0 : Below w.heap.size w (w.alloc (.cells #[] 9)) := (Below.refl _ w).alloc (Nat.le_refl _) _
      have key : ∀ (v' : Value) (w1 : World), w1.ownsRow w.heap.size 9 1 v' 0 [] → Below w.heap.size w w1 → ∃ B c1, v' = .slice B 0 c1 := by
        intro v' w1 h _
        rcases h.2 with ⟨hv, _⟩ | ⟨g, cap', cur, hv, _⟩
        · exact ⟨none, 0, hv⟩
        · exact ⟨_, _, hv⟩
      cases A with
      | none =>
        obtain rfl := hA rfl
        go_wp2_with (at_builtin; refine wpList_append_own_none rfl _ _ 53 rfl w.heap.size 9 i0 1 Tryd.underlying53 hi _ _ _ rfl hown0 rfl ?_)
        have env1 := env.below hbel0
        clear hown0 key
        refine (join_none sep (some ⟨w.heap.size, 0, none⟩) 0 _).mono ?_
        rintro e w2 ⟨rfl, hb2⟩
        have hb2' := hbel0.trans (hb2.mono hbel0.size)
        have env2 := env.below hb2'
        go_wp2_with fail
        refine (ref_join_none sep none 0 w2).mono ?_
        rintro e w3 ⟨rfl, rfl⟩
        go_wp2_with fail
        go_loopw [55] (fun i wr => i = .int .i64 0 ∧ ∃ n, wr = w2.drewN n) (fun i _ => 0)
        case atStart => exact ⟨rfl, 0, rfl⟩
        case round =>
          obtain ⟨rfl, n, rfl⟩ := hrel
          go_wp2_with fail
          refine (works_any _ (env2.drewN n)).mono ?_
          rintro e w4 ⟨rfl, hb4⟩
          go_wp2_with fail
          go_ret
          exact ⟨rfl, hb2'.trans ((below_drewN _ w2 n).trans (hb4.mono hb2'.size))⟩
      | some x =>
        go_wp2_with (at_builtin; refine wpList_append_own _ rfl _ _ 53 rfl w.heap.size 9 i0 _ 1 16 Tryd.underlying53 hi hz0 hz1 hz2 rfl (by decide) _ _ _ rfl hown0 x 0 cap [] rfl rfl (by intro j u h; simp at h) (by intro u hu; cases hu) (by unfold maxLen; omega) (by omega) (by simp) ?_)
        intro v' w1 hown1 hgrow _
        have hb1 := hbel0.grown hgrow (by simp) (Lx.own_base hown0)
        obtain ⟨B, c1, rfl⟩ := key _ _ hown1 hb1
        have env1 := env.below hb1
        clear hown0 hown1 hgrow key
        go_wp2_with fail
        refine (join_none sep B c1 w1).mono ?_
        rintro e w2 ⟨rfl, hb2⟩
        have hb2' := hb1.trans (hb2.mono hb1.size)
        have env2 := env.below hb2'
        go_wp2_with fail
        refine (ref_join_none sep (some x) cap w2).mono ?_
        rintro e w3 ⟨rfl, rfl⟩
        go_wp2_with fail
        go_loopw [55] (fun i wr => i = .int .i64 0 ∧ ∃ n, wr = w2.drewN n) (fun i _ => 0)
        case atStart => exact ⟨rfl, 0, rfl⟩
        case round =>
          obtain ⟨rfl, n, rfl⟩ := hrel
          go_wp2_with fail
          refine (works_any _ (env2.drewN n)).mono ?_
          rintro e w4 ⟨rfl, hb4⟩
          go_wp2_with fail
          go_ret
          exact ⟨rfl, hb2'.trans ((below_drewN _ w2 n).trans (hb4.mono hb2'.size))⟩

/-- The walk, for every list of texts. -/
theorem joins_walk (A : Option Addr) (len cap : Nat) (sep : ByteArray) (w : World) (env : Env w) (hss : ∃ ss, IsStrs w A len cap ss) :
    Calls Tryd.prog 10 #[.slice A len cap, .string sep] w fun e w' => e = .returned (.bool true) ∧ Below w.heap.size w w' := by
  obtain ⟨ss, hss⟩ := hss
  by_cases h0 : len = 0
  · subst h0
    exact joins_zero A cap hss.1 sep w env
  · by_cases h3 : 300 < len
    · exact joins_many A len cap ss sep w env hss h3
    · by_cases h5 : 5000 < Lx.sumTo ss len ∨ 300 < sep.size
      · exact joins_big A len cap ss sep w env hss (by omega) (by omega) h5
      · exact joins_main A len cap ss sep w env hss (by omega) (by omega) (by omega) (by omega)
end Go.Proofs.YtlcldmhajnmkdaaDoor
