/- The walks of op.Length and op.Plain. -/
import Derived.Test.YtnnkamfpcodnnaaDoorOpL
import Derived.Test.YtnnkamfpcodnnaaDoorOpM
namespace Go.Proofs.YtnnkamfpcodnnaaDoor
open Go.RowKit

namespace Lx
theorem firstErr_all : ∀ {L : List OpV}, firstErr L = 0 → AllOk L
  | [], _ => fun o ho => by cases ho
  | a :: t, h => by
    unfold firstErr at h
    by_cases ha : opErr a = 0
    · rw [if_pos ha] at h
      intro o ho
      rcases List.mem_cons.1 ho with rfl | ho
      · exact ha
      · exact firstErr_all h o ho
    · rw [if_neg ha] at h; exact absurd h ha
theorem script_ok {L : List OpV} (h : scriptErr L = 0) : L.length ≤ 10000 ∧ AllOk L := by
  unfold scriptErr at h
  split at h
  · omega
  · exact ⟨by omega, firstErr_all h⟩
theorem script_of {L : List OpV} (h : L.length ≤ 10000) (ha : AllOk L) : scriptErr L = 0 := by
  unfold scriptErr
  rw [if_neg (by omega)]
  exact firstErr_zero ha
def lenV (L : List OpV) : Int := if scriptErr L = 0 then sumD L else 0
def plnV (L : List OpV) : Bool := if scriptErr L = 0 then plainL L else false
end Lx
def LenIs (v x : Int) (w : World) (e : Ending) (w' : World) : Prop := e = .returned (.tuple #[.int .i64 v, .int .i64 x]) ∧ Below w.heap.size w w'
theorem ret_len {v v' x x' : Int} (h : v = v') (h2 : x = x') : Ending.returned (.tuple #[.int .i64 v, .int .i64 x]) = .returned (.tuple #[.int .i64 v', .int .i64 x']) := by rw [h, h2]
set_option maxRecDepth 100000 in
set_option maxHeartbeats 1600000 in
theorem length_any (ad : Option Addr) (n cap : Nat) (L : List Lx.OpV) (w : World) (h : Lx.IsOps w ad n L) (hj : ∀ o ∈ L, o.job.size ≤ maxLen) (hn : n ≤ 1000000000) :
    Calls Tryd.prog 20 #[.slice ad n cap] w (LenIs (Lx.lenV L) (Lx.scriptErr L) w) := by
  have HS := Lib.hid (script_any ad n cap L w h hj hn)
  unfold CheckIs at HS
  by_cases hx : Lx.scriptErr L = 0
  · have hok := Lx.script_ok hx
    have hv : Lx.lenV L = Lx.sumD L := by unfold Lx.lenV; rw [if_pos hx]
    rw [hx] at HS ⊢
    rw [hv]
    have H := Lib.hid h
    have HA := Lib.hid hok.2
    have hn1 : n ≤ 10000 := by rw [← h.1]; exact hok.1
    clear hx hok hv h hj hn
    go_enter Tryd.func20, Tryd.ntmps20
    go_wp2_with fail
    refine HS.out.mono ?_
    rintro e w1 ⟨rfl, hb1⟩
    have Hb1 := Lib.hid hb1
    clear hb1
    go_wp2_with fail
    go_loopw [5, 15] (fun s i wr => ∃ k : Nat, k ≤ n ∧ i = .int .i64 k ∧ s = .int .i64 (Lx.sumD (L.take k)) ∧ Below w.heap.size w wr) (fun _ i _ => n - (intOf i).toNat)
    case atStart => exact ⟨0, Nat.zero_le _, rfl, rfl, Hb1.out⟩
    case round =>
      obtain ⟨k, hk, rfl, rfl, hb⟩ := hrel
      have Hb := Lib.hid hb
      clear hb
      have hsb := Lx.sumD_bd (L := L.take k) (fun x hx => HA.out x (List.mem_of_mem_take hx))
      have hl : (L.take k).length ≤ k := List.length_take_le _ _
      obtain ⟨S, hS⟩ : ∃ S, Lx.sumD (L.take k) = S := ⟨_, rfl⟩
      by_cases hlt : k < n
      · obtain ⟨o, ho⟩ : ∃ o, L[k]? = some o := ⟨_, List.getElem?_eq_getElem (by rw [H.out.1]; exact hlt)⟩
        obtain ⟨g, off, rfl, lt, hc⟩ := (H.out.below Hb.out).2 (by omega)
        have hdb := Lx.d_bd (HA.out o (List.mem_of_getElem? ho))
        have hst := Lx.sumD_take ho
        obtain ⟨ok, od, ot, or, oo, oj⟩ := o
        have c0 : wr.cell? ⟨g, off + k * 6, none⟩ = some (.int .i64 ok) := hc k _ ho 0 _ rfl
        have c1 := hc k _ ho 1 _ rfl
        have c2 := hc k _ ho 2 _ rfl
        have c3 := hc k _ ho 3 _ rfl
        have c4 := hc k _ ho 4 _ rfl
        have c5 := hc k _ ho 5 _ rfl
        have hki : (k : Int) < (n : Int) := by omega
        rw [hS] at hst hsb ⊢
        have d0 : 0 ≤ od := hdb.1
        have d1 : od ≤ 100000 := hdb.2.1
        have s0 : 0 ≤ S := hsb.1
        have s1 : S ≤ 1000000000 := by omega
        have HST := Lib.hid hst
        clear hc ho hdb hst hsb hl hS hk
        go_wp2_with fail
        go_roundw
        case rel => exact ⟨k + 1, by omega, by go_num, by rw [HST.out], Hb.out.alloc Hb.out.size _⟩
        case measure => simp [intOf]; omega
      · obtain rfl : k = n := by omega
        rw [hS]
        rw [List.take_of_length_le (by rw [H.out.1]; exact Nat.le_refl _)] at hS
        have HS2 := Lib.hid hS
        clear hS hsb hl
        go_wp2_with fail
        go_ret2
        exact ⟨ret_len HS2.out.symm rfl, Hb.out⟩
  · have hne : (Lx.scriptErr L != 0) = true := by rw [bne_iff_ne]; exact hx
    have hv : Lx.lenV L = 0 := by unfold Lx.lenV; rw [if_neg hx]
    rw [hv]
    generalize Lx.scriptErr L = x at *
    clear hx hv h hj
    go_enter Tryd.func20, Tryd.ntmps20
    go_wp2_with fail
    refine HS.out.mono ?_
    rintro e w1 ⟨rfl, hb1⟩
    go_wp2_with fail
    go_ret2
    exact ⟨rfl, hb1⟩
theorem ret_pln {v v' : Bool} {x : Int} (h : v = v') : Ending.returned (.tuple #[.bool v, .int .i64 x]) = .returned (.tuple #[.bool v', .int .i64 x]) := by rw [h]
def PlnIs (b : Bool) (x : Int) (w : World) (e : Ending) (w' : World) : Prop := e = .returned (.tuple #[.bool b, .int .i64 x]) ∧ Below w.heap.size w w'
set_option maxRecDepth 100000 in
set_option maxHeartbeats 1600000 in
theorem plain_any (ad : Option Addr) (n cap : Nat) (L : List Lx.OpV) (w : World) (h : Lx.IsOps w ad n L) (hj : ∀ o ∈ L, o.job.size ≤ maxLen) (hn : n ≤ 1000000000) :
    Calls Tryd.prog 23 #[.slice ad n cap] w (PlnIs (Lx.plnV L) (Lx.scriptErr L) w) := by
  have HS := Lib.hid (script_any ad n cap L w h hj hn)
  unfold CheckIs at HS
  by_cases hx : Lx.scriptErr L = 0
  · have hv : Lx.plnV L = Lx.plainL L := by unfold Lx.plnV; rw [if_pos hx]
    rw [hx] at HS ⊢
    rw [hv]
    have H := Lib.hid h
    clear hx hv h hj
    go_enter Tryd.func23, Tryd.ntmps23
    go_wp2_with fail
    refine HS.out.mono ?_
    rintro e w1 ⟨rfl, hb1⟩
    have Hb1 := Lib.hid hb1
    clear hb1
    go_wp2_with fail
    go_loopw [14] (fun i wr => ∃ k : Nat, k ≤ n ∧ i = .int .i64 k ∧ Lx.plainL (L.take k) = true ∧ Below w.heap.size w wr) (fun i _ => n - (intOf i).toNat)
    case atStart => exact ⟨0, Nat.zero_le _, rfl, rfl, Hb1.out⟩
    case round =>
      obtain ⟨k, hk, rfl, hall, hb⟩ := hrel
      have Hall := Lib.hid hall
      have Hb := Lib.hid hb
      clear hall hb
      by_cases hlt : k < n
      · obtain ⟨o, ho⟩ : ∃ o, L[k]? = some o := ⟨_, List.getElem?_eq_getElem (by rw [H.out.1]; exact hlt)⟩
        obtain ⟨g, off, rfl, lt, hc⟩ := (H.out.below Hb.out).2 (by omega)
        have HO := Lib.hid ho
        obtain ⟨ok, od, ot, or, oo, oj⟩ := o
        have c0 : wr.cell? ⟨g, off + k * 6, none⟩ = some (.int .i64 ok) := hc k _ ho 0 _ rfl
        have c1 := hc k _ ho 1 _ rfl
        have c2 := hc k _ ho 2 _ rfl
        have c3 := hc k _ ho 3 _ rfl
        have c4 := hc k _ ho 4 _ rfl
        have c5 := hc k _ ho 5 _ rfl
        have hki : (k : Int) < (n : Int) := by omega
        clear hc ho hk
        by_cases k1 : ok = 1
        · subst k1
          have hp := Lib.hid (Lx.plainL_take HO.out rfl Hall.out)
          go_wp2_with fail
          go_roundw
          case rel => exact ⟨k + 1, by omega, by go_num, hp.out, Hb.out.alloc Hb.out.size _⟩
          case measure => simp [intOf]; omega
        · have n1 : (ok != 1) = true := by rw [bne_iff_ne]; exact k1
          by_cases k3 : ok = 3
          · subst k3
            have hp := Lib.hid (Lx.plainL_take HO.out rfl Hall.out)
            clear k1
            go_wp2_with fail
            go_roundw
            case rel => exact ⟨k + 1, by omega, by go_num, hp.out, Hb.out.alloc Hb.out.size _⟩
            case measure => simp [intOf]; omega
          · have n3 : (ok != 3) = true := by rw [bne_iff_ne]; exact k3
            have hp := Lib.hid (Lx.plainL_no HO.out (by unfold Lx.plainO; simp [k1, k3]))
            clear k1 k3
            go_wp2_with fail
            go_ret2
            exact ⟨ret_pln hp.out.symm, Hb.out.alloc Hb.out.size _⟩
      · obtain rfl : k = n := by omega
        have hf := Hall.out
        rw [List.take_of_length_le (by rw [H.out.1]; exact Nat.le_refl _)] at hf
        have HF := Lib.hid hf
        clear hf
        go_wp2_with fail
        go_ret2
        exact ⟨ret_pln HF.out.symm, Hb.out⟩
  · have hne : (Lx.scriptErr L != 0) = true := by rw [bne_iff_ne]; exact hx
    have hv : Lx.plnV L = false := by unfold Lx.plnV; rw [if_neg hx]
    rw [hv]
    generalize Lx.scriptErr L = x at *
    clear hx hv h hj
    go_enter Tryd.func23, Tryd.ntmps23
    go_wp2_with fail
    refine HS.out.mono ?_
    rintro e w1 ⟨rfl, hb1⟩
    go_wp2_with fail
    go_ret2
    exact ⟨rfl, hb1⟩
end Go.Proofs.YtnnkamfpcodnnaaDoor
