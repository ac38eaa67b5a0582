/- The walks of op.Length and op.Plain. The walks of same and valid. Plain facts on joined ticks as the reference joins them, and on where the other operations stand. No program in sight. The walk of op.Normal. What texts are read as is one thing alone; the walk of works of chapter 38, the examples that every law of it runs: true. -/
import Derived.Test.YtnnkamfpcodnnaaGreatDoorOpL
import Derived.Test.YtnnkamfpcodnnaaGreatDoorOpM
import Derived.Test.YtnnkamfpcodnnaaGreatDoorOpA
import Derived.Laws.OwnMore
import Derived.RegionTactic
import Derived.ChangeAlike
import Derived.IntWalk
namespace Go.Proofs.YtnnkamfpcodnnaaGreatDoor
open Go.RowKit

namespace Lx
theorem firstErr_all : ∀ {L : List OpV}, firstErr L = 0 → AllOk L
  | [], _ => fun o ho => by cases ho
  | a :: t, h => by
    unfold firstErr at h
    by_cases ha : opErr a = 0
    · rw [if_pos ha] at h
      intro o ho
      rcases List.mem_cons.1 ho with rfl | ho
      · exact ha
      · exact firstErr_all h o ho
    · rw [if_neg ha] at h; exact absurd h ha
theorem script_ok {L : List OpV} (h : scriptErr L = 0) : L.length ≤ 10000 ∧ AllOk L := by
  unfold scriptErr at h
  split at h
  · omega
  · exact ⟨by omega, firstErr_all h⟩
theorem script_of {L : List OpV} (h : L.length ≤ 10000) (ha : AllOk L) : scriptErr L = 0 := by
  unfold scriptErr
  rw [if_neg (by omega)]
  exact firstErr_zero ha
def lenV (L : List OpV) : Int := if scriptErr L = 0 then sumD L else 0
def plnV (L : List OpV) : Bool := if scriptErr L = 0 then plainL L else false
end Lx
def LenIs (v x : Int) (w : World) (e : Ending) (w' : World) : Prop := e = .returned (.tuple #[.int .i64 v, .int .i64 x]) ∧ Below w.heap.size w w'
theorem ret_len {v v' x x' : Int} (h : v = v') (h2 : x = x') : Ending.returned (.tuple #[.int .i64 v, .int .i64 x]) = .returned (.tuple #[.int .i64 v', .int .i64 x']) := by rw [h, h2]
set_option maxRecDepth 100000 in
set_option maxHeartbeats 1600000 in
theorem length_any (ad : Option Addr) (n cap : Nat) (L : List Lx.OpV) (w : World) (h : Lx.IsOps w ad n L) (hj : ∀ o ∈ L, o.job.size ≤ maxLen) (hn : n ≤ 1000000000) :
    Calls Tryz.prog 12 #[.slice ad n cap] w (LenIs (Lx.lenV L) (Lx.scriptErr L) w) := by
  have HS := Lib.hid (script_any ad n cap L w h hj hn)
  unfold CheckIs at HS
  by_cases hx : Lx.scriptErr L = 0
  · have hok := Lx.script_ok hx
    have hv : Lx.lenV L = Lx.sumD L := by unfold Lx.lenV; rw [if_pos hx]
    rw [hx] at HS ⊢
    rw [hv]
    have H := Lib.hid h
    have HA := Lib.hid hok.2
    have hn1 : n ≤ 10000 := by rw [← h.1]; exact hok.1
    clear hx hok hv h hj hn
    go_enter Tryz.func12, Tryz.ntmps12
    go_wp2_with fail
    refine HS.out.mono ?_
    rintro e w1 ⟨rfl, hb1⟩
    have Hb1 := Lib.hid hb1
    clear hb1
    go_wp2_with fail
    go_loopw [5, 15] (fun s i wr => ∃ k : Nat, k ≤ n ∧ i = .int .i64 k ∧ s = .int .i64 (Lx.sumD (L.take k)) ∧ Below w.heap.size w wr) (fun _ i _ => n - (intOf i).toNat)
    case atStart => exact ⟨0, Nat.zero_le _, rfl, rfl, Hb1.out⟩
    case round =>
      obtain ⟨k, hk, rfl, rfl, hb⟩ := hrel
      have Hb := Lib.hid hb
      clear hb
      have hsb := Lx.sumD_bd (L := L.take k) (fun x hx => HA.out x (List.mem_of_mem_take hx))
      have hl : (L.take k).length ≤ k := List.length_take_le _ _
      obtain ⟨S, hS⟩ : ∃ S, Lx.sumD (L.take k) = S := ⟨_, rfl⟩
      by_cases hlt : k < n
      · obtain ⟨o, ho⟩ : ∃ o, L[k]? = some o := ⟨_, List.getElem?_eq_getElem (by rw [H.out.1]; exact hlt)⟩
        obtain ⟨g, off, rfl, lt, hc⟩ := (H.out.below Hb.out).2 (by omega)
        have hdb := Lx.d_bd (HA.out o (List.mem_of_getElem? ho))
        have hst := Lx.sumD_take ho
        obtain ⟨ok, od, ot, or, oo, oj⟩ := o
        have c0 : wr.cell? ⟨g, off + k * 6, none⟩ = some (.int .i64 ok) := hc k _ ho 0 _ rfl
        have c1 := hc k _ ho 1 _ rfl
        have c2 := hc k _ ho 2 _ rfl
        have c3 := hc k _ ho 3 _ rfl
        have c4 := hc k _ ho 4 _ rfl
        have c5 := hc k _ ho 5 _ rfl
        have hki : (k : Int) < (n : Int) := by omega
        rw [hS] at hst hsb ⊢
        have d0 : 0 ≤ od := hdb.1
        have d1 : od ≤ 100000 := hdb.2.1
        have s0 : 0 ≤ S := hsb.1
        have s1 : S ≤ 1000000000 := by omega
        have HST := Lib.hid hst
        clear hc ho hdb hst hsb hl hS hk
        go_wp2_with fail
        go_roundw
        case rel => exact ⟨k + 1, by omega, by go_num, by rw [HST.out], Hb.out.alloc Hb.out.size _⟩
        case measure => simp [intOf]; omega
      · obtain rfl : k = n := by omega
        rw [hS]
        rw [List.take_of_length_le (by rw [H.out.1]; exact Nat.le_refl _)] at hS
        have HS2 := Lib.hid hS
        clear hS hsb hl
        go_wp2_with fail
        go_ret2
        exact ⟨ret_len HS2.out.symm rfl, Hb.out⟩
  · have hne : (Lx.scriptErr L != 0) = true := by rw [bne_iff_ne]; exact hx
    have hv : Lx.lenV L = 0 := by unfold Lx.lenV; rw [if_neg hx]
    rw [hv]
    generalize Lx.scriptErr L = x at *
    clear hx hv h hj
    go_enter Tryz.func12, Tryz.ntmps12
    go_wp2_with fail
    refine HS.out.mono ?_
    rintro e w1 ⟨rfl, hb1⟩
    go_wp2_with fail
    go_ret2
    exact ⟨rfl, hb1⟩
theorem ret_pln {v v' : Bool} {x : Int} (h : v = v') : Ending.returned (.tuple #[.bool v, .int .i64 x]) = .returned (.tuple #[.bool v', .int .i64 x]) := by rw [h]
def PlnIs (b : Bool) (x : Int) (w : World) (e : Ending) (w' : World) : Prop := e = .returned (.tuple #[.bool b, .int .i64 x]) ∧ Below w.heap.size w w'
set_option maxRecDepth 100000 in
set_option maxHeartbeats 1600000 in
theorem plain_any (ad : Option Addr) (n cap : Nat) (L : List Lx.OpV) (w : World) (h : Lx.IsOps w ad n L) (hj : ∀ o ∈ L, o.job.size ≤ maxLen) (hn : n ≤ 1000000000) :
    Calls Tryz.prog 14 #[.slice ad n cap] w (PlnIs (Lx.plnV L) (Lx.scriptErr L) w) := by
  have HS := Lib.hid (script_any ad n cap L w h hj hn)
  unfold CheckIs at HS
  by_cases hx : Lx.scriptErr L = 0
  · have hv : Lx.plnV L = Lx.plainL L := by unfold Lx.plnV; rw [if_pos hx]
    rw [hx] at HS ⊢
    rw [hv]
    have H := Lib.hid h
    clear hx hv h hj
    go_enter Tryz.func14, Tryz.ntmps14
    go_wp2_with fail
    refine HS.out.mono ?_
    rintro e w1 ⟨rfl, hb1⟩
    have Hb1 := Lib.hid hb1
    clear hb1
    go_wp2_with fail
    go_loopw [14] (fun i wr => ∃ k : Nat, k ≤ n ∧ i = .int .i64 k ∧ Lx.plainL (L.take k) = true ∧ Below w.heap.size w wr) (fun i _ => n - (intOf i).toNat)
    case atStart => exact ⟨0, Nat.zero_le _, rfl, rfl, Hb1.out⟩
    case round =>
      obtain ⟨k, hk, rfl, hall, hb⟩ := hrel
      have Hall := Lib.hid hall
      have Hb := Lib.hid hb
      clear hall hb
      by_cases hlt : k < n
      · obtain ⟨o, ho⟩ : ∃ o, L[k]? = some o := ⟨_, List.getElem?_eq_getElem (by rw [H.out.1]; exact hlt)⟩
        obtain ⟨g, off, rfl, lt, hc⟩ := (H.out.below Hb.out).2 (by omega)
        have HO := Lib.hid ho
        obtain ⟨ok, od, ot, or, oo, oj⟩ := o
        have c0 : wr.cell? ⟨g, off + k * 6, none⟩ = some (.int .i64 ok) := hc k _ ho 0 _ rfl
        have c1 := hc k _ ho 1 _ rfl
        have c2 := hc k _ ho 2 _ rfl
        have c3 := hc k _ ho 3 _ rfl
        have c4 := hc k _ ho 4 _ rfl
        have c5 := hc k _ ho 5 _ rfl
        have hki : (k : Int) < (n : Int) := by omega
        clear hc ho hk
        by_cases k1 : ok = 1
        · subst k1
          have hp := Lib.hid (Lx.plainL_take HO.out rfl Hall.out)
          go_wp2_with fail
          go_roundw
          case rel => exact ⟨k + 1, by omega, by go_num, hp.out, Hb.out.alloc Hb.out.size _⟩
          case measure => simp [intOf]; omega
        · have n1 : (ok != 1) = true := by rw [bne_iff_ne]; exact k1
          by_cases k3 : ok = 3
          · subst k3
            have hp := Lib.hid (Lx.plainL_take HO.out rfl Hall.out)
            clear k1
            go_wp2_with fail
            go_roundw
            case rel => exact ⟨k + 1, by omega, by go_num, hp.out, Hb.out.alloc Hb.out.size _⟩
            case measure => simp [intOf]; omega
          · have n3 : (ok != 3) = true := by rw [bne_iff_ne]; exact k3
            have hp := Lib.hid (Lx.plainL_no HO.out (by unfold Lx.plainO; simp [k1, k3]))
            clear k1 k3
            go_wp2_with fail
            go_ret2
            exact ⟨ret_pln hp.out.symm, Hb.out.alloc Hb.out.size _⟩
      · obtain rfl : k = n := by omega
        have hf := Hall.out
        rw [List.take_of_length_le (by rw [H.out.1]; exact Nat.le_refl _)] at hf
        have HF := Lib.hid hf
        clear hf
        go_wp2_with fail
        go_ret2
        exact ⟨ret_pln HF.out.symm, Hb.out⟩
  · have hne : (Lx.scriptErr L != 0) = true := by rw [bne_iff_ne]; exact hx
    have hv : Lx.plnV L = false := by unfold Lx.plnV; rw [if_neg hx]
    rw [hv]
    generalize Lx.scriptErr L = x at *
    clear hx hv h hj
    go_enter Tryz.func14, Tryz.ntmps14
    go_wp2_with fail
    refine HS.out.mono ?_
    rintro e w1 ⟨rfl, hb1⟩
    go_wp2_with fail
    go_ret2
    exact ⟨rfl, hb1⟩
end Go.Proofs.YtnnkamfpcodnnaaGreatDoor
namespace Go.Proofs.YtnnkamfpcodnnaaGreatDoor
open Go.RowKit

/-- Two lists of operations are equal. -/
noncomputable def Lx.sameB (L L' : List Lx.OpV) : Bool := @decide (L = L') (Classical.propDecidable _)
theorem Lx.sameB_yes {L L' : List Lx.OpV} (h : L = L') : Lx.sameB L L' = true := @decide_eq_true _ (Classical.propDecidable _) h
theorem Lx.sameB_no {L L' : List Lx.OpV} (h : ¬ L = L') : Lx.sameB L L' = false := @decide_eq_false _ (Classical.propDecidable _) h
theorem Lx.op_eq {o o' : Lx.OpV} (h : (o.k == o'.k && (o.d == o'.d && (o.t == o'.t && (o.r == o'.r && (o.ok == o'.ok && o.job.toList == o'.job.toList))))) = true) : o = o' := by
  obtain ⟨k, d, t, r, ok, job⟩ := o
  obtain ⟨k', d', t', r', ok', job'⟩ := o'
  simp only [Bool.and_eq_true, beq_iff_eq] at h
  obtain ⟨rfl, rfl, rfl, rfl, rfl, h⟩ := h
  rw [Lib.toList_data, Lib.toList_data] at h
  rw [show job = job' from ByteArray.ext (Array.toList_inj.1 h)]
def SameIs (b : Bool) (w : World) (e : Ending) (w' : World) : Prop := e = .returned (.bool b) ∧ Below w.heap.size w w'
set_option maxRecDepth 100000 in
set_option maxHeartbeats 1600000 in
theorem same_any (ad : Option Addr) (n cap : Nat) (L : List Lx.OpV) (ad' : Option Addr) (n' cap' : Nat) (L' : List Lx.OpV) (w : World) (h : Lx.IsOps w ad n L) (h' : Lx.IsOps w ad' n' L') (hn : n ≤ 1000000000) (hn' : n' ≤ 1000000000) :
    Calls Tryz.prog 8 #[.slice ad n cap, .slice ad' n' cap'] w (SameIs (Lx.sameB L L') w) := by
  by_cases hne : n = n'
  · subst hne
    have H := Lib.hid h
    have H' := Lib.hid h'
    have hnb : ((n : Int) != (n : Int)) = false := by simp
    clear h h' hn'
    go_enter Tryz.func8, Tryz.ntmps8
    go_wp2_with fail
    go_loopw [5] (fun i wr => ∃ k nq : Nat, k ≤ n ∧ i = .int .i64 k ∧ L.take k = L'.take k ∧ wr = w.drewN nq) (fun i _ => n - (intOf i).toNat)
    case atStart => exact ⟨0, 0, Nat.zero_le _, rfl, rfl, rfl⟩
    case round =>
      obtain ⟨k, nq, hk, rfl, hall, rfl⟩ := hrel
      have Hall := Lib.hid hall
      clear hall
      by_cases hlt : k < n
      · obtain ⟨o, ho⟩ : ∃ o, L[k]? = some o := ⟨_, List.getElem?_eq_getElem (by rw [H.out.1]; exact hlt)⟩
        obtain ⟨o', ho'⟩ : ∃ o, L'[k]? = some o := ⟨_, List.getElem?_eq_getElem (by rw [H'.out.1]; exact hlt)⟩
        obtain ⟨g, off, rfl, lt, hc⟩ := H.out.2 (by omega)
        obtain ⟨g', off', rfl, lt', hc'⟩ := H'.out.2 (by omega)
        have HO := Lib.hid ho
        have HO' := Lib.hid ho'
        obtain ⟨b, hb⟩ : ∃ b, (o.k == o'.k && (o.d == o'.d && (o.t == o'.t && (o.r == o'.r && (o.ok == o'.ok && o.job.toList == o'.job.toList))))) = b := ⟨_, rfl⟩
        have HB := Lib.hid hb
        have c0 : w.cell? ⟨g, off + k * 6, none⟩ = some (.int .i64 o.k) := hc k o ho 0 _ rfl
        have c1 := hc k o ho 1 _ rfl
        have c2 := hc k o ho 2 _ rfl
        have c3 := hc k o ho 3 _ rfl
        have c4 := hc k o ho 4 _ rfl
        have c5 := hc k o ho 5 _ rfl
        have d0 : w.cell? ⟨g', off' + k * 6, none⟩ = some (.int .i64 o'.k) := hc' k o' ho' 0 _ rfl
        have d1 := hc' k o' ho' 1 _ rfl
        have d2 := hc' k o' ho' 2 _ rfl
        have d3 := hc' k o' ho' 3 _ rfl
        have d4 := hc' k o' ho' 4 _ rfl
        have d5 := hc' k o' ho' 5 _ rfl
        have hki : (k : Int) < (n : Int) := by omega
        have hk0 : (0 : Int) ≤ (k : Int) := by omega
        have heq : ∀ W, (Op.equalIn 10000 40 (.agg #[.int .i64 o.k, .int .i64 o.d, .int .i64 o.t, .int .i64 o.r, .bool o.ok, .string o.job]) (.agg #[.int .i64 o'.k, .int .i64 o'.d, .int .i64 o'.t, .int .i64 o'.r, .bool o'.ok, .string o'.job])).run Tryz.prog W = .ok b W := fun W => (eqOp _ _ _ _ _ _ _ _ _ _ _ _ W).trans (by rw [hb])
        clear hc hc' ho ho' hb hk
        cases b
        · have hd : Lx.sameB L L' = false := by
            refine Lx.sameB_no ?_
            intro e
            have h1 := HO.out
            rw [e, HO'.out] at h1
            obtain rfl := Option.some.inj h1
            have := HB.out
            simp at this
          have HD := Lib.hid hd
          clear hd
          go_wp2_with fail
          go_quiet (fail)
          go_wp2_with fail
          go_ret
          refine ⟨Lx.ret_bool HD.out.symm, ?_⟩
          simp only [World.drewN_drewN]
          exact below_drewN _ _ _
        · have he := Lx.op_eq HB.out
          have htk : L.take (k + 1) = L'.take (k + 1) := by
            obtain ⟨hk1, hv1⟩ := List.getElem?_eq_some_iff.1 HO.out
            obtain ⟨hk2, hv2⟩ := List.getElem?_eq_some_iff.1 HO'.out
            rw [List.take_succ_eq_append_getElem hk1, List.take_succ_eq_append_getElem hk2, hv1, hv2, Hall.out, he]
          have HT := Lib.hid htk
          clear he htk
          go_wp2_with fail
          go_quiet (fail)
          go_wp2_with fail
          go_roundw
          case rel => exact ⟨k + 1, _, by omega, by go_num, HT.out, rfl⟩
          case measure => simp [intOf]; omega
      · obtain rfl : k = n := by omega
        have hd : Lx.sameB L L' = true := by
          refine Lx.sameB_yes ?_
          have := Hall.out
          rw [List.take_of_length_le (by rw [H.out.1]; exact Nat.le_refl _), List.take_of_length_le (by rw [H'.out.1]; exact Nat.le_refl _)] at this
          exact this
        have HD := Lib.hid hd
        clear hd
        go_wp2_with fail
        go_ret
        exact ⟨Lx.ret_bool HD.out.symm, below_drewN _ _ _⟩
  · have hnb : ((n : Int) != (n' : Int)) = true := by rw [bne_iff_ne]; omega
    have hd : Lx.sameB L L' = false := by
      refine Lx.sameB_no ?_
      intro e
      exact hne (by rw [← h.1, ← h'.1, e])
    have HD := Lib.hid hd
    clear hd h h' hne
    go_enter Tryz.func8, Tryz.ntmps8
    go_wp2_with fail
    go_ret
    exact ⟨Lx.ret_bool HD.out.symm, Below.refl _ _⟩
end Go.Proofs.YtnnkamfpcodnnaaGreatDoor
namespace Go.Proofs.YtnnkamfpcodnnaaGreatDoor.Lx
open Go Go.RowKit

/-- The ticks that a number of seconds comes to: full ones, and the rest. -/
def chunks (s : Nat) : List OpV := if s = 0 then [] else List.replicate ((s - 1) / 100000) (tickV 100000) ++ [tickV (((s - 1) % 100000 + 1 : Nat) : Int)]
theorem chunks_zero : chunks 0 = [] := rfl
theorem chunks_small {s : Nat} (h0 : 0 < s) (h : s ≤ 100000) : chunks s = [tickV s] := by
  unfold chunks
  rw [if_neg (by omega), show (s - 1) / 100000 = 0 by omega, show (s - 1) % 100000 + 1 = s by omega, List.replicate_zero, List.nil_append]
theorem chunks_large {s : Nat} (h : 100000 < s) : chunks s = tickV 100000 :: chunks (s - 100000) := by
  unfold chunks
  rw [if_neg (by omega), if_neg (by omega), show (s - 1) / 100000 = (s - 100000 - 1) / 100000 + 1 by omega, show (s - 1) % 100000 = (s - 100000 - 1) % 100000 by omega, List.replicate_succ, List.cons_append]
def Apart (A : List OpV) : Prop := A = [] ∨ ∃ B p, A = B ++ [p] ∧ p.k ≠ 1
theorem chunks_tick {A : List OpV} (hA : Apart A) (s d : Nat) (h0 : 1 ≤ d) (h1 : d ≤ 100000) : normStep (A ++ chunks s) (tickV d) = A ++ chunks (s + d) := by
  by_cases hs : s = 0
  · subst hs
    rw [chunks_zero, List.append_nil, Nat.zero_add, chunks_small h0 h1]
    rcases hA with rfl | ⟨B, p, rfl, hp⟩
    · rfl
    · exact step_apart (fun h => hp h.1)
  · have e : chunks s = List.replicate ((s - 1) / 100000) (tickV 100000) ++ [tickV (((s - 1) % 100000 + 1 : Nat) : Int)] := by unfold chunks; rw [if_neg hs]
    have e2 : chunks (s + d) = List.replicate ((s + d - 1) / 100000) (tickV 100000) ++ [tickV (((s + d - 1) % 100000 + 1 : Nat) : Int)] := by unfold chunks; rw [if_neg (by omega)]
    rw [e, e2, ← List.append_assoc, ← List.append_assoc]
    by_cases hd : (s - 1) % 100000 + 1 + d ≤ 100000
    · rw [step_fit ⟨rfl, rfl⟩ (by show (((s - 1) % 100000 + 1 : Nat) : Int) + (d : Int) ≤ 100000; omega)]
      rw [show (s + d - 1) / 100000 = (s - 1) / 100000 by omega]
      congr 2
      show tickV ((((s - 1) % 100000 + 1 : Nat) : Int) + (d : Int)) = _
      rw [show (((s - 1) % 100000 + 1 : Nat) : Int) + (d : Int) = (((s + d - 1) % 100000 + 1 : Nat) : Int) by omega]
    · rw [step_over ⟨rfl, rfl⟩ (by show ¬ (((s - 1) % 100000 + 1 : Nat) : Int) + (d : Int) ≤ 100000; omega)]
      rw [show (s + d - 1) / 100000 = (s - 1) / 100000 + 1 by omega, List.replicate_succ', ← List.append_assoc]
      congr 2
      show tickV ((((s - 1) % 100000 + 1 : Nat) : Int) + (d : Int) - 100000) = _
      rw [show (((s - 1) % 100000 + 1 : Nat) : Int) + (d : Int) - 100000 = (((s + d - 1) % 100000 + 1 : Nat) : Int) by omega]
theorem chunks_k {s : Nat} {o : OpV} (h : o ∈ chunks s) : o.k = 1 := by
  unfold chunks at h
  split at h
  · cases h
  · rcases List.mem_append.1 h with h | h
    · rw [(List.mem_replicate.1 h).2]; rfl
    · rw [List.mem_singleton.1 h]; rfl
theorem step_nontick (l : List OpV) {o : OpV} (h : o.k ≠ 1) : normStep l o = l ++ [o] := by
  rcases List.eq_nil_or_concat l with rfl | ⟨a, p, rfl⟩
  · rfl
  · rw [List.concat_eq_append]; exact step_apart (fun h' => h h'.2)
theorem apart_snoc (A : List OpV) {o : OpV} (h : o.k ≠ 1) : Apart (A ++ [o]) := .inr ⟨A, o, rfl, h⟩
theorem chunks_len (s : Nat) : (chunks s).length ≤ s := by
  unfold chunks
  split
  · rw [List.length_nil]; omega
  · rw [List.length_append, List.length_replicate, List.length_singleton]; omega

/-! ### where the operations stand that are no ticks -/
theorem nonT_drop_tick {l : List OpV} {i : Nat} {o : OpV} (h : l[i]? = some o) (hk : o.k = 1) : nonT (l.drop i) = nonT (l.drop (i + 1)) := by
  obtain ⟨hi, hv⟩ := List.getElem?_eq_some_iff.1 h
  rw [List.drop_eq_getElem_cons hi, hv]
  show nonT ([o] ++ l.drop (i + 1)) = _
  rw [nonT_app, nonT_tick hk]; rfl
theorem nonT_drop_other {l : List OpV} {i : Nat} {o : OpV} (h : l[i]? = some o) (hk : o.k ≠ 1) : nonT (l.drop i) = o :: nonT (l.drop (i + 1)) := by
  obtain ⟨hi, hv⟩ := List.getElem?_eq_some_iff.1 h
  rw [List.drop_eq_getElem_cons hi, hv]
  show nonT ([o] ++ l.drop (i + 1)) = _
  rw [nonT_app, nonT_other hk]; rfl
theorem nonT_end {l : List OpV} {k : Nat} (h : l.length ≤ k) : nonT (l.drop k) = [] := by
  rw [List.drop_eq_nil_of_le h]; rfl
theorem nonT_none {l : List OpV} {i k : Nat} {o : OpV} (h : nonT (l.drop k) = []) (hk : k ≤ i) (hi : l[i]? = some o) : o.k = 1 := by
  obtain ⟨hl, hv⟩ := List.getElem?_eq_some_iff.1 hi
  by_cases e : o.k = 1
  · exact e
  · have : o ∈ nonT (l.drop k) := by
      unfold nonT
      rw [List.mem_filter]
      refine ⟨?_, by simpa using e⟩
      rw [List.mem_iff_getElem?]
      exact ⟨i - k, by rw [List.getElem?_drop, show k + (i - k) = i by omega]; exact hi⟩
    rw [h] at this; cases this
end Go.Proofs.YtnnkamfpcodnnaaGreatDoor.Lx
namespace Go.Proofs.YtnnkamfpcodnnaaGreatDoor
open Go.RowKit

namespace Lx
theorem opCells_len (l : List OpV) : (opCells l).length = l.length * 6 := by
  induction l with
  | nil => rfl
  | cons a t ih =>
    show (a.cells ++ opCells t).length = _
    rw [List.length_append, ih, List.length_cons]
    have : a.cells.length = 6 := rfl
    omega
theorem opCells_set (a : List OpV) (p : OpV) (d : Int) : (opCells (a ++ [p])).set (a.length * 6 + 1) (.int .i64 d) = opCells (a ++ [⟨p.k, d, p.t, p.r, p.ok, p.job⟩]) := by
  rw [opCells_snoc, opCells_snoc, List.set_append_right _ _ (by rw [opCells_len]; omega), opCells_len, show a.length * 6 + 1 - a.length * 6 = 1 by omega]
  rfl
/-- A store into a row of the call's own, and one into a block laid behind it. -/
theorem joined {wr : World} {base cap q g : Nat} {T : TypeId} {xs : List Value} (hrow : wr.ownsRow base T 6 (.slice (some ⟨g, 0, none⟩) q cap) q xs) (hg : g < wr.heap.size) (o : Obj) (nq j j2 : Nat) (u u2 : Value) :
    ((((wr.alloc o).drewN nq).setCell ⟨g, j, none⟩ u).setCell ⟨wr.heap.size, j2, none⟩ u2).ownsRow base T 6 (.slice (some ⟨g, 0, none⟩) q cap) q (xs.set j u) := by
  have h1 := ((ownDrew (hrow.alloc o) nq).stored j u).1
  refine ⟨h1.1, ?_⟩
  rcases h1.2 with h0 | ⟨g', c, cur, e1, e2, e3, e4⟩
  · exact .inl h0
  · have : g' = g := by injection e1 with e1; injection e1 with e1; injection e1 with e1; exact e1.symm
    subst this
    exact .inr ⟨g', c, cur, e1, e2, (heap_setCell_other _ _ _ _ (by show g' ≠ wr.heap.size; omega)).trans e3, e4⟩
theorem joinedBelow {w1 wr : World} {g : Nat} (hb : Below w1.heap.size w1 wr) (hg : w1.heap.size ≤ g) (o : Obj) (nq j j2 : Nat) (u u2 : Value) :
    Below w1.heap.size w1 ((((wr.alloc o).drewN nq).setCell ⟨g, j, none⟩ u).setCell ⟨wr.heap.size, j2, none⟩ u2) :=
  (((hb.alloc hb.size o).trans (below_drewN _ _ nq)).setCell (p := ⟨g, j, none⟩) hg u).setCell (p := ⟨wr.heap.size, j2, none⟩) hb.size u2
def normL (L : List OpV) : List OpV := if scriptErr L = 0 then normal L else []
end Lx
def NormPost (L : List Lx.OpV) (x : Int) (w : World) (e : Ending) (w' : World) : Prop := ∃ v, e = .returned (.tuple #[v, .int .i64 x]) ∧ w'.ownsRow w.heap.size 40 6 v L.length (Lx.opCells L) ∧ Below w.heap.size w w'
set_option maxRecDepth 100000 in
set_option maxHeartbeats 3200000 in
theorem normal_any (ad : Option Addr) (n cap : Nat) (L : List Lx.OpV) (w : World) (h : Lx.IsOps w ad n L) (hj : ∀ o ∈ L, o.job.size ≤ maxLen) (hn : n ≤ 1000000000) :
    Calls Tryz.prog 16 #[.slice ad n cap] w (NormPost (Lx.normL L) (Lx.scriptErr L) w) := by
  have HS := Lib.hid (script_any ad n cap L w h hj hn)
  unfold CheckIs at HS
  by_cases hx : Lx.scriptErr L = 0
  · have hok := Lx.script_ok hx
    have hv : Lx.normL L = Lx.normal L := by unfold Lx.normL; rw [if_pos hx]
    rw [hx] at HS ⊢
    rw [hv]
    obtain ⟨i0, hi, hz0, hz1, hz2⟩ := info_parts infoOp
    have H := Lib.hid h
    have HA := Lib.hid hok.2
    have hn1 : n ≤ 10000 := by rw [← h.1]; exact hok.1
    clear hx hok hv h hj hn
    go_enter Tryz.func16, Tryz.ntmps16
    go_wp2_with fail
    refine HS.out.mono ?_
    rintro e w1 ⟨rfl, hb1⟩
    have Hb1 := Lib.hid hb1
    clear hb1
    go_wp2_with fail
    go_loopw [5, 17] (fun tx i wr => ∃ k : Nat, k ≤ n ∧ i = .int .i64 k ∧ wr.ownsRow w1.heap.size 40 6 tx (Lx.normal (L.take k)).length (Lx.opCells (Lx.normal (L.take k))) ∧ Below w1.heap.size w1 wr) (fun _ i _ => n - (intOf i).toNat)
    case atStart => exact ⟨0, Nat.zero_le _, rfl, World.ownsRow_nil _ _ _ _, Below.refl _ _⟩
    case round =>
      obtain ⟨k, hk, rfl, hrow, hbel⟩ := hrel
      have hfa := Lx.normal_facts (L := L.take k) (fun x hx => HA.out x (List.mem_of_mem_take hx))
      have hl : (L.take k).length ≤ k := List.length_take_le _ _
      have Hbel := Lib.hid hbel
      clear hbel
      by_cases hlt : k < n
      · obtain ⟨o, ho⟩ : ∃ o, L[k]? = some o := ⟨_, List.getElem?_eq_getElem (by rw [H.out.1]; exact hlt)⟩
        obtain ⟨g, off, rfl, lt, hc⟩ := (H.out.below (Hb1.out.trans (Hbel.out.mono Hb1.out.size))).2 (by omega)
        have hoe := HA.out o (List.mem_of_getElem? ho)
        have hdb := Lx.d_bd hoe
        have hst := Lx.normal_take ho
        have hol : (Lx.normal (L.take k)).length ≤ k := Nat.le_trans hfa.2.2.2.2 hl
        have hoa := hfa.1
        generalize Lx.normal (L.take k) = out at hst hol hoa hrow
        obtain ⟨ok, od, ot, or, oo, oj⟩ := o
        have c0 : wr.cell? ⟨g, off + k * 6, none⟩ = some (.int .i64 ok) := hc k _ ho 0 _ rfl
        have c1 := hc k _ ho 1 _ rfl
        have c2 := hc k _ ho 2 _ rfl
        have c3 := hc k _ ho 3 _ rfl
        have c4 := hc k _ ho 4 _ rfl
        have c5 := hc k _ ho 5 _ rfl
        have hki : (k : Int) < (n : Int) := by omega
        have hkb : (k : Int) ≤ 10000 := by omega
        clear hc ho hfa hl
        rcases List.eq_nil_or_concat out with rfl | ⟨a, p, rfl⟩
        · obtain ⟨ad', cap', rfl⟩ := Lx.slice_of_row hrow
          have hend : ∀ v' (w6 : World), w6.ownsRow w1.heap.size 40 6 v' (0 + 1) (Lx.opCells [] ++ [.int .i64 ok, .int .i64 od, .int .i64 ot, .int .i64 or, .bool oo, .string oj]) → w6.ownsRow w1.heap.size 40 6 v' (Lx.normStep [] ⟨ok, od, ot, or, oo, oj⟩).length (Lx.opCells (Lx.normStep [] ⟨ok, od, ot, or, oo, oj⟩)) := fun _ _ h => h
          rw [List.length_nil] at hrow
          rw [List.length_nil]
          have Hrow := Lib.hid hrow
          have HST := Lib.hid hst
          have HEND := Lib.hid hend
          have hd1 : ok = 1 → 1 ≤ od := hdb.2.2.2
          clear hrow hst hol hoa hend hdb hoe
          by_cases k1 : ok = 1
          · subst k1
            have hdp : 1 ≤ od := hd1 rfl
            clear hd1
            have hcs : ∀ j u, ([.int .i64 1, .int .i64 od, .int .i64 ot, .int .i64 or, .bool oo, .string oj] : List Value)[j]? = some u → ((wr.alloc (.cells #[.int .i64 1, .int .i64 od, .int .i64 ot, .int .i64 or, .bool oo, .string oj] 40)).alloc (.cells #[.int .i64 1, .int .i64 od, .int .i64 ot, .int .i64 or, .bool oo, .string oj] 40)).cell? ((⟨wr.heap.size + 1, 0, none⟩ : Addr).add j) = some u := by
              have := Lx.cell_six_new (wr.alloc (.cells #[.int .i64 1, .int .i64 od, .int .i64 ot, .int .i64 or, .bool oo, .string oj] 40)) ⟨1, od, ot, or, oo, oj⟩ 40
              rw [World.size_alloc] at this
              exact this
            have HCS := Lib.hid hcs
            have hbz := Hbel.out.size
            clear hcs
            go_wp2_with (at_builtin; refine wpList_append_own _ rfl _ _ 23 rfl w1.heap.size 40 i0 _ 6 56 Tryz.underlying23 hi hz0 hz1 hz2 rfl (by decide) _ _ _ rfl ((Hrow.out.alloc _).alloc _) ⟨wr.heap.size + 1, 0, none⟩ 1 1 [.int .i64 1, .int .i64 od, .int .i64 ot, .int .i64 or, .bool oo, .string oj] rfl rfl HCS.out (by simp [Value.oneCell']) (by unfold maxLen; omega) (by omega) (by simp; omega) ?_)
            intro v' w6 hown' hgrow _
            have hb6 := ((Hbel.out.alloc Hbel.out.size (.cells #[.int .i64 1, .int .i64 od, .int .i64 ot, .int .i64 or, .bool oo, .string oj] 40)).alloc (Hbel.out.alloc Hbel.out.size _).size (.cells #[.int .i64 1, .int .i64 od, .int .i64 ot, .int .i64 or, .bool oo, .string oj] 40)).grown hgrow (by simp; omega) (Lx.ownBase Hrow.out)
            clear hgrow
            go_wp2_with fail
            go_roundw
            case rel => exact ⟨k + 1, by omega, by go_num, by rw [HST.out]; exact HEND.out _ _ hown', hb6⟩
            case measure => simp [intOf]; omega
          · have kn : (ok != 1) = true := by rw [bne_iff_ne]; exact k1
            clear hd1
            have hcs : ∀ j u, ([.int .i64 ok, .int .i64 od, .int .i64 ot, .int .i64 or, .bool oo, .string oj] : List Value)[j]? = some u → ((wr.alloc (.cells #[.int .i64 ok, .int .i64 od, .int .i64 ot, .int .i64 or, .bool oo, .string oj] 40)).alloc (.cells #[.int .i64 ok, .int .i64 od, .int .i64 ot, .int .i64 or, .bool oo, .string oj] 40)).cell? ((⟨wr.heap.size + 1, 0, none⟩ : Addr).add j) = some u := by
              have := Lx.cell_six_new (wr.alloc (.cells #[.int .i64 ok, .int .i64 od, .int .i64 ot, .int .i64 or, .bool oo, .string oj] 40)) ⟨ok, od, ot, or, oo, oj⟩ 40
              rw [World.size_alloc] at this
              exact this
            have HCS := Lib.hid hcs
            have hbz := Hbel.out.size
            clear hcs
            go_wp2_with (at_builtin; refine wpList_append_own _ rfl _ _ 23 rfl w1.heap.size 40 i0 _ 6 56 Tryz.underlying23 hi hz0 hz1 hz2 rfl (by decide) _ _ _ rfl ((Hrow.out.alloc _).alloc _) ⟨wr.heap.size + 1, 0, none⟩ 1 1 [.int .i64 ok, .int .i64 od, .int .i64 ot, .int .i64 or, .bool oo, .string oj] rfl rfl HCS.out (by simp [Value.oneCell']) (by unfold maxLen; omega) (by omega) (by simp; omega) ?_)
            intro v' w6 hown' hgrow _
            have hb6 := ((Hbel.out.alloc Hbel.out.size (.cells #[.int .i64 ok, .int .i64 od, .int .i64 ot, .int .i64 or, .bool oo, .string oj] 40)).alloc (Hbel.out.alloc Hbel.out.size _).size (.cells #[.int .i64 ok, .int .i64 od, .int .i64 ot, .int .i64 or, .bool oo, .string oj] 40)).grown hgrow (by simp; omega) (Lx.ownBase Hrow.out)
            clear hgrow
            go_wp2_with fail
            go_roundw
            case rel => exact ⟨k + 1, by omega, by go_num, by rw [HST.out]; exact HEND.out _ _ hown', hb6⟩
            case measure => simp [intOf]; omega
        · rw [List.concat_eq_append] at hst hol hoa hrow
          obtain ⟨m, hm⟩ : ∃ m, a.length = m := ⟨_, rfl⟩
          obtain ⟨q, hq⟩ : ∃ q, q = m + 1 := ⟨_, rfl⟩
          have hlen : (a ++ [p]).length = q := by simp [hm, hq]
          rw [hlen] at hol hrow
          obtain ⟨g', cap', rfl, lt', hrc⟩ := Lx.ownPos hrow (by omega)
          have hpg : ∀ (j : Nat) (v : Value), p.cells[j]? = some v → wr.cell? ⟨g', m * 6 + j, none⟩ = some v := fun j v hj => hrc _ _ (Lx.opCells_get (l := a ++ [p]) (by rw [← hm]; simp) j v hj)
          have hpe := hoa.last
          have hpd := Lx.d_bd hpe
          have hset := fun d => Lx.opCells_set a p d
          rw [hm] at hset
          have hptick := fun h => Lx.tick_of hpe h
          have hotick := fun h => Lx.tick_of hoe h
          obtain ⟨pk, pd, pt, pr, po, pj⟩ := p
          have r0 : wr.cell? ⟨g', m * 6, none⟩ = some (.int .i64 pk) := hpg 0 _ rfl
          have r1 := hpg 1 _ rfl
          have hq1 : (q : Int) - 1 = (m : Int) := by omega
          have hqw : IntKind.i64.wrap (m : Int) = (m : Int) := IntWalk.i64_in _ (by omega)
          have hmq : (m : Int) < (q : Int) := by omega
          have hm0 : (0 : Int) ≤ (m : Int) := by omega
          have hqb : (q : Int) ≤ 10000 := by omega
          by_cases hk1 : pk = 1 ∧ ok = 1
          · obtain ⟨kp, ko⟩ := hk1
            have pe := hptick kp
            have oe := hotick ko
            injection pe with _ _ p2 p3 p4 p5
            injection oe with _ _ o2 o3 o4 o5
            subst kp ko p2 p3 p4 p5 o2 o3 o4 o5
            have hp1 : 1 ≤ pd := hpd.2.2.2 rfl
            have hp2 : pd ≤ 100000 := hpd.2.1
            have ho1 : 1 ≤ od := hdb.2.2.2 rfl
            have ho2 : od ≤ 100000 := hdb.2.1
            have Hrow := Lib.hid hrow
            have HSET := Lib.hid hset
            have HST := Lib.hid hst
            have hfz : wr.frozen? ⟨g', m * 6 + 1, none⟩ = false := hrow.frozenAt _
            have hgw : g' < wr.heap.size := lt'
            have hgb : w1.heap.size ≤ g' := Lx.ownBase hrow g' rfl
            clear hset hst hrow hptick hotick hpg hrc hoa hpe hpd hoe hdb hlen
            by_cases hd : pd + od ≤ 100000
            · have hmin : min od (100000 - pd) = od := by omega
              have hend : Lx.normStep (a ++ [⟨1, pd, 0, 0, false, ⟨#[]⟩⟩]) ⟨1, od, 0, 0, false, ⟨#[]⟩⟩ = a ++ [⟨1, pd + od, 0, 0, false, ⟨#[]⟩⟩] := Lx.step_fit ⟨rfl, rfl⟩ hd
              have hln : (a ++ [(⟨1, pd + od, 0, 0, false, ⟨#[]⟩⟩ : Lx.OpV)]).length = q := by simp [hm, hq]
              have HEND := Lib.hid hend
              have HLN := Lib.hid hln
              clear hend hln hm hq hol
              go_wp2_with fail
              go_quiet (fail)
              go_wp2_with fail
              go_roundw
              case rel =>
                refine ⟨k + 1, by omega, by go_num, ?_, Lx.joinedBelow Hbel.out hgb _ _ _ _ _ _⟩
                rw [HST.out, HEND.out, HLN.out, ← HSET.out]
                exact Lx.joined Hrow.out hgw _ _ _ _ _ _
              case measure => simp [intOf]; omega
            · have hmin : min od (100000 - pd) = 100000 - pd := by omega
              have hpp : pd + (100000 - pd) = 100000 := by omega
              have hod : 0 < od - (100000 - pd) := by omega
              have hend : ∀ v' (w6 : World), w6.ownsRow w1.heap.size 40 6 v' (q + 1) ((Lx.opCells (a ++ [⟨1, pd, 0, 0, false, ⟨#[]⟩⟩])).set (m * 6 + 1) (.int .i64 100000) ++ [.int .i64 1, .int .i64 (od - (100000 - pd)), .int .i64 0, .int .i64 0, .bool false, .string ⟨#[]⟩]) → w6.ownsRow w1.heap.size 40 6 v' (Lx.normStep (a ++ [⟨1, pd, 0, 0, false, ⟨#[]⟩⟩]) ⟨1, od, 0, 0, false, ⟨#[]⟩⟩).length (Lx.opCells (Lx.normStep (a ++ [⟨1, pd, 0, 0, false, ⟨#[]⟩⟩]) ⟨1, od, 0, 0, false, ⟨#[]⟩⟩)) := by
                intro v' w6 h
                rw [HSET.out] at h
                rw [Lx.step_over ⟨rfl, rfl⟩ hd]
                have e : od - (100000 - pd) = pd + od - 100000 := by omega
                rw [e] at h
                rw [show (a ++ [Lx.tickV 100000] ++ [Lx.tickV (pd + od - 100000)]).length = q + 1 by simp [hm, hq], Lx.opCells_snoc]
                exact h
              have HEND := Lib.hid hend
              have Hpp := Lib.hid hpp
              clear hend hm hq hd hpp
              go_wp2_with fail
              go_quiet (fail)
              have hcs : ∀ j u, ([.int .i64 1, .int .i64 (od - (100000 - pd)), .int .i64 0, .int .i64 0, .bool false, .string ⟨#[]⟩] : List Value)[j]? = some u → (((((wr.alloc (.cells #[.int .i64 1, .int .i64 od, .int .i64 0, .int .i64 0, .bool false, .string ⟨#[]⟩] 40)).drewN nq).setCell ⟨g', m * 6 + 1, none⟩ (.int .i64 100000)).setCell ⟨wr.heap.size, 1, none⟩ (.int .i64 (od - (100000 - pd)))).alloc (.cells #[.int .i64 1, .int .i64 (od - (100000 - pd)), .int .i64 0, .int .i64 0, .bool false, .string ⟨#[]⟩] 40)).cell? ((⟨wr.heap.size + 1, 0, none⟩ : Addr).add j) = some u := by
                have := Lx.cell_six_new ((((wr.alloc (.cells #[.int .i64 1, .int .i64 od, .int .i64 0, .int .i64 0, .bool false, .string ⟨#[]⟩] 40)).drewN nq).setCell ⟨g', m * 6 + 1, none⟩ (.int .i64 100000)).setCell ⟨wr.heap.size, 1, none⟩ (.int .i64 (od - (100000 - pd)))) ⟨1, od - (100000 - pd), 0, 0, false, ⟨#[]⟩⟩ 40
                rw [show ((((wr.alloc (.cells #[.int .i64 1, .int .i64 od, .int .i64 0, .int .i64 0, .bool false, .string ⟨#[]⟩] 40)).drewN nq).setCell ⟨g', m * 6 + 1, none⟩ (.int .i64 100000)).setCell ⟨wr.heap.size, 1, none⟩ (.int .i64 (od - (100000 - pd)))).heap.size = wr.heap.size + 1 by simp [World.setCell, World.drewN]] at this
                exact this
              have HCS := Lib.hid hcs
              have hjo := Lx.joined Hrow.out hgw (.cells #[.int .i64 1, .int .i64 od, .int .i64 0, .int .i64 0, .bool false, .string ⟨#[]⟩] 40) nq (m * 6 + 1) 1 (.int .i64 100000) (.int .i64 (od - (100000 - pd)))
              have hjb := Lx.joinedBelow Hbel.out hgb (.cells #[.int .i64 1, .int .i64 od, .int .i64 0, .int .i64 0, .bool false, .string ⟨#[]⟩] 40) nq (m * 6 + 1) 1 (.int .i64 100000) (.int .i64 (od - (100000 - pd)))
              have HJO := Lib.hid hjo
              have HJB := Lib.hid hjb
              have hjz : ((((wr.alloc (.cells #[.int .i64 1, .int .i64 od, .int .i64 0, .int .i64 0, .bool false, .string ⟨#[]⟩] 40)).drewN nq).setCell ⟨g', m * 6 + 1, none⟩ (.int .i64 100000)).setCell ⟨wr.heap.size, 1, none⟩ (.int .i64 (od - (100000 - pd)))).heap.size = wr.heap.size + 1 := by simp [World.setCell, World.drewN]
              have HJZ := Lib.hid hjz
              have hpp := Hpp.out
              have hbz := Hbel.out.size
              clear hcs hjo hjb hjz
              go_wp2_with (at_builtin; refine wpList_append_own _ rfl _ _ 23 rfl w1.heap.size 40 i0 _ 6 56 Tryz.underlying23 hi hz0 hz1 hz2 rfl (by decide) _ _ _ rfl (HJO.out.alloc _) ⟨wr.heap.size + 1, 0, none⟩ 1 1 [.int .i64 1, .int .i64 (od - (100000 - pd)), .int .i64 0, .int .i64 0, .bool false, .string ⟨#[]⟩] rfl rfl HCS.out (by simp [Value.oneCell']) (by unfold maxLen; omega) (by omega) (by simp [World.setCell, World.drewN]; omega) ?_)
              intro v' w6 hown' hgrow _
              have hb6 := (HJB.out.alloc HJB.out.size (.cells #[.int .i64 1, .int .i64 (od - (100000 - pd)), .int .i64 0, .int .i64 0, .bool false, .string ⟨#[]⟩] 40)).grown hgrow (by rw [World.size_alloc, HJZ.out]; omega) (Lx.ownBase HJO.out)
              clear hgrow
              go_wp2_with fail
              go_roundw
              case rel => exact ⟨k + 1, by omega, by go_num, by rw [HST.out]; exact HEND.out _ _ hown', hb6⟩
              case measure => simp [intOf]; omega
          · have hst2 := hst.trans (Lx.step_apart (a := a) hk1)
            have hend : ∀ v' (w6 : World), w6.ownsRow w1.heap.size 40 6 v' (q + 1) (Lx.opCells (a ++ [⟨pk, pd, pt, pr, po, pj⟩]) ++ [.int .i64 ok, .int .i64 od, .int .i64 ot, .int .i64 or, .bool oo, .string oj]) → w6.ownsRow w1.heap.size 40 6 v' (a ++ [(⟨pk, pd, pt, pr, po, pj⟩ : Lx.OpV)] ++ [(⟨ok, od, ot, or, oo, oj⟩ : Lx.OpV)]).length (Lx.opCells (a ++ [⟨pk, pd, pt, pr, po, pj⟩] ++ [⟨ok, od, ot, or, oo, oj⟩])) := by
              intro v' w6 h
              rw [List.length_append, hlen, Lx.opCells_snoc]; exact h
            have HEND := Lib.hid hend
            have HST := Lib.hid hst2
            have Hrow := Lib.hid hrow
            have hd1 : ok = 1 → 1 ≤ od := hdb.2.2.2
            clear hend hst2 hst hrow hset hptick hotick hpg hrc hoa hpe hpd hoe hdb hlen hol
            have hmw := hqw
            clear hm hq
            by_cases k1 : ok = 1
            · subst k1
              have kp : (pk == 1) = false := by rw [beq_eq_false_iff_ne]; exact fun h => hk1 ⟨h, rfl⟩
              have hdp : 1 ≤ od := hd1 rfl
              clear hd1 hk1
              have hcs : ∀ j u, ([.int .i64 1, .int .i64 od, .int .i64 ot, .int .i64 or, .bool oo, .string oj] : List Value)[j]? = some u → ((wr.alloc (.cells #[.int .i64 1, .int .i64 od, .int .i64 ot, .int .i64 or, .bool oo, .string oj] 40)).alloc (.cells #[.int .i64 1, .int .i64 od, .int .i64 ot, .int .i64 or, .bool oo, .string oj] 40)).cell? ((⟨wr.heap.size + 1, 0, none⟩ : Addr).add j) = some u := by
                have := Lx.cell_six_new (wr.alloc (.cells #[.int .i64 1, .int .i64 od, .int .i64 ot, .int .i64 or, .bool oo, .string oj] 40)) ⟨1, od, ot, or, oo, oj⟩ 40
                rw [World.size_alloc] at this
                exact this
              have HCS := Lib.hid hcs
              have hbz := Hbel.out.size
              clear hcs
              go_wp2_with (at_builtin; refine wpList_append_own _ rfl _ _ 23 rfl w1.heap.size 40 i0 _ 6 56 Tryz.underlying23 hi hz0 hz1 hz2 rfl (by decide) _ _ _ rfl ((Hrow.out.alloc _).alloc _) ⟨wr.heap.size + 1, 0, none⟩ 1 1 [.int .i64 1, .int .i64 od, .int .i64 ot, .int .i64 or, .bool oo, .string oj] rfl rfl HCS.out (by simp [Value.oneCell']) (by unfold maxLen; omega) (by omega) (by simp; omega) ?_)
              intro v' w6 hown' hgrow _
              have hb6 := ((Hbel.out.alloc Hbel.out.size (.cells #[.int .i64 1, .int .i64 od, .int .i64 ot, .int .i64 or, .bool oo, .string oj] 40)).alloc (Hbel.out.alloc Hbel.out.size _).size (.cells #[.int .i64 1, .int .i64 od, .int .i64 ot, .int .i64 or, .bool oo, .string oj] 40)).grown hgrow (by simp; omega) (Lx.ownBase Hrow.out)
              clear hgrow
              go_wp2_with fail
              go_roundw
              case rel => exact ⟨k + 1, by omega, by go_num, by rw [HST.out]; exact HEND.out _ _ hown', hb6⟩
              case measure => simp [intOf]; omega
            · have kn : (ok != 1) = true := by rw [bne_iff_ne]; exact k1
              have ke : (ok == 1) = false := by rw [beq_eq_false_iff_ne]; exact k1
              clear hd1 hk1
              have hcs : ∀ j u, ([.int .i64 ok, .int .i64 od, .int .i64 ot, .int .i64 or, .bool oo, .string oj] : List Value)[j]? = some u → ((wr.alloc (.cells #[.int .i64 ok, .int .i64 od, .int .i64 ot, .int .i64 or, .bool oo, .string oj] 40)).alloc (.cells #[.int .i64 ok, .int .i64 od, .int .i64 ot, .int .i64 or, .bool oo, .string oj] 40)).cell? ((⟨wr.heap.size + 1, 0, none⟩ : Addr).add j) = some u := by
                have := Lx.cell_six_new (wr.alloc (.cells #[.int .i64 ok, .int .i64 od, .int .i64 ot, .int .i64 or, .bool oo, .string oj] 40)) ⟨ok, od, ot, or, oo, oj⟩ 40
                rw [World.size_alloc] at this
                exact this
              have HCS := Lib.hid hcs
              have hbz := Hbel.out.size
              clear hcs
              go_wp2_with (at_builtin; refine wpList_append_own _ rfl _ _ 23 rfl w1.heap.size 40 i0 _ 6 56 Tryz.underlying23 hi hz0 hz1 hz2 rfl (by decide) _ _ _ rfl ((Hrow.out.alloc _).alloc _) ⟨wr.heap.size + 1, 0, none⟩ 1 1 [.int .i64 ok, .int .i64 od, .int .i64 ot, .int .i64 or, .bool oo, .string oj] rfl rfl HCS.out (by simp [Value.oneCell']) (by unfold maxLen; omega) (by omega) (by simp; omega) ?_)
              intro v' w6 hown' hgrow _
              have hb6 := ((Hbel.out.alloc Hbel.out.size (.cells #[.int .i64 ok, .int .i64 od, .int .i64 ot, .int .i64 or, .bool oo, .string oj] 40)).alloc (Hbel.out.alloc Hbel.out.size _).size (.cells #[.int .i64 ok, .int .i64 od, .int .i64 ot, .int .i64 or, .bool oo, .string oj] 40)).grown hgrow (by simp; omega) (Lx.ownBase Hrow.out)
              clear hgrow
              go_wp2_with fail
              go_roundw
              case rel => exact ⟨k + 1, by omega, by go_num, by rw [HST.out]; exact HEND.out _ _ hown', hb6⟩
              case measure => simp [intOf]; omega
      · obtain rfl : k = n := by omega
        rw [List.take_of_length_le (by rw [H.out.1]; exact Nat.le_refl _)] at hrow
        have Hrow := Lib.hid hrow
        clear hrow hfa hl
        go_wp2_with fail
        go_ret2
        exact ⟨_, rfl, own_base Hrow.out Hb1.out.size, Hb1.out.trans (Hbel.out.mono Hb1.out.size)⟩
  · have hne : (Lx.scriptErr L != 0) = true := by rw [bne_iff_ne]; exact hx
    have hv : Lx.normL L = [] := by unfold Lx.normL; rw [if_neg hx]
    rw [hv]
    generalize Lx.scriptErr L = x at *
    clear hx hv h hj
    go_enter Tryz.func16, Tryz.ntmps16
    go_wp2_with fail
    refine HS.out.mono ?_
    rintro e w1 ⟨rfl, hb1⟩
    go_wp2_with fail
    go_ret2
    exact ⟨_, rfl, World.ownsRow_nil _ _ _ _, hb1⟩
end Go.Proofs.YtnnkamfpcodnnaaGreatDoor
namespace Go.Proofs.YtnnkamfpcodnnaaGreatDoor
open Go.RowKit

namespace Lx
theorem linesRead_one : ∀ {ls : List ByteArray} {out out' : List OpV}, LinesRead ls out → LinesRead ls out' → out = out'
  | [], out, out', h, h' => by unfold LinesRead at h h'; rw [h, h']
  | a :: t, out, out', h, h' => by
    unfold LinesRead at h h'
    split at h
    · rename_i hs
      rw [if_pos hs] at h'
      exact linesRead_one h h'
    · rename_i hs
      rw [if_neg hs] at h'
      obtain ⟨o, rest, h1, rfl, h3⟩ := h
      obtain ⟨o', rest', h1', rfl, h3'⟩ := h'
      rw [(reads_one h1 h1').1, linesRead_one h3 h3']
theorem linesRead_at : ∀ {ls : List ByteArray} {out : List OpV} {k : Nat} {l : ByteArray}, LinesRead ls out → ls[k]? = some l → skipL l.data.toList = false → ∃ o, ReadsOp l.data.toList o 0
  | [], _, k, l, _, hk, _ => by simp at hk
  | a :: t, out, 0, l, h, hk, hs => by
    simp at hk; subst hk
    unfold LinesRead at h
    rw [if_neg (by rw [hs]; decide)] at h
    obtain ⟨o, _, h1, _⟩ := h
    exact ⟨o, h1⟩
  | a :: t, out, k + 1, l, h, hk, hs => by
    unfold LinesRead at h
    split at h
    · exact linesRead_at h (by simpa using hk) hs
    · obtain ⟨_, rest, _, _, h3⟩ := h
      exact linesRead_at h3 (by simpa using hk) hs
theorem reads_not {l : List UInt8} {o : OpV} (h : ReadsOp l o 0) (h' : ReadsOp l opZ 10) : False := by
  have := (reads_one h h').2
  omega
theorem all_one {ls : List ByteArray} {out out' : List OpV} {n n' e e' : Int} (h : AllIs ls out n e) (h' : AllIs ls out' n' e') : out = out' ∧ n = n' ∧ e = e' := by
  rcases h with ⟨rfl, rfl, h⟩ | ⟨rfl, rfl, k, l, so, hk, rfl, hs, hr, ht⟩ <;> rcases h' with ⟨rfl, rfl, h'⟩ | ⟨rfl, rfl, k', l', so', hk', rfl, hs', hr', ht'⟩
  · exact ⟨linesRead_one h h', rfl, rfl⟩
  · obtain ⟨o, ho⟩ := linesRead_at h hk' hs'
    exact (reads_not ho hr').elim
  · obtain ⟨o, ho⟩ := linesRead_at h' hk hs
    exact (reads_not ho hr).elim
  · refine ⟨rfl, ?_, rfl⟩
    rcases Nat.lt_trichotomy k k' with hlt | rfl | hlt
    · obtain ⟨o, ho⟩ := linesRead_at ht' (k := k) (l := l) (by rw [List.getElem?_take, if_pos hlt]; exact hk) hs
      exact (reads_not ho hr).elim
    · rfl
    · obtain ⟨o, ho⟩ := linesRead_at ht (k := k') (l := l') (by rw [List.getElem?_take, if_pos hlt]; exact hk') hs'
      exact (reads_not ho hr').elim
theorem isOps_lit (w : World) (cs : Array Value) (T : TypeId) (n : Nat) (L : List OpV) (hL : L.length = n) (hc : cs.toList = opCells L) : IsOps (w.alloc (.cells cs T)) (some ⟨w.heap.size, 0, none⟩) n L := by
  refine ⟨hL, fun _ => ⟨w.heap.size, 0, rfl, by simp, fun i o hi j v hj => ?_⟩⟩
  have := opCells_get hi j v hj
  rw [← hc] at this
  exact boxCell0 w cs T (0 + i * 6 + j) v (by rw [Nat.zero_add]; simpa using this)
theorem isOps_row {w : World} {base cap n : Nat} {A : Option Addr} {e : TypeId} {L : List OpV} (h : w.ownsRow base e 6 (.slice A n cap) n (opCells L)) (hn : L.length = n) : IsOps w A n L := row_isOps h hn
/-- An operation in a block of its own. -/
def OpBox (w : World) (b : Nat) (o : OpV) : Prop := b < w.heap.size ∧ ∀ (j : Nat) (v : Value), o.cells[j]? = some v → w.cell? ⟨b, j, none⟩ = some v
theorem OpBox.below {w w' : World} {b : Nat} {o : OpV} (h : OpBox w b o) (hb : Below w.heap.size w w') : OpBox w' b o :=
  ⟨Nat.lt_of_lt_of_le h.1 hb.size, fun j v hj => (hb.cell (p := ⟨b, j, none⟩) h.1).trans (h.2 j v hj)⟩
theorem OpBox.new (w : World) (k d t r : Int) (ok : Bool) (job : ByteArray) (T : TypeId) : OpBox (w.alloc (.cells #[.int .i64 k, .int .i64 d, .int .i64 t, .int .i64 r, .bool ok, .string job] T)) w.heap.size ⟨k, d, t, r, ok, job⟩ := by
  refine ⟨by simp, fun j v hj => ?_⟩
  exact boxCell0 w _ T j v (by simpa [OpV.cells] using hj)
theorem OpBox.six {w : World} {b : Nat} {k d t r : Int} {ok : Bool} {job : ByteArray} (h : OpBox w b ⟨k, d, t, r, ok, job⟩) :
    w.cell? ⟨b, 0, none⟩ = some (.int .i64 k) ∧ w.cell? ⟨b, 1, none⟩ = some (.int .i64 d) ∧ w.cell? ⟨b, 2, none⟩ = some (.int .i64 t) ∧ w.cell? ⟨b, 3, none⟩ = some (.int .i64 r) ∧ w.cell? ⟨b, 4, none⟩ = some (.bool ok) ∧ w.cell? ⟨b, 5, none⟩ = some (.string job) :=
  ⟨h.2 0 _ rfl, h.2 1 _ rfl, h.2 2 _ rfl, h.2 3 _ rfl, h.2 4 _ rfl, h.2 5 _ rfl⟩
theorem noWord (l : List UInt8) (h : (32 : UInt8) ∉ l) : ReadsOp l opZ 10 := reads_nosp h
end Lx
theorem print_at (o : Lx.OpV) (T : ByteArray) (w : World) (env : Env w) (hi : o.In) (h : Lx.opErr o = 0) (ht : Lx.opText o = T.data.toList) :
    Calls Tryz.prog 18 #[o.val] w fun e w' => e = .returned (.tuple #[.string T, .int .i64 0]) ∧ Below w.heap.size w w' := by
  refine (print_good o w env hi h).mono ?_
  rintro e w' ⟨rfl, hb⟩
  refine ⟨?_, hb⟩
  rw [ht]
theorem parse_at (s : ByteArray) (o : Lx.OpV) (x : Int) (w : World) (env : Env w) (hs : s.size ≤ 140737488355328) (h : Lx.ReadsOp s.data.toList o x) :
    Calls Tryz.prog 19 #[.string s] w fun e w' => e = .returned (.tuple #[o.val, .int .i64 x]) ∧ Below w.heap.size w w' := by
  refine (op_parse s w env hs).mono ?_
  rintro e w' ⟨o', x', rfl, hr, hb⟩
  obtain ⟨rfl, rfl⟩ := Lx.reads_one hr h
  exact ⟨rfl, hb⟩
theorem parseAll_at (s : ByteArray) (out : List Lx.OpV) (n x : Int) (w : World) (env : Env w) (hs : s.size ≤ 65536) (h : Lx.AllIs (Lx.textLines s) out n x) :
    Calls Tryz.prog 6 #[.string s] w fun e w' => ∃ A cap, e = .returned (.tuple #[.slice A out.length cap, .int .i64 n, .int .i64 x]) ∧ Lx.IsOps w' A out.length out ∧ Below w.heap.size w w' := by
  refine (parseAll_any s w env hs).mono ?_
  rintro e w' ⟨v, out', n', x', rfl, ha, hrow, hb⟩
  obtain ⟨rfl, rfl, rfl⟩ := Lx.all_one ha h
  obtain ⟨A, cap, rfl⟩ := Lx.slice_of_row hrow
  exact ⟨A, cap, rfl, Lx.row_isOps hrow rfl, hb⟩
theorem normal_at (ad : Option Addr) (n cap : Nat) (L M : List Lx.OpV) (w : World) (h : Lx.IsOps w ad n L) (hj : ∀ o ∈ L, o.job.size ≤ maxLen) (hn : n ≤ 10000) (hok : Lx.AllOk L) (hM : Lx.normal L = M) :
    Calls Tryz.prog 16 #[.slice ad n cap] w fun e w' => ∃ A cap', e = .returned (.tuple #[.slice A M.length cap', .int .i64 0]) ∧ Lx.IsOps w' A M.length M ∧ Below w.heap.size w w' := by
  have hs : Lx.scriptErr L = 0 := Lx.script_of (by rw [h.1]; exact hn) hok
  have hv : Lx.normL L = M := by unfold Lx.normL; rw [if_pos hs, hM]
  refine (normal_any ad n cap L w h hj (by omega)).mono ?_
  rintro e w' ⟨v, rfl, hrow, hb⟩
  rw [hv] at hrow
  obtain ⟨A, cap', rfl⟩ := Lx.slice_of_row hrow
  exact ⟨A, cap', by rw [hs], Lx.row_isOps hrow rfl, hb⟩
namespace Lx
def trpA : OpV := ⟨5, 0, 0, 0, false, ⟨#[97]⟩⟩
theorem xo_err : opErr trpA = 0 := by decide +kernel
theorem xo1 : opText ⟨2, 0, 1794851100, 0, false, ⟨#[]⟩⟩ = [106, 117, 109, 112, 32, 50, 48, 50, 54, 45, 49, 49, 45, 49, 54, 32, 49, 55, 58, 52, 53, 58, 48, 48] := by decide +kernel
theorem xo2 : ReadsOp [102, 105, 110, 105, 115, 104, 32, 51, 32, 111, 107] ⟨3, 0, 0, 3, true, ⟨#[]⟩⟩ 0 := .inl ⟨rfl, ⟨by decide +kernel, by decide +kernel⟩, by unfold OpV.In; decide⟩
theorem xo3 : ReadsOp [116, 105, 99, 107, 32, 32, 53] opZ 10 := reads_tick_no (rest := [32, 53]) (by decide) (by decide +kernel)
theorem xo_tick5 : ReadsOp [116, 105, 99, 107, 32, 53] (tickV 5) 0 := .inl ⟨rfl, ⟨by decide +kernel, by decide +kernel⟩, by unfold OpV.In tickV; decide⟩
theorem xo_tripa : ReadsOp [116, 114, 105, 112, 32, 97] trpA 0 := .inl ⟨rfl, ⟨by decide +kernel, by decide +kernel⟩, by unfold OpV.In trpA; decide⟩
theorem xl4 : textLines ⟨#[116, 105, 99, 107, 32, 53, 10, 35, 32, 120, 10, 116, 114, 105, 112, 32, 97]⟩ = [⟨#[116, 105, 99, 107, 32, 53]⟩, ⟨#[35, 32, 120]⟩, ⟨#[116, 114, 105, 112, 32, 97]⟩] := by kernel_rfl
theorem xo4 : AllIs (textLines ⟨#[116, 105, 99, 107, 32, 53, 10, 35, 32, 120, 10, 116, 114, 105, 112, 32, 97]⟩) [tickV 5, trpA] 0 0 := by
  rw [xl4]
  refine .inl ⟨rfl, rfl, ?_⟩
  unfold LinesRead; rw [if_neg (by decide)]
  refine ⟨tickV 5, [trpA], xo_tick5, rfl, ?_⟩
  unfold LinesRead; rw [if_pos (by decide)]
  unfold LinesRead; rw [if_neg (by decide)]
  refine ⟨trpA, [], xo_tripa, rfl, ?_⟩
  unfold LinesRead; rfl
theorem xl6 : textLines ⟨#[116, 105, 99, 107, 32, 53, 10, 10, 120, 10]⟩ = [⟨#[116, 105, 99, 107, 32, 53]⟩, ⟨#[]⟩, ⟨#[120]⟩] := by kernel_rfl
theorem xo6 : AllIs (textLines ⟨#[116, 105, 99, 107, 32, 53, 10, 10, 120, 10]⟩) [] 3 10 := by
  rw [xl6]
  refine .inr ⟨rfl, rfl, 2, ⟨#[120]⟩, [tickV 5], rfl, by omega, by decide, reads_nosp (by decide), ?_⟩
  show LinesRead [⟨#[116, 105, 99, 107, 32, 53]⟩, ⟨#[]⟩] [tickV 5]
  unfold LinesRead; rw [if_neg (by decide)]
  refine ⟨tickV 5, [], xo_tick5, rfl, ?_⟩
  unfold LinesRead; rw [if_pos (by decide)]
  unfold LinesRead; rfl
theorem xo5 : normal [tickV 60000, tickV 60000, trpA, tickV 1, tickV 2] = [tickV 100000, tickV 20000, trpA, tickV 3] := by kernel_rfl
theorem xo5ok : AllOk [tickV 60000, tickV 60000, trpA, tickV 1, tickV 2] := by
  intro o ho
  simp only [List.mem_cons, List.not_mem_nil, or_false] at ho
  rcases ho with rfl | rfl | rfl | rfl | rfl <;> decide +kernel
end Lx
set_option maxRecDepth 100000 in
set_option maxHeartbeats 3200000 in
theorem opworks_any (w : World) (env : Env w) :
    Calls Tryz.prog 5 #[] w fun e w' => e = .returned (.bool true) ∧ Below w.heap.size w w' := by
  have H1 := Lib.hid (print_at ⟨2, 0, 1794851100, 0, false, ⟨#[]⟩⟩ ⟨#[106, 117, 109, 112, 32, 50, 48, 50, 54, 45, 49, 49, 45, 49, 54, 32, 49, 55, 58, 52, 53, 58, 48, 48]⟩ w env (by unfold Lx.OpV.In; decide) (by decide +kernel) Lx.xo1)
  have H2 := Lib.hid (fun W (E : Env W) => parse_at ⟨#[102, 105, 110, 105, 115, 104, 32, 51, 32, 111, 107]⟩ _ _ W E (by decide) Lx.xo2)
  have H3 := Lib.hid (fun W (E : Env W) => parse_at ⟨#[116, 105, 99, 107, 32, 32, 53]⟩ _ _ W E (by decide) Lx.xo3)
  have H4 := Lib.hid (fun W (E : Env W) => parseAll_at _ _ _ _ W E (by decide) Lx.xo4)
  have H6 := Lib.hid (fun W (E : Env W) => parseAll_at _ _ _ _ W E (by decide) Lx.xo6)
  unfold Lx.OpV.val at H1 H2 H3
  unfold Lx.opZ at H3
  go_enter Tryz.func5, Tryz.ntmps5
  go_wp2_with fail
  refine H1.out.mono ?_
  rintro e w1 ⟨rfl, b1⟩
  have e1 := env.below b1
  go_wp2_with fail
  refine (H2.out _ e1).mono ?_
  rintro e w2 ⟨rfl, c2⟩
  have b2 := b1.trans (c2.mono b1.size)
  have bo : Lx.OpBox (w2.alloc (.cells #[.int .i64 3, .int .i64 0, .int .i64 0, .int .i64 3, .bool true, .string ⟨#[]⟩] 40)) w2.heap.size ⟨3, 0, 0, 3, true, ⟨#[]⟩⟩ := Lx.OpBox.new _ _ _ _ _ _ _ _
  have b2a := b2.alloc b2.size (.cells #[.int .i64 3, .int .i64 0, .int .i64 0, .int .i64 3, .bool true, .string ⟨#[]⟩] 40)
  have BO := Lib.hid bo
  have B2 := Lib.hid b2a
  clear bo b1 c2 b2 b2a e1
  go_wp2_with fail
  refine (H3.out _ (env.below B2.out)).mono ?_
  rintro e w3 ⟨rfl, c3⟩
  have z3 : Below w3.heap.size w3 (w3.alloc (.cells #[.int .i64 0, .int .i64 0, .int .i64 0, .int .i64 0, .bool false, .string ⟨#[]⟩] 40)) := (Below.refl _ _).alloc (Nat.le_refl _) _
  have BO3 := Lib.hid ((BO.out.below c3).below z3)
  have B3 := Lib.hid ((B2.out.trans (c3.mono B2.out.size)).trans (z3.mono (B2.out.trans (c3.mono B2.out.size)).size))
  clear c3 BO B2 z3
  go_wp2_with fail
  refine (H4.out _ (env.below B3.out)).mono ?_
  rintro e w4 ⟨A4, cap4, rfl, l4, c4⟩
  have BO4 := Lib.hid (BO3.out.below c4)
  have L4 := Lib.hid l4
  have B4 := Lib.hid (B3.out.trans (c4.mono B3.out.size))
  clear c4 l4 BO3 B3
  go_wp2_with fail
  refine (tick_any 60000 _).mono ?_
  rintro e w5 ⟨rfl, c5⟩
  have BO5 := Lib.hid (BO4.out.below c5)
  have L5 := Lib.hid (L4.out.below c5)
  have B5 := Lib.hid (B4.out.trans (c5.mono B4.out.size))
  clear c5 BO4 L4 B4
  go_wp2_with fail
  refine (tick_any 60000 _).mono ?_
  rintro e w6 ⟨rfl, c6⟩
  have BO6 := Lib.hid (BO5.out.below c6)
  have L6 := Lib.hid (L5.out.below c6)
  have B6 := Lib.hid (B5.out.trans (c6.mono B5.out.size))
  clear c6 BO5 L5 B5
  go_wp2_with fail
  refine (tick_any 1 _).mono ?_
  rintro e w7 ⟨rfl, c7⟩
  have BO7 := Lib.hid (BO6.out.below c7)
  have L7 := Lib.hid (L6.out.below c7)
  have B7 := Lib.hid (B6.out.trans (c7.mono B6.out.size))
  clear c7 BO6 L6 B6
  go_wp2_with fail
  refine (tick_any 2 _).mono ?_
  rintro e w8 ⟨rfl, c8⟩
  have BO8 := Lib.hid (BO7.out.below c8)
  have L8 := Lib.hid (L7.out.below c8)
  have B8 := Lib.hid (B7.out.trans (c8.mono B7.out.size))
  clear c8 BO7 L7 B7
  have io := Lx.isOps_lit w8 #[.int .i64 1, .int .i64 60000, .int .i64 0, .int .i64 0, .bool false, .string ⟨#[]⟩, .int .i64 1, .int .i64 60000, .int .i64 0, .int .i64 0, .bool false, .string ⟨#[]⟩, .int .i64 5, .int .i64 0, .int .i64 0, .int .i64 0, .bool false, .string ⟨#[97]⟩, .int .i64 1, .int .i64 1, .int .i64 0, .int .i64 0, .bool false, .string ⟨#[]⟩, .int .i64 1, .int .i64 2, .int .i64 0, .int .i64 0, .bool false, .string ⟨#[]⟩] 40 5 [Lx.tickV 60000, Lx.tickV 60000, Lx.trpA, Lx.tickV 1, Lx.tickV 2] rfl rfl
  have HN := Lib.hid (normal_at _ 5 5 _ _ _ io (by intro o ho; simp only [List.mem_cons, List.not_mem_nil, or_false] at ho; rcases ho with rfl | rfl | rfl | rfl | rfl <;> decide) (by omega) Lx.xo5ok Lx.xo5)
  have z8 := (Below.refl w8.heap.size w8).alloc (Nat.le_refl _) (.cells #[.int .i64 1, .int .i64 60000, .int .i64 0, .int .i64 0, .bool false, .string ⟨#[]⟩, .int .i64 1, .int .i64 60000, .int .i64 0, .int .i64 0, .bool false, .string ⟨#[]⟩, .int .i64 5, .int .i64 0, .int .i64 0, .int .i64 0, .bool false, .string ⟨#[97]⟩, .int .i64 1, .int .i64 1, .int .i64 0, .int .i64 0, .bool false, .string ⟨#[]⟩, .int .i64 1, .int .i64 2, .int .i64 0, .int .i64 0, .bool false, .string ⟨#[]⟩] 40)
  have BO9 := Lib.hid (BO8.out.below z8)
  have L9 := Lib.hid (L8.out.below z8)
  have B9 := Lib.hid (B8.out.trans (z8.mono B8.out.size))
  clear io z8 BO8 L8 B8
  go_wp2_with fail
  refine HN.out.mono ?_
  rintro e w10 ⟨A10, cap10, rfl, l10, c10⟩
  have M10 := Lib.hid l10
  have BO10 := Lib.hid (BO9.out.below c10)
  have L10 := Lib.hid (L9.out.below c10)
  have B10 := Lib.hid (B9.out.trans (c10.mono B9.out.size))
  clear c10 l10 BO9 L9 B9 HN
  go_wp2_with fail
  refine (H6.out _ (env.below B10.out)).mono ?_
  rintro e w11 ⟨A11, cap11, rfl, -, c11⟩
  have M11 := Lib.hid (M10.out.below c11)
  have BO11 := Lib.hid (BO10.out.below c11)
  have L11 := Lib.hid (L10.out.below c11)
  have B11 := Lib.hid (B10.out.trans (c11.mono B10.out.size))
  clear c11 M10 BO10 L10 B10
  obtain ⟨q0, q1, q2, q3, q4, q5⟩ := BO11.out.six
  have heq : ∀ W, (Op.equalIn 10000 40 (.agg #[.int .i64 3, .int .i64 0, .int .i64 0, .int .i64 3, .bool true, .string ⟨#[]⟩]) (.agg #[.int .i64 3, .int .i64 0, .int .i64 0, .int .i64 3, .bool true, .string ⟨#[]⟩])).run Tryz.prog W = .ok true W := fun W => (eqOp _ _ _ _ _ _ _ _ _ _ _ _ W).trans (by simp)
  go_wp2_with fail
  refine (tick_any 5 _).mono ?_
  rintro e w12 ⟨rfl, c12⟩
  have M12 := Lib.hid (M11.out.below c12)
  have L12 := Lib.hid (L11.out.below c12)
  have B12 := Lib.hid (B11.out.trans (c12.mono B11.out.size))
  clear c12 q0 q1 q2 q3 q4 q5 heq M11 L11 B11 BO11
  go_wp2_with fail
  have io := Lx.isOps_lit w12 #[.int .i64 1, .int .i64 5, .int .i64 0, .int .i64 0, .bool false, .string ⟨#[]⟩, .int .i64 5, .int .i64 0, .int .i64 0, .int .i64 0, .bool false, .string ⟨#[97]⟩] 40 2 [Lx.tickV 5, Lx.trpA] rfl rfl
  have z12 := (Below.refl w12.heap.size w12).alloc (Nat.le_refl _) (.cells #[.int .i64 1, .int .i64 5, .int .i64 0, .int .i64 0, .bool false, .string ⟨#[]⟩, .int .i64 5, .int .i64 0, .int .i64 0, .int .i64 0, .bool false, .string ⟨#[97]⟩] 40)
  have HS1 := Lib.hid (same_any _ 2 cap4 _ _ 2 2 _ _ (L12.out.below z12) io (by omega) (by omega))
  unfold SameIs at HS1
  rw [Lx.sameB_yes rfl] at HS1
  have M13 := Lib.hid (M12.out.below z12)
  have B13 := Lib.hid (B12.out.trans (z12.mono B12.out.size))
  clear io z12
  refine HS1.out.mono ?_
  rintro e w14 ⟨rfl, c14⟩
  have M14 := Lib.hid (M13.out.below c14)
  have B14 := Lib.hid (B13.out.trans (c14.mono B13.out.size))
  clear c14 HS1 M13 B13 M12 L12 B12
  go_wp2_with fail
  refine (tick_any 100000 _).mono ?_
  rintro e w15 ⟨rfl, c15⟩
  have M15 := Lib.hid (M14.out.below c15)
  have B15 := Lib.hid (B14.out.trans (c15.mono B14.out.size))
  clear c15 M14 B14
  go_wp2_with fail
  refine (tick_any 20000 _).mono ?_
  rintro e w16 ⟨rfl, c16⟩
  have M16 := Lib.hid (M15.out.below c16)
  have B16 := Lib.hid (B15.out.trans (c16.mono B15.out.size))
  clear c16 M15 B15
  go_wp2_with fail
  refine (tick_any 3 _).mono ?_
  rintro e w17 ⟨rfl, c17⟩
  have M17 := Lib.hid (M16.out.below c17)
  have B17 := Lib.hid (B16.out.trans (c17.mono B16.out.size))
  clear c17 M16 B16
  go_wp2_with fail
  have io := Lx.isOps_lit w17 #[.int .i64 1, .int .i64 100000, .int .i64 0, .int .i64 0, .bool false, .string ⟨#[]⟩, .int .i64 1, .int .i64 20000, .int .i64 0, .int .i64 0, .bool false, .string ⟨#[]⟩, .int .i64 5, .int .i64 0, .int .i64 0, .int .i64 0, .bool false, .string ⟨#[97]⟩, .int .i64 1, .int .i64 3, .int .i64 0, .int .i64 0, .bool false, .string ⟨#[]⟩] 40 4 [Lx.tickV 100000, Lx.tickV 20000, Lx.trpA, Lx.tickV 3] rfl rfl
  have z17 := (Below.refl w17.heap.size w17).alloc (Nat.le_refl _) (.cells #[.int .i64 1, .int .i64 100000, .int .i64 0, .int .i64 0, .bool false, .string ⟨#[]⟩, .int .i64 1, .int .i64 20000, .int .i64 0, .int .i64 0, .bool false, .string ⟨#[]⟩, .int .i64 5, .int .i64 0, .int .i64 0, .int .i64 0, .bool false, .string ⟨#[97]⟩, .int .i64 1, .int .i64 3, .int .i64 0, .int .i64 0, .bool false, .string ⟨#[]⟩] 40)
  have HS2 := Lib.hid (same_any _ 4 cap10 _ _ 4 4 _ _ (M17.out.below z17) io (by omega) (by omega))
  unfold SameIs at HS2
  rw [Lx.sameB_yes rfl] at HS2
  have B18 := Lib.hid (B17.out.trans (z17.mono B17.out.size))
  clear io z17
  refine HS2.out.mono ?_
  rintro e w19 ⟨rfl, c19⟩
  have B19 := Lib.hid (B18.out.trans (c19.mono B18.out.size))
  clear c19 HS2
  go_wp2_with fail
  go_ret
  exact ⟨rfl, B19.out⟩
end Go.Proofs.YtnnkamfpcodnnaaGreatDoor
