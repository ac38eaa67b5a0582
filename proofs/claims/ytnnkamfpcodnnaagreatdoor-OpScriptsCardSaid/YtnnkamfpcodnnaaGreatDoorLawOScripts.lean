/- The walks of the reference of scripts: their errors, lengths, kinds. The walk of the reference of op.Normal: it joins ticks as normal says. The walk of the reference of PrintAll: it writes a script's lines into a slice of bytes of its own. The walk of few: it returns a bit; where it is true there are at most 10002 operations. 'append(x, y...)' where y holds operations, also where y is empty (whatever its address and its room). OpScripts: for every list of operations the law returns true; what the call was given reads as before. Conditions: the five listed variables lie as the program lays them. -/
import Derived.Test.YtnnkamfpcodnnaaGreatDoorOpX
import Derived.Test.YtnnkamfpcodnnaaGreatDoorR38
import Derived.Lib.AppendStr
import Derived.Test.YtnnkamfpcodnnaaGreatDoorOpWk
import Derived.Test.YtnnkamfpcodnnaaGreatDoorOpFrame
import Derived.Test.YtnnkamfpcodnnaaGreatDoorOpFr
import Derived.SevenTiedAt
namespace Go.Proofs.YtnnkamfpcodnnaaGreatDoor
open Go.RowKit

set_option maxRecDepth 100000 in
set_option maxHeartbeats 1600000 in
theorem r38_script (ad : Option Addr) (n cap : Nat) (L : List Lx.OpV) (w : World) (h : Lx.IsOps w ad n L) (hj : ∀ o ∈ L, o.job.size ≤ maxLen) (hn : n ≤ 1000000000) :
    Calls Tryz.prog 27 #[.slice ad n cap] w (CheckIs (Lx.scriptErr L) w) := by
  by_cases hbig : 10000 < n
  · have hs : Lx.scriptErr L = 12 := by unfold Lx.scriptErr; rw [if_pos (by rw [h.1]; exact hbig)]
    have hbi : (10000 : Int) < (n : Int) := by omega
    rw [hs]
    go_enter Tryz.func27, Tryz.ntmps27
    go_wp2_with fail
    go_ret
    exact ⟨rfl, Below.refl _ _⟩
  · have hs : Lx.scriptErr L = Lx.firstErr L := by unfold Lx.scriptErr; rw [if_neg (by rw [h.1]; exact hbig)]
    have hbi : (n : Int) ≤ 10000 := by omega
    have hbd : decide ((10000 : Int) < (n : Int)) = false := decide_eq_false (by omega)
    rw [hs]
    have H := Lib.hid h
    have HJ := Lib.hid hj
    clear h hj hs hbig
    go_enter Tryz.func27, Tryz.ntmps27
    go_wp2_with fail
    go_loopw [3] (fun i wr => ∃ k : Nat, k ≤ n ∧ i = .int .i64 k ∧ (∀ x ∈ L.take k, Lx.opErr x = 0) ∧ Below w.heap.size w wr) (fun i _ => n - (intOf i).toNat)
    case atStart => exact ⟨0, Nat.zero_le _, rfl, (fun x hx => by simp at hx), Below.refl _ _⟩
    case round =>
      obtain ⟨k, hk, rfl, hall, hb⟩ := hrel
      have Hall := Lib.hid hall
      have Hb := Lib.hid hb
      clear hall hb
      by_cases hlt : k < n
      · obtain ⟨o, ho⟩ : ∃ o, L[k]? = some o := ⟨_, List.getElem?_eq_getElem (by rw [H.out.1]; exact hlt)⟩
        have hx := HJ.out o (List.mem_of_getElem? ho)
        obtain ⟨g, off, rfl, lt, hc⟩ := (H.out.below Hb.out).2 (by omega)
        have HO := Lib.hid ho
        have HC := Lib.hid (fun W => r38_check o W hx)
        obtain ⟨ok, od, ot, or, oo, oj⟩ := o
        have c0 : wr.cell? ⟨g, off + k * 6, none⟩ = some (.int .i64 ok) := hc k _ ho 0 _ rfl
        have c1 := hc k _ ho 1 _ rfl
        have c2 := hc k _ ho 2 _ rfl
        have c3 := hc k _ ho 3 _ rfl
        have c4 := hc k _ ho 4 _ rfl
        have c5 := hc k _ ho 5 _ rfl
        have hki : (k : Int) < (n : Int) := by omega
        unfold CheckIs Lx.OpV.val at HC
        simp only at HC
        obtain ⟨x, hxx⟩ : ∃ x, Lx.opErr ⟨ok, od, ot, or, oo, oj⟩ = x := ⟨_, rfl⟩
        rw [hxx] at HC
        have HX := Lib.hid hxx
        clear hc ho hx hxx hk
        go_wp2_with fail
        refine (HC.out _).mono ?_
        rintro e w5 ⟨rfl, hb5⟩
        have hb6 := Hb.out.trans (hb5.mono Hb.out.size)
        clear c0 c1 c2 c3 c4 c5 hb5
        by_cases hx : x = 0
        · have he : (x != 0) = false := by rw [bne_eq_false_iff_eq]; exact hx
          have hall := Lx.take_snoc_mem HO.out Hall.out (HX.out.trans hx)
          have HA2 := Lib.hid hall
          clear hx hall
          go_wp2_with fail
          go_roundw
          case rel => exact ⟨k + 1, by omega, by go_num, HA2.out, hb6⟩
          case measure => simp [intOf]; omega
        · have he : (x != 0) = true := by rw [bne_iff_ne]; exact hx
          have hf := Lx.firstErr_at HO.out Hall.out (by rw [HX.out]; exact hx)
          rw [HX.out] at hf
          have HF := Lib.hid hf
          clear hx hf
          go_wp2_with fail
          go_ret
          exact ⟨Lx.ret_int HF.out.symm, hb6⟩
      · obtain rfl : k = n := by omega
        have hf : Lx.firstErr L = 0 := Lx.firstErr_zero (fun o ho => Hall.out o (by rw [List.take_of_length_le (by rw [H.out.1]; exact Nat.le_refl _)]; exact ho))
        have HF := Lib.hid hf
        clear hf
        go_wp2_with fail
        go_ret
        exact ⟨Lx.ret_int HF.out.symm, Hb.out⟩
set_option maxRecDepth 100000 in
set_option maxHeartbeats 1600000 in
theorem r38_length (ad : Option Addr) (n cap : Nat) (L : List Lx.OpV) (w : World) (h : Lx.IsOps w ad n L) (hj : ∀ o ∈ L, o.job.size ≤ maxLen) (hn : n ≤ 1000000000) :
    Calls Tryz.prog 13 #[.slice ad n cap] w (LenIs (Lx.lenV L) (Lx.scriptErr L) w) := by
  have HS := Lib.hid (r38_script ad n cap L w h hj hn)
  unfold CheckIs at HS
  by_cases hx : Lx.scriptErr L = 0
  · have hok := Lx.script_ok hx
    have hv : Lx.lenV L = Lx.sumD L := by unfold Lx.lenV; rw [if_pos hx]
    rw [hx] at HS ⊢
    rw [hv]
    have H := Lib.hid h
    have HA := Lib.hid hok.2
    have hn1 : n ≤ 10000 := by rw [← h.1]; exact hok.1
    clear hx hok hv h hj hn
    go_enter Tryz.func13, Tryz.ntmps13
    go_wp2_with fail
    refine HS.out.mono ?_
    rintro e w1 ⟨rfl, hb1⟩
    have Hb1 := Lib.hid hb1
    clear hb1
    go_wp2_with fail
    go_loopw [5, 6] (fun s i wr => ∃ k : Nat, k ≤ n ∧ i = .int .i64 k ∧ s = .int .i64 (Lx.sumD (L.take k)) ∧ Below w.heap.size w wr) (fun _ i _ => n - (intOf i).toNat)
    case atStart => exact ⟨0, Nat.zero_le _, rfl, rfl, Hb1.out⟩
    case round =>
      obtain ⟨k, hk, rfl, rfl, hb⟩ := hrel
      have Hb := Lib.hid hb
      clear hb
      have hsb := Lx.sumD_bd (L := L.take k) (fun x hx => HA.out x (List.mem_of_mem_take hx))
      have hl : (L.take k).length ≤ k := List.length_take_le _ _
      obtain ⟨S, hS⟩ : ∃ S, Lx.sumD (L.take k) = S := ⟨_, rfl⟩
      by_cases hlt : k < n
      · obtain ⟨o, ho⟩ : ∃ o, L[k]? = some o := ⟨_, List.getElem?_eq_getElem (by rw [H.out.1]; exact hlt)⟩
        obtain ⟨g, off, rfl, lt, hc⟩ := (H.out.below Hb.out).2 (by omega)
        have hdb := Lx.d_bd (HA.out o (List.mem_of_getElem? ho))
        have hst := Lx.sumD_take ho
        obtain ⟨ok, od, ot, or, oo, oj⟩ := o
        have c0 : wr.cell? ⟨g, off + k * 6, none⟩ = some (.int .i64 ok) := hc k _ ho 0 _ rfl
        have c1 := hc k _ ho 1 _ rfl
        have c2 := hc k _ ho 2 _ rfl
        have c3 := hc k _ ho 3 _ rfl
        have c4 := hc k _ ho 4 _ rfl
        have c5 := hc k _ ho 5 _ rfl
        have hki : (k : Int) < (n : Int) := by omega
        rw [hS] at hst hsb ⊢
        have d0 : 0 ≤ od := hdb.1
        have d1 : od ≤ 100000 := hdb.2.1
        have s0 : 0 ≤ S := hsb.1
        have s1 : S ≤ 1000000000 := by omega
        have HST := Lib.hid hst
        clear hc ho hdb hst hsb hl hS hk
        go_wp2_with fail
        go_roundw
        case rel => exact ⟨k + 1, by omega, by go_num, by rw [HST.out], Hb.out⟩
        case measure => simp [intOf]; omega
      · obtain rfl : k = n := by omega
        rw [hS]
        rw [List.take_of_length_le (by rw [H.out.1]; exact Nat.le_refl _)] at hS
        have HS2 := Lib.hid hS
        clear hS hsb hl
        go_wp2_with fail
        go_ret2
        exact ⟨ret_len HS2.out.symm rfl, Hb.out⟩
  · have hne : (Lx.scriptErr L != 0) = true := by rw [bne_iff_ne]; exact hx
    have hv : Lx.lenV L = 0 := by unfold Lx.lenV; rw [if_neg hx]
    rw [hv]
    generalize Lx.scriptErr L = x at *
    clear hx hv h hj
    go_enter Tryz.func13, Tryz.ntmps13
    go_wp2_with fail
    refine HS.out.mono ?_
    rintro e w1 ⟨rfl, hb1⟩
    go_wp2_with fail
    go_ret2
    exact ⟨rfl, hb1⟩
set_option maxRecDepth 100000 in
set_option maxHeartbeats 1600000 in
theorem r38_plain (ad : Option Addr) (n cap : Nat) (L : List Lx.OpV) (w : World) (h : Lx.IsOps w ad n L) (hj : ∀ o ∈ L, o.job.size ≤ maxLen) (hn : n ≤ 1000000000) :
    Calls Tryz.prog 15 #[.slice ad n cap] w (PlnIs (Lx.plnV L) (Lx.scriptErr L) w) := by
  have HS := Lib.hid (r38_script ad n cap L w h hj hn)
  unfold CheckIs at HS
  by_cases hx : Lx.scriptErr L = 0
  · have hv : Lx.plnV L = Lx.plainL L := by unfold Lx.plnV; rw [if_pos hx]
    rw [hx] at HS ⊢
    rw [hv]
    have H := Lib.hid h
    clear hx hv h hj
    go_enter Tryz.func15, Tryz.ntmps15
    go_wp2_with fail
    refine HS.out.mono ?_
    rintro e w1 ⟨rfl, hb1⟩
    have Hb1 := Lib.hid hb1
    clear hb1
    go_wp2_with fail
    go_loopw [5] (fun i wr => ∃ k : Nat, k ≤ n ∧ i = .int .i64 k ∧ Lx.plainL (L.take k) = true ∧ Below w.heap.size w wr) (fun i _ => n - (intOf i).toNat)
    case atStart => exact ⟨0, Nat.zero_le _, rfl, rfl, Hb1.out⟩
    case round =>
      obtain ⟨k, hk, rfl, hall, hb⟩ := hrel
      have Hall := Lib.hid hall
      have Hb := Lib.hid hb
      clear hall hb
      by_cases hlt : k < n
      · obtain ⟨o, ho⟩ : ∃ o, L[k]? = some o := ⟨_, List.getElem?_eq_getElem (by rw [H.out.1]; exact hlt)⟩
        obtain ⟨g, off, rfl, lt, hc⟩ := (H.out.below Hb.out).2 (by omega)
        have HO := Lib.hid ho
        obtain ⟨ok, od, ot, or, oo, oj⟩ := o
        have c0 : wr.cell? ⟨g, off + k * 6, none⟩ = some (.int .i64 ok) := hc k _ ho 0 _ rfl
        have c1 := hc k _ ho 1 _ rfl
        have c2 := hc k _ ho 2 _ rfl
        have c3 := hc k _ ho 3 _ rfl
        have c4 := hc k _ ho 4 _ rfl
        have c5 := hc k _ ho 5 _ rfl
        have hki : (k : Int) < (n : Int) := by omega
        clear hc ho hk
        by_cases k1 : ok = 1
        · subst k1
          have hp := Lib.hid (Lx.plainL_take HO.out rfl Hall.out)
          go_wp2_with fail
          go_roundw
          case rel => exact ⟨k + 1, by omega, by go_num, hp.out, Hb.out⟩
          case measure => simp [intOf]; omega
        · have n1 : (ok != 1) = true := by rw [bne_iff_ne]; exact k1
          by_cases k3 : ok = 3
          · subst k3
            have hp := Lib.hid (Lx.plainL_take HO.out rfl Hall.out)
            clear k1
            go_wp2_with fail
            go_roundw
            case rel => exact ⟨k + 1, by omega, by go_num, hp.out, Hb.out⟩
            case measure => simp [intOf]; omega
          · have n3 : (ok != 3) = true := by rw [bne_iff_ne]; exact k3
            have hp := Lib.hid (Lx.plainL_no HO.out (by unfold Lx.plainO; simp [k1, k3]))
            clear k1 k3
            go_wp2_with fail
            go_ret2
            exact ⟨ret_pln hp.out.symm, Hb.out⟩
      · obtain rfl : k = n := by omega
        have hf := Hall.out
        rw [List.take_of_length_le (by rw [H.out.1]; exact Nat.le_refl _)] at hf
        have HF := Lib.hid hf
        clear hf
        go_wp2_with fail
        go_ret2
        exact ⟨ret_pln HF.out.symm, Hb.out⟩
  · have hne : (Lx.scriptErr L != 0) = true := by rw [bne_iff_ne]; exact hx
    have hv : Lx.plnV L = false := by unfold Lx.plnV; rw [if_neg hx]
    rw [hv]
    generalize Lx.scriptErr L = x at *
    clear hx hv h hj
    go_enter Tryz.func15, Tryz.ntmps15
    go_wp2_with fail
    refine HS.out.mono ?_
    rintro e w1 ⟨rfl, hb1⟩
    go_wp2_with fail
    go_ret2
    exact ⟨rfl, hb1⟩
end Go.Proofs.YtnnkamfpcodnnaaGreatDoor
namespace Go.Proofs.YtnnkamfpcodnnaaGreatDoor
open Go.RowKit

namespace Lx
theorem normal_full {L : List OpV} {n : Nat} (h : L.length ≤ n) : normal (L.take n) = normal L := by rw [List.take_of_length_le h]
/-- What has been written and what is still to be written of joined ticks. -/
def NRel (L : List OpV) (k : Nat) (out : List OpV) (s : Nat) : Prop := Apart out ∧ normal (L.take k) = out ++ chunks s ∧ s ≤ 100000 * k
theorem nrel_start (L : List OpV) : NRel L 0 [] 0 := ⟨.inl rfl, rfl, Nat.zero_le _⟩
theorem nrel_tick {L : List OpV} {k s : Nat} {out : List OpV} {o : OpV} (h : NRel L k out s) (ho : L[k]? = some o) (he : opErr o = 0) (hk : o.k = 1) : NRel L (k + 1) out (s + o.d.toNat) ∧ ((s + o.d.toNat : Nat) : Int) = (s : Int) + o.d := by
  obtain ⟨ha, hn, hs⟩ := h
  have hd := d_bd he
  have h1 := hd.2.2.2 hk
  have e := tick_of he hk
  refine ⟨⟨ha, ?_, by omega⟩, by omega⟩
  rw [normal_take ho, hn, e]
  show normStep (out ++ chunks s) (tickV o.d) = out ++ chunks (s + (tickV o.d).d.toNat)
  have := chunks_tick ha s o.d.toNat (by omega) (by omega)
  rw [show ((o.d.toNat : Nat) : Int) = o.d by omega] at this
  exact this
theorem nrel_other {L : List OpV} {k : Nat} {out : List OpV} {o : OpV} (h : normal (L.take k) = out) (ho : L[k]? = some o) (hk : o.k ≠ 1) : NRel L (k + 1) (out ++ [o]) 0 := by
  refine ⟨apart_snoc _ hk, ?_, Nat.zero_le _⟩
  rw [normal_take ho, h, step_nontick _ hk, chunks_zero, List.append_nil]
end Lx
set_option maxRecDepth 100000 in
set_option maxHeartbeats 3200000 in
theorem r38_normal (ad : Option Addr) (n cap : Nat) (L : List Lx.OpV) (w : World) (h : Lx.IsOps w ad n L) (hj : ∀ o ∈ L, o.job.size ≤ maxLen) (hn : n ≤ 1000000000) :
    Calls Tryz.prog 17 #[.slice ad n cap] w (NormPost (Lx.normL L) (Lx.scriptErr L) w) := by
  have HS := Lib.hid (r38_script ad n cap L w h hj hn)
  unfold CheckIs at HS
  by_cases hx : Lx.scriptErr L = 0
  · have hok := Lx.script_ok hx
    have hv : Lx.normL L = Lx.normal L := by unfold Lx.normL; rw [if_pos hx]
    rw [hx] at HS ⊢
    rw [hv]
    obtain ⟨i0, hi, hz0, hz1, hz2⟩ := info_parts infoOp
    have H := Lib.hid h
    have HA := Lib.hid hok.2
    have hn1 : n ≤ 10000 := by rw [← h.1]; exact hok.1
    clear hx hok hv h hj hn
    go_enter Tryz.func17, Tryz.ntmps17
    go_wp2_with fail
    refine HS.out.mono ?_
    rintro e w1 ⟨rfl, hb1⟩
    have Hb1 := Lib.hid hb1
    clear hb1
    go_wp2_with fail
    go_loopw [5, 6, 7] (fun tx sv i wr => ∃ (k s : Nat) (out : List Lx.OpV), i = .int .i64 k ∧ sv = .int .i64 s ∧ ((k ≤ n ∧ Lx.NRel L k out s) ∨ (k = n + 1 ∧ s = 0 ∧ out = Lx.normal L)) ∧ wr.ownsRow w1.heap.size 40 6 tx out.length (Lx.opCells out) ∧ Below w1.heap.size w1 wr) (fun _ _ i _ => n + 1 - (intOf i).toNat)
    case atStart => exact ⟨0, 0, [], rfl, rfl, .inl ⟨Nat.zero_le _, Lx.nrel_start L⟩, World.ownsRow_nil _ _ _ _, Below.refl _ _⟩
    case round =>
      obtain ⟨k, s, out, rfl, rfl, hcase, hrow, hbel⟩ := hrel
      have Hrow := Lib.hid hrow
      have Hbel := Lib.hid hbel
      clear hrow hbel
      rcases hcase with ⟨hk, hr⟩ | ⟨rfl, rfl, rfl⟩
      · have HR := Lib.hid hr
        have hsk := hr.2.2
        clear hr
        by_cases hlt : k < n
        · obtain ⟨o, ho⟩ : ∃ o, L[k]? = some o := ⟨_, List.getElem?_eq_getElem (by rw [H.out.1]; exact hlt)⟩
          obtain ⟨g, off, rfl, lt, hc⟩ := (H.out.below (Hb1.out.trans (Hbel.out.mono Hb1.out.size))).2 (by omega)
          have hoe := HA.out o (List.mem_of_getElem? ho)
          by_cases hk1 : o.k = 1
          · have hnx := Lx.nrel_tick HR.out ho hoe hk1
            have hdb := Lx.d_bd hoe
            obtain ⟨ok, od, ot, or, oo, oj⟩ := o
            have c0 : wr.cell? ⟨g, off + k * 6, none⟩ = some (.int .i64 ok) := hc k _ ho 0 _ rfl
            have c1 : wr.cell? ⟨g, off + k * 6 + 1, none⟩ = some (.int .i64 od) := hc k _ ho 1 _ rfl
            have hk1' : ok = 1 := hk1
            subst hk1'
            obtain ⟨hn2, hsum⟩ := hnx
            have hd0 : 0 ≤ od := hdb.1
            have hd1 : od ≤ 100000 := hdb.2.1
            have hki : (k : Int) ≤ (n : Int) := by omega
            have hki2 : (k : Int) < (n : Int) := by omega
            have HN2 := Lib.hid hn2
            have HSUM := Lib.hid hsum
            clear hc ho hoe hdb hn2 hsum hk1
            go_wp2_with fail
            go_roundw
            case rel => exact ⟨k + 1, _, out, by go_num, by rw [HSUM.out], .inl ⟨by omega, HN2.out⟩, Hrow.out, Hbel.out⟩
            case measure => simp [intOf]; omega
          · obtain ⟨ok, od, ot, or, oo, oj⟩ := o
            have c0 : wr.cell? ⟨g, off + k * 6, none⟩ = some (.int .i64 ok) := hc k _ ho 0 _ rfl
            have ke : (ok == 1) = false := by rw [beq_eq_false_iff_ne]; exact hk1
            have hki : (k : Int) ≤ (n : Int) := by omega
            have hki2 : (k : Int) < (n : Int) := by omega
            have HO := Lib.hid ho
            have HK := Lib.hid hk1
            clear hc ho hoe hk1
            have hlen := (Lx.normal_facts (L := L.take k) (fun x hx => HA.out x (List.mem_of_mem_take hx))).2.2.2.2
            have htl : (L.take k).length ≤ k := List.length_take_le _ _
            have hHR := HR.out.2.1
            generalize htot : Lx.normal (L.take k) = tot at *
            have HTOT := Lib.hid htot
            have HHR := Lib.hid hHR.symm
            have htz : tot.length ≤ 10000 := by omega
            have hs0 : s ≤ 1000000000 := by omega
            have HR2 := HR
            clear hHR htot hlen htl
            go_wp2_with fail
            obtain ⟨W0, hW0⟩ : ∃ W : World, W = wr := ⟨_, rfl⟩
            go_loopw [5, 6] (fun tx sv wi => ∃ (s' : Nat) (out' : List Lx.OpV), sv = .int .i64 s' ∧ s' ≤ s ∧ out' ++ Lx.chunks s' = tot ∧ wi.ownsRow w1.heap.size 40 6 tx out'.length (Lx.opCells out') ∧ Below w1.heap.size w1 wi) (fun _ sv _ => (intOf sv).toNat)
            case atStart => exact ⟨s, out, rfl, Nat.le_refl _, HHR.out, Hrow.out, Hbel.out⟩
            case round =>
              obtain ⟨s', out', rfl, hs', heq', hrow', hbel'⟩ := hrel
              obtain ⟨q, hq⟩ : ∃ q, out'.length = q := ⟨_, rfl⟩
              rw [hq] at hrow'
              have hql : q ≤ 10000 := by
                have := congrArg List.length heq'
                rw [List.length_append, hq] at this
                omega
              have HQ := Lib.hid hq
              have HEQ := Lib.hid heq'
              have Hrow' := Lib.hid hrow'
              have Hbel' := Lib.hid hbel'
              clear hq heq' hrow' hbel'
              by_cases hs1 : 0 < s'
              · have hs1i : (0 : Int) < (s' : Int) := by omega
                have hsb : (s' : Int) ≤ 1000000000 := by omega
                by_cases hbg : 100000 < s'
                · have hmin : min (s' : Int) 100000 = 100000 := by omega
                  have hnew : (out' ++ [Lx.tickV 100000]) ++ Lx.chunks (s' - 100000) = tot := by rw [← HEQ.out, Lx.chunks_large hbg]; simp
                  have HNEW := Lib.hid hnew
                  have hsub : ((s' - 100000 : Nat) : Int) = (s' : Int) - 100000 := by omega
                  have HSUB := Lib.hid hsub
                  clear hnew hsub
                  have hcs : ∀ j u, ([.int .i64 1, .int .i64 100000, .int .i64 0, .int .i64 0, .bool false, .string ⟨#[]⟩] : List Value)[j]? = some u → (wr.alloc (.cells #[.int .i64 1, .int .i64 100000, .int .i64 0, .int .i64 0, .bool false, .string ⟨#[]⟩] 40)).cell? ((⟨wr.heap.size, 0, none⟩ : Addr).add j) = some u := Lx.cell_six_new wr ⟨1, 100000, 0, 0, false, ⟨#[]⟩⟩ 40
                  have HCS := Lib.hid hcs
                  have hbz := Hbel'.out.size
                  clear hcs
                  go_wp2_with (at_builtin; refine wpList_append_own _ rfl _ _ 23 rfl w1.heap.size 40 i0 _ 6 56 Tryz.underlying23 hi hz0 hz1 hz2 rfl (by decide) _ _ _ rfl (Hrow'.out.alloc _) ⟨wr.heap.size, 0, none⟩ 1 1 [.int .i64 1, .int .i64 100000, .int .i64 0, .int .i64 0, .bool false, .string ⟨#[]⟩] rfl rfl HCS.out (by simp [Value.oneCell']) (by unfold maxLen; omega) (by omega) (by simp; omega) ?_)
                  intro v' w6 hown' hgrow _
                  have hb6 := (Hbel'.out.alloc Hbel'.out.size (.cells #[.int .i64 1, .int .i64 100000, .int .i64 0, .int .i64 0, .bool false, .string ⟨#[]⟩] 40)).grown hgrow (by simp; omega) (Lx.ownBase Hrow'.out)
                  clear hgrow
                  go_wp2_with fail
                  go_roundw
                  case rel => exact ⟨s' - 100000, out' ++ [Lx.tickV 100000], by rw [HSUB.out], by omega, HNEW.out, by rw [List.length_append, HQ.out, Lx.opCells_snoc]; exact hown', hb6⟩
                  case measure => simp [intOf]; omega
                · have hmin : min (s' : Int) 100000 = (s' : Int) := by omega
                  have hnew : (out' ++ [Lx.tickV s']) ++ Lx.chunks 0 = tot := by rw [← HEQ.out, Lx.chunks_small hs1 (by omega), Lx.chunks_zero, List.append_nil]
                  have HNEW := Lib.hid hnew
                  clear hnew
                  have hcs : ∀ j u, ([.int .i64 1, .int .i64 (s' : Int), .int .i64 0, .int .i64 0, .bool false, .string ⟨#[]⟩] : List Value)[j]? = some u → (wr.alloc (.cells #[.int .i64 1, .int .i64 (s' : Int), .int .i64 0, .int .i64 0, .bool false, .string ⟨#[]⟩] 40)).cell? ((⟨wr.heap.size, 0, none⟩ : Addr).add j) = some u := Lx.cell_six_new wr ⟨1, (s' : Int), 0, 0, false, ⟨#[]⟩⟩ 40
                  have HCS := Lib.hid hcs
                  have hbz := Hbel'.out.size
                  clear hcs
                  go_wp2_with (at_builtin; refine wpList_append_own _ rfl _ _ 23 rfl w1.heap.size 40 i0 _ 6 56 Tryz.underlying23 hi hz0 hz1 hz2 rfl (by decide) _ _ _ rfl (Hrow'.out.alloc _) ⟨wr.heap.size, 0, none⟩ 1 1 [.int .i64 1, .int .i64 (s' : Int), .int .i64 0, .int .i64 0, .bool false, .string ⟨#[]⟩] rfl rfl HCS.out (by simp [Value.oneCell']) (by unfold maxLen; omega) (by omega) (by simp; omega) ?_)
                  intro v' w6 hown' hgrow _
                  have hb6 := (Hbel'.out.alloc Hbel'.out.size (.cells #[.int .i64 1, .int .i64 (s' : Int), .int .i64 0, .int .i64 0, .bool false, .string ⟨#[]⟩] 40)).grown hgrow (by simp; omega) (Lx.ownBase Hrow'.out)
                  clear hgrow
                  go_wp2_with fail
                  go_roundw
                  case rel => exact ⟨0, out' ++ [Lx.tickV s'], by simp, by omega, HNEW.out, by rw [List.length_append, HQ.out, Lx.opCells_snoc]; exact hown', hb6⟩
                  case measure => simp [intOf]; omega
              · obtain rfl : s' = 0 := by omega
                have hout : out' = tot := by have := HEQ.out; rwa [Lx.chunks_zero, List.append_nil] at this
                have HOUT := Lib.hid hout
                clear hout
                obtain ⟨g2, off2, he, lt2, hc⟩ := (H.out.below (Hb1.out.trans (Hbel'.out.mono Hb1.out.size))).2 (by omega)
                injection he with he
                injection he with e1 e2
                subst e1 e2
                have c0 : wr.cell? ⟨g, off + k * 6, none⟩ = some (.int .i64 ok) := hc k _ HO.out 0 _ rfl
                have c1 := hc k _ HO.out 1 _ rfl
                have c2 := hc k _ HO.out 2 _ rfl
                have c3 := hc k _ HO.out 3 _ rfl
                have c4 := hc k _ HO.out 4 _ rfl
                have c5 := hc k _ HO.out 5 _ rfl
                have hnr := Lx.nrel_other (HTOT.out.trans HOUT.out.symm) HO.out HK.out
                have HNR := Lib.hid hnr
                clear hc hnr
                have hcs : ∀ j u, ([.int .i64 ok, .int .i64 od, .int .i64 ot, .int .i64 or, .bool oo, .string oj] : List Value)[j]? = some u → (wr.alloc (.cells #[.int .i64 ok, .int .i64 od, .int .i64 ot, .int .i64 or, .bool oo, .string oj] 40)).cell? ((⟨wr.heap.size, 0, none⟩ : Addr).add j) = some u := Lx.cell_six_new wr ⟨ok, od, ot, or, oo, oj⟩ 40
                have HCS := Lib.hid hcs
                have hbz := Hbel'.out.size
                clear hcs
                go_wp2_with (at_builtin; refine wpList_append_own _ rfl _ _ 23 rfl w1.heap.size 40 i0 _ 6 56 Tryz.underlying23 hi hz0 hz1 hz2 rfl (by decide) _ _ _ rfl (Hrow'.out.alloc _) ⟨wr.heap.size, 0, none⟩ 1 1 [.int .i64 ok, .int .i64 od, .int .i64 ot, .int .i64 or, .bool oo, .string oj] rfl rfl HCS.out (by simp [Value.oneCell']) (by unfold maxLen; omega) (by omega) (by simp; omega) ?_)
                intro v' w6 hown' hgrow _
                have hb6 := (Hbel'.out.alloc Hbel'.out.size (.cells #[.int .i64 ok, .int .i64 od, .int .i64 ot, .int .i64 or, .bool oo, .string oj] 40)).grown hgrow (by simp; omega) (Lx.ownBase Hrow'.out)
                clear hgrow
                go_wp2_with fail
                go_roundw
                case rel => exact ⟨k + 1, 0, out' ++ [⟨ok, od, ot, or, oo, oj⟩], by go_num, rfl, .inl ⟨by omega, HNR.out⟩, by rw [List.length_append, HQ.out, Lx.opCells_snoc]; exact hown', hb6⟩
                case measure => simp [intOf]; omega
        · obtain rfl : k = n := by omega
          have hki : (k : Int) ≤ (k : Int) := by omega
          have hge : decide (k < k) = false := decide_eq_false hlt
          have hlen := (Lx.normal_facts (L := L.take k) (fun x hx => HA.out x (List.mem_of_mem_take hx))).2.2.2.2
          have htl : (L.take k).length ≤ k := List.length_take_le _ _
          have hHR := HR.out.2.1
          generalize htot : Lx.normal (L.take k) = tot at *
          have HTOT := Lib.hid htot
          have HHR := Lib.hid hHR.symm
          have htz : tot.length ≤ 10000 := by omega
          have hs0 : s ≤ 1000000000 := by omega
          have HR2 := HR
          clear hHR htot hlen htl
          go_wp2_with fail
          obtain ⟨W0, hW0⟩ : ∃ W : World, W = wr := ⟨_, rfl⟩
          go_loopw [5, 6] (fun tx sv wi => ∃ (s' : Nat) (out' : List Lx.OpV), sv = .int .i64 s' ∧ s' ≤ s ∧ out' ++ Lx.chunks s' = tot ∧ wi.ownsRow w1.heap.size 40 6 tx out'.length (Lx.opCells out') ∧ Below w1.heap.size w1 wi) (fun _ sv _ => (intOf sv).toNat)
          case atStart => exact ⟨s, out, rfl, Nat.le_refl _, HHR.out, Hrow.out, Hbel.out⟩
          case round =>
            obtain ⟨s', out', rfl, hs', heq', hrow', hbel'⟩ := hrel
            obtain ⟨q, hq⟩ : ∃ q, out'.length = q := ⟨_, rfl⟩
            rw [hq] at hrow'
            have hql : q ≤ 10000 := by
              have := congrArg List.length heq'
              rw [List.length_append, hq] at this
              omega
            have HQ := Lib.hid hq
            have HEQ := Lib.hid heq'
            have Hrow' := Lib.hid hrow'
            have Hbel' := Lib.hid hbel'
            clear hq heq' hrow' hbel'
            by_cases hs1 : 0 < s'
            · have hs1i : (0 : Int) < (s' : Int) := by omega
              have hsb : (s' : Int) ≤ 1000000000 := by omega
              by_cases hbg : 100000 < s'
              · have hmin : min (s' : Int) 100000 = 100000 := by omega
                have hnew : (out' ++ [Lx.tickV 100000]) ++ Lx.chunks (s' - 100000) = tot := by rw [← HEQ.out, Lx.chunks_large hbg]; simp
                have HNEW := Lib.hid hnew
                have hsub : ((s' - 100000 : Nat) : Int) = (s' : Int) - 100000 := by omega
                have HSUB := Lib.hid hsub
                clear hnew hsub
                have hcs : ∀ j u, ([.int .i64 1, .int .i64 100000, .int .i64 0, .int .i64 0, .bool false, .string ⟨#[]⟩] : List Value)[j]? = some u → (wr.alloc (.cells #[.int .i64 1, .int .i64 100000, .int .i64 0, .int .i64 0, .bool false, .string ⟨#[]⟩] 40)).cell? ((⟨wr.heap.size, 0, none⟩ : Addr).add j) = some u := Lx.cell_six_new wr ⟨1, 100000, 0, 0, false, ⟨#[]⟩⟩ 40
                have HCS := Lib.hid hcs
                have hbz := Hbel'.out.size
                clear hcs
                go_wp2_with (at_builtin; refine wpList_append_own _ rfl _ _ 23 rfl w1.heap.size 40 i0 _ 6 56 Tryz.underlying23 hi hz0 hz1 hz2 rfl (by decide) _ _ _ rfl (Hrow'.out.alloc _) ⟨wr.heap.size, 0, none⟩ 1 1 [.int .i64 1, .int .i64 100000, .int .i64 0, .int .i64 0, .bool false, .string ⟨#[]⟩] rfl rfl HCS.out (by simp [Value.oneCell']) (by unfold maxLen; omega) (by omega) (by simp; omega) ?_)
                intro v' w6 hown' hgrow _
                have hb6 := (Hbel'.out.alloc Hbel'.out.size (.cells #[.int .i64 1, .int .i64 100000, .int .i64 0, .int .i64 0, .bool false, .string ⟨#[]⟩] 40)).grown hgrow (by simp; omega) (Lx.ownBase Hrow'.out)
                clear hgrow
                go_wp2_with fail
                go_roundw
                case rel => exact ⟨s' - 100000, out' ++ [Lx.tickV 100000], by rw [HSUB.out], by omega, HNEW.out, by rw [List.length_append, HQ.out, Lx.opCells_snoc]; exact hown', hb6⟩
                case measure => simp [intOf]; omega
              · have hmin : min (s' : Int) 100000 = (s' : Int) := by omega
                have hnew : (out' ++ [Lx.tickV s']) ++ Lx.chunks 0 = tot := by rw [← HEQ.out, Lx.chunks_small hs1 (by omega), Lx.chunks_zero, List.append_nil]
                have HNEW := Lib.hid hnew
                clear hnew
                have hcs : ∀ j u, ([.int .i64 1, .int .i64 (s' : Int), .int .i64 0, .int .i64 0, .bool false, .string ⟨#[]⟩] : List Value)[j]? = some u → (wr.alloc (.cells #[.int .i64 1, .int .i64 (s' : Int), .int .i64 0, .int .i64 0, .bool false, .string ⟨#[]⟩] 40)).cell? ((⟨wr.heap.size, 0, none⟩ : Addr).add j) = some u := Lx.cell_six_new wr ⟨1, (s' : Int), 0, 0, false, ⟨#[]⟩⟩ 40
                have HCS := Lib.hid hcs
                have hbz := Hbel'.out.size
                clear hcs
                go_wp2_with (at_builtin; refine wpList_append_own _ rfl _ _ 23 rfl w1.heap.size 40 i0 _ 6 56 Tryz.underlying23 hi hz0 hz1 hz2 rfl (by decide) _ _ _ rfl (Hrow'.out.alloc _) ⟨wr.heap.size, 0, none⟩ 1 1 [.int .i64 1, .int .i64 (s' : Int), .int .i64 0, .int .i64 0, .bool false, .string ⟨#[]⟩] rfl rfl HCS.out (by simp [Value.oneCell']) (by unfold maxLen; omega) (by omega) (by simp; omega) ?_)
                intro v' w6 hown' hgrow _
                have hb6 := (Hbel'.out.alloc Hbel'.out.size (.cells #[.int .i64 1, .int .i64 (s' : Int), .int .i64 0, .int .i64 0, .bool false, .string ⟨#[]⟩] 40)).grown hgrow (by simp; omega) (Lx.ownBase Hrow'.out)
                clear hgrow
                go_wp2_with fail
                go_roundw
                case rel => exact ⟨0, out' ++ [Lx.tickV s'], by simp, by omega, HNEW.out, by rw [List.length_append, HQ.out, Lx.opCells_snoc]; exact hown', hb6⟩
                case measure => simp [intOf]; omega
            · obtain rfl : s' = 0 := by omega
              have hout : out' = tot := by have := HEQ.out; rwa [Lx.chunks_zero, List.append_nil] at this
              have HOUT := Lib.hid hout
              clear hout
              have hfin : out' = Lx.normal L := by rw [HOUT.out, ← HTOT.out, Lx.normal_full (by rw [H.out.1]; exact Nat.le_refl _)]
              have HFIN := Lib.hid hfin
              clear hfin
              go_wp2_with fail
              go_roundw
              case rel => exact ⟨k + 1, 0, out', by go_num, rfl, .inr ⟨rfl, rfl, HFIN.out⟩, by rw [HQ.out]; exact Hrow'.out, Hbel'.out⟩
              case measure => simp [intOf]
      · have hge : decide (n + 1 ≤ n) = false := decide_eq_false (by omega)
        have hgi : decide (((n : Int) + 1) ≤ (n : Int)) = false := decide_eq_false (by omega)
        go_wp2_with fail
        go_ret2
        exact ⟨_, rfl, own_base Hrow.out Hb1.out.size, Hb1.out.trans (Hbel.out.mono Hb1.out.size)⟩
  · have hne : (Lx.scriptErr L != 0) = true := by rw [bne_iff_ne]; exact hx
    have hv : Lx.normL L = [] := by unfold Lx.normL; rw [if_neg hx]
    rw [hv]
    generalize Lx.scriptErr L = x at *
    clear hx hv h hj
    go_enter Tryz.func17, Tryz.ntmps17
    go_wp2_with fail
    refine HS.out.mono ?_
    rintro e w1 ⟨rfl, hb1⟩
    go_wp2_with fail
    go_ret2
    exact ⟨_, rfl, World.ownsRow_nil _ _ _ _, hb1⟩
end Go.Proofs.YtnnkamfpcodnnaaGreatDoor
namespace Go.Proofs.YtnnkamfpcodnnaaGreatDoor
open Go.RowKit

theorem conv_own {w : World} {base : Nat} {v : Value} (T : List UInt8) (h : w.ownsRow base 5 1 v T.length (Lib.byteCells T)) : (convert 51 9 v).run Tryz.prog w = .ok (.string ⟨T.toArray⟩) w := by
  have h0 := h
  rcases h.2 with ⟨hv, h1⟩ | ⟨g, cap', cur, hv, _, hg, _⟩
  · subst hv
    have : T = [] := List.eq_nil_of_length_eq_zero h1
    subst this
    exact run_convert_bytes_nil (P := Tryz.prog) w 51 5 Tryz.underlying51 Tryz.underlying5 0 0 9 Tryz.underlying9
  · subst hv
    refine run_convert_bytes_back (P := Tryz.prog) w 51 9 5 ⟨g, 0, none⟩ cap' T Tryz.underlying51 Tryz.underlying5 Tryz.underlying9 (fun j hj => ?_)
    refine h0.cells (g := g) rfl j _ ?_
    unfold Lib.byteCells
    rw [List.getElem?_map, List.getElem?_eq_getElem hj]
    rfl
theorem infoU8 : (Tryz.prog.info? 5).map (fun i => (i.zero, i.size, i.bytes)) = some (some (.int .u8 0), 1, 1) := by kernel_rfl
set_option maxRecDepth 100000 in
set_option maxHeartbeats 3200000 in
theorem r38_printAll (ad : Option Addr) (n cap : Nat) (L : List Lx.OpV) (w : World) (h : Lx.IsOps w ad n L) (hj : ∀ o ∈ L, o.In ∧ o.job.size ≤ maxLen) (hn : n ≤ 1000000000) :
    Calls Tryz.prog 11 #[.slice ad n cap] w (PrnAllIs (Lx.prnAllS L) (Lx.prnAllE L) w) := by
  have HS := Lib.hid (r38_script ad n cap L w h (fun o ho => (hj o ho).2) hn)
  unfold CheckIs at HS
  by_cases hx : Lx.scriptErr L = 0
  · have hok := Lx.script_ok hx
    rw [hx] at HS
    obtain ⟨i0, hi, hz0, hz1, hz2⟩ := info_parts infoU8
    have H := Lib.hid h
    have HA := Lib.hid hok.2
    have HI := Lib.hid (fun o ho => (hj o ho).1)
    have hn1 : n ≤ 10000 := by rw [← h.1]; exact hok.1
    have HX := Lib.hid hx
    clear hx hok h hj hn
    go_enter Tryz.func11, Tryz.ntmps11
    go_wp2_with fail
    refine HS.out.mono ?_
    rintro e w1 ⟨rfl, hb1⟩
    have Hb1 := Lib.hid hb1
    clear hb1
    go_wp2_with fail
    go_loopw [5, 6] (fun ov i wr => ∃ k : Nat, k ≤ n ∧ i = .int .i64 k ∧ wr.ownsRow w1.heap.size 5 1 ov (Lx.scriptText (L.take k)).length (Lib.byteCells (Lx.scriptText (L.take k))) ∧ Below w1.heap.size w1 wr) (fun _ i _ => n - (intOf i).toNat)
    case atStart => exact ⟨0, Nat.zero_le _, rfl, World.ownsRow_nil _ _ _ _, Below.refl _ _⟩
    case round =>
      obtain ⟨k, hk, rfl, hrow, hbel⟩ := hrel
      have hlen := Lx.sumText_le (L := L.take k) (fun x hx => HA.out x (List.mem_of_mem_take hx)) (fun x hx => HI.out x (List.mem_of_mem_take hx))
      have hl : (L.take k).length ≤ k := List.length_take_le _ _
      have Hbel := Lib.hid hbel
      have Hrow := Lib.hid hrow
      clear hbel hrow
      by_cases hlt : k < n
      · obtain ⟨o, ho⟩ : ∃ o, L[k]? = some o := ⟨_, List.getElem?_eq_getElem (by rw [H.out.1]; exact hlt)⟩
        obtain ⟨g, off, rfl, lt, hc⟩ := (H.out.below (Hb1.out.trans (Hbel.out.mono Hb1.out.size))).2 (by omega)
        have hoe := HA.out o (List.mem_of_getElem? ho)
        have hoi := HI.out o (List.mem_of_getElem? ho)
        have hst := Lx.scriptText_take ho
        have hol := (Lx.opText_facts hoe hoi.2.2.2.2).2
        have HP := Lib.hid (fun W => r38_print_good o W hoi hoe)
        unfold RPr at HP
        generalize Lx.scriptText (L.take k) = T at *
        obtain ⟨V, hV⟩ : ∃ V : ByteArray, V = ⟨(Lx.opText o).toArray⟩ := ⟨_, rfl⟩
        have hVd : V.data.toList = Lx.opText o := by rw [hV]
        rw [← hV] at HP
        have hVs : V.size ≤ 32 := by rw [Lib.size_eq, hVd]; exact hol
        have hst2 : Lx.scriptText (L.take (k + 1)) = T ++ V.data.toList ++ [10] := by rw [hst, hVd, List.append_assoc]
        obtain ⟨ok, od, ot, or, oo, oj⟩ := o
        unfold Lx.OpV.val at HP
        have c0 : wr.cell? ⟨g, off + k * 6, none⟩ = some (.int .i64 ok) := hc k _ ho 0 _ rfl
        have c1 := hc k _ ho 1 _ rfl
        have c2 := hc k _ ho 2 _ rfl
        have c3 := hc k _ ho 3 _ rfl
        have c4 := hc k _ ho 4 _ rfl
        have c5 := hc k _ ho 5 _ rfl
        have hki : (k : Int) < (n : Int) := by omega
        have hkb : (k : Int) ≤ 10000 := by omega
        have hTl : T.length ≤ 330000 := by omega
        have HST := Lib.hid hst2
        have HVs := Lib.hid hVs
        clear hc ho hoe hoi hst hol hV hVd hst2 hVs hlen hl
        go_wp2_with fail
        refine (HP.out _).mono ?_
        rintro e w5 ⟨rfl, hb5⟩
        have hb15 := Hbel.out.trans (hb5.mono Hbel.out.size)
        have hrow5 := Lx.ownBelowO Hrow.out hb5
        have HB15 := Lib.hid hb15
        have hz5 := hb15.size
        clear hb5 hb15 c0 c1 c2 c3 c4 c5
        have hVs := HVs.out
        go_wp2_with (at_builtin; (refine Lib.wpList_append_own_string _ rfl _ _ 51 9 rfl w1.heap.size 5 i0 Tryz.underlying51 Tryz.underlying9 hi hz0 hz1 hz2 _ _ _ rfl hrow5 V rfl (by unfold maxLen; omega) (by omega) hz5 ?_))
        intro v1 w6 hown1 hgrow1 _
        rw [Lx.cells_app] at hown1
        have hnz : T.length + V.size = (T ++ V.data.toList).length := by rw [List.length_append, Lib.size_eq]
        rw [hnz] at hown1
        have hb6 := HB15.out.grown hgrow1 hz5 (Lx.ownBase hrow5)
        have HB6 := Lib.hid hb6
        have hz6 := hb6.size
        have hq6 : (T ++ V.data.toList).length ≤ 330032 := by omega
        generalize T ++ V.data.toList = T2 at *
        clear hgrow1 hrow5 hb6
        have hcs : ∀ j u, ([.int .u8 10] : List Value)[j]? = some u → (w6.alloc (.cells #[.int .u8 10] 5)).cell? ((⟨w6.heap.size, 0, none⟩ : Addr).add j) = some u := by
          intro j u hj
          match j with
          | 0 => simp at hj; subst hj; simp [Addr.add]
          | j + 1 => simp at hj
        have HCS := Lib.hid hcs
        clear hcs
        go_wp2_with (at_builtin; (refine wpList_append_own _ rfl _ _ 51 rfl w1.heap.size 5 i0 _ 1 1 Tryz.underlying51 hi hz0 hz1 hz2 rfl (by decide) _ _ _ rfl (hown1.alloc _) ⟨w6.heap.size, 0, none⟩ 1 1 [.int .u8 10] rfl rfl HCS.out (by simp [Value.oneCell']) (by unfold maxLen; omega) (by omega) (by simp; omega) ?_))
        intro v2 w7 hown2 hgrow2 _
        have hb7 := (HB6.out.alloc HB6.out.size (.cells #[.int .u8 10] 5)).grown hgrow2 (by simp; omega) (Lx.ownBase hown1)
        clear hgrow2
        go_wp2_with fail
        go_roundw
        case rel => exact ⟨k + 1, by omega, by go_num, by rw [HST.out]; simpa [Lib.byteCells] using hown2, hb7⟩
        case measure => simp [intOf]; omega
      · obtain rfl : k = n := by omega
        have htk : L.take k = L := List.take_of_length_le (by rw [H.out.1]; exact Nat.le_refl _)
        rw [htk] at hlen Hrow
        obtain ⟨T, hT⟩ : ∃ T, Lx.scriptText L = T := ⟨_, rfl⟩
        rw [hT] at Hrow hlen
        by_cases hfit : T.length ≤ 65536
        · have e1 : Lx.prnAllS L = T := by unfold Lx.prnAllS; rw [hT, if_pos ⟨HX.out, by omega⟩]
          have e2 : Lx.prnAllE L = 0 := by unfold Lx.prnAllE; rw [hT, if_pos HX.out, if_pos (by omega)]
          have E1 := Lib.hid e1
          have E2 := Lib.hid e2
          have hqi : (T.length : Int) ≤ 65536 := by omega
          have hqd : decide ((65536 : Int) < (T.length : Int)) = false := decide_eq_false (by omega)
          have hrow := Hrow.out
          have hcv := conv_own T hrow
          rcases Nat.eq_zero_or_pos T.length with h0 | h0
          · have hT0 : T = [] := List.eq_nil_of_length_eq_zero h0
            subst hT0
            clear hqi hqd hfit hT hlen e1 e2 h0
            rcases hrow.2 with ⟨hv, h1⟩ | ⟨g, cap', cur, hv, _, hg, _⟩
            · subst hv
              clear hrow h1
              go_wp2_with fail
              go_ret2
              exact ⟨by rw [E1.out, E2.out]; rfl, Hb1.out.trans (Hbel.out.mono Hb1.out.size)⟩
            · subst hv
              clear hrow hg
              simp only [List.length_nil] at hcv
              go_wp2_with fail
              go_ret2
              exact ⟨by rw [E1.out, E2.out]; rfl, Hb1.out.trans (Hbel.out.mono Hb1.out.size)⟩
          obtain ⟨g, c, rfl, lt, hc⟩ := Lx.ownPos hrow (by omega)
          clear e1 e2 hT hlen hfit hrow hc
          go_wp2_with fail
          go_ret2
          exact ⟨by rw [E1.out, E2.out]; rfl, Hb1.out.trans (Hbel.out.mono Hb1.out.size)⟩
        · have e1 : Lx.prnAllS L = [] := by unfold Lx.prnAllS; rw [hT, if_neg (by omega)]
          have e2 : Lx.prnAllE L = 11 := by unfold Lx.prnAllE; rw [hT, if_pos HX.out, if_neg (by omega)]
          have E1 := Lib.hid e1
          have E2 := Lib.hid e2
          have hqi : (65536 : Int) < (T.length : Int) := by omega
          clear e1 e2 hT hlen hfit
          have h0 : 0 < T.length := by omega
          obtain ⟨g, c, rfl, lt, hc⟩ := Lx.ownPos Hrow.out h0
          go_wp2_with fail
          go_ret2
          exact ⟨by rw [E1.out, E2.out]; rfl, Hb1.out.trans (Hbel.out.mono Hb1.out.size)⟩
  · have hne : (Lx.scriptErr L != 0) = true := by rw [bne_iff_ne]; exact hx
    have e1 : Lx.prnAllS L = [] := by unfold Lx.prnAllS; rw [if_neg (fun h => hx h.1)]
    have e2 : Lx.prnAllE L = Lx.scriptErr L := by unfold Lx.prnAllE; rw [if_neg hx]
    rw [e1, e2]
    generalize Lx.scriptErr L = x at *
    clear hx e1 e2 h hj
    go_enter Tryz.func11, Tryz.ntmps11
    go_wp2_with fail
    refine HS.out.mono ?_
    rintro e w1 ⟨rfl, hb1⟩
    go_wp2_with fail
    go_ret2
    exact ⟨rfl, hb1⟩
end Go.Proofs.YtnnkamfpcodnnaaGreatDoor
namespace Go.Proofs.YtnnkamfpcodnnaaGreatDoor
open Go.RowKit

def FewIs (n : Nat) (w : World) (e : Ending) (w' : World) : Prop := ∃ b, e = .returned (.bool b) ∧ (b = true → n ≤ 10002) ∧ Below w.heap.size w w'
set_option maxRecDepth 100000 in
set_option maxHeartbeats 1600000 in
theorem few_loop (ad : Option Addr) (n cap : Nat) (L : List Lx.OpV) (w : World) (h : Lx.IsOps w ad n L) (hj : ∀ o ∈ L, o.job.size ≤ maxLen) (hn : n ≤ 60 ∨ (9998 ≤ n ∧ n ≤ 10002)) :
    Calls Tryz.prog 9 #[.slice ad n cap] w (FewIs n w) := by
  have H := Lib.hid h
  have HJ := Lib.hid hj
  have hn2 : n ≤ 10002 := by omega
  obtain ⟨b1, hb1⟩ : ∃ b1, decide (60 < (n : Int)) = b1 := ⟨_, rfl⟩
  have hb2 : b1 = true → decide ((n : Int) < 9998) = false := by intro h'; subst h'; have := of_decide_eq_true hb1; exact decide_eq_false (by omega)
  have hb3 : decide ((10002 : Int) < (n : Int)) = false := decide_eq_false (by omega)
  have HB2 := Lib.hid hb2
  clear h hj hn hb2
  cases b1
  all_goals
    have hb2 := HB2.out
    try have hb2 := hb2 rfl
    clear HB2
    go_enter Tryz.func9, Tryz.ntmps9
    go_wp2_with fail
    go_loopw [3] (fun i wr => ∃ k : Nat, k ≤ n ∧ i = .int .i64 k ∧ Below w.heap.size w wr) (fun i _ => n - (intOf i).toNat)
    case atStart => exact ⟨0, Nat.zero_le _, rfl, Below.refl _ _⟩
    case round =>
      obtain ⟨k, hk, rfl, hb⟩ := hrel
      have Hb := Lib.hid hb
      clear hb
      by_cases hlt : k < n
      · obtain ⟨o, ho⟩ : ∃ o, L[k]? = some o := ⟨_, List.getElem?_eq_getElem (by rw [H.out.1]; exact hlt)⟩
        obtain ⟨g, off, rfl, lt, hc⟩ := (H.out.below Hb.out).2 (by omega)
        have c5 := hc k _ ho 5 _ rfl
        obtain ⟨ok, od, ot, or, oo, oj⟩ := o
        have hki : (k : Int) < (n : Int) := by omega
        by_cases hz : oj.size ≤ 60
        · have hzi : (oj.size : Int) ≤ 60 := by omega
          clear hc
          go_wp2_with fail
          go_roundw
          case rel => exact ⟨k + 1, by omega, by go_num, Hb.out⟩
          case measure => simp [intOf]; omega
        · have hzi : (60 : Int) < (oj.size : Int) := by omega
          clear hc
          go_wp2_with fail
          go_ret
          exact ⟨_, rfl, fun _ => hn2, Hb.out⟩
      · obtain rfl : k = n := by omega
        go_wp2_with fail
        go_ret
        exact ⟨_, rfl, fun _ => hn2, Hb.out⟩
set_option maxRecDepth 100000 in
theorem few_any (ad : Option Addr) (n cap : Nat) (L : List Lx.OpV) (w : World) (h : Lx.IsOps w ad n L) (hj : ∀ o ∈ L, o.job.size ≤ maxLen) (hm : n ≤ maxLen) :
    Calls Tryz.prog 9 #[.slice ad n cap] w (FewIs n w) := by
  by_cases hn : n ≤ 60 ∨ (9998 ≤ n ∧ n ≤ 10002)
  · exact few_loop ad n cap L w h hj hn
  · unfold maxLen at hm
    have hb1 : decide (60 < (n : Int)) = true := decide_eq_true (by omega)
    obtain ⟨b2, hb2⟩ : ∃ b2, decide ((n : Int) < 9998) = b2 := ⟨_, rfl⟩
    have hb3 : b2 = false → decide ((10002 : Int) < (n : Int)) = true := by intro h'; subst h'; have := of_decide_eq_false hb2; exact decide_eq_true (by omega)
    have HB3 := Lib.hid hb3
    clear h hj hn hb3
    cases b2
    · have hb3 := HB3.out rfl
      go_enter Tryz.func9, Tryz.ntmps9
      go_wp2_with fail
      go_ret
      exact ⟨_, rfl, fun h => absurd h (by simp), Below.refl _ _⟩
    · go_enter Tryz.func9, Tryz.ntmps9
      go_wp2_with fail
      go_ret
      exact ⟨_, rfl, fun h => absurd h (by simp), Below.refl _ _⟩
end Go.Proofs.YtnnkamfpcodnnaaGreatDoor
namespace Go.Proofs.YtnnkamfpcodnnaaGreatDoor
open Go.RowKit

theorem run_append_owned_zero {P : Program} {w : World} (base : Nat) (t ty e : TypeId) (i : TypeInfo) (size : Nat) (ht : P.underlying t = some (.slice e)) (hi : P.info? e = some i)
    (v : Value) (n : Nat) (xs : List Value) (hown : w.ownsRow base e size v n xs) (ad : Option Addr) (cap : Nat) :
    (Builtin.append_ #[t, t] ty #[v, .slice ad 0 cap]).run P w = .ok v w := by
  cases ad <;> rcases hown.2 with ⟨rfl, rfl⟩ | ⟨g, cap, cur, rfl, _, _, hnc, _⟩
  · simp [Builtin.append_, run_underlying ht, sizeOf, typeInfo, hi, Builtin.lenOf, Builtin.firstCells]
  · simp [Builtin.append_, run_underlying ht, sizeOf, typeInfo, hi, Builtin.lenOf, Builtin.firstCells, hnc, storeCells]
  · simp [Builtin.append_, run_underlying ht, sizeOf, typeInfo, hi, Builtin.lenOf, Builtin.firstCells, loadCells, loadCellsFrom, Result.andThen]
  · simp [Builtin.append_, run_underlying ht, sizeOf, typeInfo, hi, Builtin.lenOf, Builtin.firstCells, hnc, storeCells, loadCells, loadCellsFrom, Result.andThen]
theorem wpList_append_zero {P : Program} {w : World} {ops : Array Oper} {rest : List Oper} {o : Oper} {a : Act} {Q : Exit → Act → World → Prop} (hgd : o.guard = none) (s x : Operand) (t : TypeId)
    (ho : o.op = .call { callee := .builtin .append, args := #[s, x], argTypes := #[t, t] })
    (base : Nat) (e : TypeId) (i : TypeInfo) (size : Nat) (ht : P.underlying t = some (.slice e)) (hi : P.info? e = some i)
    (v : Value) (n : Nat) (xs : List Value) (hs : a.eval s = v) (hown : w.ownsRow base e size v n xs) (ad : Option Addr) (cap : Nat) (hx : a.eval x = .slice ad 0 cap)
    (h : wpList P ops Q rest (a.put o.dst v) w) : wpList P ops Q (o :: rest) a w := by
  refine wpList_plain hgd fun K hK => ?_
  have hrun := run_append_owned_zero (P := P) (w := w) base t o.type e i size ht hi v n xs hown ad cap
  unfold Oper.wp
  simp [execOp, ho, resolve, invoke, builtin, hs, hx, hrun, Result.andThen]
  exact hK _ _ h
theorem src_of_isOps {w : World} {ad : Option Addr} {n cap : Nat} {L : List Lx.OpV} (h : Lx.IsOps w ad n L) (h0 : 0 < n) : Src w (.slice ad n cap) n 6 (Lx.opCells L) := by
  obtain ⟨g, off, rfl, lt, hc⟩ := h.2 h0
  refine .inr ⟨g, off, cap, rfl, lt, by rw [Lx.opCells_len, h.1], fun j u hj => ?_⟩
  have hj1 : j < L.length * 6 := by have := (List.getElem?_eq_some_iff.1 hj).1; rwa [Lx.opCells_len] at this
  have hi : j / 6 < L.length := by omega
  have hL : L[j / 6]? = some L[j / 6] := List.getElem?_eq_getElem hi
  have h6 : (L[j / 6]).cells.length = 6 := rfl
  have hm : j % 6 < (L[j / 6]).cells.length := by rw [h6]; omega
  have hv : (L[j / 6]).cells[j % 6]? = some (L[j / 6]).cells[j % 6] := List.getElem?_eq_getElem hm
  have e1 := Lx.opCells_get hL (j % 6) _ hv
  have e2 := hc _ _ hL (j % 6) _ hv
  rw [show j / 6 * 6 + j % 6 = j by omega, hj] at e1
  rw [show off + j / 6 * 6 + j % 6 = off + j by omega] at e2
  rw [e2]; exact e1.symm
theorem wpList_append_isOps {P : Program} {w : World} {ops : Array Oper} {rest : List Oper} {o : Oper} {a : Act} {Q : Exit → Act → World → Prop} (hgd : o.guard = none) (s x : Operand) (t : TypeId)
    (ho : o.op = .call { callee := .builtin .append, args := #[s, x], argTypes := #[t, t] })
    (base : Nat) (e : TypeId) (i : TypeInfo) (z : Value) (bytes : Nat) (ht : P.underlying t = some (.slice e)) (hi : P.info? e = some i) (hz : i.zero = some z)
    (hsize : i.size = 6) (hby : i.bytes = bytes) (hzs : z.cells.size = 6)
    (v : Value) (hs : a.eval s = v) (hown : w.ownsRow base e 6 v 0 [])
    (ad : Option Addr) (n cap : Nat) (L : List Lx.OpV) (hx : a.eval x = .slice ad n cap) (hsrc : Lx.IsOps w ad n L) (h1 : ∀ u ∈ Lx.opCells L, u.oneCell' = true)
    (h63 : n ≤ maxLen) (hbytes : n * bytes ≤ 140737488355328) (hbase : base ≤ w.heap.size)
    (h : ∀ v' w', w'.ownsRow base e 6 v' n (Lx.opCells L) → w.grownBy w' v.ownBlock → wpList P ops Q rest (a.put o.dst v') w') : wpList P ops Q (o :: rest) a w := by
  rcases Nat.eq_zero_or_pos n with h0 | h0
  · subst h0
    have hL : L = [] := List.eq_nil_of_length_eq_zero hsrc.1
    subst hL
    exact wpList_append_zero hgd s x t ho base e i 6 ht hi v 0 [] hs hown ad cap hx (h v w hown (grown_refl _ _))
  · exact wpList_append_src hgd s x t ho base e i z 6 bytes ht hi hz hsize hby hzs (by decide) v 0 [] hs hown (.slice ad n cap) n (Lx.opCells L) hx (src_of_isOps hsrc h0) h1 (by omega) (by rw [Nat.zero_add]; exact hbytes) hbase (fun v' w' ha hb => h v' w' (by rwa [Nat.zero_add, List.nil_append] at ha) hb)
end Go.Proofs.YtnnkamfpcodnnaaGreatDoor
namespace Go.Proofs.YtnnkamfpcodnnaaGreatDoor.lawOpScripts
open Go.ChangeShapes Go.WideShapes Go.ChangeAt Go.RowKit
set_option maxRecDepth 100000 in
set_option maxHeartbeats 3200000 in
theorem walk (w : World) (ad : Option Addr) (n cap : Nat) (L : List Lx.OpV) (z : OpsIn w ad n L) (env : Env w) :
    Calls Tryz.prog 4 #[.slice ad n cap] w fun e w' => e = .returned (.bool true) ∧ Below w.heap.size w w' := by
  obtain ⟨io, hn, hin⟩ := z
  obtain ⟨i0, hi, hz0, hz1, hz2⟩ := info_parts infoOp
  have hj := fun o (ho : o ∈ L) => (hin o ho).2
  have HF := Lib.hid (few_any ad n cap L w io hj hn)
  have HW := Lib.hid (fun W (b : Below w.heap.size w W) => opworks_any W (env.below b))
  have I10 := Lib.hid io
  have HIN := Lib.hid hin
  have HJ := Lib.hid hj
  have HONE := Lib.hid Lx.opCells_one
  clear io hin hj
  go_enter Tryz.func4, Tryz.ntmps4
  go_wp2_with fail
  refine HF.out.mono ?_
  rintro e w1 ⟨b, rfl, hbn, b1⟩
  cases b
  · go_wp2_with fail
    refine (HW.out _ b1).mono ?_
    rintro e w2 ⟨rfl, b2⟩
    go_wp2_with fail
    go_ret
    exact ⟨rfl, b1.trans (b2.mono b1.size)⟩
  · have hn2 : n ≤ 10002 := hbn rfl
    have I11 := Lib.hid (I10.out.below b1)
    have B1 := Lib.hid b1
    have R0 := Lib.hid ((World.ownsRow_made (e := 40) (size := 6) (base := w1.heap.size) w1 #[] 0 (Nat.le_refl _) (by unfold maxLen; omega) rfl))
    have z1 := (Below.refl w1.heap.size w1).alloc (Nat.le_refl _) (.cells #[] 40)
    have Z1 := Lib.hid z1
    have I1A := Lib.hid (I11.out.below z1)
    clear z1 b1 hbn I10
    go_wp2_with (at_builtin; refine wpList_append_isOps rfl _ _ 23 rfl w1.heap.size 40 i0 _ 56 Tryz.underlying23 hi hz0 hz1 hz2 rfl _ rfl R0.out ad n cap L rfl I1A.out (HONE.out _) (by unfold maxLen; omega) (by omega) Z1.out.size ?_)
    intro v2 w2 own2 grow2
    have c2 := Z1.out.grown grow2 Z1.out.size (Lx.ownBase R0.out)
    obtain ⟨A2, k2, rfl, j2⟩ := Lx.row_isOps' own2
    have J22 := Lib.hid (j2 I11.out.1)
    have I12 := Lib.hid (I11.out.below c2)
    have B2 := Lib.hid (B1.out.trans (c2.mono B1.out.size))
    clear own2 grow2 c2 j2 I1A Z1 R0 I11 B1 hi hz0 hz1 hz2 i0
    have HP := Lib.hid (fun W (b : Below w.heap.size w W) (h : Lx.IsOps W ad n L) => printAll_any ad n cap L W (env.below b) h HIN.out (by omega))
    have HPr := Lib.hid (fun W (h : Lx.IsOps W ad n L) => r38_printAll ad n cap L W h HIN.out (by omega))
    have HL := Lib.hid (fun W (h : Lx.IsOps W ad n L) => length_any ad n cap L W h HJ.out (by omega))
    have HLr := Lib.hid (fun W (h : Lx.IsOps W ad n L) => r38_length ad n cap L W h HJ.out (by omega))
    have HC := Lib.hid (fun W (h : Lx.IsOps W ad n L) => plain_any ad n cap L W h HJ.out (by omega))
    have HCr := Lib.hid (fun W (h : Lx.IsOps W ad n L) => r38_plain ad n cap L W h HJ.out (by omega))
    have HN := Lib.hid (fun W (h : Lx.IsOps W ad n L) => normal_any ad n cap L W h HJ.out (by omega))
    have HNr := Lib.hid (fun W (h : Lx.IsOps W ad n L) => r38_normal ad n cap L W h HJ.out (by omega))
    have hnl : (Lx.normL L).length ≤ n := by
      unfold Lx.normL
      split
      · rename_i hx
        rw [← I12.out.1]; exact (Lx.normal_facts (Lx.script_ok hx).2).2.2.2.2
      · exact Nat.zero_le _
    have HS := Lib.hid (fun q A c A' c' (X : List Lx.OpV) W (h : Lx.IsOps W A q X) (h' : Lx.IsOps W A' q X) (hq : q ≤ 10002) => same_any A q c X A' q c' X W h h' (by omega) (by omega))
    unfold PrnAllIs at HP HPr
    unfold LenIs at HL HLr
    unfold PlnIs at HC HCr
    unfold NormPost at HN HNr
    unfold SameIs at HS
    simp only [Lx.sameB_yes rfl] at HS
    generalize Lx.prnAllS L = V1 at *
    generalize Lx.prnAllE L = V2 at *
    generalize Lx.lenV L = V3 at *
    generalize Lx.plnV L = V4 at *
    generalize Lx.scriptErr L = V5 at *
    generalize Lx.normL L = Y at *
    clear HF HIN HJ HONE
    go_wp2_with fail
    refine (HP.out _ B2.out I12.out).mono ?_
    rintro e w3 ⟨rfl, c3⟩
    have I13 := Lib.hid (I12.out.below c3)
    have J23 := Lib.hid (J22.out.below c3)
    have B3 := Lib.hid (B2.out.trans (c3.mono B2.out.size))
    clear c3 I12 J22 B2
    go_wp2_with fail
    refine (HPr.out _ I13.out).mono ?_
    rintro e w4 ⟨rfl, c4⟩
    have I14 := Lib.hid (I13.out.below c4)
    have J24 := Lib.hid (J23.out.below c4)
    have B4 := Lib.hid (B3.out.trans (c4.mono B3.out.size))
    clear c4 I13 J23 B3
    go_wp2_with fail
    refine (HL.out _ I14.out).mono ?_
    rintro e w5 ⟨rfl, c5⟩
    have I15 := Lib.hid (I14.out.below c5)
    have J25 := Lib.hid (J24.out.below c5)
    have B5 := Lib.hid (B4.out.trans (c5.mono B4.out.size))
    clear c5 I14 J24 B4
    go_wp2_with fail
    refine (HLr.out _ I15.out).mono ?_
    rintro e w6 ⟨rfl, c6⟩
    have I16 := Lib.hid (I15.out.below c6)
    have J26 := Lib.hid (J25.out.below c6)
    have B6 := Lib.hid (B5.out.trans (c6.mono B5.out.size))
    clear c6 I15 J25 B5
    go_wp2_with fail
    refine (HC.out _ I16.out).mono ?_
    rintro e w7 ⟨rfl, c7⟩
    have I17 := Lib.hid (I16.out.below c7)
    have J27 := Lib.hid (J26.out.below c7)
    have B7 := Lib.hid (B6.out.trans (c7.mono B6.out.size))
    clear c7 I16 J26 B6
    go_wp2_with fail
    refine (HCr.out _ I17.out).mono ?_
    rintro e w8 ⟨rfl, c8⟩
    have I18 := Lib.hid (I17.out.below c8)
    have J28 := Lib.hid (J27.out.below c8)
    have B8 := Lib.hid (B7.out.trans (c8.mono B7.out.size))
    clear c8 I17 J27 B7
    go_wp2_with fail
    refine (HN.out _ I18.out).mono ?_
    rintro e w9 ⟨v9, rfl, r9, b9⟩
    obtain ⟨A9, c9, rfl, j9⟩ := Lx.row_isOps' r9
    have K99 := Lib.hid (j9 rfl)
    have I19 := Lib.hid (I18.out.below b9)
    have J29 := Lib.hid (J28.out.below b9)
    have B9 := Lib.hid (B8.out.trans (b9.mono B8.out.size))
    clear r9 b9 j9 I18 J28 B8
    go_wp2_with fail
    refine (HNr.out _ I19.out).mono ?_
    rintro e wa ⟨va, rfl, ra, ba⟩
    obtain ⟨Aa, ca, rfl, ja⟩ := Lx.row_isOps' ra
    have Maa := Lib.hid (ja rfl)
    have I1a := Lib.hid (I19.out.below ba)
    have J2a := Lib.hid (J29.out.below ba)
    have K9a := Lib.hid (K99.out.below ba)
    have Ba := Lib.hid (B9.out.trans (ba.mono B9.out.size))
    clear ra ba ja I19 J29 K99 B9 HP HPr HL HLr HC HCr HN HNr
    go_wp2_with fail
    refine (HS.out _ _ _ _ _ _ _ K9a.out Maa.out (by omega)).mono ?_
    rintro e wb ⟨rfl, cb⟩
    have I1b := Lib.hid (I1a.out.below cb)
    have J2b := Lib.hid (J2a.out.below cb)
    have Bb := Lib.hid (Ba.out.trans (cb.mono Ba.out.size))
    clear cb I1a J2a Ba
    go_wp2_with fail
    refine (HS.out _ _ _ _ _ _ _ I1b.out J2b.out (by omega)).mono ?_
    rintro e wc ⟨rfl, cc⟩
    have Bc := Lib.hid (Bb.out.trans (cc.mono Bb.out.size))
    clear cc  Bb
    go_wp2_with fail
    refine (HW.out _ Bc.out).mono ?_
    rintro e wd ⟨rfl, bd⟩
    go_wp2_with fail
    go_ret
    exact ⟨rfl, Bc.out.trans (bd.mono Bc.out.size)⟩

set_option maxRecDepth 100000 in
/-- What the walk gives, for every argument that can be read. -/
theorem contract (H : Type) (enc : TypeId × Value → H) (W : World) (base : Nat) (args : Array Value) (ds gs : List (DataW H)) (before : List MemPlace)
    (hval : ∀ (j : Nat) t v, Tryz.f4.params[j]? = some t → args[j]? = some v → Value.okWide Tryz.prog W .any base t v)
    (hW : DataW.Whole enc Tryz.prog Tryz.f4.params.toList Rows.opScriptsSpec.vars false W args.toList ds gs before) (hsz : (DataW.weightsEach Tryz.prog (Tryz.f4.params.toList ++ (OpenSpec.ofChange Rows.opScriptsSpec).bare.plain.varTypes Tryz.prog) (ds ++ gs)).all (· ≤ reachBytes) = true) (hL : laidMetH Tryz.prog Rows.opScriptsRow.laid W) (hsh : W.ShapedOpen Tryz.prog) :
    Calls Tryz.prog 4 args W fun e W' => ∃ v, e = .returned v ∧ Rows.opScriptsSpec.post enc Tryz.prog Tryz.f4 false true false false W args v W' := by
  have hW' := hW
  obtain ⟨p, q, hA0, hV, rfl, hfz, hnd⟩ := hW
  have hA : DataW.TrodAll enc Tryz.prog W 0 (fun _ => true) true Tryz.f4.params.toList args.toList ds p := hA0
  rw [Tryz.params4] at hA hval
  obtain ⟨v0, vs0, d0, ds0, p0, q0, hargs, rfl, rfl, h0, r0⟩ := trodAll_cons hA
  obtain ⟨rfl, rfl, rfl⟩ := trodAll_nil r0
  obtain rfl : args = #[v0] := by cases args; simp_all
  obtain ⟨rfl, rfl⟩ := trodVars_none hV
  obtain ⟨a0, len0, cap0, rfl⟩ := okWide_slice Tryz.underlying23 (hval 0 23 v0 rfl rfl)
  have k0 := h0
  have lt0 : ∀ x ∈ p0, x.block < W.heap.size := by obtain ⟨m, hm⟩ := k0; exact DataW.trod_lt m _ _ _ hm
  obtain ⟨L0, z0⟩ : ∃ L, OpsIn W a0 len0 L := by
    obtain ⟨fuel, hf⟩ := h0
    exact opsIn_of hf
  clear hA0
  refine (walk W a0 len0 cap0 L0 z0 (env_of hL hsh)).mono fun e W' ⟨he, bel⟩ => ?_
  subst he
  exact ⟨_, rfl, _, _, _, [], _, [], hW', trodAll_mk1 (shut_bool Tryz.underlying4 _), (trodAll_cons_mk (Below.trod laidOut (by kernel_rfl) (of_decide_eq_true (by kernel_rfl)) k0 bel lt0) trodAll_mk0), rfl, bel.frame _, fun h => by cases h⟩

set_option maxRecDepth 100000 in
theorem reads (os : Os) {H : Type} (enc : TypeId × Value → H) : ∃ places, DataW.whole enc Tryz.prog ((World.doorLaid Tryz.prog 72 os).forCall (fun _ _ => 0) ⟨#[], #[.slice none 0 0], []⟩).memory Tryz.f4.params.toList Rows.opScriptsSpec.vars false (#[.slice none 0 0] : Array Value).toList 8 = some ([.nil], [], places) :=
  ⟨[], by kernel_rfl⟩

set_option maxRecDepth 100000 in
theorem lifted (os : Os) (started : os.Started) (H : Type) (enc : TypeId × Value → H) (F : Stop.Interp) :
    ReturnsInHanded {} Tryz.checked os 4 .any ((OpenSpec.ofChange Rows.opScriptsSpec).preRow enc Tryz.prog Tryz.f4 Rows.opScriptsRow.domain false Rows.opScriptsRow.laid) (((OpenSpec.ofChange Rows.opScriptsSpec).at F).post enc Tryz.prog Tryz.f4 false true false false) := by
  obtain ⟨places, hx⟩ := reads os enc
  refine returnsInHanded_of_row (C := Tryz.checked) (s := OpenSpec.ofChange Rows.opScriptsSpec) own started (by kernel_rfl) Tryz.func4
    (witness_row_atRef (enc := enc) (C := Tryz.checked) false (World.doorLaid Tryz.prog 72 os) #[.slice none 0 0] rfl (door_vars os _) (door_rest os _) (by kernel_rfl)
      (OpenSpec.preRow_of_cond 8 hx (by kernel_rfl) (fun k hk => by cases hk) (by kernel_rfl) (door_laid os _))) ?_
  intro W base args ds gs before hval hW _ _ hsz hL hsh _
  exact contract H enc W base args ds gs before hval hW hsz hL hsh

theorem said : Rows.OpScriptsSaid :=
  OpenClaim.holds_of_cond 4 Tryz.f4 rfl rfl rfl rfl rfl rfl rfl ⟨rfl, rfl, rfl, rfl, rfl⟩ rfl rfl rfl rfl rfl (by kernel_rfl) Tryz.func4 (by kernel_rfl)
    (of_decide_eq_true (by kernel_rfl)) (by unfold Func.isWrapper; first | (rw [if_pos (by decide +kernel)]; kernel_rfl) | (rw [if_neg (by decide +kernel)]; exact ⟨rfl, rfl⟩))
    (fun os started H enc _ F => by rw [OpenClaim.pre_eq_preRow]; exact lifted os started H enc F)

theorem plain (f : FuncId) (fn : Func) (hf : Tryz.pinned.checked.prog.funcNamed "wakeman/wakemanlaw38.OpScripts" = some f) (hfn : Tryz.pinned.checked.prog.funcs[f]? = some fn) :
    Rows.opScriptsCard.stood.looks = Tryz.pinned.checked.prog.looks [] ∧ ∀ (j : Nat) t, fn.params[j]? = some t → Tryz.pinned.checked.prog.wantsStandIn t = false := by
  obtain rfl : f = 4 := Option.some.inj ((show Tryz.prog.funcNamed "wakeman/wakemanlaw38.OpScripts" = some 4 by kernel_rfl).symm.trans hf) |>.symm
  obtain rfl : fn = Tryz.f4 := (Option.some.inj (Tryz.func4.symm.trans hfn)).symm
  refine ⟨by kernel_rfl, fun j t ht => ?_⟩
  rw [Tryz.params4] at ht
  have hm : t ∈ [23] := by
    have := Array.mem_of_getElem? ht
    simpa using this
  have hall : ([23].all fun u => !Tryz.prog.wantsStandIn u) = true := by kernel_rfl
  exact (show Tryz.prog.wantsStandIn t = false by simpa using List.all_eq_true.1 hall t hm)

/-- The card. -/
theorem card : Rows.OpScriptsCardSaid :=
  Claim7.holds_tied_plain_at .later [] _ _ _ _ said (fun _ h => by cases h) (by kernel_rfl) (fun _ h => by cases h) opScripts_row_tie rfl ⟨rfl, rfl⟩ (by kernel_rfl) rfl plain (by kernel_rfl)
end Go.Proofs.YtnnkamfpcodnnaaGreatDoor.lawOpScripts
