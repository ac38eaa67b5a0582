/- The walk of op.Normal. -/
import Derived.Test.YtnnkamfpcodnnaaDoorOpN
import Derived.Test.YtnnkamfpcodnnaaDoorOpA
import Derived.Test.YtnnkamfpcodnnaaDoorOpK
import Derived.Laws.OwnMore
import Derived.RegionTactic
import Derived.ChangeAlike
import Derived.IntWalk
namespace Go.Proofs.YtnnkamfpcodnnaaDoor
open Go.RowKit

namespace Lx
theorem opCells_len (l : List OpV) : (opCells l).length = l.length * 6 := by
  induction l with
  | nil => rfl
  | cons a t ih =>
    show (a.cells ++ opCells t).length = _
    rw [List.length_append, ih, List.length_cons]
    have : a.cells.length = 6 := rfl
    omega
theorem opCells_set (a : List OpV) (p : OpV) (d : Int) : (opCells (a ++ [p])).set (a.length * 6 + 1) (.int .i64 d) = opCells (a ++ [⟨p.k, d, p.t, p.r, p.ok, p.job⟩]) := by
  rw [opCells_snoc, opCells_snoc, List.set_append_right _ _ (by rw [opCells_len]; omega), opCells_len, show a.length * 6 + 1 - a.length * 6 = 1 by omega]
  rfl
/-- A store into a row of the call's own, and one into a block laid behind it. -/
theorem joined {wr : World} {base cap q g : Nat} {T : TypeId} {xs : List Value} (hrow : wr.ownsRow base T 6 (.slice (some ⟨g, 0, none⟩) q cap) q xs) (hg : g < wr.heap.size) (o : Obj) (nq j j2 : Nat) (u u2 : Value) :
    ((((wr.alloc o).drewN nq).setCell ⟨g, j, none⟩ u).setCell ⟨wr.heap.size, j2, none⟩ u2).ownsRow base T 6 (.slice (some ⟨g, 0, none⟩) q cap) q (xs.set j u) := by
  have h1 := ((ownDrew (hrow.alloc o) nq).stored j u).1
  refine ⟨h1.1, ?_⟩
  rcases h1.2 with h0 | ⟨g', c, cur, e1, e2, e3, e4⟩
  · exact .inl h0
  · have : g' = g := by injection e1 with e1; injection e1 with e1; injection e1 with e1; exact e1.symm
    subst this
    exact .inr ⟨g', c, cur, e1, e2, (heap_setCell_other _ _ _ _ (by show g' ≠ wr.heap.size; omega)).trans e3, e4⟩
theorem joinedBelow {w1 wr : World} {g : Nat} (hb : Below w1.heap.size w1 wr) (hg : w1.heap.size ≤ g) (o : Obj) (nq j j2 : Nat) (u u2 : Value) :
    Below w1.heap.size w1 ((((wr.alloc o).drewN nq).setCell ⟨g, j, none⟩ u).setCell ⟨wr.heap.size, j2, none⟩ u2) :=
  (((hb.alloc hb.size o).trans (below_drewN _ _ nq)).setCell (p := ⟨g, j, none⟩) hg u).setCell (p := ⟨wr.heap.size, j2, none⟩) hb.size u2
def normL (L : List OpV) : List OpV := if scriptErr L = 0 then normal L else []
end Lx
def NormPost (L : List Lx.OpV) (x : Int) (w : World) (e : Ending) (w' : World) : Prop := ∃ v, e = .returned (.tuple #[v, .int .i64 x]) ∧ w'.ownsRow w.heap.size 23 6 v L.length (Lx.opCells L) ∧ Below w.heap.size w w'
set_option maxRecDepth 100000 in
set_option maxHeartbeats 3200000 in
theorem normal_any (ad : Option Addr) (n cap : Nat) (L : List Lx.OpV) (w : World) (h : Lx.IsOps w ad n L) (hj : ∀ o ∈ L, o.job.size ≤ maxLen) (hn : n ≤ 1000000000) :
    Calls Tryd.prog 19 #[.slice ad n cap] w (NormPost (Lx.normL L) (Lx.scriptErr L) w) := by
  have HS := Lib.hid (script_any ad n cap L w h hj hn)
  unfold CheckIs at HS
  by_cases hx : Lx.scriptErr L = 0
  · have hok := Lx.script_ok hx
    have hv : Lx.normL L = Lx.normal L := by unfold Lx.normL; rw [if_pos hx]
    rw [hx] at HS ⊢
    rw [hv]
    obtain ⟨i0, hi, hz0, hz1, hz2⟩ := info_parts infoOp
    have H := Lib.hid h
    have HA := Lib.hid hok.2
    have hn1 : n ≤ 10000 := by rw [← h.1]; exact hok.1
    clear hx hok hv h hj hn
    go_enter Tryd.func19, Tryd.ntmps19
    go_wp2_with fail
    refine HS.out.mono ?_
    rintro e w1 ⟨rfl, hb1⟩
    have Hb1 := Lib.hid hb1
    clear hb1
    go_wp2_with fail
    go_loopw [5, 17] (fun tx i wr => ∃ k : Nat, k ≤ n ∧ i = .int .i64 k ∧ wr.ownsRow w1.heap.size 23 6 tx (Lx.normal (L.take k)).length (Lx.opCells (Lx.normal (L.take k))) ∧ Below w1.heap.size w1 wr) (fun _ i _ => n - (intOf i).toNat)
    case atStart => exact ⟨0, Nat.zero_le _, rfl, World.ownsRow_nil _ _ _ _, Below.refl _ _⟩
    case round =>
      obtain ⟨k, hk, rfl, hrow, hbel⟩ := hrel
      have hfa := Lx.normal_facts (L := L.take k) (fun x hx => HA.out x (List.mem_of_mem_take hx))
      have hl : (L.take k).length ≤ k := List.length_take_le _ _
      have Hbel := Lib.hid hbel
      clear hbel
      by_cases hlt : k < n
      · obtain ⟨o, ho⟩ : ∃ o, L[k]? = some o := ⟨_, List.getElem?_eq_getElem (by rw [H.out.1]; exact hlt)⟩
        obtain ⟨g, off, rfl, lt, hc⟩ := (H.out.below (Hb1.out.trans (Hbel.out.mono Hb1.out.size))).2 (by omega)
        have hoe := HA.out o (List.mem_of_getElem? ho)
        have hdb := Lx.d_bd hoe
        have hst := Lx.normal_take ho
        have hol : (Lx.normal (L.take k)).length ≤ k := Nat.le_trans hfa.2.2.2.2 hl
        have hoa := hfa.1
        generalize Lx.normal (L.take k) = out at hst hol hoa hrow
        obtain ⟨ok, od, ot, or, oo, oj⟩ := o
        have c0 : wr.cell? ⟨g, off + k * 6, none⟩ = some (.int .i64 ok) := hc k _ ho 0 _ rfl
        have c1 := hc k _ ho 1 _ rfl
        have c2 := hc k _ ho 2 _ rfl
        have c3 := hc k _ ho 3 _ rfl
        have c4 := hc k _ ho 4 _ rfl
        have c5 := hc k _ ho 5 _ rfl
        have hki : (k : Int) < (n : Int) := by omega
        have hkb : (k : Int) ≤ 10000 := by omega
        clear hc ho hfa hl
        rcases List.eq_nil_or_concat out with rfl | ⟨a, p, rfl⟩
        · obtain ⟨ad', cap', rfl⟩ := Lx.slice_of_row hrow
          have hend : ∀ v' (w6 : World), w6.ownsRow w1.heap.size 23 6 v' (0 + 1) (Lx.opCells [] ++ [.int .i64 ok, .int .i64 od, .int .i64 ot, .int .i64 or, .bool oo, .string oj]) → w6.ownsRow w1.heap.size 23 6 v' (Lx.normStep [] ⟨ok, od, ot, or, oo, oj⟩).length (Lx.opCells (Lx.normStep [] ⟨ok, od, ot, or, oo, oj⟩)) := fun _ _ h => h
          rw [List.length_nil] at hrow
          rw [List.length_nil]
          have Hrow := Lib.hid hrow
          have HST := Lib.hid hst
          have HEND := Lib.hid hend
          have hd1 : ok = 1 → 1 ≤ od := hdb.2.2.2
          clear hrow hst hol hoa hend hdb hoe
          by_cases k1 : ok = 1
          · subst k1
            have hdp : 1 ≤ od := hd1 rfl
            clear hd1
            have hcs : ∀ j u, ([.int .i64 1, .int .i64 od, .int .i64 ot, .int .i64 or, .bool oo, .string oj] : List Value)[j]? = some u → ((wr.alloc (.cells #[.int .i64 1, .int .i64 od, .int .i64 ot, .int .i64 or, .bool oo, .string oj] 23)).alloc (.cells #[.int .i64 1, .int .i64 od, .int .i64 ot, .int .i64 or, .bool oo, .string oj] 23)).cell? ((⟨wr.heap.size + 1, 0, none⟩ : Addr).add j) = some u := by
              have := Lx.cell_six_new (wr.alloc (.cells #[.int .i64 1, .int .i64 od, .int .i64 ot, .int .i64 or, .bool oo, .string oj] 23)) ⟨1, od, ot, or, oo, oj⟩ 23
              rw [World.size_alloc] at this
              exact this
            have HCS := Lib.hid hcs
            have hbz := Hbel.out.size
            clear hcs
            go_wp2_with (at_builtin; refine wpList_append_own _ rfl _ _ 34 rfl w1.heap.size 23 i0 _ 6 56 Tryd.underlying34 hi hz0 hz1 hz2 rfl (by decide) _ _ _ rfl ((Hrow.out.alloc _).alloc _) ⟨wr.heap.size + 1, 0, none⟩ 1 1 [.int .i64 1, .int .i64 od, .int .i64 ot, .int .i64 or, .bool oo, .string oj] rfl rfl HCS.out (by simp [Value.oneCell']) (by unfold maxLen; omega) (by omega) (by simp; omega) ?_)
            intro v' w6 hown' hgrow _
            have hb6 := ((Hbel.out.alloc Hbel.out.size (.cells #[.int .i64 1, .int .i64 od, .int .i64 ot, .int .i64 or, .bool oo, .string oj] 23)).alloc (Hbel.out.alloc Hbel.out.size _).size (.cells #[.int .i64 1, .int .i64 od, .int .i64 ot, .int .i64 or, .bool oo, .string oj] 23)).grown hgrow (by simp; omega) (Lx.ownBase Hrow.out)
            clear hgrow
            go_wp2_with fail
            go_roundw
            case rel => exact ⟨k + 1, by omega, by go_num, by rw [HST.out]; exact HEND.out _ _ hown', hb6⟩
            case measure => simp [intOf]; omega
          · have kn : (ok != 1) = true := by rw [bne_iff_ne]; exact k1
            clear hd1
            have hcs : ∀ j u, ([.int .i64 ok, .int .i64 od, .int .i64 ot, .int .i64 or, .bool oo, .string oj] : List Value)[j]? = some u → ((wr.alloc (.cells #[.int .i64 ok, .int .i64 od, .int .i64 ot, .int .i64 or, .bool oo, .string oj] 23)).alloc (.cells #[.int .i64 ok, .int .i64 od, .int .i64 ot, .int .i64 or, .bool oo, .string oj] 23)).cell? ((⟨wr.heap.size + 1, 0, none⟩ : Addr).add j) = some u := by
              have := Lx.cell_six_new (wr.alloc (.cells #[.int .i64 ok, .int .i64 od, .int .i64 ot, .int .i64 or, .bool oo, .string oj] 23)) ⟨ok, od, ot, or, oo, oj⟩ 23
              rw [World.size_alloc] at this
              exact this
            have HCS := Lib.hid hcs
            have hbz := Hbel.out.size
            clear hcs
            go_wp2_with (at_builtin; refine wpList_append_own _ rfl _ _ 34 rfl w1.heap.size 23 i0 _ 6 56 Tryd.underlying34 hi hz0 hz1 hz2 rfl (by decide) _ _ _ rfl ((Hrow.out.alloc _).alloc _) ⟨wr.heap.size + 1, 0, none⟩ 1 1 [.int .i64 ok, .int .i64 od, .int .i64 ot, .int .i64 or, .bool oo, .string oj] rfl rfl HCS.out (by simp [Value.oneCell']) (by unfold maxLen; omega) (by omega) (by simp; omega) ?_)
            intro v' w6 hown' hgrow _
            have hb6 := ((Hbel.out.alloc Hbel.out.size (.cells #[.int .i64 ok, .int .i64 od, .int .i64 ot, .int .i64 or, .bool oo, .string oj] 23)).alloc (Hbel.out.alloc Hbel.out.size _).size (.cells #[.int .i64 ok, .int .i64 od, .int .i64 ot, .int .i64 or, .bool oo, .string oj] 23)).grown hgrow (by simp; omega) (Lx.ownBase Hrow.out)
            clear hgrow
            go_wp2_with fail
            go_roundw
            case rel => exact ⟨k + 1, by omega, by go_num, by rw [HST.out]; exact HEND.out _ _ hown', hb6⟩
            case measure => simp [intOf]; omega
        · rw [List.concat_eq_append] at hst hol hoa hrow
          obtain ⟨m, hm⟩ : ∃ m, a.length = m := ⟨_, rfl⟩
          obtain ⟨q, hq⟩ : ∃ q, q = m + 1 := ⟨_, rfl⟩
          have hlen : (a ++ [p]).length = q := by simp [hm, hq]
          rw [hlen] at hol hrow
          obtain ⟨g', cap', rfl, lt', hrc⟩ := Lx.ownPos hrow (by omega)
          have hpg : ∀ (j : Nat) (v : Value), p.cells[j]? = some v → wr.cell? ⟨g', m * 6 + j, none⟩ = some v := fun j v hj => hrc _ _ (Lx.opCells_get (l := a ++ [p]) (by rw [← hm]; simp) j v hj)
          have hpe := hoa.last
          have hpd := Lx.d_bd hpe
          have hset := fun d => Lx.opCells_set a p d
          rw [hm] at hset
          have hptick := fun h => Lx.tick_of hpe h
          have hotick := fun h => Lx.tick_of hoe h
          obtain ⟨pk, pd, pt, pr, po, pj⟩ := p
          have r0 : wr.cell? ⟨g', m * 6, none⟩ = some (.int .i64 pk) := hpg 0 _ rfl
          have r1 := hpg 1 _ rfl
          have hq1 : (q : Int) - 1 = (m : Int) := by omega
          have hqw : IntKind.i64.wrap (m : Int) = (m : Int) := IntWalk.i64_in _ (by omega)
          have hmq : (m : Int) < (q : Int) := by omega
          have hm0 : (0 : Int) ≤ (m : Int) := by omega
          have hqb : (q : Int) ≤ 10000 := by omega
          by_cases hk1 : pk = 1 ∧ ok = 1
          · obtain ⟨kp, ko⟩ := hk1
            have pe := hptick kp
            have oe := hotick ko
            injection pe with _ _ p2 p3 p4 p5
            injection oe with _ _ o2 o3 o4 o5
            subst kp ko p2 p3 p4 p5 o2 o3 o4 o5
            have hp1 : 1 ≤ pd := hpd.2.2.2 rfl
            have hp2 : pd ≤ 100000 := hpd.2.1
            have ho1 : 1 ≤ od := hdb.2.2.2 rfl
            have ho2 : od ≤ 100000 := hdb.2.1
            have Hrow := Lib.hid hrow
            have HSET := Lib.hid hset
            have HST := Lib.hid hst
            have hfz : wr.frozen? ⟨g', m * 6 + 1, none⟩ = false := hrow.frozenAt _
            have hgw : g' < wr.heap.size := lt'
            have hgb : w1.heap.size ≤ g' := Lx.ownBase hrow g' rfl
            clear hset hst hrow hptick hotick hpg hrc hoa hpe hpd hoe hdb hlen
            by_cases hd : pd + od ≤ 100000
            · have hmin : min od (100000 - pd) = od := by omega
              have hend : Lx.normStep (a ++ [⟨1, pd, 0, 0, false, ⟨#[]⟩⟩]) ⟨1, od, 0, 0, false, ⟨#[]⟩⟩ = a ++ [⟨1, pd + od, 0, 0, false, ⟨#[]⟩⟩] := Lx.step_fit ⟨rfl, rfl⟩ hd
              have hln : (a ++ [(⟨1, pd + od, 0, 0, false, ⟨#[]⟩⟩ : Lx.OpV)]).length = q := by simp [hm, hq]
              have HEND := Lib.hid hend
              have HLN := Lib.hid hln
              clear hend hln hm hq hol
              go_wp2_with fail
              go_quiet (fail)
              go_wp2_with fail
              go_roundw
              case rel =>
                refine ⟨k + 1, by omega, by go_num, ?_, Lx.joinedBelow Hbel.out hgb _ _ _ _ _ _⟩
                rw [HST.out, HEND.out, HLN.out, ← HSET.out]
                exact Lx.joined Hrow.out hgw _ _ _ _ _ _
              case measure => simp [intOf]; omega
            · have hmin : min od (100000 - pd) = 100000 - pd := by omega
              have hpp : pd + (100000 - pd) = 100000 := by omega
              have hod : 0 < od - (100000 - pd) := by omega
              have hend : ∀ v' (w6 : World), w6.ownsRow w1.heap.size 23 6 v' (q + 1) ((Lx.opCells (a ++ [⟨1, pd, 0, 0, false, ⟨#[]⟩⟩])).set (m * 6 + 1) (.int .i64 100000) ++ [.int .i64 1, .int .i64 (od - (100000 - pd)), .int .i64 0, .int .i64 0, .bool false, .string ⟨#[]⟩]) → w6.ownsRow w1.heap.size 23 6 v' (Lx.normStep (a ++ [⟨1, pd, 0, 0, false, ⟨#[]⟩⟩]) ⟨1, od, 0, 0, false, ⟨#[]⟩⟩).length (Lx.opCells (Lx.normStep (a ++ [⟨1, pd, 0, 0, false, ⟨#[]⟩⟩]) ⟨1, od, 0, 0, false, ⟨#[]⟩⟩)) := by
                intro v' w6 h
                rw [HSET.out] at h
                rw [Lx.step_over ⟨rfl, rfl⟩ hd]
                have e : od - (100000 - pd) = pd + od - 100000 := by omega
                rw [e] at h
                rw [show (a ++ [Lx.tickV 100000] ++ [Lx.tickV (pd + od - 100000)]).length = q + 1 by simp [hm, hq], Lx.opCells_snoc]
                exact h
              have HEND := Lib.hid hend
              have Hpp := Lib.hid hpp
              clear hend hm hq hd hpp
              go_wp2_with fail
              go_quiet (fail)
              have hcs : ∀ j u, ([.int .i64 1, .int .i64 (od - (100000 - pd)), .int .i64 0, .int .i64 0, .bool false, .string ⟨#[]⟩] : List Value)[j]? = some u → (((((wr.alloc (.cells #[.int .i64 1, .int .i64 od, .int .i64 0, .int .i64 0, .bool false, .string ⟨#[]⟩] 23)).drewN nq).setCell ⟨g', m * 6 + 1, none⟩ (.int .i64 100000)).setCell ⟨wr.heap.size, 1, none⟩ (.int .i64 (od - (100000 - pd)))).alloc (.cells #[.int .i64 1, .int .i64 (od - (100000 - pd)), .int .i64 0, .int .i64 0, .bool false, .string ⟨#[]⟩] 23)).cell? ((⟨wr.heap.size + 1, 0, none⟩ : Addr).add j) = some u := by
                have := Lx.cell_six_new ((((wr.alloc (.cells #[.int .i64 1, .int .i64 od, .int .i64 0, .int .i64 0, .bool false, .string ⟨#[]⟩] 23)).drewN nq).setCell ⟨g', m * 6 + 1, none⟩ (.int .i64 100000)).setCell ⟨wr.heap.size, 1, none⟩ (.int .i64 (od - (100000 - pd)))) ⟨1, od - (100000 - pd), 0, 0, false, ⟨#[]⟩⟩ 23
                rw [show ((((wr.alloc (.cells #[.int .i64 1, .int .i64 od, .int .i64 0, .int .i64 0, .bool false, .string ⟨#[]⟩] 23)).drewN nq).setCell ⟨g', m * 6 + 1, none⟩ (.int .i64 100000)).setCell ⟨wr.heap.size, 1, none⟩ (.int .i64 (od - (100000 - pd)))).heap.size = wr.heap.size + 1 by simp [World.setCell, World.drewN]] at this
                exact this
              have HCS := Lib.hid hcs
              have hjo := Lx.joined Hrow.out hgw (.cells #[.int .i64 1, .int .i64 od, .int .i64 0, .int .i64 0, .bool false, .string ⟨#[]⟩] 23) nq (m * 6 + 1) 1 (.int .i64 100000) (.int .i64 (od - (100000 - pd)))
              have hjb := Lx.joinedBelow Hbel.out hgb (.cells #[.int .i64 1, .int .i64 od, .int .i64 0, .int .i64 0, .bool false, .string ⟨#[]⟩] 23) nq (m * 6 + 1) 1 (.int .i64 100000) (.int .i64 (od - (100000 - pd)))
              have HJO := Lib.hid hjo
              have HJB := Lib.hid hjb
              have hjz : ((((wr.alloc (.cells #[.int .i64 1, .int .i64 od, .int .i64 0, .int .i64 0, .bool false, .string ⟨#[]⟩] 23)).drewN nq).setCell ⟨g', m * 6 + 1, none⟩ (.int .i64 100000)).setCell ⟨wr.heap.size, 1, none⟩ (.int .i64 (od - (100000 - pd)))).heap.size = wr.heap.size + 1 := by simp [World.setCell, World.drewN]
              have HJZ := Lib.hid hjz
              have hpp := Hpp.out
              have hbz := Hbel.out.size
              clear hcs hjo hjb hjz
              go_wp2_with (at_builtin; refine wpList_append_own _ rfl _ _ 34 rfl w1.heap.size 23 i0 _ 6 56 Tryd.underlying34 hi hz0 hz1 hz2 rfl (by decide) _ _ _ rfl (HJO.out.alloc _) ⟨wr.heap.size + 1, 0, none⟩ 1 1 [.int .i64 1, .int .i64 (od - (100000 - pd)), .int .i64 0, .int .i64 0, .bool false, .string ⟨#[]⟩] rfl rfl HCS.out (by simp [Value.oneCell']) (by unfold maxLen; omega) (by omega) (by simp [World.setCell, World.drewN]; omega) ?_)
              intro v' w6 hown' hgrow _
              have hb6 := (HJB.out.alloc HJB.out.size (.cells #[.int .i64 1, .int .i64 (od - (100000 - pd)), .int .i64 0, .int .i64 0, .bool false, .string ⟨#[]⟩] 23)).grown hgrow (by rw [World.size_alloc, HJZ.out]; omega) (Lx.ownBase HJO.out)
              clear hgrow
              go_wp2_with fail
              go_roundw
              case rel => exact ⟨k + 1, by omega, by go_num, by rw [HST.out]; exact HEND.out _ _ hown', hb6⟩
              case measure => simp [intOf]; omega
          · have hst2 := hst.trans (Lx.step_apart (a := a) hk1)
            have hend : ∀ v' (w6 : World), w6.ownsRow w1.heap.size 23 6 v' (q + 1) (Lx.opCells (a ++ [⟨pk, pd, pt, pr, po, pj⟩]) ++ [.int .i64 ok, .int .i64 od, .int .i64 ot, .int .i64 or, .bool oo, .string oj]) → w6.ownsRow w1.heap.size 23 6 v' (a ++ [(⟨pk, pd, pt, pr, po, pj⟩ : Lx.OpV)] ++ [(⟨ok, od, ot, or, oo, oj⟩ : Lx.OpV)]).length (Lx.opCells (a ++ [⟨pk, pd, pt, pr, po, pj⟩] ++ [⟨ok, od, ot, or, oo, oj⟩])) := by
              intro v' w6 h
              rw [List.length_append, hlen, Lx.opCells_snoc]; exact h
            have HEND := Lib.hid hend
            have HST := Lib.hid hst2
            have Hrow := Lib.hid hrow
            have hd1 : ok = 1 → 1 ≤ od := hdb.2.2.2
            clear hend hst2 hst hrow hset hptick hotick hpg hrc hoa hpe hpd hoe hdb hlen hol
            have hmw := hqw
            clear hm hq
            by_cases k1 : ok = 1
            · subst k1
              have kp : (pk == 1) = false := by rw [beq_eq_false_iff_ne]; exact fun h => hk1 ⟨h, rfl⟩
              have hdp : 1 ≤ od := hd1 rfl
              clear hd1 hk1
              have hcs : ∀ j u, ([.int .i64 1, .int .i64 od, .int .i64 ot, .int .i64 or, .bool oo, .string oj] : List Value)[j]? = some u → ((wr.alloc (.cells #[.int .i64 1, .int .i64 od, .int .i64 ot, .int .i64 or, .bool oo, .string oj] 23)).alloc (.cells #[.int .i64 1, .int .i64 od, .int .i64 ot, .int .i64 or, .bool oo, .string oj] 23)).cell? ((⟨wr.heap.size + 1, 0, none⟩ : Addr).add j) = some u := by
                have := Lx.cell_six_new (wr.alloc (.cells #[.int .i64 1, .int .i64 od, .int .i64 ot, .int .i64 or, .bool oo, .string oj] 23)) ⟨1, od, ot, or, oo, oj⟩ 23
                rw [World.size_alloc] at this
                exact this
              have HCS := Lib.hid hcs
              have hbz := Hbel.out.size
              clear hcs
              go_wp2_with (at_builtin; refine wpList_append_own _ rfl _ _ 34 rfl w1.heap.size 23 i0 _ 6 56 Tryd.underlying34 hi hz0 hz1 hz2 rfl (by decide) _ _ _ rfl ((Hrow.out.alloc _).alloc _) ⟨wr.heap.size + 1, 0, none⟩ 1 1 [.int .i64 1, .int .i64 od, .int .i64 ot, .int .i64 or, .bool oo, .string oj] rfl rfl HCS.out (by simp [Value.oneCell']) (by unfold maxLen; omega) (by omega) (by simp; omega) ?_)
              intro v' w6 hown' hgrow _
              have hb6 := ((Hbel.out.alloc Hbel.out.size (.cells #[.int .i64 1, .int .i64 od, .int .i64 ot, .int .i64 or, .bool oo, .string oj] 23)).alloc (Hbel.out.alloc Hbel.out.size _).size (.cells #[.int .i64 1, .int .i64 od, .int .i64 ot, .int .i64 or, .bool oo, .string oj] 23)).grown hgrow (by simp; omega) (Lx.ownBase Hrow.out)
              clear hgrow
              go_wp2_with fail
              go_roundw
              case rel => exact ⟨k + 1, by omega, by go_num, by rw [HST.out]; exact HEND.out _ _ hown', hb6⟩
              case measure => simp [intOf]; omega
            · have kn : (ok != 1) = true := by rw [bne_iff_ne]; exact k1
              have ke : (ok == 1) = false := by rw [beq_eq_false_iff_ne]; exact k1
              clear hd1 hk1
              have hcs : ∀ j u, ([.int .i64 ok, .int .i64 od, .int .i64 ot, .int .i64 or, .bool oo, .string oj] : List Value)[j]? = some u → ((wr.alloc (.cells #[.int .i64 ok, .int .i64 od, .int .i64 ot, .int .i64 or, .bool oo, .string oj] 23)).alloc (.cells #[.int .i64 ok, .int .i64 od, .int .i64 ot, .int .i64 or, .bool oo, .string oj] 23)).cell? ((⟨wr.heap.size + 1, 0, none⟩ : Addr).add j) = some u := by
                have := Lx.cell_six_new (wr.alloc (.cells #[.int .i64 ok, .int .i64 od, .int .i64 ot, .int .i64 or, .bool oo, .string oj] 23)) ⟨ok, od, ot, or, oo, oj⟩ 23
                rw [World.size_alloc] at this
                exact this
              have HCS := Lib.hid hcs
              have hbz := Hbel.out.size
              clear hcs
              go_wp2_with (at_builtin; refine wpList_append_own _ rfl _ _ 34 rfl w1.heap.size 23 i0 _ 6 56 Tryd.underlying34 hi hz0 hz1 hz2 rfl (by decide) _ _ _ rfl ((Hrow.out.alloc _).alloc _) ⟨wr.heap.size + 1, 0, none⟩ 1 1 [.int .i64 ok, .int .i64 od, .int .i64 ot, .int .i64 or, .bool oo, .string oj] rfl rfl HCS.out (by simp [Value.oneCell']) (by unfold maxLen; omega) (by omega) (by simp; omega) ?_)
              intro v' w6 hown' hgrow _
              have hb6 := ((Hbel.out.alloc Hbel.out.size (.cells #[.int .i64 ok, .int .i64 od, .int .i64 ot, .int .i64 or, .bool oo, .string oj] 23)).alloc (Hbel.out.alloc Hbel.out.size _).size (.cells #[.int .i64 ok, .int .i64 od, .int .i64 ot, .int .i64 or, .bool oo, .string oj] 23)).grown hgrow (by simp; omega) (Lx.ownBase Hrow.out)
              clear hgrow
              go_wp2_with fail
              go_roundw
              case rel => exact ⟨k + 1, by omega, by go_num, by rw [HST.out]; exact HEND.out _ _ hown', hb6⟩
              case measure => simp [intOf]; omega
      · obtain rfl : k = n := by omega
        rw [List.take_of_length_le (by rw [H.out.1]; exact Nat.le_refl _)] at hrow
        have Hrow := Lib.hid hrow
        clear hrow hfa hl
        go_wp2_with fail
        go_ret2
        exact ⟨_, rfl, own_base Hrow.out Hb1.out.size, Hb1.out.trans (Hbel.out.mono Hb1.out.size)⟩
  · have hne : (Lx.scriptErr L != 0) = true := by rw [bne_iff_ne]; exact hx
    have hv : Lx.normL L = [] := by unfold Lx.normL; rw [if_neg hx]
    rw [hv]
    generalize Lx.scriptErr L = x at *
    clear hx hv h hj
    go_enter Tryd.func19, Tryd.ntmps19
    go_wp2_with fail
    refine HS.out.mono ?_
    rintro e w1 ⟨rfl, hb1⟩
    go_wp2_with fail
    go_ret2
    exact ⟨_, rfl, World.ownsRow_nil _ _ _ _, hb1⟩
end Go.Proofs.YtnnkamfpcodnnaaDoor
