/- PolicyBack: for every policy the law returns true; what the call was given reads as before. Conditions: the eight listed variables lie as the program lays them. -/
import Derived.Test.YtdpjcbijddgpgaaGreatDoorUnFrame
import Derived.Test.YtdpjcbijddgpgaaGreatDoorPoM8
import Derived.SevenTiedAt
namespace Go.Proofs.YtdpjcbijddgpgaaGreatDoor.lawPolicyBack
open Go.ChangeShapes Go.WideShapes Go.ChangeAt Go.RowKit
set_option maxRecDepth 100000 in
set_option maxHeartbeats 1600000 in
theorem walk (p : Lx.PolV) (w : World) (env : UEnv w) :
    Calls Tryz.prog 5 #[p.val] w fun e w' => e = .returned (.bool true) ∧ Below w.heap.size w w' := by
  have HW := Lib.hid (fun W (E : UEnv W) => pworks_any W E)
  have E0 := Lib.hid env
  have hgl := env.env.lt
  obtain ⟨g, hg⟩ : ∃ g, g = w.heap.size := ⟨_, rfl⟩
  obtain ⟨W0, hW0⟩ : ∃ W0, W0 = w.alloc (.cells p.cells.toArray 29) := ⟨_, rfl⟩
  have S0 := Lib.hid (show Lx.PSt g W0 W0 p from by rw [hg, hW0]; exact Lx.PSt.new w hgl p)
  have B0 := Lib.hid (show Below w.heap.size w W0 from by rw [hW0]; exact (Below.refl _ w).alloc (Nat.le_refl _) _)
  have HC := Lib.hid (fun W => polCheck_any p W)
  have HP := Lib.hid (fun W (E : UEnv W) => polPrint_any p W E)
  by_cases h : Lx.polOk p = true
  · have hE : Lx.polE p = 0 := by unfold Lx.polE; rw [if_pos h]
    rw [hE] at HC HP
    obtain ⟨T, hT⟩ : ∃ T : ByteArray, T = ⟨(Lx.prS p).toArray⟩ := ⟨_, rfl⟩
    rw [← hT] at HP
    have hTs : T.size ≤ 1000000000 := by rw [Lib.size_eq, hT]; have := Lx.prS_len h; simp; omega
    have hpar := Lx.par_print h (s := T) (by rw [hT])
    have HPa := fun W (E : UEnv W) => polParse_any T hTs W E
    rw [hpar] at HPa
    obtain ⟨P, hP⟩ : ∃ P, P = p := ⟨_, rfl⟩
    rw [← hP] at HC HP S0
    obtain ⟨cap, pri, spl, dl, mis, keep, lt, lu, bf, bo, bp, rm, rb, rc, rj⟩ := p
    have HPa := Lib.hid (show ∀ W, UEnv W → Calls Tryz.prog 16 #[.string T] W fun e w' => e = .returned (.tuple #[.agg #[.int .i64 cap, .int .i64 pri, .int .i64 spl, .int .i64 dl, .int .i64 mis, .int .i64 keep, .int .i64 lt, .int .i64 lu, .int .i64 bf, .int .i64 bo, .int .i64 bp, .int .i64 rm, .int .i64 rb, .int .i64 rc, .int .i64 rj], .int .i64 0, .int .i64 0]) ∧ Below W.heap.size W w' from HPa)
    have HPP := Lib.hid hP
    clear hT hTs hpar hE h env hP
    show Calls Tryz.prog 5 #[.agg #[.int .i64 cap, .int .i64 pri, .int .i64 spl, .int .i64 dl, .int .i64 mis, .int .i64 keep, .int .i64 lt, .int .i64 lu, .int .i64 bf, .int .i64 bo, .int .i64 bp, .int .i64 rm, .int .i64 rb, .int .i64 rc, .int .i64 rj]] w _
    go_enter Tryz.func5, Tryz.ntmps5
    go_upto_region 1 with (fail)
    rw [show (w.alloc (.cells #[.int .i64 cap, .int .i64 pri, .int .i64 spl, .int .i64 dl, .int .i64 mis, .int .i64 keep, .int .i64 lt, .int .i64 lu, .int .i64 bf, .int .i64 bo, .int .i64 bp, .int .i64 rm, .int .i64 rb, .int .i64 rc, .int .i64 rj] 29)) = W0 from hW0.symm, ← hg]
    have Hg := Lib.hid hg
    clear hW0 hg
    go_wp2_with ((with_reducible show wpList _ _ _ _ _ _); refine Lx.wpList_get _ rfl _ rfl g rfl S0.out ?_)
    refine (HP.out _ (E0.out.below B0.out)).mono ?_
    rintro e w1 ⟨rfl, c1⟩
    have S1 := Lib.hid (S0.out.low c1)
    have B1 := Lib.hid (B0.out.trans (c1.mono B0.out.size))
    clear c1 S0 B0
    go_wp2_with ((with_reducible show wpList _ _ _ _ _ _); refine Lx.wpList_get _ rfl _ rfl g rfl S1.out ?_)
    refine (HC.out _).mono ?_
    rintro e w2 ⟨rfl, c2⟩
    have S2 := Lib.hid (S1.out.low c2)
    have B2 := Lib.hid (B1.out.trans (c2.mono B1.out.size))
    clear c2 S1 B1
    go_wp2_with fail
    refine (HPa.out _ (E0.out.below B2.out)).mono ?_
    rintro e w3 ⟨rfl, c3⟩
    obtain ⟨W4, hW4⟩ : ∃ W4, W4 = (w3.alloc (.cells #[.int .i64 cap, .int .i64 pri, .int .i64 spl, .int .i64 dl, .int .i64 mis, .int .i64 keep, .int .i64 lt, .int .i64 lu, .int .i64 bf, .int .i64 bo, .int .i64 bp, .int .i64 rm, .int .i64 rb, .int .i64 rc, .int .i64 rj] 29)) := ⟨_, rfl⟩
    have B3 := B2.out.trans (c3.mono B2.out.size)
    have c4 : Below w3.heap.size w3 W4 := by rw [hW4]; exact (Below.refl _ _).alloc (Nat.le_refl _) _
    have S4 := Lib.hid ((S2.out.low c3).low c4)
    have B4 := Lib.hid (B3.trans (c4.mono B3.size))
    have Q4 := Lib.hid (show Lx.PSt w3.heap.size W4 W4 P from by rw [hW4, HPP.out]; exact Lx.PSt.new w3 (Nat.le_trans hgl B3.size) ⟨cap, pri, spl, dl, mis, keep, lt, lu, bf, bo, bp, rm, rb, rc, rj⟩)
    clear c3 c4 S2 B2 B3
    go_upto_region 5 with (fail)
    rw [show (w3.alloc (.cells #[.int .i64 cap, .int .i64 pri, .int .i64 spl, .int .i64 dl, .int .i64 mis, .int .i64 keep, .int .i64 lt, .int .i64 lu, .int .i64 bf, .int .i64 bo, .int .i64 bp, .int .i64 rm, .int .i64 rb, .int .i64 rc, .int .i64 rj] 29)) = W4 from hW4.symm]
    clear hW4
    have heq : (Op.equalIn 10000 29 (.agg #[.int .i64 cap, .int .i64 pri, .int .i64 spl, .int .i64 dl, .int .i64 mis, .int .i64 keep, .int .i64 lt, .int .i64 lu, .int .i64 bf, .int .i64 bo, .int .i64 bp, .int .i64 rm, .int .i64 rb, .int .i64 rc, .int .i64 rj]) (.agg #[.int .i64 cap, .int .i64 pri, .int .i64 spl, .int .i64 dl, .int .i64 mis, .int .i64 keep, .int .i64 lt, .int .i64 lu, .int .i64 bf, .int .i64 bo, .int .i64 bp, .int .i64 rm, .int .i64 rb, .int .i64 rc, .int .i64 rj])).run Tryz.prog W4 = .ok true W4 := eqPol_self ⟨cap, pri, spl, dl, mis, keep, lt, lu, bf, bo, bp, rm, rb, rc, rj⟩ W4
    have u0 : W4.cell? ⟨g, 0, none⟩ = some (.int .i64 cap) := S4.out.cell 0 _ (by rw [HPP.out]; rfl)
    have u1 : W4.cell? ⟨g, 1, none⟩ = some (.int .i64 pri) := S4.out.cell 1 _ (by rw [HPP.out]; rfl)
    have u2 : W4.cell? ⟨g, 2, none⟩ = some (.int .i64 spl) := S4.out.cell 2 _ (by rw [HPP.out]; rfl)
    have u3 : W4.cell? ⟨g, 3, none⟩ = some (.int .i64 dl) := S4.out.cell 3 _ (by rw [HPP.out]; rfl)
    have u4 : W4.cell? ⟨g, 4, none⟩ = some (.int .i64 mis) := S4.out.cell 4 _ (by rw [HPP.out]; rfl)
    have u5 : W4.cell? ⟨g, 5, none⟩ = some (.int .i64 keep) := S4.out.cell 5 _ (by rw [HPP.out]; rfl)
    have u6 : W4.cell? ⟨g, 6, none⟩ = some (.int .i64 lt) := S4.out.cell 6 _ (by rw [HPP.out]; rfl)
    have u7 : W4.cell? ⟨g, 7, none⟩ = some (.int .i64 lu) := S4.out.cell 7 _ (by rw [HPP.out]; rfl)
    have u8 : W4.cell? ⟨g, 8, none⟩ = some (.int .i64 bf) := S4.out.cell 8 _ (by rw [HPP.out]; rfl)
    have u9 : W4.cell? ⟨g, 9, none⟩ = some (.int .i64 bo) := S4.out.cell 9 _ (by rw [HPP.out]; rfl)
    have u10 : W4.cell? ⟨g, 10, none⟩ = some (.int .i64 bp) := S4.out.cell 10 _ (by rw [HPP.out]; rfl)
    have u11 : W4.cell? ⟨g, 11, none⟩ = some (.int .i64 rm) := S4.out.cell 11 _ (by rw [HPP.out]; rfl)
    have u12 : W4.cell? ⟨g, 12, none⟩ = some (.int .i64 rb) := S4.out.cell 12 _ (by rw [HPP.out]; rfl)
    have u13 : W4.cell? ⟨g, 13, none⟩ = some (.int .i64 rc) := S4.out.cell 13 _ (by rw [HPP.out]; rfl)
    have u14 : W4.cell? ⟨g, 14, none⟩ = some (.int .i64 rj) := S4.out.cell 14 _ (by rw [HPP.out]; rfl)
    have v0 : W4.cell? ⟨w3.heap.size, 0, none⟩ = some (.int .i64 cap) := Q4.out.cell 0 _ (by rw [HPP.out]; rfl)
    have v1 : W4.cell? ⟨w3.heap.size, 1, none⟩ = some (.int .i64 pri) := Q4.out.cell 1 _ (by rw [HPP.out]; rfl)
    have v2 : W4.cell? ⟨w3.heap.size, 2, none⟩ = some (.int .i64 spl) := Q4.out.cell 2 _ (by rw [HPP.out]; rfl)
    have v3 : W4.cell? ⟨w3.heap.size, 3, none⟩ = some (.int .i64 dl) := Q4.out.cell 3 _ (by rw [HPP.out]; rfl)
    have v4 : W4.cell? ⟨w3.heap.size, 4, none⟩ = some (.int .i64 mis) := Q4.out.cell 4 _ (by rw [HPP.out]; rfl)
    have v5 : W4.cell? ⟨w3.heap.size, 5, none⟩ = some (.int .i64 keep) := Q4.out.cell 5 _ (by rw [HPP.out]; rfl)
    have v6 : W4.cell? ⟨w3.heap.size, 6, none⟩ = some (.int .i64 lt) := Q4.out.cell 6 _ (by rw [HPP.out]; rfl)
    have v7 : W4.cell? ⟨w3.heap.size, 7, none⟩ = some (.int .i64 lu) := Q4.out.cell 7 _ (by rw [HPP.out]; rfl)
    have v8 : W4.cell? ⟨w3.heap.size, 8, none⟩ = some (.int .i64 bf) := Q4.out.cell 8 _ (by rw [HPP.out]; rfl)
    have v9 : W4.cell? ⟨w3.heap.size, 9, none⟩ = some (.int .i64 bo) := Q4.out.cell 9 _ (by rw [HPP.out]; rfl)
    have v10 : W4.cell? ⟨w3.heap.size, 10, none⟩ = some (.int .i64 bp) := Q4.out.cell 10 _ (by rw [HPP.out]; rfl)
    have v11 : W4.cell? ⟨w3.heap.size, 11, none⟩ = some (.int .i64 rm) := Q4.out.cell 11 _ (by rw [HPP.out]; rfl)
    have v12 : W4.cell? ⟨w3.heap.size, 12, none⟩ = some (.int .i64 rb) := Q4.out.cell 12 _ (by rw [HPP.out]; rfl)
    have v13 : W4.cell? ⟨w3.heap.size, 13, none⟩ = some (.int .i64 rc) := Q4.out.cell 13 _ (by rw [HPP.out]; rfl)
    have v14 : W4.cell? ⟨w3.heap.size, 14, none⟩ = some (.int .i64 rj) := Q4.out.cell 14 _ (by rw [HPP.out]; rfl)
    go_wp2_with fail
    refine (HW.out _ (E0.out.below B4.out)).mono ?_
    rintro e w5 ⟨rfl, c5⟩
    go_wp2_with fail
    go_ret
    exact ⟨rfl, B4.out.trans (c5.mono B4.out.size)⟩
  · have hE : Lx.polE p = 16 := by unfold Lx.polE; rw [if_neg h]
    have hS : Lx.prS p = [] := by unfold Lx.prS; rw [if_neg h]
    rw [hE] at HC HP
    rw [hS] at HP
    obtain ⟨P, hP⟩ : ∃ P, P = p := ⟨_, rfl⟩
    rw [← hP] at HC HP S0
    obtain ⟨cap, pri, spl, dl, mis, keep, lt, lu, bf, bo, bp, rm, rb, rc, rj⟩ := p
    clear hE hS h env hP
    show Calls Tryz.prog 5 #[.agg #[.int .i64 cap, .int .i64 pri, .int .i64 spl, .int .i64 dl, .int .i64 mis, .int .i64 keep, .int .i64 lt, .int .i64 lu, .int .i64 bf, .int .i64 bo, .int .i64 bp, .int .i64 rm, .int .i64 rb, .int .i64 rc, .int .i64 rj]] w _
    go_enter Tryz.func5, Tryz.ntmps5
    go_upto_region 1 with (fail)
    rw [show (w.alloc (.cells #[.int .i64 cap, .int .i64 pri, .int .i64 spl, .int .i64 dl, .int .i64 mis, .int .i64 keep, .int .i64 lt, .int .i64 lu, .int .i64 bf, .int .i64 bo, .int .i64 bp, .int .i64 rm, .int .i64 rb, .int .i64 rc, .int .i64 rj] 29)) = W0 from hW0.symm, ← hg]
    have Hg := Lib.hid hg
    clear hW0 hg
    go_wp2_with ((with_reducible show wpList _ _ _ _ _ _); refine Lx.wpList_get _ rfl _ rfl g rfl S0.out ?_)
    refine (HP.out _ (E0.out.below B0.out)).mono ?_
    rintro e w1 ⟨rfl, c1⟩
    have S1 := Lib.hid (S0.out.low c1)
    have B1 := Lib.hid (B0.out.trans (c1.mono B0.out.size))
    clear c1 S0 B0
    go_wp2_with ((with_reducible show wpList _ _ _ _ _ _); refine Lx.wpList_get _ rfl _ rfl g rfl S1.out ?_)
    refine (HC.out _).mono ?_
    rintro e w2 ⟨rfl, c2⟩
    have B2 := Lib.hid (B1.out.trans (c2.mono B1.out.size))
    clear c2 S1 B1
    go_wp2_with fail
    refine (HW.out _ (E0.out.below B2.out)).mono ?_
    rintro e w5 ⟨rfl, c5⟩
    go_wp2_with fail
    go_ret
    exact ⟨rfl, B2.out.trans (c5.mono B2.out.size)⟩

set_option maxRecDepth 100000 in
/-- What the walk gives, for every argument that can be read. -/
theorem contract (H : Type) (enc : TypeId × Value → H) (W : World) (base : Nat) (args : Array Value) (ds gs : List (DataW H)) (before : List MemPlace)
    (hval : ∀ (j : Nat) t v, Tryz.f5.params[j]? = some t → args[j]? = some v → Value.okWide Tryz.prog W .any base t v)
    (hW : DataW.Whole enc Tryz.prog Tryz.f5.params.toList Rows.policyBackSpec.vars false W args.toList ds gs before) (hL : laidMetH Tryz.prog Rows.policyBackRow.laid W) (hsh : W.ShapedOpen Tryz.prog) :
    Calls Tryz.prog 5 args W fun e W' => ∃ v, e = .returned v ∧ Rows.policyBackSpec.post enc Tryz.prog Tryz.f5 false true false false W args v W' := by
  have hW' := hW
  obtain ⟨p, q, hA0, hV, rfl, hfz, hnd⟩ := hW
  have hA : DataW.TrodAll enc Tryz.prog W 0 (fun _ => true) true Tryz.f5.params.toList args.toList ds p := hA0
  rw [Tryz.params5] at hA hval
  obtain ⟨v0, vs0, d0, ds0, p0, q0, hargs, rfl, rfl, h0, r0⟩ := trodAll_cons hA
  obtain ⟨rfl, rfl, rfl⟩ := trodAll_nil r0
  obtain rfl : args = #[v0] := by cases args; simp_all
  obtain ⟨rfl, rfl⟩ := trodVars_none hV
  have k0 := h0
  have lt0 : ∀ x ∈ p0, x.block < W.heap.size := by obtain ⟨m, hm⟩ := k0; exact DataW.trod_lt m _ _ _ hm
  obtain ⟨o0, rfl⟩ := isPol_of (hval 0 29 v0 rfl rfl) h0
  clear hA0
  refine (walk o0 W (env_of hL hsh)).mono fun e W' ⟨he, bel⟩ => ?_
  subst he
  exact ⟨_, rfl, _, _, _, [], _, [], hW', trodAll_mk1 (shut_bool Tryz.underlying4 _), (trodAll_cons_mk (Below.trod laidOut (by kernel_rfl) (of_decide_eq_true (by kernel_rfl)) k0 bel lt0) trodAll_mk0), rfl, bel.frame _, fun h => by cases h⟩

set_option maxRecDepth 100000 in
theorem reads (os : Os) {H : Type} (enc : TypeId × Value → H) : ∃ places, DataW.whole enc Tryz.prog ((World.laidAll Tryz.prog os Rows.policySetsRow.laid).forCall (fun _ _ => 0) ⟨#[], #[.agg #[.int .i64 0, .int .i64 0, .int .i64 0, .int .i64 0, .int .i64 0, .int .i64 0, .int .i64 0, .int .i64 0, .int .i64 0, .int .i64 0, .int .i64 0, .int .i64 0, .int .i64 0, .int .i64 0, .int .i64 0]], []⟩).memory Tryz.f5.params.toList Rows.policyBackSpec.vars false (#[.agg #[.int .i64 0, .int .i64 0, .int .i64 0, .int .i64 0, .int .i64 0, .int .i64 0, .int .i64 0, .int .i64 0, .int .i64 0, .int .i64 0, .int .i64 0, .int .i64 0, .int .i64 0, .int .i64 0, .int .i64 0]] : Array Value).toList 8 = some ([.agg [.lit (.int .i64 0), .lit (.int .i64 0), .lit (.int .i64 0), .lit (.int .i64 0), .lit (.int .i64 0), .lit (.int .i64 0), .agg [.lit (.int .i64 0), .lit (.int .i64 0)], .agg [.lit (.int .i64 0), .lit (.int .i64 0), .lit (.int .i64 0)], .agg [.lit (.int .i64 0), .lit (.int .i64 0), .lit (.int .i64 0), .lit (.int .i64 0)]]], [], places) :=
  ⟨[], by kernel_rfl⟩

set_option maxRecDepth 100000 in
theorem lifted (os : Os) (started : os.Started) (H : Type) (enc : TypeId × Value → H) (F : Stop.Interp) :
    ReturnsInHanded {} Tryz.checked os 5 .any ((OpenSpec.ofChange Rows.policyBackSpec).preRow enc Tryz.prog Tryz.f5 Rows.policyBackRow.domain false Rows.policyBackRow.laid) (((OpenSpec.ofChange Rows.policyBackSpec).at F).post enc Tryz.prog Tryz.f5 false true false false) := by
  obtain ⟨places, hx⟩ := reads os enc
  refine returnsInHanded_of_row (C := Tryz.checked) (s := OpenSpec.ofChange Rows.policyBackSpec) own started (by kernel_rfl) Tryz.func5
    (witness_row_atRef (enc := enc) (C := Tryz.checked) false (World.laidAll Tryz.prog os Rows.policySetsRow.laid) #[.agg #[.int .i64 0, .int .i64 0, .int .i64 0, .int .i64 0, .int .i64 0, .int .i64 0, .int .i64 0, .int .i64 0, .int .i64 0, .int .i64 0, .int .i64 0, .int .i64 0, .int .i64 0, .int .i64 0, .int .i64 0]] (World.laidAll_os _ _ _) (door_vars os _) (door_rest os _) (by kernel_rfl)
      (OpenSpec.preRow_of_cond 8 hx (by kernel_rfl) (fun k hk => by cases hk) (by kernel_rfl) (door_laid os _))) ?_
  intro W base args ds gs before hval hW _ _ _ hL hsh _
  exact contract H enc W base args ds gs before hval hW hL hsh

theorem said : Rows.PolicyBackSaid :=
  OpenClaim.holds_of_cond 5 Tryz.f5 rfl rfl rfl rfl rfl rfl rfl ⟨rfl, rfl, rfl, rfl, rfl⟩ rfl rfl rfl rfl rfl (by kernel_rfl) Tryz.func5 (by kernel_rfl)
    (of_decide_eq_true (by kernel_rfl)) (by unfold Func.isWrapper; first | (rw [if_pos (by decide +kernel)]; kernel_rfl) | (rw [if_neg (by decide +kernel)]; exact ⟨rfl, rfl⟩))
    (fun os started H enc _ F => by rw [OpenClaim.pre_eq_preRow]; exact lifted os started H enc F)

theorem plain (f : FuncId) (fn : Func) (hf : Tryz.pinned.checked.prog.funcNamed "wakeman/wakemanlaw14.PolicyBack" = some f) (hfn : Tryz.pinned.checked.prog.funcs[f]? = some fn) :
    Rows.policyBackCard.stood.looks = Tryz.pinned.checked.prog.looks [] ∧ ∀ (j : Nat) t, fn.params[j]? = some t → Tryz.pinned.checked.prog.wantsStandIn t = false := by
  obtain rfl : f = 5 := Option.some.inj ((show Tryz.prog.funcNamed "wakeman/wakemanlaw14.PolicyBack" = some 5 by kernel_rfl).symm.trans hf) |>.symm
  obtain rfl : fn = Tryz.f5 := (Option.some.inj (Tryz.func5.symm.trans hfn)).symm
  refine ⟨by kernel_rfl, fun j t ht => ?_⟩
  rw [Tryz.params5] at ht
  have hm : t ∈ [29] := by
    have := Array.mem_of_getElem? ht
    simpa using this
  have hall : ([29].all fun u => !Tryz.prog.wantsStandIn u) = true := by kernel_rfl
  exact (show Tryz.prog.wantsStandIn t = false by simpa using List.all_eq_true.1 hall t hm)

/-- The card. -/
theorem card : Rows.PolicyBackCardSaid :=
  Claim7.holds_tied_plain_at .later [] _ _ _ _ said (fun _ h => by cases h) (by kernel_rfl) (fun _ h => by cases h) policyBack_row_tie rfl ⟨rfl, rfl⟩ (by kernel_rfl) rfl plain (by kernel_rfl)
end Go.Proofs.YtdpjcbijddgpgaaGreatDoor.lawPolicyBack
