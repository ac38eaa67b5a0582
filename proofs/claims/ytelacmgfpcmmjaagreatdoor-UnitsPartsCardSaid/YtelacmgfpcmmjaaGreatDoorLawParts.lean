/- UnitsParts: for every four numbers the law returns true; what the call was given reads as before. Conditions: the nine listed variables lie as the program lays them. -/
import Derived.Test.YtelacmgfpcmmjaaGreatDoorUnFrame
import Derived.Test.YtelacmgfpcmmjaaGreatDoorUnPtA
import Derived.Test.YtelacmgfpcmmjaaGreatDoorUnPtB
import Derived.Test.YtelacmgfpcmmjaaGreatDoorUnPtC
import Derived.Test.YtelacmgfpcmmjaaGreatDoorUnPtD
import Derived.Test.YtelacmgfpcmmjaaGreatDoorUnPtE
import Derived.SevenTiedAt
namespace Go.Proofs.YtelacmgfpcmmjaaGreatDoor.lawUnitsParts
open Go.ChangeShapes Go.WideShapes Go.ChangeAt Go.RowKit

set_option maxRecDepth 100000 in
set_option maxHeartbeats 1600000 in
theorem walk (a0 : Int) (ha0 : (Lit.int .u16 a0).wf = true) (b0 : Int) (hb0 : (Lit.int .u16 b0).wf = true) (c0 : Int) (hc0 : (Lit.int .u16 c0).wf = true) (d0 : Int) (hd0 : (Lit.int .u16 d0).wf = true) (w : World) (env : UEnv w) :
    Calls Tryz.prog 3 #[.int .u16 a0, .int .u16 b0, .int .u16 c0, .int .u16 d0] w fun e w' => e = .returned (.bool true) ∧ Below w.heap.size w w' := by
  have ha1 := bounds_u16 ha0
  have hb1 := bounds_u16 hb0
  have hc1 := bounds_u16 hc0
  have hd1 := bounds_u16 hd0
  obtain ⟨a, rfl⟩ := Int.eq_ofNat_of_zero_le ha1.1
  obtain ⟨b, rfl⟩ := Int.eq_ofNat_of_zero_le hb1.1
  obtain ⟨c, rfl⟩ := Int.eq_ofNat_of_zero_le hc1.1
  obtain ⟨d, rfl⟩ := Int.eq_ofNat_of_zero_le hd1.1
  have ha : (a : Int) ≤ 65535 := ha1.2
  have hb : (b : Int) ≤ 65535 := hb1.2
  have hc : (c : Int) ≤ 65535 := hc1.2
  have hd : (d : Int) ≤ 65535 := hd1.2
  by_cases hne : Lx.pcs a b c d = []
  · exact parts_none a b c d ha hb hc hd hne w env
  by_cases hqq : (a * 86400 + b * 3600 + c * 60 + d) / 86400 ≤ 65535
  · by_cases hx : a = 0
    · by_cases hu : b = 0
      · exact parts_sa0b0 a b c d ha hb hc hd hne hqq hx hu w env
      · by_cases hv : c = 0
        · exact parts_sa0c0 a b c d ha hb hc hd hne hqq hx hu hv w env
        · exact parts_sa0bc a b c d ha hb hc hd hne hqq hx hu hv w env
    · by_cases hy : d = 0
      · by_cases hu : b = 0
        · exact parts_sd0b0 a b c d ha hb hc hd hne hqq hx hy hu w env
        · by_cases hv : c = 0
          · exact parts_sd0c0 a b c d ha hb hc hd hne hqq hx hy hu hv w env
          · exact parts_sd0bc a b c d ha hb hc hd hne hqq hx hy hu hv w env
      · by_cases hu : b = 0
        · exact parts_sadb0 a b c d ha hb hc hd hne hqq hx hy hu w env
        · by_cases hv : c = 0
          · exact parts_sadc0 a b c d ha hb hc hd hne hqq hx hy hu hv w env
          · exact parts_sadbc a b c d ha hb hc hd hne hqq hx hy hu hv w env
  · by_cases hx : a = 0
    · exfalso; omega
    · by_cases hy : d = 0
      · by_cases hu : b = 0
        · exact parts_bd0b0 a b c d ha hb hc hd hne hqq hx hy hu w env
        · by_cases hv : c = 0
          · exact parts_bd0c0 a b c d ha hb hc hd hne hqq hx hy hu hv w env
          · exact parts_bd0bc a b c d ha hb hc hd hne hqq hx hy hu hv w env
      · by_cases hu : b = 0
        · exact parts_badb0 a b c d ha hb hc hd hne hqq hx hy hu w env
        · by_cases hv : c = 0
          · exact parts_badc0 a b c d ha hb hc hd hne hqq hx hy hu hv w env
          · exact parts_badbc a b c d ha hb hc hd hne hqq hx hy hu hv w env

set_option maxRecDepth 100000 in
/-- What the walk gives, for every argument that can be read. -/
theorem contract (H : Type) (enc : TypeId × Value → H) (W : World) (base : Nat) (args : Array Value) (ds gs : List (DataW H)) (before : List MemPlace)
    (hval : ∀ (j : Nat) t v, Tryz.f3.params[j]? = some t → args[j]? = some v → Value.okWide Tryz.prog W .any base t v)
    (hW : DataW.Whole enc Tryz.prog Tryz.f3.params.toList Rows.unitsPartsSpec.vars false W args.toList ds gs before) (hL : laidMetH Tryz.prog Rows.unitsPartsRow.laid W) (hsh : W.ShapedOpen Tryz.prog) :
    Calls Tryz.prog 3 args W fun e W' => ∃ v, e = .returned v ∧ Rows.unitsPartsSpec.post enc Tryz.prog Tryz.f3 false true false false W args v W' := by
  have hW' := hW
  obtain ⟨p, q, hA0, hV, rfl, hfz, hnd⟩ := hW
  have hA : DataW.TrodAll enc Tryz.prog W 0 (fun _ => true) true Tryz.f3.params.toList args.toList ds p := hA0
  rw [Tryz.params3] at hA hval
  obtain ⟨v0, vs0, d0, ds0, p0, q0, hargs, rfl, rfl, h0, r0⟩ := trodAll_cons hA
  obtain ⟨v1, vs1, d1, ds1, p1, q1, rfl, rfl, rfl, h1, r1⟩ := trodAll_cons r0
  obtain ⟨v2, vs2, d2, ds2, p2, q2, rfl, rfl, rfl, h2, r2⟩ := trodAll_cons r1
  obtain ⟨v3, vs3, d3, ds3, p3, q3, rfl, rfl, rfl, h3, r3⟩ := trodAll_cons r2
  obtain ⟨rfl, rfl, rfl⟩ := trodAll_nil r3
  obtain rfl : args = #[v0, v1, v2, v3] := by cases args; simp_all
  obtain ⟨rfl, rfl⟩ := trodVars_none hV
  obtain ⟨s0, rfl, rfl, rfl, w0⟩ := open_int Tryz.underlying22 (hval 0 22 v0 rfl rfl) h0
  obtain ⟨s1, rfl, rfl, rfl, w1⟩ := open_int Tryz.underlying22 (hval 1 22 v1 rfl rfl) h1
  obtain ⟨s2, rfl, rfl, rfl, w2⟩ := open_int Tryz.underlying22 (hval 2 22 v2 rfl rfl) h2
  obtain ⟨s3, rfl, rfl, rfl, w3⟩ := open_int Tryz.underlying22 (hval 3 22 v3 rfl rfl) h3
  clear hA0
  refine (walk s0 w0 s1 w1 s2 w2 s3 w3 W (env_of hL hsh)).mono fun e W' ⟨he, bel⟩ => ?_
  subst he
  exact ⟨_, rfl, _, _, _, [], _, [], hW', trodAll_mk1 (shut_bool Tryz.underlying4 _), (trodAll_cons_mk (shut_int Tryz.underlying22 w0) (trodAll_cons_mk (shut_int Tryz.underlying22 w1) (trodAll_cons_mk (shut_int Tryz.underlying22 w2) (trodAll_cons_mk (shut_int Tryz.underlying22 w3) trodAll_mk0)))), rfl, bel.frame _, fun h => by cases h⟩

set_option maxRecDepth 100000 in
theorem reads (os : Os) {H : Type} (enc : TypeId × Value → H) : ∃ places, DataW.whole enc Tryz.prog ((World.laidAll Tryz.prog os Rows.unitsPartsRow.laid).forCall (fun _ _ => 0) ⟨#[], #[.int .u16 0, .int .u16 0, .int .u16 0, .int .u16 0], []⟩).memory Tryz.f3.params.toList Rows.unitsPartsSpec.vars false (#[.int .u16 0, .int .u16 0, .int .u16 0, .int .u16 0] : Array Value).toList 8 = some ([.lit (.int .u16 0), .lit (.int .u16 0), .lit (.int .u16 0), .lit (.int .u16 0)], [], places) :=
  ⟨[], by kernel_rfl⟩

set_option maxRecDepth 100000 in
theorem lifted (os : Os) (started : os.Started) (H : Type) (enc : TypeId × Value → H) (F : Stop.Interp) :
    ReturnsInHanded {} Tryz.checked os 3 .any ((OpenSpec.ofChange Rows.unitsPartsSpec).preRow enc Tryz.prog Tryz.f3 Rows.unitsPartsRow.domain false Rows.unitsPartsRow.laid) (((OpenSpec.ofChange Rows.unitsPartsSpec).at F).post enc Tryz.prog Tryz.f3 false true false false) := by
  obtain ⟨places, hx⟩ := reads os enc
  refine returnsInHanded_of_row (C := Tryz.checked) (s := OpenSpec.ofChange Rows.unitsPartsSpec) own started (by kernel_rfl) Tryz.func3
    (witness_row_atRef (enc := enc) (C := Tryz.checked) false (World.laidAll Tryz.prog os Rows.unitsPartsRow.laid) #[.int .u16 0, .int .u16 0, .int .u16 0, .int .u16 0] (World.laidAll_os _ _ _) (door_vars os _) (door_rest os _) (by kernel_rfl)
      (OpenSpec.preRow_of_cond 8 hx (by kernel_rfl) (fun k hk => by cases hk) (by kernel_rfl) (door_laid os _))) ?_
  intro W base args ds gs before hval hW _ _ _ hL hsh _
  exact contract H enc W base args ds gs before hval hW hL hsh

theorem said : Rows.UnitsPartsSaid :=
  OpenClaim.holds_of_cond 3 Tryz.f3 rfl rfl rfl rfl rfl rfl rfl ⟨rfl, rfl, rfl, rfl, rfl⟩ rfl rfl rfl rfl rfl (by kernel_rfl) Tryz.func3 (by kernel_rfl)
    (of_decide_eq_true (by kernel_rfl)) (by unfold Func.isWrapper; first | (rw [if_pos (by decide +kernel)]; kernel_rfl) | (rw [if_neg (by decide +kernel)]; exact ⟨rfl, rfl⟩))
    (fun os started H enc _ F => by rw [OpenClaim.pre_eq_preRow]; exact lifted os started H enc F)

theorem plain (f : FuncId) (fn : Func) (hf : Tryz.pinned.checked.prog.funcNamed "wakeman/wakemanlaw13.UnitsParts" = some f) (hfn : Tryz.pinned.checked.prog.funcs[f]? = some fn) :
    Rows.unitsPartsCard.stood.looks = Tryz.pinned.checked.prog.looks [] ∧ ∀ (j : Nat) t, fn.params[j]? = some t → Tryz.pinned.checked.prog.wantsStandIn t = false := by
  obtain rfl : f = 3 := Option.some.inj ((show Tryz.prog.funcNamed "wakeman/wakemanlaw13.UnitsParts" = some 3 by kernel_rfl).symm.trans hf) |>.symm
  obtain rfl : fn = Tryz.f3 := (Option.some.inj (Tryz.func3.symm.trans hfn)).symm
  refine ⟨by kernel_rfl, fun j t ht => ?_⟩
  rw [Tryz.params3] at ht
  have hm : t ∈ [22] := by
    have := Array.mem_of_getElem? ht
    simpa using this
  have hall : ([22].all fun u => !Tryz.prog.wantsStandIn u) = true := by kernel_rfl
  exact (show Tryz.prog.wantsStandIn t = false by simpa using List.all_eq_true.1 hall t hm)

/-- The card. -/
theorem card : Rows.UnitsPartsCardSaid :=
  Claim7.holds_tied_plain_at .later [] _ _ _ _ said (fun _ h => by cases h) (by kernel_rfl) (fun _ h => by cases h) unitsParts_row_tie rfl ⟨rfl, rfl⟩ (by kernel_rfl) rfl plain (by kernel_rfl)
end Go.Proofs.YtelacmgfpcmmjaaGreatDoor.lawUnitsParts
