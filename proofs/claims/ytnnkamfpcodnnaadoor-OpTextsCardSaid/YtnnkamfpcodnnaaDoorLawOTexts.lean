/- OpTexts: for every text the law returns true; what the call was given reads as before. Conditions: the five listed variables lie as the program lays them. -/
import Derived.Test.YtnnkamfpcodnnaaDoorOpFrame
import Derived.Test.YtnnkamfpcodnnaaDoorOpFr
import Derived.Test.YtnnkamfpcodnnaaDoorOpWk
import Derived.Test.YtnnkamfpcodnnaaDoorR38
import Derived.SevenTiedAt
namespace Go.Proofs.YtnnkamfpcodnnaaDoor.lawOpTexts
open Go.ChangeShapes Go.WideShapes Go.ChangeAt Go.RowKit
set_option maxRecDepth 100000 in
set_option maxHeartbeats 1600000 in
theorem walk (s : ByteArray) (_hs : s.size ≤ maxLen) (w : World) (env : Env w) :
    Calls Tryd.prog 4 #[.string s] w fun e w' => e = .returned (.bool true) ∧ Below w.heap.size w w' := by
  by_cases hbig : 100 < s.size
  · have hbi : (100 : Int) < (s.size : Int) := by omega
    have HW := Lib.hid (opworks_any w env)
    go_enter Tryd.func4, Tryd.ntmps4
    go_wp2_with fail
    refine HW.out.mono ?_
    rintro e w1 ⟨rfl, c1⟩
    go_wp2_with fail
    go_ret
    exact ⟨rfl, c1⟩
  · have hbi : (s.size : Int) ≤ 100 := by omega
    have HP := Lib.hid (fun W (E : Env W) => op_parse s W E (by omega))
    have HR := Lib.hid (fun W => r38_parse s W (by omega))
    clear hbig
    go_enter Tryd.func4, Tryd.ntmps4
    go_wp2_with fail
    refine (HP.out _ env).mono ?_
    rintro e w1 ⟨⟨k, d, t, r, ok, job⟩, x, rfl, hr, c1⟩
    unfold Lx.OpV.val
    dsimp only
    have B1 := Lib.hid c1
    have HRD := Lib.hid hr
    clear hr c1
    have BO2 := Lib.hid (Lx.OpBox.new w1 k d t r ok job 23)
    have c2 := (Below.refl (w1).heap.size (w1)).alloc (Nat.le_refl _) (.cells #[.int .i64 k, .int .i64 d, .int .i64 t, .int .i64 r, .bool ok, .string job] 23)
    have B2 := Lib.hid (B1.out.trans (c2.mono B1.out.size))
    clear c2  B1
    go_wp2_with fail
    refine (HR.out _).mono ?_
    rintro e w3 ⟨o', x', rfl, hr', c3⟩
    obtain ⟨rfl, rfl⟩ := Lx.reads_one hr' HRD.out
    unfold Lx.OpV.val
    dsimp only
    have BO3 := Lib.hid (BO2.out.below c3)
    have B3 := Lib.hid (B2.out.trans (c3.mono B2.out.size))
    have BP4 := Lib.hid (Lx.OpBox.new w3 k d t r ok job 23)
    clear c3 hr' HRD BO2 B2
    have c4 := (Below.refl (w3).heap.size (w3)).alloc (Nat.le_refl _) (.cells #[.int .i64 k, .int .i64 d, .int .i64 t, .int .i64 r, .bool ok, .string job] 23)
    have BO4 := Lib.hid (BO3.out.below c4)
    have B4 := Lib.hid (B3.out.trans (c4.mono B3.out.size))
    clear c4 BO3 B3
    have heq : ∀ W, (Op.equalIn 10000 23 (.agg #[.int .i64 k, .int .i64 d, .int .i64 t, .int .i64 r, .bool ok, .string job]) (.agg #[.int .i64 k, .int .i64 d, .int .i64 t, .int .i64 r, .bool ok, .string job])).run Tryd.prog W = .ok true W := fun W => (eqOp _ _ _ _ _ _ _ _ _ _ _ _ W).trans (by simp)
    obtain ⟨q0, q1, q2, q3, q4, q5⟩ := BO4.out.six
    obtain ⟨y0, y1, y2, y3, y4, y5⟩ := BP4.out.six
    go_wp2_with fail
    refine (opworks_any _ (env.below B4.out)).mono ?_
    rintro e w5 ⟨rfl, c5⟩
    have B5 := Lib.hid (B4.out.trans (c5.mono B4.out.size))
    clear c5  B4
    go_wp2_with fail
    go_ret
    exact ⟨rfl, B5.out⟩

set_option maxRecDepth 100000 in
/-- What the walk gives, for every argument that can be read. -/
theorem contract (H : Type) (enc : TypeId × Value → H) (W : World) (base : Nat) (args : Array Value) (ds gs : List (DataW H)) (before : List MemPlace)
    (hval : ∀ (j : Nat) t v, Tryd.f4.params[j]? = some t → args[j]? = some v → Value.okWide Tryd.prog W .any base t v)
    (hW : DataW.Whole enc Tryd.prog Tryd.f4.params.toList Rows.opTextsSpec.vars false W args.toList ds gs before) (hL : laidMetH Tryd.prog Rows.opTextsRow.laid W) (hsh : W.ShapedOpen Tryd.prog) :
    Calls Tryd.prog 4 args W fun e W' => ∃ v, e = .returned v ∧ Rows.opTextsSpec.post enc Tryd.prog Tryd.f4 false true false false W args v W' := by
  have hW' := hW
  obtain ⟨p, q, hA0, hV, rfl, hfz, hnd⟩ := hW
  have hA : DataW.TrodAll enc Tryd.prog W 0 (fun _ => true) true Tryd.f4.params.toList args.toList ds p := hA0
  rw [Tryd.params4] at hA hval
  obtain ⟨v0, vs0, d0, ds0, p0, q0, hargs, rfl, rfl, h0, r0⟩ := trodAll_cons hA
  obtain ⟨rfl, rfl, rfl⟩ := trodAll_nil r0
  obtain rfl : args = #[v0] := by cases args; simp_all
  obtain ⟨rfl, rfl⟩ := trodVars_none hV
  obtain ⟨s0, rfl, rfl, rfl, w0⟩ := Go.ChangeMaps.open_string Tryd.underlying9 (hval 0 9 v0 rfl rfl) h0
  clear hA0
  refine (walk s0 w0 W (env_of hL hsh)).mono fun e W' ⟨he, bel⟩ => ?_
  subst he
  exact ⟨_, rfl, _, _, _, [], _, [], hW', trodAll_mk1 (shut_bool Tryd.underlying4 _), (trodAll_cons_mk (Go.ChangeMaps.shut_string Tryd.underlying9 w0) trodAll_mk0), rfl, bel.frame _, fun h => by cases h⟩

set_option maxRecDepth 100000 in
theorem reads (os : Os) {H : Type} (enc : TypeId × Value → H) : ∃ places, DataW.whole enc Tryd.prog ((World.doorLaid Tryd.prog 72 os).forCall (fun _ _ => 0) ⟨#[], #[.string ⟨#[]⟩], []⟩).memory Tryd.f4.params.toList Rows.opTextsSpec.vars false (#[.string ⟨#[]⟩] : Array Value).toList 8 = some ([.lit (.string [])], [], places) :=
  ⟨[], by kernel_rfl⟩

set_option maxRecDepth 100000 in
theorem lifted (os : Os) (started : os.Started) (H : Type) (enc : TypeId × Value → H) (F : Stop.Interp) :
    ReturnsInHanded {} Tryd.checked os 4 .any ((OpenSpec.ofChange Rows.opTextsSpec).preRow enc Tryd.prog Tryd.f4 Rows.opTextsRow.domain false Rows.opTextsRow.laid) (((OpenSpec.ofChange Rows.opTextsSpec).at F).post enc Tryd.prog Tryd.f4 false true false false) := by
  obtain ⟨places, hx⟩ := reads os enc
  refine returnsInHanded_of_row (C := Tryd.checked) (s := OpenSpec.ofChange Rows.opTextsSpec) own started (by kernel_rfl) Tryd.func4
    (witness_row_atRef (enc := enc) (C := Tryd.checked) false (World.doorLaid Tryd.prog 72 os) #[.string ⟨#[]⟩] rfl (door_vars os _) (door_rest os _) (by kernel_rfl)
      (OpenSpec.preRow_of_cond 8 hx (by kernel_rfl) (fun k hk => by cases hk) (by kernel_rfl) (door_laid os _))) ?_
  intro W base args ds gs before hval hW _ _ _ hL hsh _
  exact contract H enc W base args ds gs before hval hW hL hsh

theorem said : Rows.OpTextsSaid :=
  OpenClaim.holds_of_cond 4 Tryd.f4 rfl rfl rfl rfl rfl rfl rfl ⟨rfl, rfl, rfl, rfl, rfl⟩ rfl rfl rfl rfl rfl (by kernel_rfl) Tryd.func4 (by kernel_rfl)
    (of_decide_eq_true (by kernel_rfl)) (by unfold Func.isWrapper; first | (rw [if_pos (by decide +kernel)]; kernel_rfl) | (rw [if_neg (by decide +kernel)]; exact ⟨rfl, rfl⟩))
    (fun os started H enc _ F => by rw [OpenClaim.pre_eq_preRow]; exact lifted os started H enc F)

theorem plain (f : FuncId) (fn : Func) (hf : Tryd.pinned.checked.prog.funcNamed "wakeman/wakemanlaw38.OpTexts" = some f) (hfn : Tryd.pinned.checked.prog.funcs[f]? = some fn) :
    Rows.opTextsCard.stood.looks = Tryd.pinned.checked.prog.looks [] ∧ ∀ (j : Nat) t, fn.params[j]? = some t → Tryd.pinned.checked.prog.wantsStandIn t = false := by
  obtain rfl : f = 4 := Option.some.inj ((show Tryd.prog.funcNamed "wakeman/wakemanlaw38.OpTexts" = some 4 by kernel_rfl).symm.trans hf) |>.symm
  obtain rfl : fn = Tryd.f4 := (Option.some.inj (Tryd.func4.symm.trans hfn)).symm
  refine ⟨by kernel_rfl, fun j t ht => ?_⟩
  rw [Tryd.params4] at ht
  have hm : t ∈ [9] := by
    have := Array.mem_of_getElem? ht
    simpa using this
  have hall : ([9].all fun u => !Tryd.prog.wantsStandIn u) = true := by kernel_rfl
  exact (show Tryd.prog.wantsStandIn t = false by simpa using List.all_eq_true.1 hall t hm)

/-- The card. -/
theorem card : Rows.OpTextsCardSaid :=
  Claim7.holds_tied_plain_at .later [] _ _ _ _ said (fun _ h => by cases h) (by kernel_rfl) (fun _ h => by cases h) opTexts_row_tie rfl ⟨rfl, rfl⟩ (by kernel_rfl) rfl plain (by kernel_rfl)
end Go.Proofs.YtnnkamfpcodnnaaDoor.lawOpTexts
