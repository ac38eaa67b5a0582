/- OpChecks: for every operation the law returns true; what the call was given reads as before. Conditions: the five listed variables lie as the program lays them. -/
import Derived.Test.YtnnkamfpcodnnaaDoorOpFrame
import Derived.Test.YtnnkamfpcodnnaaDoorOpFr
import Derived.Test.YtnnkamfpcodnnaaDoorOpWk
import Derived.Test.YtnnkamfpcodnnaaDoorR38
import Derived.SevenTiedAt
namespace Go.Proofs.YtnnkamfpcodnnaaDoor.lawOpChecks
open Go.ChangeShapes Go.WideShapes Go.ChangeAt Go.RowKit
set_option maxRecDepth 100000 in
set_option maxHeartbeats 1600000 in
theorem walk (o : Lx.OpV) (hi : o.In) (hj : o.job.size ≤ maxLen) (w : World) (env : Env w) :
    Calls Tryd.prog 3 #[o.val] w fun e w' => e = .returned (.bool true) ∧ Below w.heap.size w w' := by
  have HC := Lib.hid (fun W => check_any o W hj)
  have HRC := Lib.hid (fun W => r38_check o W hj)
  unfold CheckIs at HC HRC
  obtain ⟨V, hP, hRP⟩ : ∃ V, (∀ W, Env W → Calls Tryd.prog 12 #[o.val] W fun e w' => e = .returned (.tuple #[.string V, .int .i64 (Lx.opErr o)]) ∧ Below W.heap.size W w') ∧ (∀ W, Calls Tryd.prog 13 #[o.val] W fun e w' => e = .returned (.tuple #[.string V, .int .i64 (Lx.opErr o)]) ∧ Below W.heap.size W w') := by
    by_cases h : Lx.opErr o = 0
    · rw [h]
      exact ⟨⟨(Lx.opText o).toArray⟩, fun W E => print_good o W E hi h, fun W => r38_print_good o W hi h⟩
    · exact ⟨⟨#[]⟩, fun W _ => print_bad o W hj h, fun W => r38_print_bad o W hj h⟩
  have HP := Lib.hid hP
  have HRP := Lib.hid hRP
  generalize Lx.opErr o = x at *
  obtain ⟨k, d, t, r, ok, job⟩ := o
  unfold Lx.OpV.val at HC HRC HP HRP ⊢
  dsimp only at hj ⊢
  have hba : Below w.heap.size w (w.alloc (.cells #[.int .i64 k, .int .i64 d, .int .i64 t, .int .i64 r, .bool ok, .string job] 23)) := (Below.refl _ _).alloc (Nat.le_refl _) _
  have BO0 := Lib.hid (Lx.OpBox.new w k d t r ok job 23)
  have HW := Lib.hid (opworks_any _ (env.below hba))
  have B0 := Lib.hid hba
  clear hba hP hRP hi hj
  by_cases hbig : 100 < job.size
  · have hbi : (100 : Int) < (job.size : Int) := by omega
    go_enter Tryd.func3, Tryd.ntmps3
    go_wp2_with fail
    refine (HW.out).mono ?_
    rintro e w1 ⟨rfl, c1⟩
    have B1 := Lib.hid (B0.out.trans (c1.mono B0.out.size))
    clear c1  B0
    go_wp2_with fail
    go_ret
    exact ⟨rfl, B1.out⟩
  · have hbi : (job.size : Int) ≤ 100 := by omega
    go_enter Tryd.func3, Tryd.ntmps3
    obtain ⟨q0, q1, q2, q3, q4, q5⟩ := BO0.out.six
    go_wp2_with fail
    refine (HP.out _ (env.below B0.out)).mono ?_
    rintro e w1 ⟨rfl, c1⟩
    have BO1 := Lib.hid (BO0.out.below c1)
    have B1 := Lib.hid (B0.out.trans (c1.mono B0.out.size))
    clear c1 BO0 B0
    clear q0 q1 q2 q3 q4 q5
    obtain ⟨q0, q1, q2, q3, q4, q5⟩ := BO1.out.six
    go_wp2_with fail
    refine (HRP.out _).mono ?_
    rintro e w2 ⟨rfl, c2⟩
    have BO2 := Lib.hid (BO1.out.below c2)
    have B2 := Lib.hid (B1.out.trans (c2.mono B1.out.size))
    clear c2 BO1 B1
    clear q0 q1 q2 q3 q4 q5
    obtain ⟨q0, q1, q2, q3, q4, q5⟩ := BO2.out.six
    have hS0 : (fun wx => Below w.heap.size w wx ∧ w.heap.size < wx.heap.size ∧ wx.cell? ⟨w.heap.size, 0, none⟩ = some (.int .i64 k) ∧ wx.cell? ⟨w.heap.size, 1, none⟩ = some (.int .i64 d) ∧ wx.cell? ⟨w.heap.size, 2, none⟩ = some (.int .i64 t) ∧ wx.cell? ⟨w.heap.size, 3, none⟩ = some (.int .i64 r) ∧ wx.cell? ⟨w.heap.size, 4, none⟩ = some (.bool ok) ∧ wx.cell? ⟨w.heap.size, 5, none⟩ = some (.string job)) w2.drew := ⟨B2.out.drew, BO2.out.1, q0, q1, q2, q3, q4, q5⟩
    dsimp only at hS0
    have HWW := Lib.hid (fun W (b : Below w.heap.size w W) => opworks_any W (env.below b))
    clear q0 q1 q2 q3 q4 q5 HP HRP HW
    go_wp2_with fail
    go_region_held3 (fun wx => Below w.heap.size w wx ∧ w.heap.size < wx.heap.size ∧ wx.cell? ⟨w.heap.size, 0, none⟩ = some (.int .i64 k) ∧ wx.cell? ⟨w.heap.size, 1, none⟩ = some (.int .i64 d) ∧ wx.cell? ⟨w.heap.size, 2, none⟩ = some (.int .i64 t) ∧ wx.cell? ⟨w.heap.size, 3, none⟩ = some (.int .i64 r) ∧ wx.cell? ⟨w.heap.size, 4, none⟩ = some (.bool ok) ∧ wx.cell? ⟨w.heap.size, 5, none⟩ = some (.string job)) (first | assumption | go_keep)
      (first
        | (go_at_call 14; refine (HC.out _).mono ?_; rintro e w3 ⟨rfl, c3⟩; have k3 := Lx.keep6 (by assumption) c3)
        | (go_at_call 15; refine (HRC.out _).mono ?_; rintro e w4 ⟨rfl, c4⟩; have k4 := Lx.keep6 (by assumption) c4)
        | (go_at_call 11; refine (HWW.out _ (And.left (by assumption))).mono ?_; rintro e w5 ⟨rfl, c5⟩; have k5 := Lx.keep6 (by assumption) c5))
    go_wp2_with fail
    go_ret
    exact ⟨rfl, And.left (by assumption)⟩

set_option maxRecDepth 100000 in
/-- What the walk gives, for every argument that can be read. -/
theorem contract (H : Type) (enc : TypeId × Value → H) (W : World) (base : Nat) (args : Array Value) (ds gs : List (DataW H)) (before : List MemPlace)
    (hval : ∀ (j : Nat) t v, Tryd.f3.params[j]? = some t → args[j]? = some v → Value.okWide Tryd.prog W .any base t v)
    (hW : DataW.Whole enc Tryd.prog Tryd.f3.params.toList Rows.opChecksSpec.vars false W args.toList ds gs before) (hL : laidMetH Tryd.prog Rows.opChecksRow.laid W) (hsh : W.ShapedOpen Tryd.prog) :
    Calls Tryd.prog 3 args W fun e W' => ∃ v, e = .returned v ∧ Rows.opChecksSpec.post enc Tryd.prog Tryd.f3 false true false false W args v W' := by
  have hW' := hW
  obtain ⟨p, q, hA0, hV, rfl, hfz, hnd⟩ := hW
  have hA : DataW.TrodAll enc Tryd.prog W 0 (fun _ => true) true Tryd.f3.params.toList args.toList ds p := hA0
  rw [Tryd.params3] at hA hval
  obtain ⟨v0, vs0, d0, ds0, p0, q0, hargs, rfl, rfl, h0, r0⟩ := trodAll_cons hA
  obtain ⟨rfl, rfl, rfl⟩ := trodAll_nil r0
  obtain rfl : args = #[v0] := by cases args; simp_all
  obtain ⟨rfl, rfl⟩ := trodVars_none hV
  have k0 := h0
  have lt0 : ∀ x ∈ p0, x.block < W.heap.size := by obtain ⟨m, hm⟩ := k0; exact DataW.trod_lt m _ _ _ hm
  obtain ⟨o0, rfl, in0, job0⟩ := isOp_of (hval 0 23 v0 rfl rfl) h0
  clear hA0
  refine (walk o0 in0 job0 W (env_of hL hsh)).mono fun e W' ⟨he, bel⟩ => ?_
  subst he
  exact ⟨_, rfl, _, _, _, [], _, [], hW', trodAll_mk1 (shut_bool Tryd.underlying4 _), (trodAll_cons_mk (Below.trod laidOut (by kernel_rfl) (of_decide_eq_true (by kernel_rfl)) k0 bel lt0) trodAll_mk0), rfl, bel.frame _, fun h => by cases h⟩

set_option maxRecDepth 100000 in
theorem reads (os : Os) {H : Type} (enc : TypeId × Value → H) : ∃ places, DataW.whole enc Tryd.prog ((World.doorLaid Tryd.prog 72 os).forCall (fun _ _ => 0) ⟨#[], #[.agg #[.int .i64 0, .int .i64 0, .int .i64 0, .int .i64 0, .bool false, .string ⟨#[]⟩]], []⟩).memory Tryd.f3.params.toList Rows.opChecksSpec.vars false (#[.agg #[.int .i64 0, .int .i64 0, .int .i64 0, .int .i64 0, .bool false, .string ⟨#[]⟩]] : Array Value).toList 8 = some ([.agg [.lit (.int .i64 0), .lit (.int .i64 0), .lit (.int .i64 0), .lit (.int .i64 0), .lit (.bool false), .lit (.string [])]], [], places) :=
  ⟨[], by kernel_rfl⟩

set_option maxRecDepth 100000 in
theorem lifted (os : Os) (started : os.Started) (H : Type) (enc : TypeId × Value → H) (F : Stop.Interp) :
    ReturnsInHanded {} Tryd.checked os 3 .any ((OpenSpec.ofChange Rows.opChecksSpec).preRow enc Tryd.prog Tryd.f3 Rows.opChecksRow.domain false Rows.opChecksRow.laid) (((OpenSpec.ofChange Rows.opChecksSpec).at F).post enc Tryd.prog Tryd.f3 false true false false) := by
  obtain ⟨places, hx⟩ := reads os enc
  refine returnsInHanded_of_row (C := Tryd.checked) (s := OpenSpec.ofChange Rows.opChecksSpec) own started (by kernel_rfl) Tryd.func3
    (witness_row_atRef (enc := enc) (C := Tryd.checked) false (World.doorLaid Tryd.prog 72 os) #[.agg #[.int .i64 0, .int .i64 0, .int .i64 0, .int .i64 0, .bool false, .string ⟨#[]⟩]] rfl (door_vars os _) (door_rest os _) (by kernel_rfl)
      (OpenSpec.preRow_of_cond 8 hx (by kernel_rfl) (fun k hk => by cases hk) (by kernel_rfl) (door_laid os _))) ?_
  intro W base args ds gs before hval hW _ _ _ hL hsh _
  exact contract H enc W base args ds gs before hval hW hL hsh

theorem said : Rows.OpChecksSaid :=
  OpenClaim.holds_of_cond 3 Tryd.f3 rfl rfl rfl rfl rfl rfl rfl ⟨rfl, rfl, rfl, rfl, rfl⟩ rfl rfl rfl rfl rfl (by kernel_rfl) Tryd.func3 (by kernel_rfl)
    (of_decide_eq_true (by kernel_rfl)) (by unfold Func.isWrapper; first | (rw [if_pos (by decide +kernel)]; kernel_rfl) | (rw [if_neg (by decide +kernel)]; exact ⟨rfl, rfl⟩))
    (fun os started H enc _ F => by rw [OpenClaim.pre_eq_preRow]; exact lifted os started H enc F)

theorem plain (f : FuncId) (fn : Func) (hf : Tryd.pinned.checked.prog.funcNamed "wakeman/wakemanlaw38.OpChecks" = some f) (hfn : Tryd.pinned.checked.prog.funcs[f]? = some fn) :
    Rows.opChecksCard.stood.looks = Tryd.pinned.checked.prog.looks [] ∧ ∀ (j : Nat) t, fn.params[j]? = some t → Tryd.pinned.checked.prog.wantsStandIn t = false := by
  obtain rfl : f = 3 := Option.some.inj ((show Tryd.prog.funcNamed "wakeman/wakemanlaw38.OpChecks" = some 3 by kernel_rfl).symm.trans hf) |>.symm
  obtain rfl : fn = Tryd.f3 := (Option.some.inj (Tryd.func3.symm.trans hfn)).symm
  refine ⟨by kernel_rfl, fun j t ht => ?_⟩
  rw [Tryd.params3] at ht
  have hm : t ∈ [23] := by
    have := Array.mem_of_getElem? ht
    simpa using this
  have hall : ([23].all fun u => !Tryd.prog.wantsStandIn u) = true := by kernel_rfl
  exact (show Tryd.prog.wantsStandIn t = false by simpa using List.all_eq_true.1 hall t hm)

/-- The card. -/
theorem card : Rows.OpChecksCardSaid :=
  Claim7.holds_tied_plain_at .later [] _ _ _ _ said (fun _ h => by cases h) (by kernel_rfl) (fun _ h => by cases h) opChecks_row_tie rfl ⟨rfl, rfl⟩ (by kernel_rfl) rfl plain (by kernel_rfl)
end Go.Proofs.YtnnkamfpcodnnaaDoor.lawOpChecks
