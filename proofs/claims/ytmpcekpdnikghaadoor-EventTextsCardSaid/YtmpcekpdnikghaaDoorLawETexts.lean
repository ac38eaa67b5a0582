/- EventTexts: for every event and every list of names the law returns true; what the call was given reads as before. Conditions: the eight listed variables lie as the program lays them. -/
import Derived.Test.YtmpcekpdnikghaaDoorEvFrame
import Derived.Test.YtmpcekpdnikghaaDoorEvFr
import Derived.Test.YtmpcekpdnikghaaDoorEvO
import Derived.Test.YtmpcekpdnikghaaDoorR36P
import Derived.Test.YtmpcekpdnikghaaDoorEvI
import Derived.Deep.QuietTactic
import Derived.BigQuiet
import Derived.SevenTiedAt
namespace Go.Proofs.YtmpcekpdnikghaaDoor.lawEventTexts
open Go.ChangeShapes Go.WideShapes Go.ChangeAt Go.RowKit
set_option maxRecDepth 100000 in
set_option maxHeartbeats 3200000 in
theorem walk (w : World) (o : Lx.EvV) (hi : o.In) (ad : Option Addr) (len cap : Nat) (hz : ∃ ss, IsStrs w ad len cap ss) (env : EEnv w) :
    Calls Tryd.prog 3 #[o.val, .slice ad len cap] w fun e w' => e = .returned (.bool true) ∧ Below w.heap.size w w' := by
  obtain ⟨NS, hss⟩ := hz
  obtain ⟨hN, hsz, hlm, -⟩ := isNames_of hss
  have HW := Lib.hid (fun W (b : Below w.heap.size w W) => evworks_any W (env.below b))
  have HF := Lib.hid (fun W (b : Below w.heap.size w W) => few_any ad len cap NS W (hN.below b) hsz)
  have H1 := Lib.hid (fun W (b : Below w.heap.size w W) => evprint_any o ad len cap NS W (env.below b) (hN.below b) hsz hlm)
  have H2 := Lib.hid (fun W (b : Below w.heap.size w W) => r36print_any o hi ad len cap NS W (hN.below b) hsz)
  have H3 := Lib.hid (fun W => evcheck_any o W)
  have H4 := Lib.hid (fun W => r36check_any o hi W)
  unfold WriteIs at H1 H2
  unfold EvCheckIs at H3 H4
  obtain ⟨V, hV⟩ : ∃ V : ByteArray, V = ⟨(Lx.prS NS o).toArray⟩ := ⟨_, rfl⟩
  rw [← hV] at H1 H2
  clear hV
  generalize Lx.fewV NS = F at *
  generalize Lx.prE NS o = x at *
  generalize Lx.evErr o = y at *
  obtain ⟨ok, ot, oj, od, oa, orr, oy, on⟩ := o
  unfold Lx.EvV.val at H1 H2 H3 H4 ⊢
  dsimp only at H1 H2 H3 H4 ⊢
  have b0 : Below w.heap.size w (w.alloc (.cells #[.int .i64 ok, .int .i64 ot, .int .i64 oj, .int .i64 od, .int .i64 oa, .int .i64 orr, .int .i64 oy, .int .i64 on] 23)) := (Below.refl _ w).alloc (Nat.le_refl _) _
  have BO0 := Lib.hid (Lx.EvBox.new w ok ot oj od oa orr oy on 23)
  have B0 := Lib.hid b0
  clear b0 hss hN hsz hi
  cases F
  · go_enter Tryd.func3, Tryd.ntmps3
    go_wp2_with fail
    refine (HF.out _ B0.out).mono ?_
    rintro e w1 ⟨rfl, c1⟩
    have B1 := Lib.hid (B0.out.trans (c1.mono B0.out.size))
    clear c1 B0
    go_wp2_with fail
    refine (HW.out _ B1.out).mono ?_
    rintro e w2 ⟨rfl, c2⟩
    go_wp2_with fail
    go_ret
    exact ⟨rfl, B1.out.trans (c2.mono B1.out.size)⟩
  · go_enter Tryd.func3, Tryd.ntmps3
    go_wp2_with fail
    refine (HF.out _ B0.out).mono ?_
    rintro e w1 ⟨rfl, c1⟩
    have BO1 := Lib.hid (BO0.out.below c1)
    have B1 := Lib.hid (B0.out.trans (c1.mono B0.out.size))
    clear c1 BO0 B0
    obtain ⟨q0, q1, q2, q3, q4, q5, q6, q7⟩ := BO1.out.eight
    go_wp2_with fail
    refine (H1.out _ B1.out).mono ?_
    rintro e w2 ⟨rfl, c2⟩
    have BO2 := Lib.hid (BO1.out.below c2)
    have B2 := Lib.hid (B1.out.trans (c2.mono B1.out.size))
    clear q0 q1 q2 q3 q4 q5 q6 q7 c2 BO1 B1
    obtain ⟨q0, q1, q2, q3, q4, q5, q6, q7⟩ := BO2.out.eight
    go_wp2_with fail
    refine (H2.out _ B2.out).mono ?_
    rintro e w3 ⟨rfl, c3⟩
    have BO3 := Lib.hid (BO2.out.below c3)
    have B3 := Lib.hid (B2.out.trans (c3.mono B2.out.size))
    clear q0 q1 q2 q3 q4 q5 q6 q7 c3 BO2 B2
    obtain ⟨q0, q1, q2, q3, q4, q5, q6, q7⟩ := BO3.out.eight
    have hl := BO3.out.1
    have HSS := Lib.hid (show ∀ wx, Below w3.heap.size w3 wx → Below w3.heap.size w3 wx ∧ wx.cell? ⟨w.heap.size, 0, none⟩ = some (.int .i64 ok) ∧ wx.cell? ⟨w.heap.size, 1, none⟩ = some (.int .i64 ot) ∧ wx.cell? ⟨w.heap.size, 2, none⟩ = some (.int .i64 oj) ∧ wx.cell? ⟨w.heap.size, 3, none⟩ = some (.int .i64 od) ∧ wx.cell? ⟨w.heap.size, 4, none⟩ = some (.int .i64 oa) ∧ wx.cell? ⟨w.heap.size, 5, none⟩ = some (.int .i64 orr) ∧ wx.cell? ⟨w.heap.size, 6, none⟩ = some (.int .i64 oy) ∧ wx.cell? ⟨w.heap.size, 7, none⟩ = some (.int .i64 on) from fun wx b => ⟨b, (b.cell (p := ⟨w.heap.size, 0, none⟩) hl).trans q0, (b.cell (p := ⟨w.heap.size, 1, none⟩) hl).trans q1, (b.cell (p := ⟨w.heap.size, 2, none⟩) hl).trans q2, (b.cell (p := ⟨w.heap.size, 3, none⟩) hl).trans q3, (b.cell (p := ⟨w.heap.size, 4, none⟩) hl).trans q4, (b.cell (p := ⟨w.heap.size, 5, none⟩) hl).trans q5, (b.cell (p := ⟨w.heap.size, 6, none⟩) hl).trans q6, (b.cell (p := ⟨w.heap.size, 7, none⟩) hl).trans q7⟩)
    clear q0 q1 q2 q3 q4 q5 q6 q7 hl
    go_wp2_with fail
    have hS0 := HSS.out _ ((Below.refl w3.heap.size w3).drew)
    go_region_held3 (fun wx => Below w3.heap.size w3 wx ∧ wx.cell? ⟨w.heap.size, 0, none⟩ = some (.int .i64 ok) ∧ wx.cell? ⟨w.heap.size, 1, none⟩ = some (.int .i64 ot) ∧ wx.cell? ⟨w.heap.size, 2, none⟩ = some (.int .i64 oj) ∧ wx.cell? ⟨w.heap.size, 3, none⟩ = some (.int .i64 od) ∧ wx.cell? ⟨w.heap.size, 4, none⟩ = some (.int .i64 oa) ∧ wx.cell? ⟨w.heap.size, 5, none⟩ = some (.int .i64 orr) ∧ wx.cell? ⟨w.heap.size, 6, none⟩ = some (.int .i64 oy) ∧ wx.cell? ⟨w.heap.size, 7, none⟩ = some (.int .i64 on))
      (first | assumption | (refine HSS.out _ ?_; repeat (first | assumption | exact Below.refl _ _ | apply Lx.bDrew | apply Lx.bAlloc)))
      (first
        | (go_at_call 14; with_reducible refine (H3.out _).mono ?_; rintro e w5 ⟨rfl, cb⟩; have kb2 := Lx.bCall (P := fun wx => wx.cell? ⟨w.heap.size, 0, none⟩ = some (.int .i64 ok) ∧ wx.cell? ⟨w.heap.size, 1, none⟩ = some (.int .i64 ot) ∧ wx.cell? ⟨w.heap.size, 2, none⟩ = some (.int .i64 oj) ∧ wx.cell? ⟨w.heap.size, 3, none⟩ = some (.int .i64 od) ∧ wx.cell? ⟨w.heap.size, 4, none⟩ = some (.int .i64 oa) ∧ wx.cell? ⟨w.heap.size, 5, none⟩ = some (.int .i64 orr) ∧ wx.cell? ⟨w.heap.size, 6, none⟩ = some (.int .i64 oy) ∧ wx.cell? ⟨w.heap.size, 7, none⟩ = some (.int .i64 on)) (by assumption) cb; have hzz := kb2.size; have kS := HSS.out _ kb2; clear cb)
        | (go_at_call 15; with_reducible refine (H4.out _).mono ?_; rintro e w6 ⟨rfl, cb⟩; have kb2 := Lx.bCall (P := fun wx => wx.cell? ⟨w.heap.size, 0, none⟩ = some (.int .i64 ok) ∧ wx.cell? ⟨w.heap.size, 1, none⟩ = some (.int .i64 ot) ∧ wx.cell? ⟨w.heap.size, 2, none⟩ = some (.int .i64 oj) ∧ wx.cell? ⟨w.heap.size, 3, none⟩ = some (.int .i64 od) ∧ wx.cell? ⟨w.heap.size, 4, none⟩ = some (.int .i64 oa) ∧ wx.cell? ⟨w.heap.size, 5, none⟩ = some (.int .i64 orr) ∧ wx.cell? ⟨w.heap.size, 6, none⟩ = some (.int .i64 oy) ∧ wx.cell? ⟨w.heap.size, 7, none⟩ = some (.int .i64 on)) (by assumption) cb; have hzz := kb2.size; have kS := HSS.out _ kb2; clear cb)
        | (go_at_call 11; with_reducible refine (HW.out _ ?_).mono ?_; exact (B3.out.trans (Below.mono (And.left (by assumption)) B3.out.size)); rintro e w7 ⟨rfl, cb⟩; have kb2 := Lx.bCall (P := fun wx => wx.cell? ⟨w.heap.size, 0, none⟩ = some (.int .i64 ok) ∧ wx.cell? ⟨w.heap.size, 1, none⟩ = some (.int .i64 ot) ∧ wx.cell? ⟨w.heap.size, 2, none⟩ = some (.int .i64 oj) ∧ wx.cell? ⟨w.heap.size, 3, none⟩ = some (.int .i64 od) ∧ wx.cell? ⟨w.heap.size, 4, none⟩ = some (.int .i64 oa) ∧ wx.cell? ⟨w.heap.size, 5, none⟩ = some (.int .i64 orr) ∧ wx.cell? ⟨w.heap.size, 6, none⟩ = some (.int .i64 oy) ∧ wx.cell? ⟨w.heap.size, 7, none⟩ = some (.int .i64 on)) (by assumption) cb; have hzz := kb2.size; have kS := HSS.out _ kb2; clear cb))
    all_goals (go_wp2_with fail; go_ret; exact ⟨rfl, B3.out.trans (Below.mono (And.left (by assumption)) B3.out.size)⟩)

set_option maxRecDepth 100000 in
/-- What the walk gives, for every argument that can be read. -/
theorem contract (H : Type) (enc : TypeId × Value → H) (W : World) (base : Nat) (args : Array Value) (ds gs : List (DataW H)) (before : List MemPlace)
    (hval : ∀ (j : Nat) t v, Tryd.f3.params[j]? = some t → args[j]? = some v → Value.okWide Tryd.prog W .any base t v)
    (hW : DataW.Whole enc Tryd.prog Tryd.f3.params.toList Rows.eventTextsSpec.vars false W args.toList ds gs before) (hsz : (DataW.weightsEach Tryd.prog (Tryd.f3.params.toList ++ (OpenSpec.ofChange Rows.eventTextsSpec).bare.plain.varTypes Tryd.prog) (ds ++ gs)).all (· ≤ reachBytes) = true) (hL : laidMetH Tryd.prog Rows.eventTextsRow.laid W) (hsh : W.ShapedOpen Tryd.prog) :
    Calls Tryd.prog 3 args W fun e W' => ∃ v, e = .returned v ∧ Rows.eventTextsSpec.post enc Tryd.prog Tryd.f3 false true false false W args v W' := by
  have hW' := hW
  obtain ⟨p, q, hA0, hV, rfl, hfz, hnd⟩ := hW
  have hA : DataW.TrodAll enc Tryd.prog W 0 (fun _ => true) true Tryd.f3.params.toList args.toList ds p := hA0
  rw [Tryd.params3] at hA hval
  obtain ⟨v0, vs0, d0, ds0, p0, q0, hargs, rfl, rfl, h0, r0⟩ := trodAll_cons hA
  obtain ⟨v1, vs1, d1, ds1, p1, q1, rfl, rfl, rfl, h1, r1⟩ := trodAll_cons r0
  obtain ⟨rfl, rfl, rfl⟩ := trodAll_nil r1
  obtain rfl : args = #[v0, v1] := by cases args; simp_all
  obtain ⟨rfl, rfl⟩ := trodVars_none hV
  have k0 := h0
  have lt0 : ∀ x ∈ p0, x.block < W.heap.size := by obtain ⟨m, hm⟩ := k0; exact DataW.trod_lt m _ _ _ hm
  obtain ⟨o0, rfl, in0⟩ := isEv_of (hval 0 23 v0 rfl rfl) h0
  obtain ⟨a1, len1, cap1, rfl⟩ := okWide_slice Tryd.underlying24 (hval 1 24 v1 rfl rfl)
  have k1 := h1
  have lt1 : ∀ x ∈ p1, x.block < W.heap.size := by obtain ⟨m, hm⟩ := k1; exact DataW.trod_lt m _ _ _ hm
  have z1 : ∃ ss, IsStrs W a1 len1 cap1 ss := by
    obtain ⟨fuel, hf⟩ := h1
    refine isStrs_of hf (fun x hx => ?_)
    have := List.all_eq_true.1 hsz x (DataW.weights_mem_each (j := 1) (t := 24) rfl rfl x hx)
    simpa using this
  clear hA0
  refine (walk W o0 in0 a1 len1 cap1 z1 (env_of hL hsh)).mono fun e W' ⟨he, bel⟩ => ?_
  subst he
  exact ⟨_, rfl, _, _, _, [], _, [], hW', trodAll_mk1 (shut_bool Tryd.underlying4 _), (trodAll_cons_mk (Below.trod laidOut (by kernel_rfl) (of_decide_eq_true (by kernel_rfl)) k0 bel lt0) (trodAll_cons_mk (Below.trod laidOut (by kernel_rfl) (of_decide_eq_true (by kernel_rfl)) k1 bel lt1) trodAll_mk0)), rfl, bel.frame _, fun h => by cases h⟩

set_option maxRecDepth 100000 in
theorem reads (os : Os) {H : Type} (enc : TypeId × Value → H) : ∃ places, DataW.whole enc Tryd.prog ((World.laidAll Tryd.prog os Rows.eventOnesRow.laid).forCall (fun _ _ => 0) ⟨#[], #[.agg #[.int .i64 0, .int .i64 0, .int .i64 0, .int .i64 0, .int .i64 0, .int .i64 0, .int .i64 0, .int .i64 0], .slice none 0 0], []⟩).memory Tryd.f3.params.toList Rows.eventTextsSpec.vars false (#[.agg #[.int .i64 0, .int .i64 0, .int .i64 0, .int .i64 0, .int .i64 0, .int .i64 0, .int .i64 0, .int .i64 0], .slice none 0 0] : Array Value).toList 8 = some ([.agg [.lit (.int .i64 0), .lit (.int .i64 0), .lit (.int .i64 0), .lit (.int .i64 0), .lit (.int .i64 0), .lit (.int .i64 0), .lit (.int .i64 0), .lit (.int .i64 0)], .nil], [], places) :=
  ⟨[], by kernel_rfl⟩

set_option maxRecDepth 100000 in
theorem lifted (os : Os) (started : os.Started) (H : Type) (enc : TypeId × Value → H) (F : Stop.Interp) :
    ReturnsInHanded {} Tryd.checked os 3 .any ((OpenSpec.ofChange Rows.eventTextsSpec).preRow enc Tryd.prog Tryd.f3 Rows.eventTextsRow.domain false Rows.eventTextsRow.laid) (((OpenSpec.ofChange Rows.eventTextsSpec).at F).post enc Tryd.prog Tryd.f3 false true false false) := by
  obtain ⟨places, hx⟩ := reads os enc
  refine returnsInHanded_of_row (C := Tryd.checked) (s := OpenSpec.ofChange Rows.eventTextsSpec) own started (by kernel_rfl) Tryd.func3
    (witness_row_atRef (enc := enc) (C := Tryd.checked) false (World.laidAll Tryd.prog os Rows.eventOnesRow.laid) #[.agg #[.int .i64 0, .int .i64 0, .int .i64 0, .int .i64 0, .int .i64 0, .int .i64 0, .int .i64 0, .int .i64 0], .slice none 0 0] (World.laidAll_os _ _ _) (door_vars os _) (door_rest os _) (by kernel_rfl)
      (OpenSpec.preRow_of_cond 8 hx (by kernel_rfl) (fun k hk => by cases hk) (by kernel_rfl) (door_laid os _))) ?_
  intro W base args ds gs before hval hW _ _ hsz hL hsh _
  exact contract H enc W base args ds gs before hval hW hsz hL hsh

theorem said : Rows.EventTextsSaid :=
  OpenClaim.holds_of_cond 3 Tryd.f3 rfl rfl rfl rfl rfl rfl rfl ⟨rfl, rfl, rfl, rfl, rfl⟩ rfl rfl rfl rfl rfl (by kernel_rfl) Tryd.func3 (by kernel_rfl)
    (of_decide_eq_true (by kernel_rfl)) (by unfold Func.isWrapper; first | (rw [if_pos (by decide +kernel)]; kernel_rfl) | (rw [if_neg (by decide +kernel)]; exact ⟨rfl, rfl⟩))
    (fun os started H enc _ F => by rw [OpenClaim.pre_eq_preRow]; exact lifted os started H enc F)

theorem plain (f : FuncId) (fn : Func) (hf : Tryd.pinned.checked.prog.funcNamed "wakeman/wakemanlaw36.EventTexts" = some f) (hfn : Tryd.pinned.checked.prog.funcs[f]? = some fn) :
    Rows.eventTextsCard.stood.looks = Tryd.pinned.checked.prog.looks [] ∧ ∀ (j : Nat) t, fn.params[j]? = some t → Tryd.pinned.checked.prog.wantsStandIn t = false := by
  obtain rfl : f = 3 := Option.some.inj ((show Tryd.prog.funcNamed "wakeman/wakemanlaw36.EventTexts" = some 3 by kernel_rfl).symm.trans hf) |>.symm
  obtain rfl : fn = Tryd.f3 := (Option.some.inj (Tryd.func3.symm.trans hfn)).symm
  refine ⟨by kernel_rfl, fun j t ht => ?_⟩
  rw [Tryd.params3] at ht
  have hm : t ∈ [23, 24] := by
    have := Array.mem_of_getElem? ht
    simpa using this
  have hall : ([23, 24].all fun u => !Tryd.prog.wantsStandIn u) = true := by kernel_rfl
  exact (show Tryd.prog.wantsStandIn t = false by simpa using List.all_eq_true.1 hall t hm)

/-- The card. -/
theorem card : Rows.EventTextsCardSaid :=
  Claim7.holds_tied_plain_at .later [] _ _ _ _ said (fun _ h => by cases h) (by kernel_rfl) (fun _ h => by cases h) eventTexts_row_tie rfl ⟨rfl, rfl⟩ (by kernel_rfl) rfl plain (by kernel_rfl)
end Go.Proofs.YtmpcekpdnikghaaDoor.lawEventTexts
