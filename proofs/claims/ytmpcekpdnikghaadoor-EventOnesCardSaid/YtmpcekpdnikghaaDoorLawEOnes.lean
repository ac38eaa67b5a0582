/- EventOnes: for every two events and every list of names the law returns true; what the call was given reads as before. Conditions: the eight listed variables lie as the program lays them. -/
import Derived.Test.YtmpcekpdnikghaaDoorEvFrame
import Derived.Test.YtmpcekpdnikghaaDoorEvFr
import Derived.Test.YtmpcekpdnikghaaDoorEvO
import Derived.Test.YtmpcekpdnikghaaDoorEvI
import Derived.SevenTiedAt
namespace Go.Proofs.YtmpcekpdnikghaaDoor.lawEventOnes
open Go.ChangeShapes Go.WideShapes Go.ChangeAt Go.RowKit
set_option maxRecDepth 100000 in
set_option maxHeartbeats 1600000 in
theorem walk (w : World) (o : Lx.EvV) (_hi : o.In) (p : Lx.EvV) (_hi2 : p.In) (ad : Option Addr) (len cap : Nat) (hz : ∃ ss, IsStrs w ad len cap ss) (env : EEnv w) :
    Calls Tryd.prog 5 #[o.val, p.val, .slice ad len cap] w fun e w' => e = .returned (.bool true) ∧ Below w.heap.size w w' := by
  obtain ⟨NS, hss⟩ := hz
  obtain ⟨hN, hsz, hlm, -⟩ := isNames_of hss
  have HW := Lib.hid (fun W (b : Below w.heap.size w W) => evworks_any W (env.below b))
  have HEQ := Lib.hid (fun W => eqEv o p W)
  have H1 := Lib.hid (fun W (b : Below w.heap.size w W) => evprint_any o ad len cap NS W (env.below b) (hN.below b) hsz hlm)
  have H2 := Lib.hid (fun W (b : Below w.heap.size w W) => evprint_any p ad len cap NS W (env.below b) (hN.below b) hsz hlm)
  unfold WriteIs at H1 H2
  obtain ⟨V1, hV1⟩ : ∃ V1 : ByteArray, V1 = ⟨(Lx.prS NS o).toArray⟩ := ⟨_, rfl⟩
  obtain ⟨V2, hV2⟩ : ∃ V2 : ByteArray, V2 = ⟨(Lx.prS NS p).toArray⟩ := ⟨_, rfl⟩
  have HV := Lib.hid (show Lx.prE NS o = 0 → Lx.prE NS p = 0 → (V1.toList == V2.toList) = Lx.evEq o p from fun a b => by
    have hd1 : V1.toList = Lx.prS NS o := by rw [Lib.toList_data, hV1]
    have hd2 : V2.toList = Lx.prS NS p := by rw [Lib.toList_data, hV2]
    rw [hd1, hd2, Bool.eq_iff_iff, beq_iff_eq, Lx.evEq_iff]
    exact Lx.pr_inj a b)
  rw [← hV1] at H1
  rw [← hV2] at H2
  clear hV1 hV2
  generalize Lx.prE NS o = x1 at *
  generalize Lx.prE NS p = x2 at *
  generalize Lx.evEq o p = B at *
  obtain ⟨ok, ot, oj, od, oa, orr, oy, on⟩ := o
  obtain ⟨pk, pt, pj, pd, pa, pr, py, pn⟩ := p
  unfold Lx.EvV.val at H1 H2 HEQ
  unfold Lx.EvV.val
  dsimp only at H1 H2 HEQ ⊢
  have b0 : Below w.heap.size w (w.alloc (.cells #[.int .i64 ok, .int .i64 ot, .int .i64 oj, .int .i64 od, .int .i64 oa, .int .i64 orr, .int .i64 oy, .int .i64 on] 23)) := (Below.refl _ w).alloc (Nat.le_refl _) _
  have b1 := b0.alloc b0.size (.cells #[.int .i64 pk, .int .i64 pt, .int .i64 pj, .int .i64 pd, .int .i64 pa, .int .i64 pr, .int .i64 py, .int .i64 pn] 23)
  have BO0 := Lib.hid ((Lx.EvBox.new w ok ot oj od oa orr oy on 23).below ((Below.refl _ _).alloc (Nat.le_refl _) (.cells #[.int .i64 pk, .int .i64 pt, .int .i64 pj, .int .i64 pd, .int .i64 pa, .int .i64 pr, .int .i64 py, .int .i64 pn] 23)))
  have bp := Lx.EvBox.new (w.alloc (.cells #[.int .i64 ok, .int .i64 ot, .int .i64 oj, .int .i64 od, .int .i64 oa, .int .i64 orr, .int .i64 oy, .int .i64 on] 23)) pk pt pj pd pa pr py pn 23
  rw [World.size_alloc] at bp
  have BP0 := Lib.hid bp
  have B0 := Lib.hid b1
  clear bp b0 b1 hss hN hsz
  by_cases hbig : 64 < len
  · have hbi : (64 : Int) < (len : Int) := by omega
    go_enter Tryd.func5, Tryd.ntmps5
    go_wp2_with fail
    refine (HW.out _ B0.out).mono ?_
    rintro e w1 ⟨rfl, c1⟩
    go_wp2_with fail
    go_ret
    exact ⟨rfl, B0.out.trans (c1.mono B0.out.size)⟩
  · have hbi : (len : Int) ≤ 64 := by omega
    go_enter Tryd.func5, Tryd.ntmps5
    obtain ⟨q0, q1, q2, q3, q4, q5, q6, q7⟩ := BO0.out.eight
    go_wp2_with fail
    refine (H1.out _ B0.out).mono ?_
    rintro e w1 ⟨rfl, c1⟩
    have BO1 := Lib.hid (BO0.out.below c1)
    have BP1 := Lib.hid (BP0.out.below c1)
    have B1 := Lib.hid (B0.out.trans (c1.mono B0.out.size))
    clear q0 q1 q2 q3 q4 q5 q6 q7 c1 BO0 BP0 B0
    obtain ⟨q0, q1, q2, q3, q4, q5, q6, q7⟩ := BP1.out.eight
    go_wp2_with fail
    refine (H2.out _ B1.out).mono ?_
    rintro e w2 ⟨rfl, c2⟩
    have BO2 := Lib.hid (BO1.out.below c2)
    have BP2 := Lib.hid (BP1.out.below c2)
    have B2 := Lib.hid (B1.out.trans (c2.mono B1.out.size))
    clear q0 q1 q2 q3 q4 q5 q6 q7 c2 BO1 BP1 B1
    obtain ⟨q0, q1, q2, q3, q4, q5, q6, q7⟩ := BP2.out.eight
    obtain ⟨s0, s1, s2, s3, s4, s5, s6, s7⟩ := BO2.out.eight
    by_cases hx1 : x1 = 0
    · have e1 : (x1 != 0) = false := by rw [bne_eq_false_iff_eq]; exact hx1
      by_cases hx2 : x2 = 0
      · have e2 : (x2 != 0) = false := by rw [bne_eq_false_iff_eq]; exact hx2
        have hv := HV.out hx1 hx2
        have heq := HEQ.out
        clear hx1 hx2 HV
        cases B
        · go_wp2_with fail
          refine (HW.out _ B2.out).mono ?_
          rintro e w3 ⟨rfl, c3⟩
          go_wp2_with fail
          go_ret
          exact ⟨rfl, B2.out.trans (c3.mono B2.out.size)⟩
        · go_wp2_with fail
          refine (HW.out _ B2.out).mono ?_
          rintro e w3 ⟨rfl, c3⟩
          go_wp2_with fail
          go_ret
          exact ⟨rfl, B2.out.trans (c3.mono B2.out.size)⟩
      · have e2 : (x2 != 0) = true := by rw [bne_iff_ne]; exact hx2
        clear hx1 hx2
        go_wp2_with fail
        refine (HW.out _ B2.out).mono ?_
        rintro e w3 ⟨rfl, c3⟩
        go_wp2_with fail
        go_ret
        exact ⟨rfl, B2.out.trans (c3.mono B2.out.size)⟩
    · have e1 : (x1 != 0) = true := by rw [bne_iff_ne]; exact hx1
      clear hx1
      go_wp2_with fail
      refine (HW.out _ B2.out).mono ?_
      rintro e w3 ⟨rfl, c3⟩
      go_wp2_with fail
      go_ret
      exact ⟨rfl, B2.out.trans (c3.mono B2.out.size)⟩

set_option maxRecDepth 100000 in
/-- What the walk gives, for every argument that can be read. -/
theorem contract (H : Type) (enc : TypeId × Value → H) (W : World) (base : Nat) (args : Array Value) (ds gs : List (DataW H)) (before : List MemPlace)
    (hval : ∀ (j : Nat) t v, Tryd.f5.params[j]? = some t → args[j]? = some v → Value.okWide Tryd.prog W .any base t v)
    (hW : DataW.Whole enc Tryd.prog Tryd.f5.params.toList Rows.eventOnesSpec.vars false W args.toList ds gs before) (hsz : (DataW.weightsEach Tryd.prog (Tryd.f5.params.toList ++ (OpenSpec.ofChange Rows.eventOnesSpec).bare.plain.varTypes Tryd.prog) (ds ++ gs)).all (· ≤ reachBytes) = true) (hL : laidMetH Tryd.prog Rows.eventOnesRow.laid W) (hsh : W.ShapedOpen Tryd.prog) :
    Calls Tryd.prog 5 args W fun e W' => ∃ v, e = .returned v ∧ Rows.eventOnesSpec.post enc Tryd.prog Tryd.f5 false true false false W args v W' := by
  have hW' := hW
  obtain ⟨p, q, hA0, hV, rfl, hfz, hnd⟩ := hW
  have hA : DataW.TrodAll enc Tryd.prog W 0 (fun _ => true) true Tryd.f5.params.toList args.toList ds p := hA0
  rw [Tryd.params5] at hA hval
  obtain ⟨v0, vs0, d0, ds0, p0, q0, hargs, rfl, rfl, h0, r0⟩ := trodAll_cons hA
  obtain ⟨v1, vs1, d1, ds1, p1, q1, rfl, rfl, rfl, h1, r1⟩ := trodAll_cons r0
  obtain ⟨v2, vs2, d2, ds2, p2, q2, rfl, rfl, rfl, h2, r2⟩ := trodAll_cons r1
  obtain ⟨rfl, rfl, rfl⟩ := trodAll_nil r2
  obtain rfl : args = #[v0, v1, v2] := by cases args; simp_all
  obtain ⟨rfl, rfl⟩ := trodVars_none hV
  have k0 := h0
  have lt0 : ∀ x ∈ p0, x.block < W.heap.size := by obtain ⟨m, hm⟩ := k0; exact DataW.trod_lt m _ _ _ hm
  obtain ⟨o0, rfl, in0⟩ := isEv_of (hval 0 23 v0 rfl rfl) h0
  have k1 := h1
  have lt1 : ∀ x ∈ p1, x.block < W.heap.size := by obtain ⟨m, hm⟩ := k1; exact DataW.trod_lt m _ _ _ hm
  obtain ⟨o1, rfl, in1⟩ := isEv_of (hval 1 23 v1 rfl rfl) h1
  obtain ⟨a2, len2, cap2, rfl⟩ := okWide_slice Tryd.underlying24 (hval 2 24 v2 rfl rfl)
  have k2 := h2
  have lt2 : ∀ x ∈ p2, x.block < W.heap.size := by obtain ⟨m, hm⟩ := k2; exact DataW.trod_lt m _ _ _ hm
  have z2 : ∃ ss, IsStrs W a2 len2 cap2 ss := by
    obtain ⟨fuel, hf⟩ := h2
    refine isStrs_of hf (fun x hx => ?_)
    have := List.all_eq_true.1 hsz x (DataW.weights_mem_each (j := 2) (t := 24) rfl rfl x hx)
    simpa using this
  clear hA0
  refine (walk W o0 in0 o1 in1 a2 len2 cap2 z2 (env_of hL hsh)).mono fun e W' ⟨he, bel⟩ => ?_
  subst he
  exact ⟨_, rfl, _, _, _, [], _, [], hW', trodAll_mk1 (shut_bool Tryd.underlying4 _), (trodAll_cons_mk (Below.trod laidOut (by kernel_rfl) (of_decide_eq_true (by kernel_rfl)) k0 bel lt0) (trodAll_cons_mk (Below.trod laidOut (by kernel_rfl) (of_decide_eq_true (by kernel_rfl)) k1 bel lt1) (trodAll_cons_mk (Below.trod laidOut (by kernel_rfl) (of_decide_eq_true (by kernel_rfl)) k2 bel lt2) trodAll_mk0))), rfl, bel.frame _, fun h => by cases h⟩

set_option maxRecDepth 100000 in
theorem reads (os : Os) {H : Type} (enc : TypeId × Value → H) : ∃ places, DataW.whole enc Tryd.prog ((World.laidAll Tryd.prog os Rows.eventOnesRow.laid).forCall (fun _ _ => 0) ⟨#[], #[.agg #[.int .i64 0, .int .i64 0, .int .i64 0, .int .i64 0, .int .i64 0, .int .i64 0, .int .i64 0, .int .i64 0], .agg #[.int .i64 0, .int .i64 0, .int .i64 0, .int .i64 0, .int .i64 0, .int .i64 0, .int .i64 0, .int .i64 0], .slice none 0 0], []⟩).memory Tryd.f5.params.toList Rows.eventOnesSpec.vars false (#[.agg #[.int .i64 0, .int .i64 0, .int .i64 0, .int .i64 0, .int .i64 0, .int .i64 0, .int .i64 0, .int .i64 0], .agg #[.int .i64 0, .int .i64 0, .int .i64 0, .int .i64 0, .int .i64 0, .int .i64 0, .int .i64 0, .int .i64 0], .slice none 0 0] : Array Value).toList 8 = some ([.agg [.lit (.int .i64 0), .lit (.int .i64 0), .lit (.int .i64 0), .lit (.int .i64 0), .lit (.int .i64 0), .lit (.int .i64 0), .lit (.int .i64 0), .lit (.int .i64 0)], .agg [.lit (.int .i64 0), .lit (.int .i64 0), .lit (.int .i64 0), .lit (.int .i64 0), .lit (.int .i64 0), .lit (.int .i64 0), .lit (.int .i64 0), .lit (.int .i64 0)], .nil], [], places) :=
  ⟨[], by kernel_rfl⟩

set_option maxRecDepth 100000 in
theorem lifted (os : Os) (started : os.Started) (H : Type) (enc : TypeId × Value → H) (F : Stop.Interp) :
    ReturnsInHanded {} Tryd.checked os 5 .any ((OpenSpec.ofChange Rows.eventOnesSpec).preRow enc Tryd.prog Tryd.f5 Rows.eventOnesRow.domain false Rows.eventOnesRow.laid) (((OpenSpec.ofChange Rows.eventOnesSpec).at F).post enc Tryd.prog Tryd.f5 false true false false) := by
  obtain ⟨places, hx⟩ := reads os enc
  refine returnsInHanded_of_row (C := Tryd.checked) (s := OpenSpec.ofChange Rows.eventOnesSpec) own started (by kernel_rfl) Tryd.func5
    (witness_row_atRef (enc := enc) (C := Tryd.checked) false (World.laidAll Tryd.prog os Rows.eventOnesRow.laid) #[.agg #[.int .i64 0, .int .i64 0, .int .i64 0, .int .i64 0, .int .i64 0, .int .i64 0, .int .i64 0, .int .i64 0], .agg #[.int .i64 0, .int .i64 0, .int .i64 0, .int .i64 0, .int .i64 0, .int .i64 0, .int .i64 0, .int .i64 0], .slice none 0 0] (World.laidAll_os _ _ _) (door_vars os _) (door_rest os _) (by kernel_rfl)
      (OpenSpec.preRow_of_cond 8 hx (by kernel_rfl) (fun k hk => by cases hk) (by kernel_rfl) (door_laid os _))) ?_
  intro W base args ds gs before hval hW _ _ hsz hL hsh _
  exact contract H enc W base args ds gs before hval hW hsz hL hsh

theorem said : Rows.EventOnesSaid :=
  OpenClaim.holds_of_cond 5 Tryd.f5 rfl rfl rfl rfl rfl rfl rfl ⟨rfl, rfl, rfl, rfl, rfl⟩ rfl rfl rfl rfl rfl (by kernel_rfl) Tryd.func5 (by kernel_rfl)
    (of_decide_eq_true (by kernel_rfl)) (by unfold Func.isWrapper; first | (rw [if_pos (by decide +kernel)]; kernel_rfl) | (rw [if_neg (by decide +kernel)]; exact ⟨rfl, rfl⟩))
    (fun os started H enc _ F => by rw [OpenClaim.pre_eq_preRow]; exact lifted os started H enc F)

theorem plain (f : FuncId) (fn : Func) (hf : Tryd.pinned.checked.prog.funcNamed "wakeman/wakemanlaw36.EventOnes" = some f) (hfn : Tryd.pinned.checked.prog.funcs[f]? = some fn) :
    Rows.eventOnesCard.stood.looks = Tryd.pinned.checked.prog.looks [] ∧ ∀ (j : Nat) t, fn.params[j]? = some t → Tryd.pinned.checked.prog.wantsStandIn t = false := by
  obtain rfl : f = 5 := Option.some.inj ((show Tryd.prog.funcNamed "wakeman/wakemanlaw36.EventOnes" = some 5 by kernel_rfl).symm.trans hf) |>.symm
  obtain rfl : fn = Tryd.f5 := (Option.some.inj (Tryd.func5.symm.trans hfn)).symm
  refine ⟨by kernel_rfl, fun j t ht => ?_⟩
  rw [Tryd.params5] at ht
  have hm : t ∈ [23, 24] := by
    have := Array.mem_of_getElem? ht
    simpa using this
  have hall : ([23, 24].all fun u => !Tryd.prog.wantsStandIn u) = true := by kernel_rfl
  exact (show Tryd.prog.wantsStandIn t = false by simpa using List.all_eq_true.1 hall t hm)

/-- The card. -/
theorem card : Rows.EventOnesCardSaid :=
  Claim7.holds_tied_plain_at .later [] _ _ _ _ said (fun _ h => by cases h) (by kernel_rfl) (fun _ h => by cases h) eventOnes_row_tie rfl ⟨rfl, rfl⟩ (by kernel_rfl) rfl plain (by kernel_rfl)
end Go.Proofs.YtmpcekpdnikghaaDoor.lawEventOnes
