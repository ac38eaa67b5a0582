/- OpBack: for every operation and every text the law returns true; what the call was given reads as before. Conditions: the five listed variables lie as the program lays them. -/
import Derived.Test.YtnnkamfpcodnnaaDoorOpFrame
import Derived.Test.YtnnkamfpcodnnaaDoorOpFr
import Derived.Test.YtnnkamfpcodnnaaDoorOpWk
import Derived.SevenTiedAt
namespace Go.Proofs.YtnnkamfpcodnnaaDoor.lawOpBack
open Go.ChangeShapes Go.WideShapes Go.ChangeAt Go.RowKit
theorem opt_of {o : Lx.OpV} {V : ByteArray} (hi : o.In) (h : Lx.opErr o = 0) (hV : V.data.toList = Lx.opText o) : Lx.ReadsOp V.data.toList o 0 := .inl ⟨rfl, ⟨h, hV.symm⟩, hi⟩
theorem Lx.job_len {o : Lx.OpV} (h : Lx.opErr o = 0) : o.job.size ≤ maxLen := by
  have z : (⟨#[]⟩ : ByteArray).size ≤ maxLen := by unfold maxLen; decide
  rcases Lx.opErr_zero h with ⟨_, _, _, ho⟩ | ⟨_, _, _, ho⟩ | ⟨_, _, ho⟩ | ⟨_, a, ho⟩
  · rw [ho]; exact z
  · rw [ho]; exact z
  · rw [ho]; exact z
  · have := (Lx.isName_facts a).1
    unfold maxLen; omega
set_option maxRecDepth 100000 in
set_option maxHeartbeats 1600000 in
theorem walk (o : Lx.OpV) (hi : o.In) (hj : o.job.size ≤ maxLen) (s : ByteArray) (_hs : s.size ≤ maxLen) (w : World) (env : Env w) :
    Calls Tryd.prog 5 #[o.val, .string s] w fun e w' => e = .returned (.bool true) ∧ Below w.heap.size w w' := by
  have HP0 := Lib.hid (fun W h => print_bad o W hj h)
  have HP1 := Lib.hid (fun W E h => print_good o W E hi h)
  have HC := Lib.hid (fun W => check_any o W hj)
  have HR := Lib.hid (fun V h hV => opt_of (o := o) (V := V) hi h hV)
  have HT := Lib.hid (fun h => Lx.opText_facts (o := o) h hi.2.2.2.2)
  unfold CheckIs at HC
  unfold PrintIs at HP1
  obtain ⟨x, hx⟩ : ∃ x, Lx.opErr o = x := ⟨_, rfl⟩
  obtain ⟨T, hT⟩ : ∃ T, Lx.opText o = T := ⟨_, rfl⟩
  rw [hx] at HP0 HP1 HC HR HT
  rw [hT] at HP1 HR HT
  obtain ⟨k, d, t, r, ok, job⟩ := o
  unfold Lx.OpV.val at HP0 HP1 HC ⊢
  have hba : Below w.heap.size w (w.alloc (.cells #[.int .i64 k, .int .i64 d, .int .i64 t, .int .i64 r, .bool ok, .string job] 23)) := (Below.refl _ _).alloc (Nat.le_refl _) _
  have BO0 := Lib.hid (Lx.OpBox.new w k d t r ok job 23)
  have HW := Lib.hid (opworks_any _ (env.below hba))
  have B0 := Lib.hid hba
  clear hba hx hT hi hj
  by_cases hbig : 100 < job.size
  · have hbi : (100 : Int) < (job.size : Int) := by omega
    go_enter Tryd.func5, Tryd.ntmps5
    go_wp2_with fail
    refine (HW.out).mono ?_
    rintro e w1 ⟨rfl, c1⟩
    have B1 := Lib.hid (B0.out.trans (c1.mono B0.out.size))
    clear c1  B0
    go_wp2_with fail
    go_ret
    exact ⟨rfl, B1.out⟩
  · have g1 : decide (100 < (job.size : Int)) = false := decide_eq_false (by omega)
    by_cases hbs : 100 < s.size
    · have hbj : (100 : Int) < (s.size : Int) := by omega
      go_enter Tryd.func5, Tryd.ntmps5
      go_wp2_with fail
      refine (HW.out).mono ?_
      rintro e w1 ⟨rfl, c1⟩
      have B1 := Lib.hid (B0.out.trans (c1.mono B0.out.size))
      clear c1  B0
      go_wp2_with fail
      go_ret
      exact ⟨rfl, B1.out⟩
    · have hbj : (s.size : Int) ≤ 100 := by omega
      have g2 : decide (100 < (s.size : Int)) = false := decide_eq_false (by omega)
      have HQ := Lib.hid (fun W (E : Env W) => op_parse s W E (by omega))
      by_cases hx : x = 0
      · subst hx
        have HP := Lib.hid (fun W E => HP1.out W E rfl)
        obtain ⟨V, hV⟩ : ∃ V : ByteArray, V = ⟨T.toArray⟩ := ⟨_, rfl⟩
        have hVl : V.data.toList = T := by rw [hV]
        rw [← hV] at HP
        have hVs : V.size ≤ 32 := by rw [Lib.size_eq, hVl]; exact (HT.out rfl).2
        have HQV := Lib.hid (fun W (E : Env W) => parse_at V _ _ W E (by omega) (HR.out V rfl hVl))
        unfold Lx.OpV.val at HQV
        have heq : ∀ W, (Op.equalIn 10000 23 (.agg #[.int .i64 k, .int .i64 d, .int .i64 t, .int .i64 r, .bool ok, .string job]) (.agg #[.int .i64 k, .int .i64 d, .int .i64 t, .int .i64 r, .bool ok, .string job])).run Tryd.prog W = .ok true W := fun W => (eqOp _ _ _ _ _ _ _ _ _ _ _ _ W).trans (by simp)
        clear HP0 HP1 HR HT hV hVl
        go_enter Tryd.func5, Tryd.ntmps5
        go_wp2_with fail
        refine (HP.out _ (env.below B0.out)).mono ?_
        rintro e w1 ⟨rfl, c1⟩
        have BO1 := Lib.hid (BO0.out.below c1)
        have B1 := Lib.hid (B0.out.trans (c1.mono B0.out.size))
        clear c1 BO0 B0
        obtain ⟨q0, q1, q2, q3, q4, q5⟩ := BO1.out.six
        go_wp2_with fail
        refine (HC.out _).mono ?_
        rintro e w22 ⟨rfl, c22⟩
        have BO22 := Lib.hid (BO1.out.below c22)
        have B22 := Lib.hid (B1.out.trans (c22.mono B1.out.size))
        clear c22 BO1 B1
        go_wp2_with fail
        refine (HQV.out _ (env.below B22.out)).mono ?_
        rintro e w23 ⟨rfl, c23⟩
        have BO23 := Lib.hid (BO22.out.below c23)
        have B23 := Lib.hid (B22.out.trans (c23.mono B22.out.size))
        clear c23 BO22 B22
        have BQ23 := Lib.hid (Lx.OpBox.new w23 k d t r ok job 23)
        have c2 := (Below.refl (w23).heap.size (w23)).alloc (Nat.le_refl _) (.cells #[.int .i64 k, .int .i64 d, .int .i64 t, .int .i64 r, .bool ok, .string job] 23)
        have BO2 := Lib.hid (BO23.out.below c2)
        have B2 := Lib.hid (B23.out.trans (c2.mono B23.out.size))
        clear c2 BO23 B23
        obtain ⟨q0, q1, q2, q3, q4, q5⟩ := BO2.out.six
        obtain ⟨y0, y1, y2, y3, y4, y5⟩ := BQ23.out.six
        go_wp2_with fail
        refine (HQ.out _ (env.below B2.out)).mono ?_
        rintro e w3 ⟨⟨k', d', t', r', ok', job'⟩, x', rfl, hr, c3⟩
        unfold Lx.OpV.val
        dsimp only
        have B3 := Lib.hid (B2.out.trans (c3.mono B2.out.size))
        clear c3 B2 BO2 q0 q1 q2 q3 q4 q5 y0 y1 y2 y3 y4 y5 heq HC HP
        have c4 := (Below.refl (w3).heap.size (w3)).alloc (Nat.le_refl _) (.cells #[.int .i64 k', .int .i64 d', .int .i64 t', .int .i64 r', .bool ok', .string job'] 23)
        have B4 := Lib.hid (B3.out.trans (c4.mono B3.out.size))
        clear c4  B3
        have BP4 := Lib.hid (Lx.OpBox.new w3 k' d' t' r' ok' job' 23)
        rcases hr with ⟨rfl, hp, hin⟩ | ⟨rfl, hz, hno⟩
        · have HC2 := Lib.hid (fun W => check_any ⟨k', d', t', r', ok', job'⟩ W (Lx.job_len hp.1))
          have HP2 := Lib.hid (fun W (E : Env W) => print_at ⟨k', d', t', r', ok', job'⟩ s W E hin hp.1 hp.2)
          unfold CheckIs at HC2
          rw [hp.1] at HC2
          unfold Lx.OpV.val at HC2 HP2
          clear hp hin
          obtain ⟨q0, q1, q2, q3, q4, q5⟩ := BP4.out.six
          go_wp2_with fail
          refine (HP2.out _ (env.below B4.out)).mono ?_
          rintro e w5 ⟨rfl, c5⟩
          have BP5 := Lib.hid (BP4.out.below c5)
          have B5 := Lib.hid (B4.out.trans (c5.mono B4.out.size))
          clear c5 BP4 B4
          obtain ⟨q0, q1, q2, q3, q4, q5⟩ := BP5.out.six
          go_wp2_with fail
          refine (HC2.out _).mono ?_
          rintro e w6 ⟨rfl, c6⟩
          have B6 := Lib.hid (B5.out.trans (c6.mono B5.out.size))
          clear c6  B5
          go_wp2_with fail
          refine (opworks_any _ (env.below B6.out)).mono ?_
          rintro e w7 ⟨rfl, c7⟩
          have B7 := Lib.hid (B6.out.trans (c7.mono B6.out.size))
          clear c7  B6
          go_wp2_with fail
          go_ret
          exact ⟨rfl, B7.out⟩
        · injection hz with z1 z2 z3 z4 z5 z6
          subst z1 z2 z3 z4 z5 z6
          have Hno := Lib.hid hno
          clear hno
          obtain ⟨q0, q1, q2, q3, q4, q5⟩ := BP4.out.six
          go_wp2_with fail
          refine (opworks_any _ (env.below B4.out)).mono ?_
          rintro e w7 ⟨rfl, c7⟩
          have B7 := Lib.hid (B4.out.trans (c7.mono B4.out.size))
          clear c7  B4
          go_wp2_with fail
          go_ret
          exact ⟨rfl, B7.out⟩
      · have xe : (x == 0) = false := by rw [beq_eq_false_iff_ne]; exact hx
        have xb : (x != x) = false := by simp
        have HP := Lib.hid (fun W => HP0.out W hx)
        clear HP0 HP1 HR HT
        go_enter Tryd.func5, Tryd.ntmps5
        go_wp2_with fail
        refine (HP.out _).mono ?_
        rintro e w1 ⟨rfl, c1⟩
        have BO1 := Lib.hid (BO0.out.below c1)
        have B1 := Lib.hid (B0.out.trans (c1.mono B0.out.size))
        clear c1 BO0 B0
        obtain ⟨q0, q1, q2, q3, q4, q5⟩ := BO1.out.six
        go_wp2_with fail
        refine (HC.out _).mono ?_
        rintro e w2 ⟨rfl, c2⟩
        have BO2 := Lib.hid (BO1.out.below c2)
        have B2 := Lib.hid (B1.out.trans (c2.mono B1.out.size))
        clear c2 BO1 B1
        go_wp2_with fail
        refine (HQ.out _ (env.below B2.out)).mono ?_
        rintro e w3 ⟨⟨k', d', t', r', ok', job'⟩, x', rfl, hr, c3⟩
        unfold Lx.OpV.val
        dsimp only
        have B3 := Lib.hid (B2.out.trans (c3.mono B2.out.size))
        clear c3 B2 BO2 q0 q1 q2 q3 q4 q5 HC HP
        have c4 := (Below.refl (w3).heap.size (w3)).alloc (Nat.le_refl _) (.cells #[.int .i64 k', .int .i64 d', .int .i64 t', .int .i64 r', .bool ok', .string job'] 23)
        have B4 := Lib.hid (B3.out.trans (c4.mono B3.out.size))
        clear c4  B3
        have BP4 := Lib.hid (Lx.OpBox.new w3 k' d' t' r' ok' job' 23)
        rcases hr with ⟨rfl, hp, hin⟩ | ⟨rfl, hz, hno⟩
        · have HC2 := Lib.hid (fun W => check_any ⟨k', d', t', r', ok', job'⟩ W (Lx.job_len hp.1))
          have HP2 := Lib.hid (fun W (E : Env W) => print_at ⟨k', d', t', r', ok', job'⟩ s W E hin hp.1 hp.2)
          unfold CheckIs at HC2
          rw [hp.1] at HC2
          unfold Lx.OpV.val at HC2 HP2
          clear hp hin
          obtain ⟨q0, q1, q2, q3, q4, q5⟩ := BP4.out.six
          go_wp2_with fail
          refine (HP2.out _ (env.below B4.out)).mono ?_
          rintro e w5 ⟨rfl, c5⟩
          have BP5 := Lib.hid (BP4.out.below c5)
          have B5 := Lib.hid (B4.out.trans (c5.mono B4.out.size))
          clear c5 BP4 B4
          obtain ⟨q0, q1, q2, q3, q4, q5⟩ := BP5.out.six
          go_wp2_with fail
          refine (HC2.out _).mono ?_
          rintro e w6 ⟨rfl, c6⟩
          have B6 := Lib.hid (B5.out.trans (c6.mono B5.out.size))
          clear c6  B5
          go_wp2_with fail
          refine (opworks_any _ (env.below B6.out)).mono ?_
          rintro e w7 ⟨rfl, c7⟩
          have B7 := Lib.hid (B6.out.trans (c7.mono B6.out.size))
          clear c7  B6
          go_wp2_with fail
          go_ret
          exact ⟨rfl, B7.out⟩
        · injection hz with z1 z2 z3 z4 z5 z6
          subst z1 z2 z3 z4 z5 z6
          have Hno := Lib.hid hno
          clear hno
          obtain ⟨q0, q1, q2, q3, q4, q5⟩ := BP4.out.six
          go_wp2_with fail
          refine (opworks_any _ (env.below B4.out)).mono ?_
          rintro e w7 ⟨rfl, c7⟩
          have B7 := Lib.hid (B4.out.trans (c7.mono B4.out.size))
          clear c7  B4
          go_wp2_with fail
          go_ret
          exact ⟨rfl, B7.out⟩

set_option maxRecDepth 100000 in
/-- What the walk gives, for every argument that can be read. -/
theorem contract (H : Type) (enc : TypeId × Value → H) (W : World) (base : Nat) (args : Array Value) (ds gs : List (DataW H)) (before : List MemPlace)
    (hval : ∀ (j : Nat) t v, Tryd.f5.params[j]? = some t → args[j]? = some v → Value.okWide Tryd.prog W .any base t v)
    (hW : DataW.Whole enc Tryd.prog Tryd.f5.params.toList Rows.opBackSpec.vars false W args.toList ds gs before) (hL : laidMetH Tryd.prog Rows.opBackRow.laid W) (hsh : W.ShapedOpen Tryd.prog) :
    Calls Tryd.prog 5 args W fun e W' => ∃ v, e = .returned v ∧ Rows.opBackSpec.post enc Tryd.prog Tryd.f5 false true false false W args v W' := by
  have hW' := hW
  obtain ⟨p, q, hA0, hV, rfl, hfz, hnd⟩ := hW
  have hA : DataW.TrodAll enc Tryd.prog W 0 (fun _ => true) true Tryd.f5.params.toList args.toList ds p := hA0
  rw [Tryd.params5] at hA hval
  obtain ⟨v0, vs0, d0, ds0, p0, q0, hargs, rfl, rfl, h0, r0⟩ := trodAll_cons hA
  obtain ⟨v1, vs1, d1, ds1, p1, q1, rfl, rfl, rfl, h1, r1⟩ := trodAll_cons r0
  obtain ⟨rfl, rfl, rfl⟩ := trodAll_nil r1
  obtain rfl : args = #[v0, v1] := by cases args; simp_all
  obtain ⟨rfl, rfl⟩ := trodVars_none hV
  have k0 := h0
  have lt0 : ∀ x ∈ p0, x.block < W.heap.size := by obtain ⟨m, hm⟩ := k0; exact DataW.trod_lt m _ _ _ hm
  obtain ⟨o0, rfl, in0, job0⟩ := isOp_of (hval 0 23 v0 rfl rfl) h0
  obtain ⟨s1, rfl, rfl, rfl, w1⟩ := Go.ChangeMaps.open_string Tryd.underlying9 (hval 1 9 v1 rfl rfl) h1
  clear hA0
  refine (walk o0 in0 job0 s1 w1 W (env_of hL hsh)).mono fun e W' ⟨he, bel⟩ => ?_
  subst he
  exact ⟨_, rfl, _, _, _, [], _, [], hW', trodAll_mk1 (shut_bool Tryd.underlying4 _), (trodAll_cons_mk (Below.trod laidOut (by kernel_rfl) (of_decide_eq_true (by kernel_rfl)) k0 bel lt0) (trodAll_cons_mk (Go.ChangeMaps.shut_string Tryd.underlying9 w1) trodAll_mk0)), rfl, bel.frame _, fun h => by cases h⟩

set_option maxRecDepth 100000 in
theorem reads (os : Os) {H : Type} (enc : TypeId × Value → H) : ∃ places, DataW.whole enc Tryd.prog ((World.doorLaid Tryd.prog 72 os).forCall (fun _ _ => 0) ⟨#[], #[.agg #[.int .i64 0, .int .i64 0, .int .i64 0, .int .i64 0, .bool false, .string ⟨#[]⟩], .string ⟨#[]⟩], []⟩).memory Tryd.f5.params.toList Rows.opBackSpec.vars false (#[.agg #[.int .i64 0, .int .i64 0, .int .i64 0, .int .i64 0, .bool false, .string ⟨#[]⟩], .string ⟨#[]⟩] : Array Value).toList 8 = some ([.agg [.lit (.int .i64 0), .lit (.int .i64 0), .lit (.int .i64 0), .lit (.int .i64 0), .lit (.bool false), .lit (.string [])], .lit (.string [])], [], places) :=
  ⟨[], by kernel_rfl⟩

set_option maxRecDepth 100000 in
theorem lifted (os : Os) (started : os.Started) (H : Type) (enc : TypeId × Value → H) (F : Stop.Interp) :
    ReturnsInHanded {} Tryd.checked os 5 .any ((OpenSpec.ofChange Rows.opBackSpec).preRow enc Tryd.prog Tryd.f5 Rows.opBackRow.domain false Rows.opBackRow.laid) (((OpenSpec.ofChange Rows.opBackSpec).at F).post enc Tryd.prog Tryd.f5 false true false false) := by
  obtain ⟨places, hx⟩ := reads os enc
  refine returnsInHanded_of_row (C := Tryd.checked) (s := OpenSpec.ofChange Rows.opBackSpec) own started (by kernel_rfl) Tryd.func5
    (witness_row_atRef (enc := enc) (C := Tryd.checked) false (World.doorLaid Tryd.prog 72 os) #[.agg #[.int .i64 0, .int .i64 0, .int .i64 0, .int .i64 0, .bool false, .string ⟨#[]⟩], .string ⟨#[]⟩] rfl (door_vars os _) (door_rest os _) (by kernel_rfl)
      (OpenSpec.preRow_of_cond 8 hx (by kernel_rfl) (fun k hk => by cases hk) (by kernel_rfl) (door_laid os _))) ?_
  intro W base args ds gs before hval hW _ _ _ hL hsh _
  exact contract H enc W base args ds gs before hval hW hL hsh

theorem said : Rows.OpBackSaid :=
  OpenClaim.holds_of_cond 5 Tryd.f5 rfl rfl rfl rfl rfl rfl rfl ⟨rfl, rfl, rfl, rfl, rfl⟩ rfl rfl rfl rfl rfl (by kernel_rfl) Tryd.func5 (by kernel_rfl)
    (of_decide_eq_true (by kernel_rfl)) (by unfold Func.isWrapper; first | (rw [if_pos (by decide +kernel)]; kernel_rfl) | (rw [if_neg (by decide +kernel)]; exact ⟨rfl, rfl⟩))
    (fun os started H enc _ F => by rw [OpenClaim.pre_eq_preRow]; exact lifted os started H enc F)

theorem plain (f : FuncId) (fn : Func) (hf : Tryd.pinned.checked.prog.funcNamed "wakeman/wakemanlaw38.OpBack" = some f) (hfn : Tryd.pinned.checked.prog.funcs[f]? = some fn) :
    Rows.opBackCard.stood.looks = Tryd.pinned.checked.prog.looks [] ∧ ∀ (j : Nat) t, fn.params[j]? = some t → Tryd.pinned.checked.prog.wantsStandIn t = false := by
  obtain rfl : f = 5 := Option.some.inj ((show Tryd.prog.funcNamed "wakeman/wakemanlaw38.OpBack" = some 5 by kernel_rfl).symm.trans hf) |>.symm
  obtain rfl : fn = Tryd.f5 := (Option.some.inj (Tryd.func5.symm.trans hfn)).symm
  refine ⟨by kernel_rfl, fun j t ht => ?_⟩
  rw [Tryd.params5] at ht
  have hm : t ∈ [23, 9] := by
    have := Array.mem_of_getElem? ht
    simpa using this
  have hall : ([23, 9].all fun u => !Tryd.prog.wantsStandIn u) = true := by kernel_rfl
  exact (show Tryd.prog.wantsStandIn t = false by simpa using List.all_eq_true.1 hall t hm)

/-- The card. -/
theorem card : Rows.OpBackCardSaid :=
  Claim7.holds_tied_plain_at .later [] _ _ _ _ said (fun _ h => by cases h) (by kernel_rfl) (fun _ h => by cases h) opBack_row_tie rfl ⟨rfl, rfl⟩ (by kernel_rfl) rfl plain (by kernel_rfl)
end Go.Proofs.YtnnkamfpcodnnaaDoor.lawOpBack
