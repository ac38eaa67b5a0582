/- OpSums: for every two lists of operations the law returns true; what the call was given reads as before. Conditions: the five listed variables lie as the program lays them. -/
import Derived.Test.YtnnkamfpcodnnaaDoorOpFrame
import Derived.Test.YtnnkamfpcodnnaaDoorOpFr
import Derived.Test.YtnnkamfpcodnnaaDoorOpWk
import Derived.Test.YtnnkamfpcodnnaaDoorOpT
import Derived.SevenTiedAt
namespace Go.Proofs.YtnnkamfpcodnnaaDoor.lawOpSums
open Go.ChangeShapes Go.WideShapes Go.ChangeAt Go.RowKit
set_option maxRecDepth 100000 in
set_option maxHeartbeats 3200000 in
theorem walk (w : World) (ad : Option Addr) (n cap : Nat) (L : List Lx.OpV) (z : OpsIn w ad n L) (ad' : Option Addr) (n' cap' : Nat) (L' : List Lx.OpV) (z' : OpsIn w ad' n' L') (env : Env w) :
    Calls Tryd.prog 8 #[.slice ad n cap, .slice ad' n' cap'] w fun e w' => e = .returned (.bool true) ∧ Below w.heap.size w w' := by
  obtain ⟨io, hn, hin⟩ := z
  obtain ⟨io', hn', hin'⟩ := z'
  have HV1 := Lib.hid (valid_any ad n cap L w io (fun o ho => (hin o ho).2) hn)
  have HV2 := Lib.hid (fun W (h : Lx.IsOps W ad' n' L') => valid_any ad' n' cap' L' W h (fun o ho => (hin' o ho).2) hn')
  have IO := Lib.hid io'
  clear io io' hn hn' hin hin'
  go_enter Tryd.func8, Tryd.ntmps8
  go_wp2_with fail
  refine HV1.out.mono ?_
  rintro e w1 ⟨v1, rfl, r1, b1⟩
  have IO1 := Lib.hid (IO.out.below b1)
  have R1 := Lib.hid r1
  have B1 := Lib.hid b1
  clear IO b1 r1 HV1
  go_wp2_with fail
  refine (HV2.out _ IO1.out).mono ?_
  rintro e w2 ⟨v2, rfl, r2, b2⟩
  have R1 := Lib.hid (Lx.ownBelowO R1.out b2)
  have R2 := Lib.hid r2
  have B2 := Lib.hid (B1.out.trans (b2.mono B1.out.size))
  have hq1 := Lx.validL_len L
  have hq2 := Lx.validL_len L'
  have R0 := Lib.hid ((World.ownsRow_made (e := 23) (size := 6) (base := w2.heap.size) w2 #[] 0 (Nat.le_refl _) (by unfold maxLen; omega) rfl))
  obtain ⟨i0, hi, hz0, hz1, hz2⟩ := info_parts infoOp
  have HONE := Lib.hid Lx.opCells_one
  have z2 := (Below.refl w2.heap.size w2).alloc (Nat.le_refl _) (.cells #[] 23)
  have Z2 := Lib.hid z2
  have S1 := Lib.hid ((Src.row R1.out).below z2)
  have S2 := Lib.hid (Src.row R2.out)
  obtain ⟨A1, c1, rfl, j1⟩ := Lx.row_isOps' R1.out
  obtain ⟨A2, c2, rfl, j2⟩ := Lx.row_isOps' R2.out
  have I1 := Lib.hid (j1 rfl)
  have I2 := Lib.hid (j2 rfl)
  have ok1 := Lx.validL_ok L
  have ok2 := Lx.validL_ok L'
  have hap := Lx.opCells_app (Lx.validL L) (Lx.validL L')
  have hlp : (Lx.validL L ++ Lx.validL L').length = (Lx.validL L).length + (Lx.validL L').length := List.length_append
  clear z2 r2 b2 j1 j2 R1
  generalize Lx.validL L = X at *
  generalize Lx.validL L' = Y at *
  generalize hx1 : X.length = q1 at *
  generalize hx2 : Y.length = q2 at *
  have okp := ok1.app ok2
  have f1 := Lx.len_ok ok1 (by omega)
  have f2 := Lx.len_ok ok2 (by omega)
  have f3 := Lx.len_ok okp (by rw [hlp]; omega)
  rw [Lx.sumD_app, Lx.plainL_app] at f3
  have sb1 := Lx.sumD_bd ok1
  have sb2 := Lx.sumD_bd ok2
  have hj1 := fun o (ho : o ∈ X) => Lx.jobLen (ok1 o ho)
  have hj2 := fun o (ho : o ∈ Y) => Lx.jobLen (ok2 o ho)
  have hj3 := fun o (ho : o ∈ X ++ Y) => Lx.jobLen (okp o ho)
  rw [hx1] at sb1
  rw [hx2] at sb2
  have HL1 := Lib.hid (fun W (h : Lx.IsOps W A1 q1 X) => length_any A1 q1 c1 X W h hj1 (by omega))
  have HL2 := Lib.hid (fun W (h : Lx.IsOps W A2 q2 Y) => length_any A2 q2 c2 Y W h hj2 (by omega))
  have HL3 := Lib.hid (fun A c W (h : Lx.IsOps W A (q1 + q2) (X ++ Y)) => length_any A (q1 + q2) c (X ++ Y) W h hj3 (by omega))
  have HP1 := Lib.hid (fun W (h : Lx.IsOps W A1 q1 X) => plain_any A1 q1 c1 X W h hj1 (by omega))
  have HP2 := Lib.hid (fun W (h : Lx.IsOps W A2 q2 Y) => plain_any A2 q2 c2 Y W h hj2 (by omega))
  have HP3 := Lib.hid (fun A c W (h : Lx.IsOps W A (q1 + q2) (X ++ Y)) => plain_any A (q1 + q2) c (X ++ Y) W h hj3 (by omega))
  unfold LenIs at HL1 HL2 HL3
  unfold PlnIs at HP1 HP2 HP3
  rw [f1.1, f1.2.1] at HL1
  rw [f2.1, f2.2.1] at HL2
  rw [f3.1, f3.2.1] at HL3
  rw [f1.1, f1.2.2] at HP1
  rw [f2.1, f2.2.2] at HP2
  rw [f3.1, f3.2.2] at HP3
  have HAP := Lib.hid hap
  have HLP := Lib.hid hlp
  generalize Lx.sumD X = D1 at *
  generalize Lx.sumD Y = D2 at *
  generalize Lx.plainL X = P1 at *
  generalize Lx.plainL Y = P2 at *
  clear hap hlp f1 f2 f3 ok1 ok2 okp hj1 hj2 hj3 hx1 hx2 R2 HV2 IO1 B1
  go_wp2_with (at_builtin; refine wpList_append_src rfl _ _ 34 rfl w2.heap.size 23 i0 _ 6 56 Tryd.underlying34 hi hz0 hz1 hz2 rfl (by decide) _ _ _ rfl R0.out (.slice A1 q1 c1) q1 (Lx.opCells X) rfl S1.out (HONE.out _) (by unfold maxLen; omega) (by omega) Z2.out.size ?_)
  intro v3 w3 own3 grow3
  replace own3 : w3.ownsRow w2.heap.size 23 6 v3 q1 (Lx.opCells X) := by simpa using own3
  have c3 := Z2.out.grown grow3 Z2.out.size (Lx.ownBase R0.out)
  have OWN3 := Lib.hid own3
  have C3 := Lib.hid c3
  have S23 := Lib.hid (S2.out.below c3)
  clear own3 grow3 c3
  go_wp2_with (at_builtin; refine wpList_append_src rfl _ _ 34 rfl w2.heap.size 23 i0 _ 6 56 Tryd.underlying34 hi hz0 hz1 hz2 rfl (by decide) _ _ _ rfl OWN3.out (.slice A2 q2 c2) q2 (Lx.opCells Y) rfl S23.out (HONE.out _) (by unfold maxLen; omega) (by omega) C3.out.size ?_)
  intro v4 w4 own4 grow4
  rw [← HAP.out] at own4
  have c4 := C3.out.grown grow4 C3.out.size (Lx.ownBase OWN3.out)
  obtain ⟨A4, cp4, rfl, j4⟩ := Lx.row_isOps' own4
  have I34 := Lib.hid (j4 HLP.out)
  have I14 := Lib.hid (I1.out.below c4)
  have I24 := Lib.hid (I2.out.below c4)
  have B4 := Lib.hid (B2.out.trans (c4.mono B2.out.size))
  clear own4 grow4 c4 j4 S2 S23 OWN3 C3 I1 I2 S1 R0 Z2
  go_wp2_with fail
  refine (HL1.out _ I14.out).mono ?_
  rintro e w5 ⟨rfl, c5⟩
  have I15 := Lib.hid (I14.out.below c5)
  have I25 := Lib.hid (I24.out.below c5)
  have I35 := Lib.hid (I34.out.below c5)
  have B5 := Lib.hid (B4.out.trans (c5.mono B4.out.size))
  clear c5 I14 I24 I34 B4
  go_wp2_with fail
  refine (HL2.out _ I25.out).mono ?_
  rintro e w6 ⟨rfl, c6⟩
  have I16 := Lib.hid (I15.out.below c6)
  have I26 := Lib.hid (I25.out.below c6)
  have I36 := Lib.hid (I35.out.below c6)
  have B6 := Lib.hid (B5.out.trans (c6.mono B5.out.size))
  clear c6 I15 I25 I35 B5
  go_wp2_with fail
  refine (HL3.out _ _ _ I36.out).mono ?_
  rintro e w7 ⟨rfl, c7⟩
  have I17 := Lib.hid (I16.out.below c7)
  have I27 := Lib.hid (I26.out.below c7)
  have I37 := Lib.hid (I36.out.below c7)
  have B7 := Lib.hid (B6.out.trans (c7.mono B6.out.size))
  clear c7 I16 I26 I36 B6
  go_wp2_with fail
  refine (HP1.out _ I17.out).mono ?_
  rintro e w8 ⟨rfl, c8⟩
  have I18 := Lib.hid (I17.out.below c8)
  have I28 := Lib.hid (I27.out.below c8)
  have I38 := Lib.hid (I37.out.below c8)
  have B8 := Lib.hid (B7.out.trans (c8.mono B7.out.size))
  clear c8 I17 I27 I37 B7
  go_wp2_with fail
  refine (HP2.out _ I28.out).mono ?_
  rintro e w9 ⟨rfl, c9⟩
  have I19 := Lib.hid (I18.out.below c9)
  have I29 := Lib.hid (I28.out.below c9)
  have I39 := Lib.hid (I38.out.below c9)
  have B9 := Lib.hid (B8.out.trans (c9.mono B8.out.size))
  clear c9 I18 I28 I38 B8
  go_wp2_with fail
  refine (HP3.out _ _ _ I39.out).mono ?_
  rintro e w10 ⟨rfl, c10⟩
  have B10 := Lib.hid (B9.out.trans (c10.mono B9.out.size))
  clear c10  B9
  clear HL1 HL2 HL3 HP1 HP2 HP3 HLP HAP
  cases P1 <;> cases P2
  all_goals
    go_wp2_with fail
    refine (opworks_any _ (env.below B10.out)).mono ?_
    rintro e w11 ⟨rfl, c11⟩
    have B11 := Lib.hid (B10.out.trans (c11.mono B10.out.size))
    clear c11  B10
    go_wp2_with fail
    go_ret
    exact ⟨rfl, B11.out⟩

set_option maxRecDepth 100000 in
/-- What the walk gives, for every argument that can be read. -/
theorem contract (H : Type) (enc : TypeId × Value → H) (W : World) (base : Nat) (args : Array Value) (ds gs : List (DataW H)) (before : List MemPlace)
    (hval : ∀ (j : Nat) t v, Tryd.f8.params[j]? = some t → args[j]? = some v → Value.okWide Tryd.prog W .any base t v)
    (hW : DataW.Whole enc Tryd.prog Tryd.f8.params.toList Rows.opSumsSpec.vars false W args.toList ds gs before) (hsz : (DataW.weightsEach Tryd.prog (Tryd.f8.params.toList ++ (OpenSpec.ofChange Rows.opSumsSpec).bare.plain.varTypes Tryd.prog) (ds ++ gs)).all (· ≤ reachBytes) = true) (hL : laidMetH Tryd.prog Rows.opSumsRow.laid W) (hsh : W.ShapedOpen Tryd.prog) :
    Calls Tryd.prog 8 args W fun e W' => ∃ v, e = .returned v ∧ Rows.opSumsSpec.post enc Tryd.prog Tryd.f8 false true false false W args v W' := by
  have hW' := hW
  obtain ⟨p, q, hA0, hV, rfl, hfz, hnd⟩ := hW
  have hA : DataW.TrodAll enc Tryd.prog W 0 (fun _ => true) true Tryd.f8.params.toList args.toList ds p := hA0
  rw [Tryd.params8] at hA hval
  obtain ⟨v0, vs0, d0, ds0, p0, q0, hargs, rfl, rfl, h0, r0⟩ := trodAll_cons hA
  obtain ⟨v1, vs1, d1, ds1, p1, q1, rfl, rfl, rfl, h1, r1⟩ := trodAll_cons r0
  obtain ⟨rfl, rfl, rfl⟩ := trodAll_nil r1
  obtain rfl : args = #[v0, v1] := by cases args; simp_all
  obtain ⟨rfl, rfl⟩ := trodVars_none hV
  obtain ⟨a0, len0, cap0, rfl⟩ := okWide_slice Tryd.underlying34 (hval 0 34 v0 rfl rfl)
  have k0 := h0
  have lt0 : ∀ x ∈ p0, x.block < W.heap.size := by obtain ⟨m, hm⟩ := k0; exact DataW.trod_lt m _ _ _ hm
  obtain ⟨L0, z0⟩ : ∃ L, OpsIn W a0 len0 L := by
    obtain ⟨fuel, hf⟩ := h0
    exact opsIn_of hf
  obtain ⟨a1, len1, cap1, rfl⟩ := okWide_slice Tryd.underlying34 (hval 1 34 v1 rfl rfl)
  have k1 := h1
  have lt1 : ∀ x ∈ p1, x.block < W.heap.size := by obtain ⟨m, hm⟩ := k1; exact DataW.trod_lt m _ _ _ hm
  obtain ⟨L1, z1⟩ : ∃ L, OpsIn W a1 len1 L := by
    obtain ⟨fuel, hf⟩ := h1
    exact opsIn_of hf
  clear hA0
  refine (walk W a0 len0 cap0 L0 z0 a1 len1 cap1 L1 z1 (env_of hL hsh)).mono fun e W' ⟨he, bel⟩ => ?_
  subst he
  exact ⟨_, rfl, _, _, _, [], _, [], hW', trodAll_mk1 (shut_bool Tryd.underlying4 _), (trodAll_cons_mk (Below.trod laidOut (by kernel_rfl) (of_decide_eq_true (by kernel_rfl)) k0 bel lt0) (trodAll_cons_mk (Below.trod laidOut (by kernel_rfl) (of_decide_eq_true (by kernel_rfl)) k1 bel lt1) trodAll_mk0)), rfl, bel.frame _, fun h => by cases h⟩

set_option maxRecDepth 100000 in
theorem reads (os : Os) {H : Type} (enc : TypeId × Value → H) : ∃ places, DataW.whole enc Tryd.prog ((World.doorLaid Tryd.prog 72 os).forCall (fun _ _ => 0) ⟨#[], #[.slice none 0 0, .slice none 0 0], []⟩).memory Tryd.f8.params.toList Rows.opSumsSpec.vars false (#[.slice none 0 0, .slice none 0 0] : Array Value).toList 8 = some ([.nil, .nil], [], places) :=
  ⟨[], by kernel_rfl⟩

set_option maxRecDepth 100000 in
theorem lifted (os : Os) (started : os.Started) (H : Type) (enc : TypeId × Value → H) (F : Stop.Interp) :
    ReturnsInHanded {} Tryd.checked os 8 .any ((OpenSpec.ofChange Rows.opSumsSpec).preRow enc Tryd.prog Tryd.f8 Rows.opSumsRow.domain false Rows.opSumsRow.laid) (((OpenSpec.ofChange Rows.opSumsSpec).at F).post enc Tryd.prog Tryd.f8 false true false false) := by
  obtain ⟨places, hx⟩ := reads os enc
  refine returnsInHanded_of_row (C := Tryd.checked) (s := OpenSpec.ofChange Rows.opSumsSpec) own started (by kernel_rfl) Tryd.func8
    (witness_row_atRef (enc := enc) (C := Tryd.checked) false (World.doorLaid Tryd.prog 72 os) #[.slice none 0 0, .slice none 0 0] rfl (door_vars os _) (door_rest os _) (by kernel_rfl)
      (OpenSpec.preRow_of_cond 8 hx (by kernel_rfl) (fun k hk => by cases hk) (by kernel_rfl) (door_laid os _))) ?_
  intro W base args ds gs before hval hW _ _ hsz hL hsh _
  exact contract H enc W base args ds gs before hval hW hsz hL hsh

theorem said : Rows.OpSumsSaid :=
  OpenClaim.holds_of_cond 8 Tryd.f8 rfl rfl rfl rfl rfl rfl rfl ⟨rfl, rfl, rfl, rfl, rfl⟩ rfl rfl rfl rfl rfl (by kernel_rfl) Tryd.func8 (by kernel_rfl)
    (of_decide_eq_true (by kernel_rfl)) (by unfold Func.isWrapper; first | (rw [if_pos (by decide +kernel)]; kernel_rfl) | (rw [if_neg (by decide +kernel)]; exact ⟨rfl, rfl⟩))
    (fun os started H enc _ F => by rw [OpenClaim.pre_eq_preRow]; exact lifted os started H enc F)

theorem plain (f : FuncId) (fn : Func) (hf : Tryd.pinned.checked.prog.funcNamed "wakeman/wakemanlaw38.OpSums" = some f) (hfn : Tryd.pinned.checked.prog.funcs[f]? = some fn) :
    Rows.opSumsCard.stood.looks = Tryd.pinned.checked.prog.looks [] ∧ ∀ (j : Nat) t, fn.params[j]? = some t → Tryd.pinned.checked.prog.wantsStandIn t = false := by
  obtain rfl : f = 8 := Option.some.inj ((show Tryd.prog.funcNamed "wakeman/wakemanlaw38.OpSums" = some 8 by kernel_rfl).symm.trans hf) |>.symm
  obtain rfl : fn = Tryd.f8 := (Option.some.inj (Tryd.func8.symm.trans hfn)).symm
  refine ⟨by kernel_rfl, fun j t ht => ?_⟩
  rw [Tryd.params8] at ht
  have hm : t ∈ [34] := by
    have := Array.mem_of_getElem? ht
    simpa using this
  have hall : ([34].all fun u => !Tryd.prog.wantsStandIn u) = true := by kernel_rfl
  exact (show Tryd.prog.wantsStandIn t = false by simpa using List.all_eq_true.1 hall t hm)

/-- The card. -/
theorem card : Rows.OpSumsCardSaid :=
  Claim7.holds_tied_plain_at .later [] _ _ _ _ said (fun _ h => by cases h) (by kernel_rfl) (fun _ h => by cases h) opSums_row_tie rfl ⟨rfl, rfl⟩ (by kernel_rfl) rfl plain (by kernel_rfl)
end Go.Proofs.YtnnkamfpcodnnaaDoor.lawOpSums
