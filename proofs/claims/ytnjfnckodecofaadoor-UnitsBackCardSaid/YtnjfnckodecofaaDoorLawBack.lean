/- UnitsBack: for every number the law returns true; what the call was given reads as before. Conditions: the eight listed variables lie as the program lays them. -/
import Derived.Test.YtnjfnckodecofaaDoorUnFrame
import Derived.Test.YtnjfnckodecofaaDoorUnWorks
import Derived.Test.YtnjfnckodecofaaDoorUnBackLx
import Derived.SevenTiedAt
namespace Go.Proofs.YtnjfnckodecofaaDoor.lawUnitsBack
open Go.ChangeShapes Go.WideShapes Go.ChangeAt Go.RowKit

set_option maxRecDepth 100000 in
set_option maxHeartbeats 1600000 in
theorem walk_in (n : Nat) (hn : n ≤ 68719476736) (w : World) (env : UEnv w) :
    Calls Tryd.prog 10 #[.int .i64 n] w fun e w' => e = .returned (.bool true) ∧ Below w.heap.size w w' := by
  obtain ⟨p1, p2, p3, p4⟩ := Lx.par_prn n hn
  have hsz := Lx.prn_size n hn
  have H1 := Lib.hid (print_in n hn w env)
  obtain ⟨V, hV⟩ : ∃ V : ByteArray, V = ⟨(Lx.prnS n).toArray⟩ := ⟨_, rfl⟩
  have hVl : V.data.toList = Lx.prnS n := by rw [hV]
  have hVs : V.size ≤ 48 := by rw [Lib.size_eq, hVl]; exact hsz
  have H2 := Lib.hid (fun W (E : UEnv W) => parse_any V (by omega) W E)
  have H3 := Lib.hid (fun W (E : UEnv W) => normal_any V (by omega) W E)
  rw [hVl, p1, p2] at H2
  rw [hVl, p3, p4] at H3
  rw [← hV] at H1 H3
  have h0 : (0 : Int) ≤ (n : Int) := by omega
  have h1 : (n : Int) ≤ 68719476736 := by omega
  clear p1 p2 p3 p4 hV hVl hsz hn
  go_enter Tryd.func10, Tryd.ntmps10
  go_wp2_with fail
  refine H1.out.mono ?_
  rintro e w1 ⟨rfl, b1⟩
  go_wp2_with fail
  refine (H2.out _ (env.below b1)).mono ?_
  rintro e w2 ⟨rfl, c2⟩
  have b2 := b1.trans (c2.mono b1.size)
  go_wp2_with fail
  refine (H3.out _ (env.below b2)).mono ?_
  rintro e w3 ⟨rfl, c3⟩
  have b3 := b2.trans (c3.mono b2.size)
  go_wp2_with fail
  refine (uworks_any _ (env.below b3)).mono ?_
  rintro e w4 ⟨rfl, c4⟩
  go_wp2_with fail
  go_ret
  exact ⟨rfl, b3.trans (c4.mono b3.size)⟩
set_option maxRecDepth 100000 in
set_option maxHeartbeats 1600000 in
theorem walk_out (d : Int) (hd : d < 0 ∨ 68719476736 < d) (w : World) (env : UEnv w) :
    Calls Tryd.prog 10 #[.int .i64 d] w fun e w' => e = .returned (.bool true) ∧ Below w.heap.size w w' := by
  have hm := Lx.and_mask d
  obtain ⟨x, hx⟩ : ∃ x, bits .and .i64 d 9223372036854775807 = x := ⟨_, rfl⟩
  rw [hx] at hm
  obtain ⟨n, hnx⟩ : ∃ n : Nat, x % 68719476737 = (n : Int) := ⟨(x % 68719476737).toNat, by omega⟩
  have hn : n ≤ 68719476736 := by omega
  obtain ⟨p1, p2, p3, p4⟩ := Lx.par_prn n hn
  have hsz := Lx.prn_size n hn
  have H0 := Lib.hid (print_any d w env)
  rw [(Lx.prn_out (d := d) (by omega)).1, (Lx.prn_out (d := d) (by omega)).2] at H0
  have H1 := Lib.hid (fun W (E : UEnv W) => print_in n hn W E)
  obtain ⟨V, hV⟩ : ∃ V : ByteArray, V = ⟨(Lx.prnS n).toArray⟩ := ⟨_, rfl⟩
  have hVl : V.data.toList = Lx.prnS n := by rw [hV]
  have hVs : V.size ≤ 48 := by rw [Lib.size_eq, hVl]; exact hsz
  have H2 := Lib.hid (fun W (E : UEnv W) => parse_any V (by omega) W E)
  have H3 := Lib.hid (fun W (E : UEnv W) => normal_any V (by omega) W E)
  rw [hVl, p1, p2] at H2
  rw [hVl, p3, p4] at H3
  rw [← hV] at H1 H3
  clear p1 p2 p3 p4 hV hVl hsz hn
  rcases hd with hd | hd
  rotate_left
  have hd2 : 0 ≤ d := by omega
  all_goals
    go_enter Tryd.func10, Tryd.ntmps10
    go_wp2_with fail
    refine H0.out.mono ?_
    rintro e w0 ⟨rfl, b0⟩
    go_wp2_with fail
    refine (H1.out _ (env.below b0)).mono ?_
    rintro e w1 ⟨rfl, c1⟩
    have b1 := b0.trans (c1.mono b0.size)
    go_wp2_with fail
    refine (H2.out _ (env.below b1)).mono ?_
    rintro e w2 ⟨rfl, c2⟩
    have b2 := b1.trans (c2.mono b1.size)
    go_wp2_with fail
    refine (H3.out _ (env.below b2)).mono ?_
    rintro e w3 ⟨rfl, c3⟩
    have b3 := b2.trans (c3.mono b2.size)
    go_wp2_with fail
    refine (uworks_any _ (env.below b3)).mono ?_
    rintro e w4 ⟨rfl, c4⟩
    go_wp2_with fail
    go_ret
    exact ⟨rfl, b3.trans (c4.mono b3.size)⟩
theorem walk (d : Int) (_hd : (Lit.int .i64 d).wf = true) (w : World) (env : UEnv w) :
    Calls Tryd.prog 10 #[.int .i64 d] w fun e w' => e = .returned (.bool true) ∧ Below w.heap.size w w' := by
  by_cases h : d < 0 ∨ 68719476736 < d
  · exact walk_out d h w env
  · have := walk_in d.toNat (by omega) w env
    rwa [Int.toNat_of_nonneg (by omega)] at this

set_option maxRecDepth 100000 in
/-- What the walk gives, for every argument that can be read. -/
theorem contract (H : Type) (enc : TypeId × Value → H) (W : World) (base : Nat) (args : Array Value) (ds gs : List (DataW H)) (before : List MemPlace)
    (hval : ∀ (j : Nat) t v, Tryd.f10.params[j]? = some t → args[j]? = some v → Value.okWide Tryd.prog W .any base t v)
    (hW : DataW.Whole enc Tryd.prog Tryd.f10.params.toList Rows.unitsBackSpec.vars false W args.toList ds gs before) (hL : laidMetH Tryd.prog Rows.unitsBackRow.laid W) (hsh : W.ShapedOpen Tryd.prog) :
    Calls Tryd.prog 10 args W fun e W' => ∃ v, e = .returned v ∧ Rows.unitsBackSpec.post enc Tryd.prog Tryd.f10 false true false false W args v W' := by
  have hW' := hW
  obtain ⟨p, q, hA0, hV, rfl, hfz, hnd⟩ := hW
  have hA : DataW.TrodAll enc Tryd.prog W 0 (fun _ => true) true Tryd.f10.params.toList args.toList ds p := hA0
  rw [Tryd.params10] at hA hval
  obtain ⟨v0, vs0, d0, ds0, p0, q0, hargs, rfl, rfl, h0, r0⟩ := trodAll_cons hA
  obtain ⟨rfl, rfl, rfl⟩ := trodAll_nil r0
  obtain rfl : args = #[v0] := by cases args; simp_all
  obtain ⟨rfl, rfl⟩ := trodVars_none hV
  obtain ⟨s0, rfl, rfl, rfl, w0⟩ := open_int Tryd.underlying2 (hval 0 2 v0 rfl rfl) h0
  clear hA0
  refine (walk s0 w0 W (env_of hL hsh)).mono fun e W' ⟨he, bel⟩ => ?_
  subst he
  exact ⟨_, rfl, _, _, _, [], _, [], hW', trodAll_mk1 (shut_bool Tryd.underlying4 _), (trodAll_cons_mk (shut_int Tryd.underlying2 w0) trodAll_mk0), rfl, bel.frame _, fun h => by cases h⟩

set_option maxRecDepth 100000 in
theorem reads (os : Os) {H : Type} (enc : TypeId × Value → H) : ∃ places, DataW.whole enc Tryd.prog ((World.laidAll Tryd.prog os Rows.unitsPrintsRow.laid).forCall (fun _ _ => 0) ⟨#[], #[.int .i64 0], []⟩).memory Tryd.f10.params.toList Rows.unitsBackSpec.vars false (#[.int .i64 0] : Array Value).toList 8 = some ([.lit (.int .i64 0)], [], places) :=
  ⟨[], by kernel_rfl⟩

set_option maxRecDepth 100000 in
theorem lifted (os : Os) (started : os.Started) (H : Type) (enc : TypeId × Value → H) (F : Stop.Interp) :
    ReturnsInHanded {} Tryd.checked os 10 .any ((OpenSpec.ofChange Rows.unitsBackSpec).preRow enc Tryd.prog Tryd.f10 Rows.unitsBackRow.domain false Rows.unitsBackRow.laid) (((OpenSpec.ofChange Rows.unitsBackSpec).at F).post enc Tryd.prog Tryd.f10 false true false false) := by
  obtain ⟨places, hx⟩ := reads os enc
  refine returnsInHanded_of_row (C := Tryd.checked) (s := OpenSpec.ofChange Rows.unitsBackSpec) own started (by kernel_rfl) Tryd.func10
    (witness_row_atRef (enc := enc) (C := Tryd.checked) false (World.laidAll Tryd.prog os Rows.unitsPrintsRow.laid) #[.int .i64 0] (World.laidAll_os _ _ _) (door_vars os _) (door_rest os _) (by kernel_rfl)
      (OpenSpec.preRow_of_cond 8 hx (by kernel_rfl) (fun k hk => by cases hk) (by kernel_rfl) (door_laid os _))) ?_
  intro W base args ds gs before hval hW _ _ _ hL hsh _
  exact contract H enc W base args ds gs before hval hW hL hsh

theorem said : Rows.UnitsBackSaid :=
  OpenClaim.holds_of_cond 10 Tryd.f10 rfl rfl rfl rfl rfl rfl rfl ⟨rfl, rfl, rfl, rfl, rfl⟩ rfl rfl rfl rfl rfl (by kernel_rfl) Tryd.func10 (by kernel_rfl)
    (of_decide_eq_true (by kernel_rfl)) (by unfold Func.isWrapper; first | (rw [if_pos (by decide +kernel)]; kernel_rfl) | (rw [if_neg (by decide +kernel)]; exact ⟨rfl, rfl⟩))
    (fun os started H enc _ F => by rw [OpenClaim.pre_eq_preRow]; exact lifted os started H enc F)

theorem plain (f : FuncId) (fn : Func) (hf : Tryd.pinned.checked.prog.funcNamed "wakeman/wakemanlaw13.UnitsBack" = some f) (hfn : Tryd.pinned.checked.prog.funcs[f]? = some fn) :
    Rows.unitsBackCard.stood.looks = Tryd.pinned.checked.prog.looks [] ∧ ∀ (j : Nat) t, fn.params[j]? = some t → Tryd.pinned.checked.prog.wantsStandIn t = false := by
  obtain rfl : f = 10 := Option.some.inj ((show Tryd.prog.funcNamed "wakeman/wakemanlaw13.UnitsBack" = some 10 by kernel_rfl).symm.trans hf) |>.symm
  obtain rfl : fn = Tryd.f10 := (Option.some.inj (Tryd.func10.symm.trans hfn)).symm
  refine ⟨by kernel_rfl, fun j t ht => ?_⟩
  rw [Tryd.params10] at ht
  have hm : t ∈ [2] := by
    have := Array.mem_of_getElem? ht
    simpa using this
  have hall : ([2].all fun u => !Tryd.prog.wantsStandIn u) = true := by kernel_rfl
  exact (show Tryd.prog.wantsStandIn t = false by simpa using List.all_eq_true.1 hall t hm)

/-- The card. -/
theorem card : Rows.UnitsBackCardSaid :=
  Claim7.holds_tied_plain_at .later [] _ _ _ _ said (fun _ h => by cases h) (by kernel_rfl) (fun _ h => by cases h) unitsBack_row_tie rfl ⟨rfl, rfl⟩ (by kernel_rfl) rfl plain (by kernel_rfl)
end Go.Proofs.YtnjfnckodecofaaDoor.lawUnitsBack
