/- UnitsOver: for every byte the law returns true; what the call was given reads as before. Conditions: the eight listed variables lie as the program lays them. -/
import Derived.Test.YtnjfnckodecofaaDoorUnFrame
import Derived.Test.YtnjfnckodecofaaDoorUnWorks
import Derived.Test.YtnjfnckodecofaaDoorUnBackLx
import Derived.SevenTiedAt
namespace Go.Proofs.YtnjfnckodecofaaDoor.lawUnitsOver
open Go.ChangeShapes Go.WideShapes Go.ChangeAt Go.RowKit

theorem cat_longD (n : Nat) (R : ByteArray) (hR : R.data.toList = List.replicate n 48) (t : ByteArray) : (⟨#[49]⟩ ++ R ++ t : ByteArray).data.toList = Lx.longD n ++ t.data.toList := by
  rw [ByteArray.data_append, ByteArray.data_append, Array.toList_append, Array.toList_append, hR]; rfl
theorem cat_lim1 (n : Nat) (R : ByteArray) (hR : R.data.toList = List.replicate n 48) : (⟨#[49, 47, 49, 115, 43, 49]⟩ ++ R ++ ⟨#[115]⟩ : ByteArray).data.toList = [49, 47, 49, 115, 43] ++ (Lx.longD n ++ [115]) := by
  rw [ByteArray.data_append, ByteArray.data_append, Array.toList_append, Array.toList_append, hR]; rfl
theorem cat_lim2 (n : Nat) (R : ByteArray) (hR : R.data.toList = List.replicate n 48) : (⟨#[49, 47, 49]⟩ ++ R ++ ⟨#[115, 43, 48]⟩ : ByteArray).data.toList = [49, 47] ++ (Lx.longD n ++ [115, 43, 48]) := by
  rw [ByteArray.data_append, ByteArray.data_append, Array.toList_append, Array.toList_append, hR]; rfl

set_option maxRecDepth 100000 in
set_option maxHeartbeats 1600000 in
theorem walk (a : Int) (ha : (Lit.int .u8 a).wf = true) (w : World) (env : UEnv w) :
    Calls Tryd.prog 7 #[.int .u8 a] w fun e w' => e = .returned (.bool true) ∧ Below w.heap.size w w' := by
  obtain ⟨c, rfl⟩ := Lx.u8_of ha
  have hcb := UInt8.toNat_lt c
  obtain ⟨n, hn⟩ : ∃ n : Nat, n = 11 + c.toNat := ⟨_, rfl⟩
  have hn11 : 11 ≤ n := by omega
  have hni : 11 + (c.toNat : Int) = (n : Int) := by omega
  have hnb : (n : Int) ≤ 300 := by have : (2 : Nat) ^ 8 = 256 := rfl; omega
  obtain ⟨R, hR⟩ : ∃ R : ByteArray, R = ⟨(Lib.repeatL (⟨#[48]⟩ : ByteArray).data.toList n).toArray⟩ := ⟨_, rfl⟩
  have HR := Lib.hid (fun W => Tryd.strings_Repeat ⟨#[48]⟩ n W (by omega) (by show 1 * n ≤ _; omega))
  rw [← hR] at HR
  have hRl : R.data.toList = List.replicate n 48 := by rw [hR]; show Lib.repeatL [48] n = _; exact Lx.repeat_one 48 n
  have hRs : R.size ≤ 300 := by rw [Lib.size_eq, hRl, List.length_replicate]; omega
  have z1 : (⟨#[49]⟩ ++ R ++ ⟨#[100, 49, 115]⟩ : ByteArray).size ≤ 1000 := by
    rw [ByteArray.size_append, ByteArray.size_append]; show 1 + R.size + 3 ≤ 1000; omega
  have z2 : (⟨#[49]⟩ ++ R ++ ⟨#[100, 49]⟩ : ByteArray).size ≤ 1000 := by
    rw [ByteArray.size_append, ByteArray.size_append]; show 1 + R.size + 2 ≤ 1000; omega
  have z3 : (⟨#[49, 47, 49, 115, 43, 49]⟩ ++ R ++ ⟨#[115]⟩ : ByteArray).size ≤ 1000 := by
    rw [ByteArray.size_append, ByteArray.size_append]; show 6 + R.size + 1 ≤ 1000; omega
  have z4 : (⟨#[49, 47, 49]⟩ ++ R ++ ⟨#[115, 43, 48]⟩ : ByteArray).size ≤ 1000 := by
    rw [ByteArray.size_append, ByteArray.size_append]; show 3 + R.size + 3 ≤ 1000; omega
  have H1 := Lib.hid (parse_any ⟨#[54, 56, 55, 49, 57, 52, 55, 54, 55, 51, 54, 115]⟩ (by decide) w env)
  rw [show (⟨#[54, 56, 55, 49, 57, 52, 55, 54, 55, 51, 54, 115]⟩ : ByteArray).data.toList = [54, 56, 55, 49, 57, 52, 55, 54, 55, 51, 54, 115] from rfl, Lx.exo1.1, Lx.exo1.2] at H1
  have H2 := Lib.hid (fun W (E : UEnv W) => parse_any ⟨#[55, 57, 53, 51, 54, 52, 100, 55, 104, 51, 50, 109, 49, 54, 115]⟩ (by decide) W E)
  rw [show (⟨#[55, 57, 53, 51, 54, 52, 100, 55, 104, 51, 50, 109, 49, 54, 115]⟩ : ByteArray).data.toList = [55, 57, 53, 51, 54, 52, 100, 55, 104, 51, 50, 109, 49, 54, 115] from rfl, Lx.exo2.1, Lx.exo2.2] at H2
  have H3 := Lib.hid (fun W (E : UEnv W) => parse_any ⟨#[55, 57, 53, 51, 54, 52, 100, 55, 104, 51, 50, 109, 49, 55, 115]⟩ (by decide) W E)
  rw [show (⟨#[55, 57, 53, 51, 54, 52, 100, 55, 104, 51, 50, 109, 49, 55, 115]⟩ : ByteArray).data.toList = [55, 57, 53, 51, 54, 52, 100, 55, 104, 51, 50, 109, 49, 55, 115] from rfl, Lx.exo3.1, Lx.exo3.2] at H3
  have H4 := Lib.hid (fun W (E : UEnv W) => parse_any (⟨#[49]⟩ ++ R ++ ⟨#[100, 49, 115]⟩) (by omega) W E)
  rw [cat_longD n R hRl, show (⟨#[100, 49, 115]⟩ : ByteArray).data.toList = [100, 49, 115] from rfl, (Lx.over_d1s n hn11).1, (Lx.over_d1s n hn11).2] at H4
  have H5 := Lib.hid (fun W (E : UEnv W) => parse_any (⟨#[49]⟩ ++ R ++ ⟨#[100, 49]⟩) (by omega) W E)
  rw [cat_longD n R hRl, show (⟨#[100, 49]⟩ : ByteArray).data.toList = [100, 49] from rfl, (Lx.over_d1 n).1, (Lx.over_d1 n).2] at H5
  have H6 := Lib.hid (fun W (E : UEnv W) => limit_any (⟨#[49, 47, 49, 115, 43, 49]⟩ ++ R ++ ⟨#[115]⟩) (by omega) W E)
  have l1 := Lx.over_lim1 _ n hn11 (cat_lim1 n R hRl)
  rw [l1.1, l1.2.1, l1.2.2] at H6
  have H7 := Lib.hid (fun W (E : UEnv W) => limit_any (⟨#[49, 47, 49]⟩ ++ R ++ ⟨#[115, 43, 48]⟩) (by omega) W E)
  have l2 := Lx.over_lim2 _ n (cat_lim2 n R hRl)
  rw [l2.1, l2.2.1, l2.2.2] at H7
  have q1 : (⟨#[49]⟩ : ByteArray).size = 1 := rfl
  have q2 : (⟨#[49, 47, 49, 115, 43, 49]⟩ : ByteArray).size = 6 := rfl
  have q3 : (⟨#[49, 47, 49]⟩ : ByteArray).size = 3 := rfl
  have q4 : (⟨#[100, 49, 115]⟩ : ByteArray).size = 3 := rfl
  have q5 : (⟨#[100, 49]⟩ : ByteArray).size = 2 := rfl
  have q6 : (⟨#[115]⟩ : ByteArray).size = 1 := rfl
  have q7 : (⟨#[115, 43, 48]⟩ : ByteArray).size = 3 := rfl
  clear hR hRl hn hn11 ha hcb z1 z2 z3 z4 l1 l2
  go_enter Tryd.func7, Tryd.ntmps7
  go_wp2_with fail
  refine H1.out.mono ?_
  rintro e w1 ⟨rfl, b1⟩
  go_wp2_with fail
  refine (H2.out _ (env.below b1)).mono ?_
  rintro e w2 ⟨rfl, c2⟩
  have b2 := b1.trans (c2.mono b1.size)
  clear b1 c2
  go_wp2_with fail
  refine (H3.out _ (env.below b2)).mono ?_
  rintro e w3 ⟨rfl, c3⟩
  have b3 := b2.trans (c3.mono b2.size)
  clear b2 c3
  go_wp2_with fail
  refine (HR.out _).mono ?_
  rintro e w4 ⟨rfl, c4⟩
  have b4 := b3.trans (c4.mono b3.size)
  clear b3 c4
  go_wp2_with fail
  refine (H4.out _ (env.below b4)).mono ?_
  rintro e w5 ⟨rfl, c5⟩
  have b5 := b4.trans (c5.mono b4.size)
  clear b4 c5
  go_wp2_with fail
  refine (HR.out _).mono ?_
  rintro e w6 ⟨rfl, c6⟩
  have b6 := b5.trans (c6.mono b5.size)
  clear b5 c6
  go_wp2_with fail
  refine (H5.out _ (env.below b6)).mono ?_
  rintro e w7 ⟨rfl, c7⟩
  have b7 := b6.trans (c7.mono b6.size)
  clear b6 c7
  go_wp2_with fail
  refine (HR.out _).mono ?_
  rintro e w8 ⟨rfl, c8⟩
  have b8 := b7.trans (c8.mono b7.size)
  clear b7 c8
  go_wp2_with fail
  refine (H6.out _ (env.below b8)).mono ?_
  rintro e w9 ⟨rfl, c9⟩
  have b9 := b8.trans (c9.mono b8.size)
  have ca : Below w9.heap.size w9 (w9.alloc (.cells #[.int .i64 0, .int .i64 0] 41)) := (Below.refl _ _).alloc (Nat.le_refl _) _
  have ba := b9.trans (ca.mono b9.size)
  have lt7 : w9.heap.size < (w9.alloc (.cells #[.int .i64 0, .int .i64 0] 41)).heap.size := by simp
  clear b8 c9
  go_wp2_with fail
  refine (HR.out _).mono ?_
  rintro e w10 ⟨rfl, c10⟩
  have b10 := ba.trans (c10.mono ba.size)
  have d0 : w10.cell? ⟨w9.heap.size, 0, none⟩ = some (.int .i64 0) := (c10.cell (p := ⟨w9.heap.size, 0, none⟩) lt7).trans (by simp)
  have d1 : w10.cell? ⟨w9.heap.size, 1, none⟩ = some (.int .i64 0) := (c10.cell (p := ⟨w9.heap.size, 1, none⟩) lt7).trans (by simp)
  have lt8 := Nat.lt_of_lt_of_le lt7 c10.size
  clear ba c10 lt7 ca b9
  go_wp2_with fail
  refine (H7.out _ (env.below b10)).mono ?_
  rintro e w11 ⟨rfl, c11⟩
  have b11 := b10.trans (c11.mono b10.size)
  have g0 := (c11.cell (p := ⟨w9.heap.size, 0, none⟩) lt8).trans d0
  have g1 := (c11.cell (p := ⟨w9.heap.size, 1, none⟩) lt8).trans d1
  have lt9 := Nat.lt_of_lt_of_le lt8 c11.size
  have cb : Below w11.heap.size w11 (w11.alloc (.cells #[.int .i64 0, .int .i64 0] 41)) := (Below.refl _ _).alloc (Nat.le_refl _) _
  have b12 := b11.trans (cb.mono b11.size)
  have env12 := env.below b12
  have HW := Lib.hid (uworks_any _ env12)
  clear b10 c11 d0 d1 lt8 cb b11
  go_wp2_with fail
  refine HW.out.mono ?_
  rintro e w13 ⟨rfl, c13⟩
  go_wp2_with fail
  go_ret
  exact ⟨rfl, b12.trans (c13.mono b12.size)⟩

set_option maxRecDepth 100000 in
/-- What the walk gives, for every argument that can be read. -/
theorem contract (H : Type) (enc : TypeId × Value → H) (W : World) (base : Nat) (args : Array Value) (ds gs : List (DataW H)) (before : List MemPlace)
    (hval : ∀ (j : Nat) t v, Tryd.f7.params[j]? = some t → args[j]? = some v → Value.okWide Tryd.prog W .any base t v)
    (hW : DataW.Whole enc Tryd.prog Tryd.f7.params.toList Rows.unitsOverSpec.vars false W args.toList ds gs before) (hL : laidMetH Tryd.prog Rows.unitsOverRow.laid W) (hsh : W.ShapedOpen Tryd.prog) :
    Calls Tryd.prog 7 args W fun e W' => ∃ v, e = .returned v ∧ Rows.unitsOverSpec.post enc Tryd.prog Tryd.f7 false true false false W args v W' := by
  have hW' := hW
  obtain ⟨p, q, hA0, hV, rfl, hfz, hnd⟩ := hW
  have hA : DataW.TrodAll enc Tryd.prog W 0 (fun _ => true) true Tryd.f7.params.toList args.toList ds p := hA0
  rw [Tryd.params7] at hA hval
  obtain ⟨v0, vs0, d0, ds0, p0, q0, hargs, rfl, rfl, h0, r0⟩ := trodAll_cons hA
  obtain ⟨rfl, rfl, rfl⟩ := trodAll_nil r0
  obtain rfl : args = #[v0] := by cases args; simp_all
  obtain ⟨rfl, rfl⟩ := trodVars_none hV
  obtain ⟨s0, rfl, rfl, rfl, w0⟩ := open_int Tryd.underlying5 (hval 0 5 v0 rfl rfl) h0
  clear hA0
  refine (walk s0 w0 W (env_of hL hsh)).mono fun e W' ⟨he, bel⟩ => ?_
  subst he
  exact ⟨_, rfl, _, _, _, [], _, [], hW', trodAll_mk1 (shut_bool Tryd.underlying4 _), (trodAll_cons_mk (shut_int Tryd.underlying5 w0) trodAll_mk0), rfl, bel.frame _, fun h => by cases h⟩

set_option maxRecDepth 100000 in
theorem reads (os : Os) {H : Type} (enc : TypeId × Value → H) : ∃ places, DataW.whole enc Tryd.prog ((World.laidAll Tryd.prog os Rows.unitsPrintsRow.laid).forCall (fun _ _ => 0) ⟨#[], #[.int .u8 0], []⟩).memory Tryd.f7.params.toList Rows.unitsOverSpec.vars false (#[.int .u8 0] : Array Value).toList 8 = some ([.lit (.int .u8 0)], [], places) :=
  ⟨[], by kernel_rfl⟩

set_option maxRecDepth 100000 in
theorem lifted (os : Os) (started : os.Started) (H : Type) (enc : TypeId × Value → H) (F : Stop.Interp) :
    ReturnsInHanded {} Tryd.checked os 7 .any ((OpenSpec.ofChange Rows.unitsOverSpec).preRow enc Tryd.prog Tryd.f7 Rows.unitsOverRow.domain false Rows.unitsOverRow.laid) (((OpenSpec.ofChange Rows.unitsOverSpec).at F).post enc Tryd.prog Tryd.f7 false true false false) := by
  obtain ⟨places, hx⟩ := reads os enc
  refine returnsInHanded_of_row (C := Tryd.checked) (s := OpenSpec.ofChange Rows.unitsOverSpec) own started (by kernel_rfl) Tryd.func7
    (witness_row_atRef (enc := enc) (C := Tryd.checked) false (World.laidAll Tryd.prog os Rows.unitsPrintsRow.laid) #[.int .u8 0] (World.laidAll_os _ _ _) (door_vars os _) (door_rest os _) (by kernel_rfl)
      (OpenSpec.preRow_of_cond 8 hx (by kernel_rfl) (fun k hk => by cases hk) (by kernel_rfl) (door_laid os _))) ?_
  intro W base args ds gs before hval hW _ _ _ hL hsh _
  exact contract H enc W base args ds gs before hval hW hL hsh

theorem said : Rows.UnitsOverSaid :=
  OpenClaim.holds_of_cond 7 Tryd.f7 rfl rfl rfl rfl rfl rfl rfl ⟨rfl, rfl, rfl, rfl, rfl⟩ rfl rfl rfl rfl rfl (by kernel_rfl) Tryd.func7 (by kernel_rfl)
    (of_decide_eq_true (by kernel_rfl)) (by unfold Func.isWrapper; first | (rw [if_pos (by decide +kernel)]; kernel_rfl) | (rw [if_neg (by decide +kernel)]; exact ⟨rfl, rfl⟩))
    (fun os started H enc _ F => by rw [OpenClaim.pre_eq_preRow]; exact lifted os started H enc F)

theorem plain (f : FuncId) (fn : Func) (hf : Tryd.pinned.checked.prog.funcNamed "wakeman/wakemanlaw13.UnitsOver" = some f) (hfn : Tryd.pinned.checked.prog.funcs[f]? = some fn) :
    Rows.unitsOverCard.stood.looks = Tryd.pinned.checked.prog.looks [] ∧ ∀ (j : Nat) t, fn.params[j]? = some t → Tryd.pinned.checked.prog.wantsStandIn t = false := by
  obtain rfl : f = 7 := Option.some.inj ((show Tryd.prog.funcNamed "wakeman/wakemanlaw13.UnitsOver" = some 7 by kernel_rfl).symm.trans hf) |>.symm
  obtain rfl : fn = Tryd.f7 := (Option.some.inj (Tryd.func7.symm.trans hfn)).symm
  refine ⟨by kernel_rfl, fun j t ht => ?_⟩
  rw [Tryd.params7] at ht
  have hm : t ∈ [5] := by
    have := Array.mem_of_getElem? ht
    simpa using this
  have hall : ([5].all fun u => !Tryd.prog.wantsStandIn u) = true := by kernel_rfl
  exact (show Tryd.prog.wantsStandIn t = false by simpa using List.all_eq_true.1 hall t hm)

/-- The card. -/
theorem card : Rows.UnitsOverCardSaid :=
  Claim7.holds_tied_plain_at .later [] _ _ _ _ said (fun _ h => by cases h) (by kernel_rfl) (fun _ h => by cases h) unitsOver_row_tie rfl ⟨rfl, rfl⟩ (by kernel_rfl) rfl plain (by kernel_rfl)
end Go.Proofs.YtnjfnckodecofaaDoor.lawUnitsOver
