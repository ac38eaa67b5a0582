/- UnitsLimits: for every text and every limit the law returns true; what the call was given reads as before. Conditions: the eight listed variables lie as the program lays them. -/
import Derived.Test.YtfcodadmfgpgcaaDoorUnFrame
import Derived.Test.YtfcodadmfgpgcaaDoorUnWorks
import Derived.Test.YtfcodadmfgpgcaaDoorUnLimRef
import Derived.Test.YtfcodadmfgpgcaaDoorUnLimRef2
import Derived.SevenTiedAt
import Derived.Lib.SmallJoins
namespace Go.Proofs.YtfcodadmfgpgcaaDoor.lawUnitsLimits
open Go.ChangeShapes Go.WideShapes Go.ChangeAt Go.RowKit

set_option maxRecDepth 100000 in
set_option maxHeartbeats 1600000 in
theorem walk (s : ByteArray) (_hs : s.size ≤ maxLen) (t u : Int) (w : World) (env : UEnv w) :
    Calls Tryd.prog 4 #[.string s, .agg #[.int .i64 t, .int .i64 u]] w fun e w' => e = .returned (.bool true) ∧ Below w.heap.size w w' := by
  by_cases hbig : 2000 < s.size
  · have hbig' : (2000 : Int) < (s.size : Int) := by omega
    have hba0 : Below w.heap.size w (w.alloc (.cells #[.int .i64 t, .int .i64 u] 33)) := (Below.refl _ _).alloc (Nat.le_refl _) _
    have hw := Lib.hid (uworks_any _ (env.below hba0))
    go_enter Tryd.func4, Tryd.ntmps4
    go_wp2_with fail
    refine hw.out.mono ?_
    rintro e w1 ⟨rfl, hb⟩
    go_wp2_with fail
    go_ret
    exact ⟨rfl, hba0.trans (hb.mono hba0.size)⟩
  · have hsm : (s.size : Int) ≤ 2000 := by omega
    have H1 := Lib.hid (fun W (E : UEnv W) => limit_any s (by omega) W E)
    have H2 := Lib.hid (fun W => ref_limit_any s (by omega) W)
    have H3 := Lib.hid (fun W (E : UEnv W) => plimit_any t u W E)
    have H4 := Lib.hid (fun W => ref_plimit_any t u W)
    obtain ⟨V, hV⟩ : ∃ V : ByteArray, V = ⟨(Lx.plimS t u).toArray⟩ := ⟨_, rfl⟩
    rw [← hV] at H3 H4
    generalize Lx.plimE t u = PE at H3 H4
    generalize Lx.limT s = LT at H1 H2
    generalize Lx.limU s = LU at H1 H2
    generalize Lx.limE s = LE at H1 H2
    clear hV
    have hba : Below w.heap.size w (w.alloc (.cells #[.int .i64 t, .int .i64 u] 33)) := (Below.refl _ _).alloc (Nat.le_refl _) _
    have env0 := env.below hba
    have hlt0 : w.heap.size < (w.alloc (.cells #[.int .i64 t, .int .i64 u] 33)).heap.size := by simp
    have H1' := Lib.hid (H1.out _ env0)
    clear H1
    go_enter Tryd.func4, Tryd.ntmps4
    go_wp2_with fail
    refine H1'.out.mono ?_
    rintro e w1 ⟨rfl, k1⟩
    have b1 := hba.trans (k1.mono hba.size)
    have p0 : w1.cell? ⟨w.heap.size, 0, none⟩ = some (.int .i64 t) := (k1.cell (p := ⟨w.heap.size, 0, none⟩) hlt0).trans (by simp)
    have p1 : w1.cell? ⟨w.heap.size, 1, none⟩ = some (.int .i64 u) := (k1.cell (p := ⟨w.heap.size, 1, none⟩) hlt0).trans (by simp)
    have l1 := Nat.lt_of_lt_of_le hlt0 k1.size
    have ca : Below w1.heap.size w1 (w1.alloc (.cells #[.int .i64 LT, .int .i64 LU] 33)) := (Below.refl _ _).alloc (Nat.le_refl _) _
    have ba := b1.trans (ca.mono b1.size)
    have la : w1.heap.size < (w1.alloc (.cells #[.int .i64 LT, .int .i64 LU] 33)).heap.size := by simp
    go_wp2_with fail
    refine (H2.out _).mono ?_
    rintro e w2 ⟨rfl, k2⟩
    have b2 := ba.trans (k2.mono ba.size)
    have l1a := Nat.lt_of_lt_of_le l1 ca.size
    have r0 := (k2.cell (p := ⟨w.heap.size, 0, none⟩) l1a).trans ((ca.cell (p := ⟨w.heap.size, 0, none⟩) l1).trans p0)
    have r1 := (k2.cell (p := ⟨w.heap.size, 1, none⟩) l1a).trans ((ca.cell (p := ⟨w.heap.size, 1, none⟩) l1).trans p1)
    have q0 : w2.cell? ⟨w1.heap.size, 0, none⟩ = some (.int .i64 LT) := (k2.cell (p := ⟨w1.heap.size, 0, none⟩) la).trans (by simp)
    have q1 : w2.cell? ⟨w1.heap.size, 1, none⟩ = some (.int .i64 LU) := (k2.cell (p := ⟨w1.heap.size, 1, none⟩) la).trans (by simp)
    have l2 := Nat.lt_of_lt_of_le l1a k2.size
    have m2 := Nat.lt_of_lt_of_le la k2.size
    have cb : Below w2.heap.size w2 (w2.alloc (.cells #[.int .i64 LT, .int .i64 LU] 33)) := (Below.refl _ _).alloc (Nat.le_refl _) _
    have bb := b2.trans (cb.mono b2.size)
    have lb : w2.heap.size < (w2.alloc (.cells #[.int .i64 LT, .int .i64 LU] 33)).heap.size := by simp
    have envb := env.below bb
    clear p0 p1 l1 ca ba la k1 k2 l1a b1 hlt0 hba env0
    go_wp2_with fail
    refine (H3.out _ envb).mono ?_
    rintro e w3 ⟨rfl, k3⟩
    have b3 := bb.trans (k3.mono bb.size)
    have l2b := Nat.lt_of_lt_of_le l2 cb.size
    have m2b := Nat.lt_of_lt_of_le m2 cb.size
    have s0 := (k3.cell (p := ⟨w.heap.size, 0, none⟩) l2b).trans ((cb.cell (p := ⟨w.heap.size, 0, none⟩) l2).trans r0)
    have s1 := (k3.cell (p := ⟨w.heap.size, 1, none⟩) l2b).trans ((cb.cell (p := ⟨w.heap.size, 1, none⟩) l2).trans r1)
    have q2 := (k3.cell (p := ⟨w1.heap.size, 0, none⟩) m2b).trans ((cb.cell (p := ⟨w1.heap.size, 0, none⟩) m2).trans q0)
    have q3 := (k3.cell (p := ⟨w1.heap.size, 1, none⟩) m2b).trans ((cb.cell (p := ⟨w1.heap.size, 1, none⟩) m2).trans q1)
    have q4 : w3.cell? ⟨w2.heap.size, 0, none⟩ = some (.int .i64 LT) := (k3.cell (p := ⟨w2.heap.size, 0, none⟩) lb).trans (by simp)
    have q5 : w3.cell? ⟨w2.heap.size, 1, none⟩ = some (.int .i64 LU) := (k3.cell (p := ⟨w2.heap.size, 1, none⟩) lb).trans (by simp)
    have m3 := Nat.lt_of_lt_of_le m2b k3.size
    have lb3 := Nat.lt_of_lt_of_le lb k3.size
    clear r0 r1 q0 q1 l2 m2 cb bb lb envb k3 l2b m2b b2
    go_wp2_with fail
    refine (H4.out _).mono ?_
    rintro e w4 ⟨rfl, k4⟩
    have b4 := b3.trans (k4.mono b3.size)
    have z2 := (k4.cell (p := ⟨w1.heap.size, 0, none⟩) m3).trans q2
    have z3 := (k4.cell (p := ⟨w1.heap.size, 1, none⟩) m3).trans q3
    have z4 := (k4.cell (p := ⟨w2.heap.size, 0, none⟩) lb3).trans q4
    have z5 := (k4.cell (p := ⟨w2.heap.size, 1, none⟩) lb3).trans q5
    clear s0 s1 q2 q3 q4 q5 k4 b3
    go_wp2_with fail
    refine (uworks_any _ (env.below b4)).mono ?_
    rintro e w5 ⟨rfl, k5⟩
    go_wp2_with fail
    go_ret
    exact ⟨rfl, b4.trans (k5.mono b4.size)⟩

set_option maxRecDepth 100000 in
/-- What the walk gives, for every argument that can be read. -/
theorem contract (H : Type) (enc : TypeId × Value → H) (W : World) (base : Nat) (args : Array Value) (ds gs : List (DataW H)) (before : List MemPlace)
    (hval : ∀ (j : Nat) t v, Tryd.f4.params[j]? = some t → args[j]? = some v → Value.okWide Tryd.prog W .any base t v)
    (hW : DataW.Whole enc Tryd.prog Tryd.f4.params.toList Rows.unitsLimitsSpec.vars false W args.toList ds gs before) (hL : laidMetH Tryd.prog Rows.unitsLimitsRow.laid W) (hsh : W.ShapedOpen Tryd.prog) :
    Calls Tryd.prog 4 args W fun e W' => ∃ v, e = .returned v ∧ Rows.unitsLimitsSpec.post enc Tryd.prog Tryd.f4 false true false false W args v W' := by
  have hW' := hW
  obtain ⟨p, q, hA0, hV, rfl, hfz, hnd⟩ := hW
  have hA : DataW.TrodAll enc Tryd.prog W 0 (fun _ => true) true Tryd.f4.params.toList args.toList ds p := hA0
  rw [Tryd.params4] at hA hval
  obtain ⟨v0, vs0, d0, ds0, p0, q0, hargs, rfl, rfl, h0, r0⟩ := trodAll_cons hA
  obtain ⟨v1, vs1, d1, ds1, p1, q1, rfl, rfl, rfl, h1, r1⟩ := trodAll_cons r0
  obtain ⟨rfl, rfl, rfl⟩ := trodAll_nil r1
  obtain rfl : args = #[v0, v1] := by cases args; simp_all
  obtain ⟨rfl, rfl⟩ := trodVars_none hV
  obtain ⟨s0, rfl, rfl, rfl, w0⟩ := Go.ChangeMaps.open_string Tryd.underlying9 (hval 0 9 v0 rfl rfl) h0
  obtain ⟨c01, c11, y01, y11, m1, rfl, rfl, rfl, hy01, hy11⟩ := Go.Joins.open_agg2 Tryd.underlying33 (by kernel_rfl) (by kernel_rfl) (hval 1 33 v1 rfl rfl) h1
  obtain ⟨a1, e01, rfl, wa1⟩ := DataW.trod_int Tryd.underlying2 hy01
  obtain ⟨b1, e11, rfl, wb1⟩ := DataW.trod_int Tryd.underlying2 hy11
  simp at e01 e11
  subst e01 e11
  clear hA0
  refine (walk s0 w0 a1 b1 W (env_of hL hsh)).mono fun e W' ⟨he, bel⟩ => ?_
  subst he
  exact ⟨_, rfl, _, _, _, [], _, [], hW', trodAll_mk1 (shut_bool Tryd.underlying4 _), (trodAll_cons_mk (Go.ChangeMaps.shut_string Tryd.underlying9 w0) (trodAll_cons_mk (Go.Joins.shut_agg2 (y0 := (.lit (.int .i64 a1), [])) (y1 := (.lit (.int .i64 b1), [])) Tryd.underlying33 (by kernel_rfl) (by kernel_rfl) ⟨1, by simp [DataW.trod, Tryd.underlying2, wa1]⟩ ⟨1, by simp [DataW.trod, Tryd.underlying2, wb1]⟩) trodAll_mk0)), rfl, bel.frame _, fun h => by cases h⟩

set_option maxRecDepth 100000 in
theorem reads (os : Os) {H : Type} (enc : TypeId × Value → H) : ∃ places, DataW.whole enc Tryd.prog ((World.laidAll Tryd.prog os Rows.unitsHexRow.laid).forCall (fun _ _ => 0) ⟨#[], #[.string ⟨#[]⟩, .agg #[.int .i64 0, .int .i64 0]], []⟩).memory Tryd.f4.params.toList Rows.unitsLimitsSpec.vars false (#[.string ⟨#[]⟩, .agg #[.int .i64 0, .int .i64 0]] : Array Value).toList 8 = some ([.lit (.string []), .agg [.lit (.int .i64 0), .lit (.int .i64 0)]], [], places) :=
  ⟨[], by kernel_rfl⟩

set_option maxRecDepth 100000 in
theorem lifted (os : Os) (started : os.Started) (H : Type) (enc : TypeId × Value → H) (F : Stop.Interp) :
    ReturnsInHanded {} Tryd.checked os 4 .any ((OpenSpec.ofChange Rows.unitsLimitsSpec).preRow enc Tryd.prog Tryd.f4 Rows.unitsLimitsRow.domain false Rows.unitsLimitsRow.laid) (((OpenSpec.ofChange Rows.unitsLimitsSpec).at F).post enc Tryd.prog Tryd.f4 false true false false) := by
  obtain ⟨places, hx⟩ := reads os enc
  refine returnsInHanded_of_row (C := Tryd.checked) (s := OpenSpec.ofChange Rows.unitsLimitsSpec) own started (by kernel_rfl) Tryd.func4
    (witness_row_atRef (enc := enc) (C := Tryd.checked) false (World.laidAll Tryd.prog os Rows.unitsHexRow.laid) #[.string ⟨#[]⟩, .agg #[.int .i64 0, .int .i64 0]] (World.laidAll_os _ _ _) (door_vars os _) (door_rest os _) (by kernel_rfl)
      (OpenSpec.preRow_of_cond 8 hx (by kernel_rfl) (fun k hk => by cases hk) (by kernel_rfl) (door_laid os _))) ?_
  intro W base args ds gs before hval hW _ _ _ hL hsh _
  exact contract H enc W base args ds gs before hval hW hL hsh

theorem said : Rows.UnitsLimitsSaid :=
  OpenClaim.holds_of_cond 4 Tryd.f4 rfl rfl rfl rfl rfl rfl rfl ⟨rfl, rfl, rfl, rfl, rfl⟩ rfl rfl rfl rfl rfl (by kernel_rfl) Tryd.func4 (by kernel_rfl)
    (of_decide_eq_true (by kernel_rfl)) (by unfold Func.isWrapper; first | (rw [if_pos (by decide +kernel)]; kernel_rfl) | (rw [if_neg (by decide +kernel)]; exact ⟨rfl, rfl⟩))
    (fun os started H enc _ F => by rw [OpenClaim.pre_eq_preRow]; exact lifted os started H enc F)

theorem plain (f : FuncId) (fn : Func) (hf : Tryd.pinned.checked.prog.funcNamed "wakeman/wakemanlaw13.UnitsLimits" = some f) (hfn : Tryd.pinned.checked.prog.funcs[f]? = some fn) :
    Rows.unitsLimitsCard.stood.looks = Tryd.pinned.checked.prog.looks [] ∧ ∀ (j : Nat) t, fn.params[j]? = some t → Tryd.pinned.checked.prog.wantsStandIn t = false := by
  obtain rfl : f = 4 := Option.some.inj ((show Tryd.prog.funcNamed "wakeman/wakemanlaw13.UnitsLimits" = some 4 by kernel_rfl).symm.trans hf) |>.symm
  obtain rfl : fn = Tryd.f4 := (Option.some.inj (Tryd.func4.symm.trans hfn)).symm
  refine ⟨by kernel_rfl, fun j t ht => ?_⟩
  rw [Tryd.params4] at ht
  have hm : t ∈ [9, 33] := by
    have := Array.mem_of_getElem? ht
    simpa using this
  have hall : ([9, 33].all fun u => !Tryd.prog.wantsStandIn u) = true := by kernel_rfl
  exact (show Tryd.prog.wantsStandIn t = false by simpa using List.all_eq_true.1 hall t hm)

/-- The card. -/
theorem card : Rows.UnitsLimitsCardSaid :=
  Claim7.holds_tied_plain_at .later [] _ _ _ _ said (fun _ h => by cases h) (by kernel_rfl) (fun _ h => by cases h) unitsLimits_row_tie rfl ⟨rfl, rfl⟩ (by kernel_rfl) rfl plain (by kernel_rfl)
end Go.Proofs.YtfcodadmfgpgcaaDoor.lawUnitsLimits
