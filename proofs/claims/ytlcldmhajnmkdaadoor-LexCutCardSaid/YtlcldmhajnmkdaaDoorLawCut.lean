/- LexCut: for every text and every byte the law returns true; what the call was given reads as before. Conditions: the five listed variables of the library lie as the program lays them. -/
import Derived.Test.YtlcldmhajnmkdaaDoorFrame
import Derived.Test.YtlcldmhajnmkdaaDoorCut
import Derived.Test.YtlcldmhajnmkdaaDoorCutLx
import Derived.Test.YtlcldmhajnmkdaaDoorDigits
import Derived.Test.YtlcldmhajnmkdaaDoorWorks
import Derived.SevenTiedAt
namespace Go.Proofs.YtlcldmhajnmkdaaDoor.lawLexCut
open Go.ChangeShapes Go.WideShapes Go.ChangeAt Go.RowKit

set_option maxRecDepth 100000 in
set_option maxHeartbeats 800000 in
theorem walk (s : ByteArray) (hs : s.size ≤ maxLen) (c : Int) (hc : (Lit.int .u8 c).wf = true) (w : World) (env : Env w) :
    Calls Tryd.prog 8 #[.string s, .int .u8 c] w fun e w' => e = .returned (.bool true) ∧ Below w.heap.size w w' := by
  obtain ⟨c, rfl⟩ := Lx.u8_of hc
  have hw := works_any w env
  by_cases hbig : 5000 < s.size
  · have hbig' : (5000 : Int) < (s.size : Int) := by omega
    go_enter Tryd.func8, Tryd.ntmps8
    go_wp2_with (go_at_call 15; refine hw.mono ?_; rintro e w' ⟨rfl, hb⟩)
    go_ret
    exact ⟨rfl, hb⟩
  · have hsm : (s.size : Int) ≤ 5000 := by omega
    have hia : ∀ W : World, Calls Tryd.prog 28 #[.string (Lx.cutA s c), .int .u8 c.toNat] W fun e w' => e = .returned (.int .i64 (-1)) ∧ W = w' := fun W => by
      refine (Tryd.strings_IndexByte (Lx.cutA s c) c.toNat W).mono ?_
      rintro e w' ⟨rfl, rfl⟩
      exact ⟨Lx.ret_int (by simp only [Int.toNat_natCast, Lx.toUInt8_toNat]; exact Lx.indexByte_cutA s c), rfl⟩
    by_cases hin : Lx.idx s c < s.size
    · have his : Lx.cutIs s c = true := decide_eq_true hin
      have hib : ∀ W : World, Calls Tryd.prog 28 #[.string s, .int .u8 c.toNat] W fun e w' => e = .returned (.int .i64 (Lx.idx s c : Int)) ∧ W = w' := fun W => by
        refine (Tryd.strings_IndexByte s c.toNat W).mono ?_
        rintro e w' ⟨rfl, rfl⟩
        exact ⟨Lx.ret_int (by simp only [Int.toNat_natCast, Lx.toUInt8_toNat]; exact Lx.indexByte_in s c hin), rfl⟩
      have hback : (Lx.cutA s c ++ Lx.one c ++ Lx.cutB s c) = s := Lx.cut_back s c hin
      have hsz1 : (Lx.cutA s c).size ≤ 5000 := by have := Lx.cutA_size s c; omega
      have hsz2 : (Lx.cutB s c).size ≤ 5000 := by have := Lx.cutB_size s c; omega
      have hcall := cut_any s c w hs
      rw [his] at hcall
      obtain ⟨a, ha⟩ : ∃ a, Lx.cutA s c = a := ⟨_, rfl⟩
      obtain ⟨b, hb⟩ : ∃ b, Lx.cutB s c = b := ⟨_, rfl⟩
      obtain ⟨k, hk⟩ : ∃ k, Lx.idx s c = k := ⟨_, rfl⟩
      rw [ha] at hsz1 hia hback hcall
      rw [hb] at hsz2 hback hcall
      rw [hk] at hib
      have Hia := Lib.hid hia
      have Hib := Lib.hid hib
      have Hback := Lib.hid hback
      have Hcall := Lib.hid hcall
      clear hia hib hback his hin ha hb hk hcall
      have hosz : (Lx.one c).size = 1 := rfl
      have hasz : (a ++ Lx.one c).size = a.size + 1 := by rw [ByteArray.size_append]; rfl
      have hk0 : (0 : Int) ≤ (k : Int) := by omega
      go_enter Tryd.func8, Tryd.ntmps8
      go_wp2_with fail
      refine Hcall.out.mono ?_
      rintro e w1 ⟨rfl, n1, rfl⟩
      go_wp2_with fail
      refine (Hia.out _).mono ?_
      rintro e w1 ⟨rfl, rfl⟩
      go_wp2_with fail
      refine (Hib.out _).mono ?_
      rintro e w1 ⟨rfl, rfl⟩
      have hcv : (convert 52 9 (.slice (some ⟨w.heap.size, 0, none⟩) 1 1)).run Tryd.prog ((w.drewN n1).alloc (.cells #[.int .u8 c.toNat] 5)) = .ok (.string (Lx.one c)) ((w.drewN n1).alloc (.cells #[.int .u8 c.toNat] 5)) := conv_one (w.drewN n1) c.toNat c rfl
      have hback2 : (a ++ Lx.one c ++ b) = s := Hback.out
      go_wp2_with fail
      have hbw : Below w.heap.size w ((w.drewN n1).alloc (.cells #[.int .u8 c.toNat] 5)) := (below_drewN _ w n1).alloc (Nat.le_refl _) _
      refine (works_any _ (env.below hbw)).mono ?_
      rintro e w4 ⟨rfl, hb4⟩
      go_wp2_with fail
      go_ret
      exact ⟨rfl, hbw.trans (hb4.mono hbw.size)⟩
    · have his : Lx.cutIs s c = false := decide_eq_false hin
      have hib : ∀ W : World, Calls Tryd.prog 28 #[.string s, .int .u8 c.toNat] W fun e w' => e = .returned (.int .i64 (-1)) ∧ W = w' := fun W => by
        refine (Tryd.strings_IndexByte s c.toNat W).mono ?_
        rintro e w' ⟨rfl, rfl⟩
        exact ⟨Lx.ret_int (by simp only [Int.toNat_natCast, Lx.toUInt8_toNat]; exact Lx.indexByte_out s c hin), rfl⟩
      have hend := Lx.cut_end s c (by omega)
      have hcall := cut_any s c w hs
      rw [← hend.1, ← hend.2.1, ← hend.2.2] at hcall
      rw [← hend.1] at hia
      have Hia := Lib.hid hia
      have Hib := Lib.hid hib
      have Hcall := Lib.hid hcall
      clear hia hib his hin hcall hend
      go_enter Tryd.func8, Tryd.ntmps8
      go_wp2_with fail
      refine Hcall.out.mono ?_
      rintro e w1 ⟨rfl, n1, rfl⟩
      go_wp2_with fail
      refine (Hia.out _).mono ?_
      rintro e w1 ⟨rfl, rfl⟩
      go_wp2_with fail
      refine (Hib.out _).mono ?_
      rintro e w1 ⟨rfl, rfl⟩
      go_wp2_with fail
      refine (works_any _ (env.drewN n1)).mono ?_
      rintro e w4 ⟨rfl, hb4⟩
      go_wp2_with fail
      go_ret
      exact ⟨rfl, (below_drewN _ w n1).trans hb4⟩

set_option maxRecDepth 100000 in
/-- What the walk gives, for every argument that can be read. -/
theorem contract (H : Type) (enc : TypeId × Value → H) (W : World) (base : Nat) (args : Array Value) (ds gs : List (DataW H)) (before : List MemPlace)
    (hval : ∀ (j : Nat) t v, Tryd.f8.params[j]? = some t → args[j]? = some v → Value.okWide Tryd.prog W .any base t v)
    (hW : DataW.Whole enc Tryd.prog Tryd.f8.params.toList Rows.lexCutSpec.vars false W args.toList ds gs before) (hL : laidMetH Tryd.prog Rows.lexCutRow.laid W) (hsh : W.ShapedOpen Tryd.prog) :
    Calls Tryd.prog 8 args W fun e W' => ∃ v, e = .returned v ∧ Rows.lexCutSpec.post enc Tryd.prog Tryd.f8 false true false false W args v W' := by
  have hW' := hW
  obtain ⟨p, q, hA0, hV, rfl, hfz, hnd⟩ := hW
  have hA : DataW.TrodAll enc Tryd.prog W 0 (fun _ => true) true Tryd.f8.params.toList args.toList ds p := hA0
  rw [Tryd.params8] at hA hval
  obtain ⟨v0, vs0, d0, ds0, p0, q0, hargs, rfl, rfl, h0, r0⟩ := trodAll_cons hA
  obtain ⟨v1, vs1, d1, ds1, p1, q1, rfl, rfl, rfl, h1, r1⟩ := trodAll_cons r0
  obtain ⟨rfl, rfl, rfl⟩ := trodAll_nil r1
  obtain rfl : args = #[v0, v1] := by cases args; simp_all
  obtain ⟨rfl, rfl⟩ := trodVars_none hV
  obtain ⟨s0, rfl, rfl, rfl, w0⟩ := Go.ChangeMaps.open_string Tryd.underlying9 (hval 0 9 v0 rfl rfl) h0
  obtain ⟨s1, rfl, rfl, rfl, w1⟩ := open_int Tryd.underlying5 (hval 1 5 v1 rfl rfl) h1
  clear hA0
  refine (walk s0 w0 s1 w1 W (env_of hL hsh)).mono fun e W' ⟨he, bel⟩ => ?_
  subst he
  exact ⟨_, rfl, _, _, _, [], _, [], hW', trodAll_mk1 (shut_bool Tryd.underlying4 _), (trodAll_cons_mk (Go.ChangeMaps.shut_string Tryd.underlying9 w0) (trodAll_cons_mk (shut_int Tryd.underlying5 w1) trodAll_mk0)), rfl, bel.frame _, fun h => by cases h⟩

set_option maxRecDepth 100000 in
theorem reads (os : Os) {H : Type} (enc : TypeId × Value → H) : ∃ places, DataW.whole enc Tryd.prog ((World.doorLaid Tryd.prog 72 os).forCall (fun _ _ => 0) ⟨#[], #[.string ⟨#[]⟩, .int .u8 0], []⟩).memory Tryd.f8.params.toList Rows.lexCutSpec.vars false (#[.string ⟨#[]⟩, .int .u8 0] : Array Value).toList 8 = some ([.lit (.string []), .lit (.int .u8 0)], [], places) :=
  ⟨[], by kernel_rfl⟩

set_option maxRecDepth 100000 in
theorem lifted (os : Os) (started : os.Started) (H : Type) (enc : TypeId × Value → H) (F : Stop.Interp) :
    ReturnsInHanded {} Tryd.checked os 8 .any ((OpenSpec.ofChange Rows.lexCutSpec).preRow enc Tryd.prog Tryd.f8 Rows.lexCutRow.domain false Rows.lexCutRow.laid) (((OpenSpec.ofChange Rows.lexCutSpec).at F).post enc Tryd.prog Tryd.f8 false true false false) := by
  obtain ⟨places, hx⟩ := reads os enc
  refine returnsInHanded_of_row (C := Tryd.checked) (s := OpenSpec.ofChange Rows.lexCutSpec) own started (by kernel_rfl) Tryd.func8
    (witness_row_atRef (enc := enc) (C := Tryd.checked) false (World.doorLaid Tryd.prog 72 os) #[.string ⟨#[]⟩, .int .u8 0] rfl (door_vars os _) (door_rest os _) (by kernel_rfl)
      (OpenSpec.preRow_of_cond 8 hx (by kernel_rfl) (fun k hk => by cases hk) (by kernel_rfl) (door_laid os _))) ?_
  intro W base args ds gs before hval hW _ _ _ hL hsh _
  exact contract H enc W base args ds gs before hval hW hL hsh

theorem said : Rows.LexCutSaid :=
  OpenClaim.holds_of_cond 8 Tryd.f8 rfl rfl rfl rfl rfl rfl rfl ⟨rfl, rfl, rfl, rfl, rfl⟩ rfl rfl rfl rfl rfl (by kernel_rfl) Tryd.func8 (by kernel_rfl)
    (of_decide_eq_true (by kernel_rfl)) (by unfold Func.isWrapper; first | (rw [if_pos (by decide +kernel)]; kernel_rfl) | (rw [if_neg (by decide +kernel)]; exact ⟨rfl, rfl⟩))
    (fun os started H enc _ F => by rw [OpenClaim.pre_eq_preRow]; exact lifted os started H enc F)

theorem plain (f : FuncId) (fn : Func) (hf : Tryd.pinned.checked.prog.funcNamed "wakeman/wakemanlaw05.LexCut" = some f) (hfn : Tryd.pinned.checked.prog.funcs[f]? = some fn) :
    Rows.lexCutCard.stood.looks = Tryd.pinned.checked.prog.looks [] ∧ ∀ (j : Nat) t, fn.params[j]? = some t → Tryd.pinned.checked.prog.wantsStandIn t = false := by
  obtain rfl : f = 8 := Option.some.inj ((show Tryd.prog.funcNamed "wakeman/wakemanlaw05.LexCut" = some 8 by kernel_rfl).symm.trans hf) |>.symm
  obtain rfl : fn = Tryd.f8 := (Option.some.inj (Tryd.func8.symm.trans hfn)).symm
  refine ⟨by kernel_rfl, fun j t ht => ?_⟩
  rw [Tryd.params8] at ht
  have hm : t ∈ [9, 5] := by
    have := Array.mem_of_getElem? ht
    simpa using this
  have hall : ([9, 5].all fun u => !Tryd.prog.wantsStandIn u) = true := by kernel_rfl
  exact (show Tryd.prog.wantsStandIn t = false by simpa using List.all_eq_true.1 hall t hm)

/-- The card. -/
theorem card : Rows.LexCutCardSaid :=
  Claim7.holds_tied_plain_at .later [] _ _ _ _ said (fun _ h => by cases h) (by kernel_rfl) (fun _ h => by cases h) lexCut_row_tie rfl ⟨rfl, rfl⟩ (by kernel_rfl) rfl plain (by kernel_rfl)
end Go.Proofs.YtlcldmhajnmkdaaDoor.lawLexCut
