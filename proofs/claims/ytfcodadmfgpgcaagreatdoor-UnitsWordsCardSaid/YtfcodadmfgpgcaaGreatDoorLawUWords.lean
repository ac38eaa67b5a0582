/- UnitsWords: for every three numbers, every text and every byte the law returns true; what the call was given reads as before. Conditions: the nine listed variables lie as the program lays them. -/
import Derived.Test.YtfcodadmfgpgcaaGreatDoorUnFrame
import Derived.Test.YtfcodadmfgpgcaaGreatDoorUnWorks
import Derived.Test.YtfcodadmfgpgcaaGreatDoorUnWordsLx
import Derived.SevenTiedAt
namespace Go.Proofs.YtfcodadmfgpgcaaGreatDoor.lawUnitsWords
open Go.ChangeShapes Go.WideShapes Go.ChangeAt Go.RowKit

/-- units.Pair at a text that is none. -/
theorem pair_none (x : ByteArray) (h : Lx.pairOk x = false) (hs : x.size ≤ 1000000000) (W : World) :
    Calls Tryz.prog 10 #[.string x] W fun e w' => e = .returned (.tuple #[.string ⟨#[]⟩, .string ⟨#[]⟩, .int .i64 10]) ∧ Below W.heap.size W w' := by
  have := pair_any x W hs
  rw [(Lx.pair_bad h).1, (Lx.pair_bad h).2.1, (Lx.pair_bad h).2.2] at this
  exact this

set_option maxRecDepth 100000 in
set_option maxHeartbeats 6400000 in
theorem walk (n : Int) (hn : (Lit.int .i64 n).wf = true) (lo : Int) (_hlo : (Lit.int .i64 lo).wf = true) (hi : Int) (_hhi : (Lit.int .i64 hi).wf = true) (s : ByteArray) (_hs : s.size ≤ maxLen) (c0 : Int) (hc0 : (Lit.int .u8 c0).wf = true) (w : World) (env : UEnv w) :
    Calls Tryz.prog 3 #[.int .i64 n, .int .i64 lo, .int .i64 hi, .string s, .int .u8 c0] w fun e w' => e = .returned (.bool true) ∧ Below w.heap.size w w' := by
  by_cases hbig : 300 < s.size
  · have hbig' : (300 : Int) < (s.size : Int) := by omega
    have hw := uworks_any w env
    go_enter Tryz.func3, Tryz.ntmps3
    go_wp2_with fail
    refine hw.mono ?_
    rintro e w1 ⟨rfl, hb⟩
    go_wp2_with fail
    go_ret
    exact ⟨rfl, hb⟩
  · have hsm : (s.size : Int) ≤ 300 := by omega
    obtain ⟨c, rfl⟩ := Lx.u8_of hc0
    have hnb := bounds_i64 hn
    have hD := Lib.hid (digits_any n w hnb.1 hnb.2 env.env)
    obtain ⟨t, ht⟩ : ∃ t : ByteArray, t = ⟨(Lib.itoa n).toArray⟩ := ⟨_, rfl⟩
    rw [← ht] at hD
    have htl : t.data.toList = Lib.itoa n := by rw [ht]
    have hts : t.size ≤ 21 := by rw [Lib.size_eq, htl]; exact Lx.it_sizeW n hnb.1 hnb.2
    have hit := Lx.it_num n hnb.1 hnb.2
    obtain ⟨V, E, hI, hcase⟩ : ∃ V E : Int, (∀ W, UEnv W → Calls Tryz.prog 7 #[.string t, .int .i64 lo, .int .i64 hi] W fun e w' => e = .returned (.tuple #[.int .i64 V, .int .i64 E]) ∧ Below W.heap.size W w') ∧ ((lo ≤ n ∧ n ≤ hi ∧ V = n ∧ E = 0) ∨ (n < lo ∧ V = 0 ∧ E = 3) ∨ (lo ≤ n ∧ hi < n ∧ V = 0 ∧ E = 3)) := by
      refine ⟨_, _, fun W E => int_any t lo hi W (by omega) E.env, ?_⟩
      rw [htl]
      by_cases h : lo ≤ n ∧ n ≤ hi
      · have := Lx.int_good (l := Lib.itoa n) (lo := lo) (hi := hi) ⟨hit.2, by rw [hit.1]; exact h.1, by rw [hit.1]; exact h.2⟩
        exact .inl ⟨h.1, h.2, by rw [this.1, hit.1], this.2⟩
      · have := Lx.int_bad (l := Lib.itoa n) (lo := lo) (hi := hi) (by rw [hit.2]; decide) (by rw [hit.1]; rintro ⟨_, h2, h3⟩; exact h ⟨h2, h3⟩)
        by_cases h1 : lo ≤ n
        · exact .inr (.inr ⟨h1, by omega, this.1, this.2⟩)
        · exact .inr (.inl ⟨by omega, this.1, this.2⟩)
    have HI := Lib.hid hI
    obtain ⟨q, hq⟩ : ∃ q : Nat, q = c.toNat % 26 := ⟨_, rfl⟩
    obtain ⟨r, hr⟩ : ∃ r : Nat, r = c.toNat % 5 := ⟨_, rfl⟩
    have hqi : (c.toNat : Int) % 26 = (q : Int) := by omega
    have hri : (c.toNat : Int) % 5 = (r : Int) := by omega
    have hq26 : (q : Int) < 26 := by omega
    have hr5 : (r : Int) < 5 := by omega
    obtain ⟨m, hm⟩ : ∃ m : Nat, m = 1 + r := ⟨_, rfl⟩
    have hmi : (1 : Int) + (r : Int) = (m : Int) := by omega
    have hm5 : 0 < m ∧ m ≤ 5 := by omega
    obtain ⟨l1, l2⟩ := Lx.low_of q (by omega)
    obtain ⟨kc, hkc⟩ : ∃ kc : UInt8, kc = UInt8.ofNat (97 + q) := ⟨_, rfl⟩
    rw [← hkc] at l1 l2
    have hcv0 : ∀ W : World, (convert 28 9 (.slice (some ⟨W.heap.size, 0, none⟩) 1 1)).run Tryz.prog (W.alloc (.cells #[.int .u8 (97 + (q : Int))] 5)) = .ok (.string (Lx.one kc)) (W.alloc (.cells #[.int .u8 (97 + (q : Int))] 5)) := fun W => conv_one W (97 + (q : Int)) kc (by omega)
    have Hcv := Lib.hid hcv0
    obtain ⟨K, hK⟩ : ∃ K : ByteArray, K = ⟨(Lib.repeatL (Lx.one kc).data.toList m).toArray⟩ := ⟨_, rfl⟩
    have HR := Lib.hid (fun W => Tryz.strings_Repeat (Lx.one kc) m W (by omega) (by show 1 * m ≤ _; omega))
    rw [← hK] at HR
    have hKl : K.data.toList = List.replicate m kc := by rw [hK]; show Lib.repeatL [kc] m = _; exact Lx.repeat_one kc m
    have hKs : K.size ≤ 5 := by rw [Lib.size_eq, hKl, List.length_replicate]; omega
    have z1 : (⟨#[61]⟩ : ByteArray).size = 1 := rfl
    have z2 : (⟨#[49, 61]⟩ : ByteArray).size = 2 := rfl
    have z3 : (⟨#[32]⟩ : ByteArray).size = 1 := rfl
    have hsum : (K ++ ⟨#[61]⟩ ++ s : ByteArray).data.toList = List.replicate m kc ++ 61 :: s.data.toList := by
      rw [ByteArray.data_append, ByteArray.data_append, Array.toList_append, Array.toList_append, hKl, List.append_assoc]; rfl
    obtain ⟨p1, p2, p3⟩ := Lx.pair_of (K ++ ⟨#[61]⟩ ++ s) _ _ hsum (by intro e; have := congrArg List.length e; rw [List.length_replicate] at this; simp at this; omega) (by rw [Lx.rep_all _ _ _ hm5.1]; exact l1)
    have HP := Lib.hid (fun W => pair_any (K ++ ⟨#[61]⟩ ++ s) W (by rw [ByteArray.size_append, ByteArray.size_append]; omega))
    rw [Lx.ba_ext (p1.trans hKl.symm), Lx.ba_ext p2, p3] at HP
    obtain ⟨U, hU⟩ : ∃ U : ByteArray, U = ⟨(Lib.toUpperA K.data.toList).toArray⟩ := ⟨_, rfl⟩
    have HU := Lib.hid (fun W => Tryz.strings_ToUpper_ascii K W (by omega) (by rw [hKl]; exact Lx.rep_ascii kc m l1))
    rw [← hU] at HU
    have hUl : U.data.toList = Lib.toUpperA (List.replicate m kc) := by rw [hU, ← hKl]
    have hUs : U.size ≤ 5 := by rw [Lib.size_eq, hUl, Lx.upper_rep, List.length_replicate]; omega
    have Hsix := Lib.hid (Lx.six_no K U s kc m hm5.1 l1 hKl hUl)
    clear hI ht htl hit hq hr hkc l1 l2 hcv0 hK hKl hsum p1 p2 p3 hU hUl hn _hs hc0 hnb hm _hlo _hhi
    rcases hcase with ⟨h1, h2, rfl, rfl⟩ | ⟨h1, rfl, rfl⟩ | ⟨h1, h2, rfl, rfl⟩
    all_goals
      go_enter Tryz.func3, Tryz.ntmps3
      go_wp2_with fail
      refine hD.out.mono ?_
      rintro e w1 ⟨rfl, b1⟩
      go_wp2_with fail
      refine (HI.out _ (env.below b1)).mono ?_
      rintro e w2 ⟨rfl, c2⟩
      have b2 := b1.trans (c2.mono b1.size)
      have b2a := b2.alloc b2.size (.cells #[.int .u8 (97 + (q : Int))] 5)
      have hcv := Hcv.out w2
      clear b1 c2
      go_wp2_with fail
      refine (HR.out _).mono ?_
      rintro e w3 ⟨rfl, c3⟩
      have b3 := b2a.trans (c3.mono b2a.size)
      clear hcv c3 b2 b2a
      go_wp2_with fail
      refine (HP.out _).mono ?_
      rintro e w4 ⟨rfl, c4⟩
      have b4 := b3.trans (c4.mono b3.size)
      clear b3 c4
      go_wp2_with fail
      refine (HU.out _).mono ?_
      rintro e w5 ⟨rfl, c5⟩
      have b5 := b4.trans (c5.mono b4.size)
      have hb6 := b5.alloc b5.size (.cells #[.string K, .string (⟨#[61]⟩ ++ s), .string (U ++ ⟨#[61]⟩ ++ s), .string (K ++ ⟨#[49, 61]⟩ ++ s), .string (⟨#[32]⟩ ++ K ++ ⟨#[61]⟩ ++ s), .string ⟨#[]⟩] 9)
      have hlt6 : w5.heap.size < (w5.alloc (.cells #[.string K, .string (⟨#[61]⟩ ++ s), .string (U ++ ⟨#[61]⟩ ++ s), .string (K ++ ⟨#[49, 61]⟩ ++ s), .string (⟨#[32]⟩ ++ K ++ ⟨#[61]⟩ ++ s), .string ⟨#[]⟩] 9)).heap.size := by rw [World.size_alloc]; omega
      have Hc6 := Lib.hid (Lx.six_cellW w5 K U s 9)
      clear b4 c5 b5
      go_wp2_with fail
      generalize w5.alloc (.cells #[.string K, .string (⟨#[61]⟩ ++ s), .string (U ++ ⟨#[61]⟩ ++ s), .string (K ++ ⟨#[49, 61]⟩ ++ s), .string (⟨#[32]⟩ ++ K ++ ⟨#[61]⟩ ++ s), .string ⟨#[]⟩] 9) = w6 at hb6 hlt6 Hc6 ⊢
      generalize w5.heap.size = B6 at hlt6 Hc6 ⊢
      go_loopw [117] (fun i wr => ∃ k : Nat, k ≤ 6 ∧ i = .int .i64 k ∧ Below w6.heap.size w6 wr) (fun i _ => 6 - (intOf i).toNat)
      case atStart => exact ⟨0, Nat.zero_le _, rfl, Below.refl _ _⟩
      case round =>
        obtain ⟨k, hk, rfl, hbel⟩ := hrel
        have hbr := hb6.trans (hbel.mono hb6.size)
        have envr := env.below hbr
        by_cases hlt : k < 6
        · obtain ⟨x, hx⟩ : ∃ x, (Lx.sixW K U s)[k]? = some x := ⟨_, List.getElem?_eq_getElem (show k < (Lx.sixW K U s).length from hlt)⟩
          have r0 := (hbel.cell (p := ⟨B6, k, none⟩) hlt6).trans (Hc6.out k x hx)
          obtain ⟨y1, y2⟩ := Hsix.out x (List.mem_of_getElem? hx)
          have HX := Lib.hid (pair_none x y1 (by omega) wr)
          have hki : (k : Int) < 6 := by omega
          clear hx y1 y2
          go_wp2_with fail
          refine HX.out.mono ?_
          rintro e w7 ⟨rfl, hb7⟩
          go_wp2_with fail
          go_roundw
          case rel => exact ⟨k + 1, by omega, by go_num, hbel.trans (hb7.mono hbel.size)⟩
          case measure => simp [intOf]; omega
        · obtain rfl : k = 6 := by omega
          have HW := Lib.hid (uworks_any wr envr)
          go_wp2_with fail
          refine HW.out.mono ?_
          rintro e w7 ⟨rfl, hb7⟩
          go_wp2_with fail
          go_ret
          exact ⟨rfl, hbr.trans (hb7.mono hbr.size)⟩

set_option maxRecDepth 100000 in
/-- What the walk gives, for every argument that can be read. -/
theorem contract (H : Type) (enc : TypeId × Value → H) (W : World) (base : Nat) (args : Array Value) (ds gs : List (DataW H)) (before : List MemPlace)
    (hval : ∀ (j : Nat) t v, Tryz.f3.params[j]? = some t → args[j]? = some v → Value.okWide Tryz.prog W .any base t v)
    (hW : DataW.Whole enc Tryz.prog Tryz.f3.params.toList Rows.unitsWordsSpec.vars false W args.toList ds gs before) (hL : laidMetH Tryz.prog Rows.unitsWordsRow.laid W) (hsh : W.ShapedOpen Tryz.prog) :
    Calls Tryz.prog 3 args W fun e W' => ∃ v, e = .returned v ∧ Rows.unitsWordsSpec.post enc Tryz.prog Tryz.f3 false true false false W args v W' := by
  have hW' := hW
  obtain ⟨p, q, hA0, hV, rfl, hfz, hnd⟩ := hW
  have hA : DataW.TrodAll enc Tryz.prog W 0 (fun _ => true) true Tryz.f3.params.toList args.toList ds p := hA0
  rw [Tryz.params3] at hA hval
  obtain ⟨v0, vs0, d0, ds0, p0, q0, hargs, rfl, rfl, h0, r0⟩ := trodAll_cons hA
  obtain ⟨v1, vs1, d1, ds1, p1, q1, rfl, rfl, rfl, h1, r1⟩ := trodAll_cons r0
  obtain ⟨v2, vs2, d2, ds2, p2, q2, rfl, rfl, rfl, h2, r2⟩ := trodAll_cons r1
  obtain ⟨v3, vs3, d3, ds3, p3, q3, rfl, rfl, rfl, h3, r3⟩ := trodAll_cons r2
  obtain ⟨v4, vs4, d4, ds4, p4, q4, rfl, rfl, rfl, h4, r4⟩ := trodAll_cons r3
  obtain ⟨rfl, rfl, rfl⟩ := trodAll_nil r4
  obtain rfl : args = #[v0, v1, v2, v3, v4] := by cases args; simp_all
  obtain ⟨rfl, rfl⟩ := trodVars_none hV
  obtain ⟨s0, rfl, rfl, rfl, w0⟩ := open_int Tryz.underlying2 (hval 0 2 v0 rfl rfl) h0
  obtain ⟨s1, rfl, rfl, rfl, w1⟩ := open_int Tryz.underlying2 (hval 1 2 v1 rfl rfl) h1
  obtain ⟨s2, rfl, rfl, rfl, w2⟩ := open_int Tryz.underlying2 (hval 2 2 v2 rfl rfl) h2
  obtain ⟨s3, rfl, rfl, rfl, w3⟩ := Go.ChangeMaps.open_string Tryz.underlying9 (hval 3 9 v3 rfl rfl) h3
  obtain ⟨s4, rfl, rfl, rfl, w4⟩ := open_int Tryz.underlying5 (hval 4 5 v4 rfl rfl) h4
  clear hA0
  refine (walk s0 w0 s1 w1 s2 w2 s3 w3 s4 w4 W (env_of hL hsh)).mono fun e W' ⟨he, bel⟩ => ?_
  subst he
  exact ⟨_, rfl, _, _, _, [], _, [], hW', trodAll_mk1 (shut_bool Tryz.underlying4 _), (trodAll_cons_mk (shut_int Tryz.underlying2 w0) (trodAll_cons_mk (shut_int Tryz.underlying2 w1) (trodAll_cons_mk (shut_int Tryz.underlying2 w2) (trodAll_cons_mk (Go.ChangeMaps.shut_string Tryz.underlying9 w3) (trodAll_cons_mk (shut_int Tryz.underlying5 w4) trodAll_mk0))))), rfl, bel.frame _, fun h => by cases h⟩

set_option maxRecDepth 100000 in
theorem reads (os : Os) {H : Type} (enc : TypeId × Value → H) : ∃ places, DataW.whole enc Tryz.prog ((World.laidAll Tryz.prog os Rows.unitsWordsRow.laid).forCall (fun _ _ => 0) ⟨#[], #[.int .i64 0, .int .i64 0, .int .i64 0, .string ⟨#[]⟩, .int .u8 0], []⟩).memory Tryz.f3.params.toList Rows.unitsWordsSpec.vars false (#[.int .i64 0, .int .i64 0, .int .i64 0, .string ⟨#[]⟩, .int .u8 0] : Array Value).toList 8 = some ([.lit (.int .i64 0), .lit (.int .i64 0), .lit (.int .i64 0), .lit (.string []), .lit (.int .u8 0)], [], places) :=
  ⟨[], by kernel_rfl⟩

set_option maxRecDepth 100000 in
theorem lifted (os : Os) (started : os.Started) (H : Type) (enc : TypeId × Value → H) (F : Stop.Interp) :
    ReturnsInHanded {} Tryz.checked os 3 .any ((OpenSpec.ofChange Rows.unitsWordsSpec).preRow enc Tryz.prog Tryz.f3 Rows.unitsWordsRow.domain false Rows.unitsWordsRow.laid) (((OpenSpec.ofChange Rows.unitsWordsSpec).at F).post enc Tryz.prog Tryz.f3 false true false false) := by
  obtain ⟨places, hx⟩ := reads os enc
  refine returnsInHanded_of_row (C := Tryz.checked) (s := OpenSpec.ofChange Rows.unitsWordsSpec) own started (by kernel_rfl) Tryz.func3
    (witness_row_atRef (enc := enc) (C := Tryz.checked) false (World.laidAll Tryz.prog os Rows.unitsWordsRow.laid) #[.int .i64 0, .int .i64 0, .int .i64 0, .string ⟨#[]⟩, .int .u8 0] (World.laidAll_os _ _ _) (door_vars os _) (door_rest os _) (by kernel_rfl)
      (OpenSpec.preRow_of_cond 8 hx (by kernel_rfl) (fun k hk => by cases hk) (by kernel_rfl) (door_laid os _))) ?_
  intro W base args ds gs before hval hW _ _ _ hL hsh _
  exact contract H enc W base args ds gs before hval hW hL hsh

theorem said : Rows.UnitsWordsSaid :=
  OpenClaim.holds_of_cond 3 Tryz.f3 rfl rfl rfl rfl rfl rfl rfl ⟨rfl, rfl, rfl, rfl, rfl⟩ rfl rfl rfl rfl rfl (by kernel_rfl) Tryz.func3 (by kernel_rfl)
    (of_decide_eq_true (by kernel_rfl)) (by unfold Func.isWrapper; first | (rw [if_pos (by decide +kernel)]; kernel_rfl) | (rw [if_neg (by decide +kernel)]; exact ⟨rfl, rfl⟩))
    (fun os started H enc _ F => by rw [OpenClaim.pre_eq_preRow]; exact lifted os started H enc F)

theorem plain (f : FuncId) (fn : Func) (hf : Tryz.pinned.checked.prog.funcNamed "wakeman/wakemanlaw13.UnitsWords" = some f) (hfn : Tryz.pinned.checked.prog.funcs[f]? = some fn) :
    Rows.unitsWordsCard.stood.looks = Tryz.pinned.checked.prog.looks [] ∧ ∀ (j : Nat) t, fn.params[j]? = some t → Tryz.pinned.checked.prog.wantsStandIn t = false := by
  obtain rfl : f = 3 := Option.some.inj ((show Tryz.prog.funcNamed "wakeman/wakemanlaw13.UnitsWords" = some 3 by kernel_rfl).symm.trans hf) |>.symm
  obtain rfl : fn = Tryz.f3 := (Option.some.inj (Tryz.func3.symm.trans hfn)).symm
  refine ⟨by kernel_rfl, fun j t ht => ?_⟩
  rw [Tryz.params3] at ht
  have hm : t ∈ [2, 9, 5] := by
    have := Array.mem_of_getElem? ht
    simpa using this
  have hall : ([2, 9, 5].all fun u => !Tryz.prog.wantsStandIn u) = true := by kernel_rfl
  exact (show Tryz.prog.wantsStandIn t = false by simpa using List.all_eq_true.1 hall t hm)

/-- The card. -/
theorem card : Rows.UnitsWordsCardSaid :=
  Claim7.holds_tied_plain_at .later [] _ _ _ _ said (fun _ h => by cases h) (by kernel_rfl) (fun _ h => by cases h) unitsWords_row_tie rfl ⟨rfl, rfl⟩ (by kernel_rfl) rfl plain (by kernel_rfl)
end Go.Proofs.YtfcodadmfgpgcaaGreatDoor.lawUnitsWords
