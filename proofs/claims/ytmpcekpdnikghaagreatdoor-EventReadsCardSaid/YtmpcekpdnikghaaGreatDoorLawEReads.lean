/- EventReads: for every text and every list of names the law returns true; what the call was given reads as before. Conditions: the eight listed variables lie as the program lays them. -/
import Derived.Test.YtmpcekpdnikghaaGreatDoorEvFrame
import Derived.Test.YtmpcekpdnikghaaGreatDoorEvFr
import Derived.Test.YtmpcekpdnikghaaGreatDoorEvO
import Derived.Test.YtmpcekpdnikghaaGreatDoorR36V
import Derived.Test.YtmpcekpdnikghaaGreatDoorEvI
import Derived.Deep.DeepCutAuto
import Derived.SevenTiedAt
namespace Go.Proofs.YtmpcekpdnikghaaGreatDoor.lawEventReads
open Go.ChangeShapes Go.WideShapes Go.ChangeAt Go.RowKit
set_option maxRecDepth 100000 in
set_option maxHeartbeats 3200000 in
theorem walk (w : World) (s : ByteArray) (_hs : s.size ≤ maxLen) (ad : Option Addr) (len cap : Nat) (hz : ∃ ss, IsStrs w ad len cap ss) (env : EEnv w) :
    Calls Tryz.prog 3 #[.string s, .slice ad len cap] w fun e w' => e = .returned (.bool true) ∧ Below w.heap.size w w' := by
  obtain ⟨NS, hss⟩ := hz
  obtain ⟨hN, hsz, hlm, -⟩ := isNames_of hss
  have HW := Lib.hid (fun W (b : Below w.heap.size w W) => evworks_any W (env.below b))
  have HF := Lib.hid (fun W (b : Below w.heap.size w W) => few_any ad len cap NS W (hN.below b) hsz)
  have H1 := Lib.hid (fun W (b : Below w.heap.size w W) => evparse_any s ad len cap NS W (env.below b) (hN.below b) hsz hlm)
  have H2 := Lib.hid (fun W (b : Below w.heap.size w W) => r36parse_any s ad len cap NS W (hN.below b) hsz)
  have H3 := Lib.hid (fun W (b : Below w.heap.size w W) => evparseAll_any s ad len cap NS W (env.below b) (hN.below b) hsz hlm)
  have H4 := Lib.hid (fun W (b : Below w.heap.size w W) => r36parseAll_any s ad len cap NS W (hN.below b) hsz)
  have H5 := Lib.hid (fun (A : Option Addr) (n c : Nat) (L : List Lx.EvV) (A' : Option Addr) (c' : Nat) W (h : Lx.IsEvs W A n L) (h' : Lx.IsEvs W A' n L) (hn : n ≤ 1000000000) => r36same_any A n c L A' n c' L W h h' hn hn)
  unfold RfPost at H2
  unfold AllPostE at H3 H4
  unfold SameIsE at H5
  generalize Lx.fewV NS = F at *
  have HZ := Lib.hid hsz
  clear hss hN hsz hlm env
  cases F
  · go_enter Tryz.func3, Tryz.ntmps3
    go_wp2_with fail
    refine (HF.out _ (Below.refl _ _)).mono ?_
    rintro e w1 ⟨rfl, c1⟩
    go_wp2_with fail
    refine (HW.out _ c1).mono ?_
    rintro e w2 ⟨rfl, c2⟩
    go_wp2_with fail
    go_ret
    exact ⟨rfl, c1.trans (c2.mono c1.size)⟩
  · by_cases hmid : 3000 < s.size ∧ s.size ≤ 65536
    · have m1 : (3000 : Int) < (s.size : Int) := by omega
      have m2 : (s.size : Int) ≤ 65536 := by omega
      go_enter Tryz.func3, Tryz.ntmps3
      go_wp2_with fail
      refine (HF.out _ (Below.refl _ _)).mono ?_
      rintro e w1 ⟨rfl, c1⟩
      go_wp2_with fail
      refine (HW.out _ c1).mono ?_
      rintro e w2 ⟨rfl, c2⟩
      go_wp2_with fail
      go_ret
      exact ⟨rfl, c1.trans (c2.mono c1.size)⟩
    · go_enter Tryz.func3, Tryz.ntmps3
      go_upto_region 1 with (fail)
      go_cut [29] (fun s29 wx => s29 = .bool false ∧ Below w.heap.size w wx)
      case first =>
        by_cases h3 : 3000 < s.size
        · have m1 : decide ((3000 : Int) < (s.size : Int)) = true := decide_eq_true (by omega)
          have m2 : decide ((s.size : Int) ≤ 65536) = false := decide_eq_false (by omega)
          go_wp2_with fail
          refine (HF.out _ (Below.refl _ _)).mono ?_
          rintro e w1 ⟨rfl, c1⟩
          go_wp2_with fail
          go_meet
          exact ⟨rfl, c1⟩
        · have m1 : decide ((3000 : Int) < (s.size : Int)) = false := decide_eq_false (by omega)
          go_wp2_with fail
          refine (HF.out _ (Below.refl _ _)).mono ?_
          rintro e w1 ⟨rfl, c1⟩
          go_wp2_with fail
          go_meet
          exact ⟨rfl, c1⟩
      case rest =>
        obtain ⟨rfl, c1⟩ := hcut
        obtain ⟨w1, rfl⟩ : ∃ W, W = wc := ⟨_, rfl⟩
        have B1 := Lib.hid c1
        clear c1 hmid HF
        go_wp2_with fail
        refine (H1.out _ B1.out).mono ?_
        rintro e w2 ⟨o, x, rfl, p1, c2⟩
        have P1 := Lib.hid p1
        have B2 := Lib.hid (B1.out.trans (c2.mono B1.out.size))
        obtain ⟨ok, ot, oj, od, oa, orr, oy, on⟩ := o
        unfold Lx.EvV.val
        dsimp only
        have b3 := (Below.refl w2.heap.size w2).alloc (Nat.le_refl _) (.cells #[.int .i64 ok, .int .i64 ot, .int .i64 oj, .int .i64 od, .int .i64 oa, .int .i64 orr, .int .i64 oy, .int .i64 on] 26)
        have BO3 := Lib.hid (Lx.EvBox.new w2 ok ot oj od oa orr oy on 26)
        have B3 := Lib.hid (B2.out.trans (b3.mono B2.out.size))
        clear p1 c2 b3 B1
        go_wp2_with fail
        refine (H2.out _ B3.out).mono ?_
        rintro e w4 ⟨p, y, rfl, p2, c4⟩
        obtain ⟨rfl, rfl⟩ := Lx.parseEv_one P1.out p2
        unfold Lx.EvV.val
        dsimp only
        have b5 := (Below.refl w4.heap.size w4).alloc (Nat.le_refl _) (.cells #[.int .i64 ok, .int .i64 ot, .int .i64 oj, .int .i64 od, .int .i64 oa, .int .i64 orr, .int .i64 oy, .int .i64 on] 26)
        have BO5 := Lib.hid (Lx.EvBox.new w4 ok ot oj od oa orr oy on 26)
        have BP5 := Lib.hid ((BO3.out.below c4).below b5)
        have B5 := Lib.hid ((B3.out.trans (c4.mono B3.out.size)).trans (b5.mono (B3.out.trans (c4.mono B3.out.size)).size))
        have heq := fun W => (eqEv ⟨ok, ot, oj, od, oa, orr, oy, on⟩ ⟨ok, ot, oj, od, oa, orr, oy, on⟩ W).trans (by rw [Lx.evEq_self])
        unfold Lx.EvV.val at heq
        dsimp only at heq
        clear p2 c4 b5 B3 BO3 P1 H1 H2
        obtain ⟨q0, q1, q2, q3, q4, q5, q6, q7⟩ := BP5.out.eight
        obtain ⟨r0, r1, r2, r3, r4, r5, r6, r7⟩ := BO5.out.eight
        go_wp2_with fail
        refine (H3.out _ B5.out).mono ?_
        rintro e w6 ⟨v, L, n, z, rfl, pa, own, c6⟩
        have PA := Lib.hid pa
        obtain ⟨A, c, rfl⟩ := Lx.ownSlice own
        have L6 := Lib.hid (Lx.row_isEvs own rfl)
        have B6 := Lib.hid (B5.out.trans (c6.mono B5.out.size))
        clear pa own c6 B5 BO5 BP5 q0 q1 q2 q3 q4 q5 q6 q7 r0 r1 r2 r3 r4 r5 r6 r7 heq H3
        go_wp2_with fail
        refine (H4.out _ B6.out).mono ?_
        rintro e w7 ⟨v, M, n', z', rfl, pb, own, c7⟩
        obtain ⟨rfl, rfl, rfl⟩ := Lx.parseAllEv_one PA.out pb
        obtain ⟨A', c', rfl⟩ := Lx.ownSlice own
        have hlen : L.length ≤ 1000000000 := by
          rcases PA.out with ⟨_, h, _⟩ | ⟨_, _, h, _⟩ | ⟨_, hs6, h⟩
          · rw [h]; exact Nat.zero_le _
          · rw [h]; exact Nat.zero_le _
          · rcases h with ⟨_, _, h⟩ | ⟨_, h, _⟩
            · have h1 := Lx.linesEv_len h
              have h2 := Lx.refTo_le s s.size (Nat.le_refl _)
              rw [h1, Lx.txL_ref]
              rw [List.length_map]
              by_cases hl : Lx.fromAt s isLF s.size < s.size
              · rw [Lx.refTo_last s hl, List.length_append]; simp; omega
              · rw [Lx.refTo_none s hl]; omega
            · rw [h]; exact Nat.zero_le _
        have HS := Lib.hid (H5.out A L.length c L A' c' w7 (L6.out.below c7) (Lx.row_isEvs own rfl) hlen)
        have B7 := Lib.hid (B6.out.trans (c7.mono B6.out.size))
        clear pb own c7 B6 L6 H4 H5 PA
        generalize L.length = nl at *
        go_wp2_with fail
        refine HS.out.mono ?_
        rintro e w8 ⟨i, b, rfl, hd, c8⟩
        obtain ⟨rfl, rfl⟩ := Lx.difIs_one hd (Lx.difIs_self L)
        have B8 := Lib.hid (B7.out.trans (c8.mono B7.out.size))
        clear hd c8 B7 HS
        go_wp2_with fail
        refine (HW.out _ B8.out).mono ?_
        rintro e w9 ⟨rfl, c9⟩
        go_wp2_with fail
        go_ret
        exact ⟨rfl, B8.out.trans (c9.mono B8.out.size)⟩

set_option maxRecDepth 100000 in
/-- What the walk gives, for every argument that can be read. -/
theorem contract (H : Type) (enc : TypeId × Value → H) (W : World) (base : Nat) (args : Array Value) (ds gs : List (DataW H)) (before : List MemPlace)
    (hval : ∀ (j : Nat) t v, Tryz.f3.params[j]? = some t → args[j]? = some v → Value.okWide Tryz.prog W .any base t v)
    (hW : DataW.Whole enc Tryz.prog Tryz.f3.params.toList Rows.eventReadsSpec.vars false W args.toList ds gs before) (hsz : (DataW.weightsEach Tryz.prog (Tryz.f3.params.toList ++ (OpenSpec.ofChange Rows.eventReadsSpec).bare.plain.varTypes Tryz.prog) (ds ++ gs)).all (· ≤ reachBytes) = true) (hL : laidMetH Tryz.prog Rows.eventReadsRow.laid W) (hsh : W.ShapedOpen Tryz.prog) :
    Calls Tryz.prog 3 args W fun e W' => ∃ v, e = .returned v ∧ Rows.eventReadsSpec.post enc Tryz.prog Tryz.f3 false true false false W args v W' := by
  have hW' := hW
  obtain ⟨p, q, hA0, hV, rfl, hfz, hnd⟩ := hW
  have hA : DataW.TrodAll enc Tryz.prog W 0 (fun _ => true) true Tryz.f3.params.toList args.toList ds p := hA0
  rw [Tryz.params3] at hA hval
  obtain ⟨v0, vs0, d0, ds0, p0, q0, hargs, rfl, rfl, h0, r0⟩ := trodAll_cons hA
  obtain ⟨v1, vs1, d1, ds1, p1, q1, rfl, rfl, rfl, h1, r1⟩ := trodAll_cons r0
  obtain ⟨rfl, rfl, rfl⟩ := trodAll_nil r1
  obtain rfl : args = #[v0, v1] := by cases args; simp_all
  obtain ⟨rfl, rfl⟩ := trodVars_none hV
  obtain ⟨s0, rfl, rfl, rfl, w0⟩ := Go.ChangeMaps.open_string Tryz.underlying9 (hval 0 9 v0 rfl rfl) h0
  obtain ⟨a1, len1, cap1, rfl⟩ := okWide_slice Tryz.underlying22 (hval 1 22 v1 rfl rfl)
  have k1 := h1
  have lt1 : ∀ x ∈ p1, x.block < W.heap.size := by obtain ⟨m, hm⟩ := k1; exact DataW.trod_lt m _ _ _ hm
  have z1 : ∃ ss, IsStrs W a1 len1 cap1 ss := by
    obtain ⟨fuel, hf⟩ := h1
    refine isStrs_of hf (fun x hx => ?_)
    have := List.all_eq_true.1 hsz x (DataW.weights_mem_each (j := 1) (t := 22) rfl rfl x hx)
    simpa using this
  clear hA0
  refine (walk W s0 w0 a1 len1 cap1 z1 (env_of hL hsh)).mono fun e W' ⟨he, bel⟩ => ?_
  subst he
  exact ⟨_, rfl, _, _, _, [], _, [], hW', trodAll_mk1 (shut_bool Tryz.underlying4 _), (trodAll_cons_mk (Go.ChangeMaps.shut_string Tryz.underlying9 w0) (trodAll_cons_mk (Below.trod laidOut (by kernel_rfl) (of_decide_eq_true (by kernel_rfl)) k1 bel lt1) trodAll_mk0)), rfl, bel.frame _, fun h => by cases h⟩

set_option maxRecDepth 100000 in
theorem reads (os : Os) {H : Type} (enc : TypeId × Value → H) : ∃ places, DataW.whole enc Tryz.prog ((World.laidAll Tryz.prog os Rows.eventReadsRow.laid).forCall (fun _ _ => 0) ⟨#[], #[.string ⟨#[]⟩, .slice none 0 0], []⟩).memory Tryz.f3.params.toList Rows.eventReadsSpec.vars false (#[.string ⟨#[]⟩, .slice none 0 0] : Array Value).toList 8 = some ([.lit (.string []), .nil], [], places) :=
  ⟨[], by kernel_rfl⟩

set_option maxRecDepth 100000 in
theorem lifted (os : Os) (started : os.Started) (H : Type) (enc : TypeId × Value → H) (F : Stop.Interp) :
    ReturnsInHanded {} Tryz.checked os 3 .any ((OpenSpec.ofChange Rows.eventReadsSpec).preRow enc Tryz.prog Tryz.f3 Rows.eventReadsRow.domain false Rows.eventReadsRow.laid) (((OpenSpec.ofChange Rows.eventReadsSpec).at F).post enc Tryz.prog Tryz.f3 false true false false) := by
  obtain ⟨places, hx⟩ := reads os enc
  refine returnsInHanded_of_row (C := Tryz.checked) (s := OpenSpec.ofChange Rows.eventReadsSpec) own started (by kernel_rfl) Tryz.func3
    (witness_row_atRef (enc := enc) (C := Tryz.checked) false (World.laidAll Tryz.prog os Rows.eventReadsRow.laid) #[.string ⟨#[]⟩, .slice none 0 0] (World.laidAll_os _ _ _) (door_vars os _) (door_rest os _) (by kernel_rfl)
      (OpenSpec.preRow_of_cond 8 hx (by kernel_rfl) (fun k hk => by cases hk) (by kernel_rfl) (door_laid os _))) ?_
  intro W base args ds gs before hval hW _ _ hsz hL hsh _
  exact contract H enc W base args ds gs before hval hW hsz hL hsh

theorem said : Rows.EventReadsSaid :=
  OpenClaim.holds_of_cond 3 Tryz.f3 rfl rfl rfl rfl rfl rfl rfl ⟨rfl, rfl, rfl, rfl, rfl⟩ rfl rfl rfl rfl rfl (by kernel_rfl) Tryz.func3 (by kernel_rfl)
    (of_decide_eq_true (by kernel_rfl)) (by unfold Func.isWrapper; first | (rw [if_pos (by decide +kernel)]; kernel_rfl) | (rw [if_neg (by decide +kernel)]; exact ⟨rfl, rfl⟩))
    (fun os started H enc _ F => by rw [OpenClaim.pre_eq_preRow]; exact lifted os started H enc F)

theorem plain (f : FuncId) (fn : Func) (hf : Tryz.pinned.checked.prog.funcNamed "wakeman/wakemanlaw36.EventReads" = some f) (hfn : Tryz.pinned.checked.prog.funcs[f]? = some fn) :
    Rows.eventReadsCard.stood.looks = Tryz.pinned.checked.prog.looks [] ∧ ∀ (j : Nat) t, fn.params[j]? = some t → Tryz.pinned.checked.prog.wantsStandIn t = false := by
  obtain rfl : f = 3 := Option.some.inj ((show Tryz.prog.funcNamed "wakeman/wakemanlaw36.EventReads" = some 3 by kernel_rfl).symm.trans hf) |>.symm
  obtain rfl : fn = Tryz.f3 := (Option.some.inj (Tryz.func3.symm.trans hfn)).symm
  refine ⟨by kernel_rfl, fun j t ht => ?_⟩
  rw [Tryz.params3] at ht
  have hm : t ∈ [9, 22] := by
    have := Array.mem_of_getElem? ht
    simpa using this
  have hall : ([9, 22].all fun u => !Tryz.prog.wantsStandIn u) = true := by kernel_rfl
  exact (show Tryz.prog.wantsStandIn t = false by simpa using List.all_eq_true.1 hall t hm)

/-- The card. -/
theorem card : Rows.EventReadsCardSaid :=
  Claim7.holds_tied_plain_at .later [] _ _ _ _ said (fun _ h => by cases h) (by kernel_rfl) (fun _ h => by cases h) eventReads_row_tie rfl ⟨rfl, rfl⟩ (by kernel_rfl) rfl plain (by kernel_rfl)
end Go.Proofs.YtmpcekpdnikghaaGreatDoor.lawEventReads
