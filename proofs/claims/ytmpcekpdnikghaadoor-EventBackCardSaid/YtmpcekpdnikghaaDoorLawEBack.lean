/- EventBack: for every event, every text and every list of names the law returns true; what the call was given reads as before. Conditions: the eight listed variables lie as the program lays them. -/
import Derived.Test.YtmpcekpdnikghaaDoorEvFrame
import Derived.Test.YtmpcekpdnikghaaDoorEvFr
import Derived.Test.YtmpcekpdnikghaaDoorEvO
import Derived.Test.YtmpcekpdnikghaaDoorEvI
import Derived.Deep.DeepCutAuto
import Derived.SevenTiedAt
namespace Go.Proofs.YtmpcekpdnikghaaDoor.lawEventBack
open Go.ChangeShapes Go.WideShapes Go.ChangeAt Go.RowKit
set_option maxRecDepth 100000 in
set_option maxHeartbeats 1600000 in
theorem walk (w : World) (o : Lx.EvV) (_hi : o.In) (s : ByteArray) (_hs : s.size ≤ maxLen) (ad : Option Addr) (len cap : Nat) (hz : ∃ ss, IsStrs w ad len cap ss) (env : EEnv w) :
    Calls Tryd.prog 4 #[o.val, .string s, .slice ad len cap] w fun e w' => e = .returned (.bool true) ∧ Below w.heap.size w w' := by
  obtain ⟨NS, hss⟩ := hz
  obtain ⟨hN, hsz, hlm, -⟩ := isNames_of hss
  have HW := Lib.hid (fun W (b : Below w.heap.size w W) => evworks_any W (env.below b))
  have H1 := Lib.hid (fun W (b : Below w.heap.size w W) => evprint_any o ad len cap NS W (env.below b) (hN.below b) hsz hlm)
  have HP := Lib.hid (fun (p : Lx.EvV) W (b : Below w.heap.size w W) => evprint_any p ad len cap NS W (env.below b) (hN.below b) hsz hlm)
  have HR := Lib.hid (fun W (b : Below w.heap.size w W) => evparse_any s ad len cap NS W (env.below b) (hN.below b) hsz hlm)
  have HRA := Lib.hid (fun (t : ByteArray) (p : Lx.EvV) W (b : Below w.heap.size w W) (hp : Lx.ParseEv NS t p 0) => evparse_at t p 0 ad len cap NS W (env.below b) (hN.below b) hsz hlm hp)
  have HCK := Lib.hid (fun (p : Lx.EvV) W => evcheck_any p W)
  unfold WriteIs at H1 HP
  unfold ParseIs at HR
  unfold EvCheckIs at HCK
  have hx0 : Lx.prE NS o = 0 → Lx.evErr o = 0 ∧ Lx.ParseEv NS ⟨(Lx.prS NS o).toArray⟩ o 0 := fun h => by
    obtain ⟨hk, g, _, _⟩ := Lx.pr_ok h
    refine ⟨(Lx.evErr_good o).2 g, .inr (.inr ⟨(Lx.nmErr_ok NS).2 hk, ?_, .inl ⟨rfl, Lx.pr_eps h⟩⟩)⟩
    have := Lx.pr_rd h
    rw [Lib.size_eq]
    show (Lx.prS NS o).length ≤ 65536
    omega
  have HX0 := Lib.hid hx0
  have HX1 := Lib.hid (show Lx.prE NS o ≠ 0 → Lx.prS NS o = [] from fun h => Lx.pr_bad h)
  generalize Lx.prE NS o = x1 at *
  generalize Lx.prS NS o = l1 at *
  have HE1 := Lib.hid (HCK.out o)
  have HQ1 := Lib.hid (fun W => (eqEv o o W).trans (by rw [Lx.evEq_self]))
  generalize Lx.evErr o = y1 at *
  obtain ⟨ok, ot, oj, od, oa, orr, oy, on⟩ := o
  unfold Lx.EvV.val at H1 HE1 HQ1
  unfold Lx.EvV.val
  dsimp only at H1 HE1 HQ1 ⊢
  have b0 : Below w.heap.size w (w.alloc (.cells #[.int .i64 ok, .int .i64 ot, .int .i64 oj, .int .i64 od, .int .i64 oa, .int .i64 orr, .int .i64 oy, .int .i64 on] 23)) := (Below.refl _ w).alloc (Nat.le_refl _) _
  have BO0 := Lib.hid (Lx.EvBox.new w ok ot oj od oa orr oy on 23)
  have B0 := Lib.hid b0
  clear b0 hss hN hsz hx0
  by_cases hbig : 64 < len
  · have hbi : (64 : Int) < (len : Int) := by omega
    go_enter Tryd.func4, Tryd.ntmps4
    go_wp2_with fail
    refine (HW.out _ B0.out).mono ?_
    rintro e w1 ⟨rfl, c1⟩
    go_wp2_with fail
    go_ret
    exact ⟨rfl, B0.out.trans (c1.mono B0.out.size)⟩
  have hbi : (len : Int) ≤ 64 := by omega
  have hbd : decide ((64 : Int) < (len : Int)) = false := decide_eq_false (by omega)
  by_cases hbs : 200 < s.size
  · have hbj : (200 : Int) < (s.size : Int) := by omega
    go_enter Tryd.func4, Tryd.ntmps4
    go_wp2_with fail
    refine (HW.out _ B0.out).mono ?_
    rintro e w1 ⟨rfl, c1⟩
    go_wp2_with fail
    go_ret
    exact ⟨rfl, B0.out.trans (c1.mono B0.out.size)⟩
  have hbj : (s.size : Int) ≤ 200 := by omega
  have hbe : decide ((200 : Int) < (s.size : Int)) = false := decide_eq_false (by omega)
  clear hbig hbs
  go_enter Tryd.func4, Tryd.ntmps4
  obtain ⟨q0, q1, q2, q3, q4, q5, q6, q7⟩ := BO0.out.eight
  go_wp2_with fail
  refine (H1.out _ B0.out).mono ?_
  rintro e w1 ⟨rfl, c1⟩
  have BO1 := Lib.hid (BO0.out.below c1)
  have B1 := Lib.hid (B0.out.trans (c1.mono B0.out.size))
  clear q0 q1 q2 q3 q4 q5 q6 q7 c1 BO0 B0
  go_upto_if 31 with (fail)
  go_cut [] (fun wx => Below w.heap.size w wx)
  case first =>
    by_cases hx : x1 = 0
    · obtain ⟨hy, hp⟩ := HX0.out hx
      subst hx
      have HPA := Lib.hid (HRA.out _ _ w1 B1.out hp)
      have HY := Lib.hid hy
      unfold Lx.EvV.val at HPA
      dsimp only at HPA
      clear hy hp
      go_wp2_with fail
      refine HPA.out.mono ?_
      rintro e w2 ⟨rfl, c2⟩
      have ba := (Below.refl w2.heap.size w2).alloc (Nat.le_refl _) (.cells #[.int .i64 ok, .int .i64 ot, .int .i64 oj, .int .i64 od, .int .i64 oa, .int .i64 orr, .int .i64 oy, .int .i64 on] 23)
      obtain ⟨q0, q1, q2, q3, q4, q5, q6, q7⟩ := ((BO1.out.below c2).below ba).eight
      have B2 := Lib.hid ((B1.out.trans (c2.mono B1.out.size)).trans (ba.mono (B1.out.trans (c2.mono B1.out.size)).size))
      have heq := HQ1.out
      clear c2 ba
      go_wp2_with fail
      refine (HE1.out _).mono ?_
      rintro e w3 ⟨rfl, c3⟩
      have hy := HY.out
      subst hy
      go_wp2_with fail
      go_meet
      exact B2.out.trans (c3.mono B2.out.size)
    · have he : (x1 == 0) = false := by rw [beq_eq_false_iff_ne]; exact hx
      have hl := HX1.out hx
      subst hl
      clear hx
      go_wp2_with fail
      go_meet
      exact B1.out
  case rest =>
    obtain ⟨W1, rfl⟩ : ∃ W, W = wc := ⟨_, rfl⟩
    have C1 := Lib.hid hcut
    clear hcut BO1 B1 H1 HX0 HX1 HE1 HQ1
    go_wp2_with fail
    refine (HR.out _ C1.out).mono ?_
    rintro e w2 ⟨p, x2, rfl, hpe, c2⟩
    have C2 := Lib.hid (C1.out.trans (c2.mono C1.out.size))
    clear c2
    by_cases hx : x2 = 0
    · subst hx
      have hps : Lx.EvPs NS s.data.toList p ∧ Lx.NOk NS := by
        rcases hpe with ⟨a, _, c⟩ | ⟨_, _, _, c⟩ | ⟨a, _, c⟩
        · exact absurd c.symm a
        · omega
        · rcases c with ⟨_, c⟩ | ⟨c, _⟩
          · exact ⟨c, (Lx.nmErr_ok NS).1 a⟩
          · omega
      have hpr := Lx.pr_of hps.2 hps.1.1 hps.1.2.1
      rw [hps.1.2.2] at hpr
      have HPP := Lib.hid (HP.out p)
      rw [hpr.1, hpr.2] at HPP
      have HE2 := Lib.hid (HCK.out p)
      rw [(Lx.evErr_good p).2 hps.1.1] at HE2
      have hst : ((⟨s.data.toList.toArray⟩ : ByteArray).toList == s.toList) = true := by
        rw [beq_iff_eq, Lib.toList_data]
      clear hpe hps hpr
      obtain ⟨pk, pt, pj, pd, pa, pr, py, pn⟩ := p
      unfold Lx.EvV.val at HPP HE2
      unfold Lx.EvV.val
      dsimp only at HPP HE2 ⊢
      have ba := (Below.refl w2.heap.size w2).alloc (Nat.le_refl _) (.cells #[.int .i64 pk, .int .i64 pt, .int .i64 pj, .int .i64 pd, .int .i64 pa, .int .i64 pr, .int .i64 py, .int .i64 pn] 23)
      have BP2 := Lib.hid (Lx.EvBox.new w2 pk pt pj pd pa pr py pn 23)
      have C3 := Lib.hid (C2.out.trans (ba.mono C2.out.size))
      clear ba
      go_wp2_with fail
      refine (HPP.out _ C3.out).mono ?_
      rintro e w3 ⟨rfl, c3⟩
      obtain ⟨q0, q1, q2, q3, q4, q5, q6, q7⟩ := (BP2.out.below c3).eight
      have C4 := Lib.hid (C3.out.trans (c3.mono C3.out.size))
      clear c3
      go_wp2_with fail
      refine (HE2.out _).mono ?_
      rintro e w4 ⟨rfl, c4⟩
      have C5 := Lib.hid (C4.out.trans (c4.mono C4.out.size))
      clear c4
      go_wp2_with fail
      refine (HW.out _ C5.out).mono ?_
      rintro e w5 ⟨rfl, c5⟩
      go_wp2_with fail
      go_ret
      exact ⟨rfl, C5.out.trans (c5.mono C5.out.size)⟩
    · have he : (x2 != 0) = true := by rw [bne_iff_ne]; exact hx
      have hpz : p = Lx.evZ := by
        rcases hpe with ⟨_, b, _⟩ | ⟨_, _, c, _⟩ | ⟨_, _, c⟩
        · exact b
        · exact c
        · rcases c with ⟨c, _⟩ | ⟨_, c, _⟩
          · exact absurd c hx
          · exact c
      subst hpz
      have heq := fun W => (eqEv Lx.evZ Lx.evZ W).trans (by rw [Lx.evEq_self])
      unfold Lx.evZ Lx.EvV.val at heq
      unfold Lx.evZ Lx.EvV.val
      dsimp only at heq ⊢
      have ba := (Below.refl w2.heap.size w2).alloc (Nat.le_refl _) (.cells #[.int .i64 0, .int .i64 0, .int .i64 0, .int .i64 0, .int .i64 0, .int .i64 0, .int .i64 0, .int .i64 0] 23)
      have C3 := Lib.hid (C2.out.trans (ba.mono C2.out.size))
      clear hx ba hpe
      go_wp2_with fail
      refine (HW.out _ C3.out).mono ?_
      rintro e w3 ⟨rfl, c3⟩
      go_wp2_with fail
      go_ret
      exact ⟨rfl, C3.out.trans (c3.mono C3.out.size)⟩

set_option maxRecDepth 100000 in
/-- What the walk gives, for every argument that can be read. -/
theorem contract (H : Type) (enc : TypeId × Value → H) (W : World) (base : Nat) (args : Array Value) (ds gs : List (DataW H)) (before : List MemPlace)
    (hval : ∀ (j : Nat) t v, Tryd.f4.params[j]? = some t → args[j]? = some v → Value.okWide Tryd.prog W .any base t v)
    (hW : DataW.Whole enc Tryd.prog Tryd.f4.params.toList Rows.eventBackSpec.vars false W args.toList ds gs before) (hsz : (DataW.weightsEach Tryd.prog (Tryd.f4.params.toList ++ (OpenSpec.ofChange Rows.eventBackSpec).bare.plain.varTypes Tryd.prog) (ds ++ gs)).all (· ≤ reachBytes) = true) (hL : laidMetH Tryd.prog Rows.eventBackRow.laid W) (hsh : W.ShapedOpen Tryd.prog) :
    Calls Tryd.prog 4 args W fun e W' => ∃ v, e = .returned v ∧ Rows.eventBackSpec.post enc Tryd.prog Tryd.f4 false true false false W args v W' := by
  have hW' := hW
  obtain ⟨p, q, hA0, hV, rfl, hfz, hnd⟩ := hW
  have hA : DataW.TrodAll enc Tryd.prog W 0 (fun _ => true) true Tryd.f4.params.toList args.toList ds p := hA0
  rw [Tryd.params4] at hA hval
  obtain ⟨v0, vs0, d0, ds0, p0, q0, hargs, rfl, rfl, h0, r0⟩ := trodAll_cons hA
  obtain ⟨v1, vs1, d1, ds1, p1, q1, rfl, rfl, rfl, h1, r1⟩ := trodAll_cons r0
  obtain ⟨v2, vs2, d2, ds2, p2, q2, rfl, rfl, rfl, h2, r2⟩ := trodAll_cons r1
  obtain ⟨rfl, rfl, rfl⟩ := trodAll_nil r2
  obtain rfl : args = #[v0, v1, v2] := by cases args; simp_all
  obtain ⟨rfl, rfl⟩ := trodVars_none hV
  have k0 := h0
  have lt0 : ∀ x ∈ p0, x.block < W.heap.size := by obtain ⟨m, hm⟩ := k0; exact DataW.trod_lt m _ _ _ hm
  obtain ⟨o0, rfl, in0⟩ := isEv_of (hval 0 23 v0 rfl rfl) h0
  obtain ⟨s1, rfl, rfl, rfl, w1⟩ := Go.ChangeMaps.open_string Tryd.underlying9 (hval 1 9 v1 rfl rfl) h1
  obtain ⟨a2, len2, cap2, rfl⟩ := okWide_slice Tryd.underlying24 (hval 2 24 v2 rfl rfl)
  have k2 := h2
  have lt2 : ∀ x ∈ p2, x.block < W.heap.size := by obtain ⟨m, hm⟩ := k2; exact DataW.trod_lt m _ _ _ hm
  have z2 : ∃ ss, IsStrs W a2 len2 cap2 ss := by
    obtain ⟨fuel, hf⟩ := h2
    refine isStrs_of hf (fun x hx => ?_)
    have := List.all_eq_true.1 hsz x (DataW.weights_mem_each (j := 2) (t := 24) rfl rfl x hx)
    simpa using this
  clear hA0
  refine (walk W o0 in0 s1 w1 a2 len2 cap2 z2 (env_of hL hsh)).mono fun e W' ⟨he, bel⟩ => ?_
  subst he
  exact ⟨_, rfl, _, _, _, [], _, [], hW', trodAll_mk1 (shut_bool Tryd.underlying4 _), (trodAll_cons_mk (Below.trod laidOut (by kernel_rfl) (of_decide_eq_true (by kernel_rfl)) k0 bel lt0) (trodAll_cons_mk (Go.ChangeMaps.shut_string Tryd.underlying9 w1) (trodAll_cons_mk (Below.trod laidOut (by kernel_rfl) (of_decide_eq_true (by kernel_rfl)) k2 bel lt2) trodAll_mk0))), rfl, bel.frame _, fun h => by cases h⟩

set_option maxRecDepth 100000 in
theorem reads (os : Os) {H : Type} (enc : TypeId × Value → H) : ∃ places, DataW.whole enc Tryd.prog ((World.laidAll Tryd.prog os Rows.eventOnesRow.laid).forCall (fun _ _ => 0) ⟨#[], #[.agg #[.int .i64 0, .int .i64 0, .int .i64 0, .int .i64 0, .int .i64 0, .int .i64 0, .int .i64 0, .int .i64 0], .string ⟨#[]⟩, .slice none 0 0], []⟩).memory Tryd.f4.params.toList Rows.eventBackSpec.vars false (#[.agg #[.int .i64 0, .int .i64 0, .int .i64 0, .int .i64 0, .int .i64 0, .int .i64 0, .int .i64 0, .int .i64 0], .string ⟨#[]⟩, .slice none 0 0] : Array Value).toList 8 = some ([.agg [.lit (.int .i64 0), .lit (.int .i64 0), .lit (.int .i64 0), .lit (.int .i64 0), .lit (.int .i64 0), .lit (.int .i64 0), .lit (.int .i64 0), .lit (.int .i64 0)], .lit (.string []), .nil], [], places) :=
  ⟨[], by kernel_rfl⟩

set_option maxRecDepth 100000 in
theorem lifted (os : Os) (started : os.Started) (H : Type) (enc : TypeId × Value → H) (F : Stop.Interp) :
    ReturnsInHanded {} Tryd.checked os 4 .any ((OpenSpec.ofChange Rows.eventBackSpec).preRow enc Tryd.prog Tryd.f4 Rows.eventBackRow.domain false Rows.eventBackRow.laid) (((OpenSpec.ofChange Rows.eventBackSpec).at F).post enc Tryd.prog Tryd.f4 false true false false) := by
  obtain ⟨places, hx⟩ := reads os enc
  refine returnsInHanded_of_row (C := Tryd.checked) (s := OpenSpec.ofChange Rows.eventBackSpec) own started (by kernel_rfl) Tryd.func4
    (witness_row_atRef (enc := enc) (C := Tryd.checked) false (World.laidAll Tryd.prog os Rows.eventOnesRow.laid) #[.agg #[.int .i64 0, .int .i64 0, .int .i64 0, .int .i64 0, .int .i64 0, .int .i64 0, .int .i64 0, .int .i64 0], .string ⟨#[]⟩, .slice none 0 0] (World.laidAll_os _ _ _) (door_vars os _) (door_rest os _) (by kernel_rfl)
      (OpenSpec.preRow_of_cond 8 hx (by kernel_rfl) (fun k hk => by cases hk) (by kernel_rfl) (door_laid os _))) ?_
  intro W base args ds gs before hval hW _ _ hsz hL hsh _
  exact contract H enc W base args ds gs before hval hW hsz hL hsh

theorem said : Rows.EventBackSaid :=
  OpenClaim.holds_of_cond 4 Tryd.f4 rfl rfl rfl rfl rfl rfl rfl ⟨rfl, rfl, rfl, rfl, rfl⟩ rfl rfl rfl rfl rfl (by kernel_rfl) Tryd.func4 (by kernel_rfl)
    (of_decide_eq_true (by kernel_rfl)) (by unfold Func.isWrapper; first | (rw [if_pos (by decide +kernel)]; kernel_rfl) | (rw [if_neg (by decide +kernel)]; exact ⟨rfl, rfl⟩))
    (fun os started H enc _ F => by rw [OpenClaim.pre_eq_preRow]; exact lifted os started H enc F)

theorem plain (f : FuncId) (fn : Func) (hf : Tryd.pinned.checked.prog.funcNamed "wakeman/wakemanlaw36.EventBack" = some f) (hfn : Tryd.pinned.checked.prog.funcs[f]? = some fn) :
    Rows.eventBackCard.stood.looks = Tryd.pinned.checked.prog.looks [] ∧ ∀ (j : Nat) t, fn.params[j]? = some t → Tryd.pinned.checked.prog.wantsStandIn t = false := by
  obtain rfl : f = 4 := Option.some.inj ((show Tryd.prog.funcNamed "wakeman/wakemanlaw36.EventBack" = some 4 by kernel_rfl).symm.trans hf) |>.symm
  obtain rfl : fn = Tryd.f4 := (Option.some.inj (Tryd.func4.symm.trans hfn)).symm
  refine ⟨by kernel_rfl, fun j t ht => ?_⟩
  rw [Tryd.params4] at ht
  have hm : t ∈ [23, 9, 24] := by
    have := Array.mem_of_getElem? ht
    simpa using this
  have hall : ([23, 9, 24].all fun u => !Tryd.prog.wantsStandIn u) = true := by kernel_rfl
  exact (show Tryd.prog.wantsStandIn t = false by simpa using List.all_eq_true.1 hall t hm)

/-- The card. -/
theorem card : Rows.EventBackCardSaid :=
  Claim7.holds_tied_plain_at .later [] _ _ _ _ said (fun _ h => by cases h) (by kernel_rfl) (fun _ h => by cases h) eventBack_row_tie rfl ⟨rfl, rfl⟩ (by kernel_rfl) rfl plain (by kernel_rfl)
end Go.Proofs.YtmpcekpdnikghaaDoor.lawEventBack
