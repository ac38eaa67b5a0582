/- OpNormal: for every list of operations the law returns true; what the call was given reads as before. Conditions: the five listed variables lie as the program lays them. -/
import Derived.Test.YtnnkamfpcodnnaaDoorOpFrame
import Derived.Test.YtnnkamfpcodnnaaDoorOpFr
import Derived.Test.YtnnkamfpcodnnaaDoorOpWk
import Derived.Test.YtnnkamfpcodnnaaDoorOpT
import Derived.SevenTiedAt
namespace Go.Proofs.YtnnkamfpcodnnaaDoor.lawOpNormal
open Go.ChangeShapes Go.WideShapes Go.ChangeAt Go.RowKit
set_option maxRecDepth 100000 in
set_option maxHeartbeats 3200000 in
theorem walk (w : World) (ad : Option Addr) (n cap : Nat) (L : List Lx.OpV) (z : OpsIn w ad n L) (env : Env w) :
    Calls Tryd.prog 6 #[.slice ad n cap] w fun e w' => e = .returned (.bool true) ∧ Below w.heap.size w w' := by
  obtain ⟨io, hn, hin⟩ := z
  have HV1 := Lib.hid (valid_any ad n cap L w io (fun o ho => (hin o ho).2) hn)
  clear io hn hin
  go_enter Tryd.func6, Tryd.ntmps6
  go_wp2_with fail
  refine HV1.out.mono ?_
  rintro e w1 ⟨v1, rfl, r1, b1⟩
  obtain ⟨A1, c1, rfl, j1⟩ := Lx.row_isOps' r1
  have I11 := Lib.hid (j1 rfl)
  have B1 := Lib.hid b1
  have hq1 := Lx.validL_len L
  have ok1 := Lx.validL_ok L
  clear b1 r1 j1 HV1
  generalize Lx.validL L = X at *
  generalize hx1 : X.length = q1 at *
  have nf := Lx.normal_facts ok1
  have ntw := Lx.normal_twice ok1
  have f1 := Lx.len_ok ok1 (by omega)
  have hq2 : (Lx.normal X).length ≤ q1 := by rw [← hx1]; exact nf.2.2.2.2
  have f2 := Lx.len_ok nf.1 (by omega)
  obtain ⟨Y, hY⟩ : ∃ Y, Lx.normal X = Y := ⟨_, rfl⟩
  rw [hY] at nf ntw hq2 f2
  have hnv1 : Lx.normL X = Y := by unfold Lx.normL; rw [if_pos f1.1, hY]
  have hnv2 : Lx.normL Y = Y := by unfold Lx.normL; rw [if_pos f2.1, ntw]
  generalize hx2 : Y.length = q2 at *
  have hj1 := fun o (ho : o ∈ X) => Lx.jobLen (ok1 o ho)
  have hj2 := fun o (ho : o ∈ Y) => Lx.jobLen (nf.1 o ho)
  have HN1 := Lib.hid (fun W (h : Lx.IsOps W A1 q1 X) => normal_any A1 q1 c1 X W h hj1 (by omega))
  have HN2 := Lib.hid (fun A c W (h : Lx.IsOps W A q2 Y) => normal_any A q2 c Y W h hj2 (by omega))
  have HL1 := Lib.hid (fun W (h : Lx.IsOps W A1 q1 X) => length_any A1 q1 c1 X W h hj1 (by omega))
  have HL2 := Lib.hid (fun A c W (h : Lx.IsOps W A q2 Y) => length_any A q2 c Y W h hj2 (by omega))
  have HS := Lib.hid (fun A c A' c' W (h : Lx.IsOps W A q2 Y) (h' : Lx.IsOps W A' q2 Y) => same_any A q2 c Y A' q2 c' Y W h h' (by omega) (by omega))
  unfold LenIs at HL1 HL2
  unfold NormPost at HN1 HN2
  unfold SameIs at HS
  rw [Lx.sameB_yes rfl] at HS
  rw [hnv1, f1.1, hx2] at HN1
  rw [hnv2, f2.1, hx2] at HN2
  rw [f1.1, f1.2.1] at HL1
  rw [f2.1, f2.2.1, nf.2.2.1] at HL2
  have HX1 := Lib.hid hx1
  have HX2 := Lib.hid hx2
  have SEP := Lib.hid nf.2.1
  have NT := Lib.hid nf.2.2.2.1
  generalize Lx.sumD X = D1 at *
  clear f1 f2 hnv1 hnv2 ntw hY hj1 hj2 hx1 hx2 ok1 nf
  go_wp2_with fail
  refine (HN1.out _ I11.out).mono ?_
  rintro e w2 ⟨v2, rfl, r2, b2⟩
  obtain ⟨A2, c2, rfl, j2⟩ := Lx.row_isOps' r2
  have J22 := Lib.hid (j2 HX2.out)
  have I12 := Lib.hid (I11.out.below b2)
  have B2 := Lib.hid (B1.out.trans (b2.mono B1.out.size))
  clear r2 b2 j2 I11 B1
  go_wp2_with fail
  refine (HL1.out _ I12.out).mono ?_
  rintro e w3 ⟨rfl, c3⟩
  have I13 := Lib.hid (I12.out.below c3)
  have J23 := Lib.hid (J22.out.below c3)
  have B3 := Lib.hid (B2.out.trans (c3.mono B2.out.size))
  clear c3 I12 J22 B2
  go_wp2_with fail
  refine (HL2.out _ _ _ J23.out).mono ?_
  rintro e w4 ⟨rfl, c4⟩
  have I14 := Lib.hid (I13.out.below c4)
  have J24 := Lib.hid (J23.out.below c4)
  have B4 := Lib.hid (B3.out.trans (c4.mono B3.out.size))
  clear c4 I13 J23 B3
  go_wp2_with fail
  refine (HN2.out _ _ _ J24.out).mono ?_
  rintro e w5 ⟨v5, rfl, r5, b5⟩
  obtain ⟨A5, c5, rfl, j5⟩ := Lx.row_isOps' r5
  have K55 := Lib.hid (j5 HX2.out)
  have I15 := Lib.hid (I14.out.below b5)
  have J25 := Lib.hid (J24.out.below b5)
  have B5 := Lib.hid (B4.out.trans (b5.mono B4.out.size))
  clear r5 b5 j5 I14 J24 B4 HN1 HN2 HL1 HL2
  go_wp2_with fail
  refine (HS.out _ _ _ _ _ K55.out J25.out).mono ?_
  rintro e w6 ⟨rfl, c6⟩
  have I16 := Lib.hid (I15.out.below c6)
  have J26 := Lib.hid (J25.out.below c6)
  have B6 := Lib.hid (B5.out.trans (c6.mono B5.out.size))
  clear c6 I15 J25 B5
  have hqi : (q2 : Int) ≤ (q1 : Int) := by omega
  have hgt : decide (q1 < q2) = false := decide_eq_false (by omega)
  go_wp2_with fail
  clear hgt hqi
  go_loopw [12, 13] (fun kk ii wr => ∃ i k nq : Nat, i ≤ q1 ∧ k ≤ q2 ∧ ii = .int .i64 i ∧ kk = .int .i64 k ∧ Lx.nonT (X.drop i) = Lx.nonT (Y.drop k) ∧ wr = w6.drewN nq) (fun _ i _ => q1 - (intOf i).toNat)
  case atStart => exact ⟨0, 0, 0, Nat.zero_le _, Nat.zero_le _, rfl, rfl, NT.out.symm, rfl⟩
  case round =>
    obtain ⟨i, k, nq, hi1, hk1, rfl, rfl, hnt, rfl⟩ := hrel
    have HNT := Lib.hid hnt
    clear hnt
    by_cases hlt : i < q1
    · obtain ⟨o, ho⟩ : ∃ o, X[i]? = some o := ⟨_, List.getElem?_eq_getElem (by rw [HX1.out]; exact hlt)⟩
      obtain ⟨g, off, rfl, lt, hc⟩ := I16.out.2 (by omega)
      have hdt := Lx.nonT_drop_tick ho
      have hdo := Lx.nonT_drop_other ho
      obtain ⟨ok, od, ot, or, oo, oj⟩ := o
      have c0 : w6.cell? ⟨g, off + i * 6, none⟩ = some (.int .i64 ok) := hc i _ ho 0 _ rfl
      have c1 := hc i _ ho 1 _ rfl
      have c2 := hc i _ ho 2 _ rfl
      have c3 := hc i _ ho 3 _ rfl
      have c4 := hc i _ ho 4 _ rfl
      have c5 := hc i _ ho 5 _ rfl
      have hii : (i : Int) < (q1 : Int) := by omega
      have hi0 : (0 : Int) ≤ (i : Int) := by omega
      have hqb : (q1 : Int) ≤ 60 := by omega
      have hq2b : (q2 : Int) ≤ 60 := by omega
      clear hc ho
      by_cases k1 : ok = 1
      · subst k1
        have hd := Lib.hid (hdt rfl)
        clear hdt hdo
        go_wp2_with fail
        go_roundw
        case rel => exact ⟨i + 1, k, nq, by omega, by omega, by go_num, rfl, by rw [← hd.out]; exact HNT.out, rfl⟩
        case measure => simp [intOf]; omega
      · have ke : (ok == 1) = false := by rw [beq_eq_false_iff_ne]; exact k1
        have hd := Lib.hid (hdo k1)
        have hnt := HNT.out
        rw [hd.out] at hnt
        have HNT2 := Lib.hid hnt.symm
        clear hdt hdo k1 hnt
        go_wp2_with fail
        go_loop [12] (fun kk => ∃ k' : Nat, k' ≤ q2 ∧ kk = .int .i64 k' ∧ Lx.nonT (Y.drop k') = ⟨ok, od, ot, or, oo, oj⟩ :: Lx.nonT (X.drop (i + 1))) (fun k => q2 - (intOf k).toNat)
        case atStart => exact ⟨k, hk1, rfl, HNT2.out⟩
        case round =>
          obtain ⟨k', hk', rfl, hy⟩ := hrel
          have HY := Lib.hid hy
          clear hy
          have hlt2 : k' < q2 := by
            by_cases e : k' < q2
            · exact e
            · have := HY.out
              rw [Lx.nonT_end (by rw [HX2.out]; omega)] at this
              cases this
          obtain ⟨p, hp⟩ : ∃ p, Y[k']? = some p := ⟨_, List.getElem?_eq_getElem (by rw [HX2.out]; exact hlt2)⟩
          obtain ⟨g', off', rfl, lt', hc'⟩ := J26.out.2 (by omega)
          have hdt := Lx.nonT_drop_tick hp
          have hdo := Lx.nonT_drop_other hp
          obtain ⟨pk, pd, pt, pr, po, pj⟩ := p
          have d0 : w6.cell? ⟨g', off' + k' * 6, none⟩ = some (.int .i64 pk) := hc' k' _ hp 0 _ rfl
          have d1 := hc' k' _ hp 1 _ rfl
          have d2 := hc' k' _ hp 2 _ rfl
          have d3 := hc' k' _ hp 3 _ rfl
          have d4 := hc' k' _ hp 4 _ rfl
          have d5 := hc' k' _ hp 5 _ rfl
          have hki : (k' : Int) < (q2 : Int) := by omega
          have hk0 : (0 : Int) ≤ (k' : Int) := by omega
          clear hc' hp
          by_cases p1 : pk = 1
          · subst p1
            have hd2 := Lib.hid (hdt rfl)
            clear hdt hdo
            go_wp2_with fail
            go_round
            case rel => exact ⟨k' + 1, by omega, by go_num, by rw [← hd2.out]; exact HY.out⟩
            case measure => simp [intOf]; omega
          · have pe : (pk == 1) = false := by rw [beq_eq_false_iff_ne]; exact p1
            have hh := HY.out
            rw [hdo p1] at hh
            injection hh with h1 h2
            injection h1 with z1 z2 z3 z4 z5 z6
            subst z1 z2 z3 z4 z5 z6
            have HE := Lib.hid h2
            have heq : ∀ W, (Op.equalIn 10000 23 (.agg #[.int .i64 pk, .int .i64 pd, .int .i64 pt, .int .i64 pr, .bool po, .string pj]) (.agg #[.int .i64 pk, .int .i64 pd, .int .i64 pt, .int .i64 pr, .bool po, .string pj])).run Tryd.prog W = .ok true W := fun W => (eqOp _ _ _ _ _ _ _ _ _ _ _ _ W).trans (by simp)
            clear hdt hdo p1 h2 HY
            go_wp2_with fail
            go_quiet (fail)
            go_wp2_with fail
            go_roundw
            case rel =>
              exact ⟨i + 1, k' + 1, _, by omega, by omega, by go_num, by go_num, HE.out.symm, rfl⟩
            case measure => simp [intOf]; omega
    · obtain rfl : i = q1 := by omega
      have hnt := HNT.out
      rw [Lx.nonT_end (by rw [HX1.out]; exact Nat.le_refl _)] at hnt
      have HN := Lib.hid hnt.symm
      clear hnt
      clear K55 HS
      go_wp2_with fail
      obtain ⟨W0, hW0⟩ : ∃ W : World, W = w6.drewN nq := ⟨_, rfl⟩
      go_loop [12] (fun kk => ∃ k' : Nat, k' ≤ q2 ∧ kk = .int .i64 k' ∧ k ≤ k') (fun k => q2 - (intOf k).toNat)
      case atStart => exact ⟨k, hk1, rfl, Nat.le_refl _⟩
      case round =>
        obtain ⟨k', hk', rfl, hkk⟩ := hrel
        by_cases hlt2 : k' < q2
        · obtain ⟨p, hp⟩ : ∃ p, Y[k']? = some p := ⟨_, List.getElem?_eq_getElem (by rw [HX2.out]; exact hlt2)⟩
          obtain ⟨g', off', rfl, lt', hc'⟩ := J26.out.2 (by omega)
          have hpk := Lx.nonT_none HN.out hkk hp
          obtain ⟨pk, pd, pt, pr, po, pj⟩ := p
          have d0 : w6.cell? ⟨g', off' + k' * 6, none⟩ = some (.int .i64 pk) := hc' k' _ hp 0 _ rfl
          have hki : (k' : Int) < (q2 : Int) := by omega
          have hk0 : (0 : Int) ≤ (k' : Int) := by omega
          have hpk' : pk = 1 := hpk
          subst hpk'
          clear hc' hp hpk
          go_wp2_with fail
          go_round
          case rel => exact ⟨k' + 1, by omega, by go_num, by omega⟩
          case measure => simp [intOf]; omega
        · obtain rfl : k' = q2 := by omega
          clear hkk hlt2
          go_wp2_with fail
          go_loopw [14] (fun ii wr => ∃ j nq' : Nat, 1 ≤ j ∧ ii = .int .i64 j ∧ wr = w6.drewN nq') (fun j _ => k' - (intOf j).toNat)
          case atStart => exact ⟨1, nq, Nat.le_refl _, rfl, rfl⟩
          case round =>
            obtain ⟨j, nq', hj1, rfl, rfl⟩ := hrel
            by_cases hlt3 : j < k'
            · obtain ⟨a, ha⟩ : ∃ p, Y[j - 1]? = some p := ⟨_, List.getElem?_eq_getElem (by rw [HX2.out]; omega)⟩
              obtain ⟨b, hb⟩ : ∃ p, Y[j]? = some p := ⟨_, List.getElem?_eq_getElem (by rw [HX2.out]; exact hlt3)⟩
              obtain ⟨g', off', rfl, lt', hc'⟩ := J26.out.2 (by omega)
              obtain ⟨m, rfl⟩ : ∃ m, j = m + 1 := ⟨j - 1, by omega⟩
              rw [Nat.add_sub_cancel] at ha
              have hsep := SEP.out m a b ha hb
              obtain ⟨ak, adt, at', ar, ao, aj⟩ := a
              obtain ⟨bk, bd, bt, br, bo, bj⟩ := b
              have d0 : w6.cell? ⟨g', off' + m * 6, none⟩ = some (.int .i64 ak) := hc' m _ ha 0 _ rfl
              have d1 : w6.cell? ⟨g', off' + m * 6 + 1, none⟩ = some (.int .i64 adt) := hc' m _ ha 1 _ rfl
              have e0 : w6.cell? ⟨g', off' + (m + 1) * 6, none⟩ = some (.int .i64 bk) := hc' _ _ hb 0 _ rfl
              have hki : ((m : Int) + 1) < (k' : Int) := by omega
              have hm1 : (m : Int) + 1 - 1 = (m : Int) := by omega
              have hsep' : ak = 1 → bk = 1 → adt = 100000 := hsep
              have HSEP := Lib.hid hsep'
              clear hc' ha hb hsep hsep'
              by_cases a1 : ak = 1
              · subst a1
                by_cases b1 : bk = 1
                · subst b1
                  have hd := HSEP.out rfl rfl
                  subst hd
                  go_wp2_with fail
                  go_roundw
                  case rel => exact ⟨m + 1 + 1, nq', by omega, by go_num, rfl⟩
                  case measure => simp [intOf]; omega
                · have be : (bk == 1) = false := by rw [beq_eq_false_iff_ne]; exact b1
                  go_wp2_with fail
                  go_roundw
                  case rel => exact ⟨m + 1 + 1, nq', by omega, by go_num, rfl⟩
                  case measure => simp [intOf]; omega
              · have ae : (ak == 1) = false := by rw [beq_eq_false_iff_ne]; exact a1
                go_wp2_with fail
                go_roundw
                case rel => exact ⟨m + 1 + 1, nq', by omega, by go_num, rfl⟩
                case measure => simp [intOf]; omega
            · have hge : decide (j < k') = false := decide_eq_false hlt3
              have HW := Lib.hid (fun n => opworks_any (w6.drewN n) (env.below (B6.out.trans (below_drewN _ _ n))))
              go_wp2_with fail
              refine (HW.out _).mono ?_
              rintro e w7 ⟨rfl, b7⟩
              go_wp2_with fail
              go_ret
              exact ⟨rfl, (B6.out.trans (below_drewN _ _ _)).trans (b7.mono (B6.out.trans (below_drewN _ _ _)).size)⟩

set_option maxRecDepth 100000 in
/-- What the walk gives, for every argument that can be read. -/
theorem contract (H : Type) (enc : TypeId × Value → H) (W : World) (base : Nat) (args : Array Value) (ds gs : List (DataW H)) (before : List MemPlace)
    (hval : ∀ (j : Nat) t v, Tryd.f6.params[j]? = some t → args[j]? = some v → Value.okWide Tryd.prog W .any base t v)
    (hW : DataW.Whole enc Tryd.prog Tryd.f6.params.toList Rows.opNormalSpec.vars false W args.toList ds gs before) (hsz : (DataW.weightsEach Tryd.prog (Tryd.f6.params.toList ++ (OpenSpec.ofChange Rows.opNormalSpec).bare.plain.varTypes Tryd.prog) (ds ++ gs)).all (· ≤ reachBytes) = true) (hL : laidMetH Tryd.prog Rows.opNormalRow.laid W) (hsh : W.ShapedOpen Tryd.prog) :
    Calls Tryd.prog 6 args W fun e W' => ∃ v, e = .returned v ∧ Rows.opNormalSpec.post enc Tryd.prog Tryd.f6 false true false false W args v W' := by
  have hW' := hW
  obtain ⟨p, q, hA0, hV, rfl, hfz, hnd⟩ := hW
  have hA : DataW.TrodAll enc Tryd.prog W 0 (fun _ => true) true Tryd.f6.params.toList args.toList ds p := hA0
  rw [Tryd.params6] at hA hval
  obtain ⟨v0, vs0, d0, ds0, p0, q0, hargs, rfl, rfl, h0, r0⟩ := trodAll_cons hA
  obtain ⟨rfl, rfl, rfl⟩ := trodAll_nil r0
  obtain rfl : args = #[v0] := by cases args; simp_all
  obtain ⟨rfl, rfl⟩ := trodVars_none hV
  obtain ⟨a0, len0, cap0, rfl⟩ := okWide_slice Tryd.underlying34 (hval 0 34 v0 rfl rfl)
  have k0 := h0
  have lt0 : ∀ x ∈ p0, x.block < W.heap.size := by obtain ⟨m, hm⟩ := k0; exact DataW.trod_lt m _ _ _ hm
  obtain ⟨L0, z0⟩ : ∃ L, OpsIn W a0 len0 L := by
    obtain ⟨fuel, hf⟩ := h0
    exact opsIn_of hf
  clear hA0
  refine (walk W a0 len0 cap0 L0 z0 (env_of hL hsh)).mono fun e W' ⟨he, bel⟩ => ?_
  subst he
  exact ⟨_, rfl, _, _, _, [], _, [], hW', trodAll_mk1 (shut_bool Tryd.underlying4 _), (trodAll_cons_mk (Below.trod laidOut (by kernel_rfl) (of_decide_eq_true (by kernel_rfl)) k0 bel lt0) trodAll_mk0), rfl, bel.frame _, fun h => by cases h⟩

set_option maxRecDepth 100000 in
theorem reads (os : Os) {H : Type} (enc : TypeId × Value → H) : ∃ places, DataW.whole enc Tryd.prog ((World.doorLaid Tryd.prog 72 os).forCall (fun _ _ => 0) ⟨#[], #[.slice none 0 0], []⟩).memory Tryd.f6.params.toList Rows.opNormalSpec.vars false (#[.slice none 0 0] : Array Value).toList 8 = some ([.nil], [], places) :=
  ⟨[], by kernel_rfl⟩

set_option maxRecDepth 100000 in
theorem lifted (os : Os) (started : os.Started) (H : Type) (enc : TypeId × Value → H) (F : Stop.Interp) :
    ReturnsInHanded {} Tryd.checked os 6 .any ((OpenSpec.ofChange Rows.opNormalSpec).preRow enc Tryd.prog Tryd.f6 Rows.opNormalRow.domain false Rows.opNormalRow.laid) (((OpenSpec.ofChange Rows.opNormalSpec).at F).post enc Tryd.prog Tryd.f6 false true false false) := by
  obtain ⟨places, hx⟩ := reads os enc
  refine returnsInHanded_of_row (C := Tryd.checked) (s := OpenSpec.ofChange Rows.opNormalSpec) own started (by kernel_rfl) Tryd.func6
    (witness_row_atRef (enc := enc) (C := Tryd.checked) false (World.doorLaid Tryd.prog 72 os) #[.slice none 0 0] rfl (door_vars os _) (door_rest os _) (by kernel_rfl)
      (OpenSpec.preRow_of_cond 8 hx (by kernel_rfl) (fun k hk => by cases hk) (by kernel_rfl) (door_laid os _))) ?_
  intro W base args ds gs before hval hW _ _ hsz hL hsh _
  exact contract H enc W base args ds gs before hval hW hsz hL hsh

theorem said : Rows.OpNormalSaid :=
  OpenClaim.holds_of_cond 6 Tryd.f6 rfl rfl rfl rfl rfl rfl rfl ⟨rfl, rfl, rfl, rfl, rfl⟩ rfl rfl rfl rfl rfl (by kernel_rfl) Tryd.func6 (by kernel_rfl)
    (of_decide_eq_true (by kernel_rfl)) (by unfold Func.isWrapper; first | (rw [if_pos (by decide +kernel)]; kernel_rfl) | (rw [if_neg (by decide +kernel)]; exact ⟨rfl, rfl⟩))
    (fun os started H enc _ F => by rw [OpenClaim.pre_eq_preRow]; exact lifted os started H enc F)

theorem plain (f : FuncId) (fn : Func) (hf : Tryd.pinned.checked.prog.funcNamed "wakeman/wakemanlaw38.OpNormal" = some f) (hfn : Tryd.pinned.checked.prog.funcs[f]? = some fn) :
    Rows.opNormalCard.stood.looks = Tryd.pinned.checked.prog.looks [] ∧ ∀ (j : Nat) t, fn.params[j]? = some t → Tryd.pinned.checked.prog.wantsStandIn t = false := by
  obtain rfl : f = 6 := Option.some.inj ((show Tryd.prog.funcNamed "wakeman/wakemanlaw38.OpNormal" = some 6 by kernel_rfl).symm.trans hf) |>.symm
  obtain rfl : fn = Tryd.f6 := (Option.some.inj (Tryd.func6.symm.trans hfn)).symm
  refine ⟨by kernel_rfl, fun j t ht => ?_⟩
  rw [Tryd.params6] at ht
  have hm : t ∈ [34] := by
    have := Array.mem_of_getElem? ht
    simpa using this
  have hall : ([34].all fun u => !Tryd.prog.wantsStandIn u) = true := by kernel_rfl
  exact (show Tryd.prog.wantsStandIn t = false by simpa using List.all_eq_true.1 hall t hm)

/-- The card. -/
theorem card : Rows.OpNormalCardSaid :=
  Claim7.holds_tied_plain_at .later [] _ _ _ _ said (fun _ h => by cases h) (by kernel_rfl) (fun _ h => by cases h) opNormal_row_tie rfl ⟨rfl, rfl⟩ (by kernel_rfl) rfl plain (by kernel_rfl)
end Go.Proofs.YtnnkamfpcodnnaaDoor.lawOpNormal
