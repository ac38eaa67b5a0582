/- OpAll: for every list of operations and every text the law returns true; what the call was given reads as before. Conditions: the five listed variables lie as the program lays them. -/
import Derived.Test.YtnnkamfpcodnnaaDoorOpFrame
import Derived.Test.YtnnkamfpcodnnaaDoorOpFr
import Derived.Test.YtnnkamfpcodnnaaDoorOpWk
import Derived.Test.YtnnkamfpcodnnaaDoorOpX
import Derived.SevenTiedAt
namespace Go.Proofs.YtnnkamfpcodnnaaDoor.lawOpAll
open Go.ChangeShapes Go.WideShapes Go.ChangeAt Go.RowKit
theorem Lx.more_start (c : ByteArray) : ((⟨#[10, 35]⟩ : ByteArray) ++ c ++ ⟨#[10]⟩).data.toList = Lx.moreL c [] := by
  unfold Lx.moreL; simp [ByteArray.data_append]
theorem Lx.noLF_take {s : ByteArray} {k : Nat} {hk : k < s.size} (h : (10 : UInt8) ∉ s.data.toList.take k) (hc : ((s[k].toNat : Int) == 10) = false) : (10 : UInt8) ∉ s.data.toList.take (k + 1) := by
  have e : s.data.toList.take (k + 1) = s.data.toList.take k ++ [s[k]] := by
    rw [List.take_succ_eq_append_getElem (by rw [← Lib.size_eq]; exact hk)]; rfl
  rw [e]
  intro hm
  rcases List.mem_append.1 hm with hm | hm
  · exact h hm
  · rw [List.mem_singleton] at hm
    rw [← hm] at hc
    revert hc; decide
set_option maxRecDepth 100000 in
set_option maxHeartbeats 3200000 in
theorem walk (w : World) (ad : Option Addr) (n cap : Nat) (L : List Lx.OpV) (z : OpsIn w ad n L) (cm : ByteArray) (_hcm : cm.size ≤ maxLen) (env : Env w) :
    Calls Tryd.prog 9 #[.slice ad n cap, .string cm] w fun e w' => e = .returned (.bool true) ∧ Below w.heap.size w w' := by
  obtain ⟨io, hn, hin⟩ := z
  have HV1 := Lib.hid (valid_any ad n cap L w io (fun o ho => (hin o ho).2) hn)
  have hfine := Lx.fine_valid hin
  clear io hn hin
  go_enter Tryd.func9, Tryd.ntmps9
  go_wp2_with fail
  refine HV1.out.mono ?_
  rintro e w1 ⟨v1, rfl, r1, b1⟩
  obtain ⟨A1, c1, rfl, j1⟩ := Lx.row_isOps' r1
  have I11 := Lib.hid (j1 rfl)
  have B1 := Lib.hid b1
  have hq1 := Lx.validL_len L
  clear b1 r1 j1 HV1
  generalize Lx.validL L = X at *
  generalize hx1 : X.length = q1 at *
  obtain ⟨p1, p2, p3⟩ := Lx.fine_prn hfine (by omega)
  have HP := Lib.hid (fun W (E : Env W) (h : Lx.IsOps W A1 q1 X) => printAll_any A1 q1 c1 X W E h (fun o ho => ⟨(hfine o ho).2, Lx.jobLen (hfine o ho).1⟩) (by omega))
  unfold PrnAllIs at HP
  rw [p1, p2] at HP
  obtain ⟨S, hS⟩ : ∃ S : ByteArray, S = ⟨(Lx.scriptText X).toArray⟩ := ⟨_, rfl⟩
  have hSd : S.data.toList = Lx.scriptText X := by rw [hS]
  have hSs : S.size ≤ 1980 := by rw [Lib.size_eq, hSd]; exact p3
  rw [← hS] at HP
  have HA := Lib.hid (fun W (E : Env W) => parseAll_at S _ _ _ W E (by omega) (Lx.script_all hfine hSd))
  rw [hx1] at HA
  have HSM := Lib.hid (fun A c A' c' W (h : Lx.IsOps W A q1 X) (h' : Lx.IsOps W A' q1 X) => same_any A q1 c X A' q1 c' X W h h' (by omega) (by omega))
  unfold SameIs at HSM
  rw [Lx.sameB_yes rfl] at HSM
  have HF := Lib.hid hfine
  have HX1 := Lib.hid hx1
  have HSd := Lib.hid hSd
  clear hfine p1 p2 p3 hS hSd hx1
  go_wp2_with fail
  refine (HP.out _ (env.below B1.out) I11.out).mono ?_
  rintro e w2 ⟨rfl, c2⟩
  have I12 := Lib.hid (I11.out.below c2)
  have B2 := Lib.hid (B1.out.trans (c2.mono B1.out.size))
  clear c2 I11 B1
  by_cases hbig : 60 < cm.size
  · have hbi : (60 : Int) < (cm.size : Int) := by omega
    have hbb : decide (60 < (cm.size : Int)) = true := decide_eq_true hbi
    go_wp2_with fail
    refine (opworks_any _ (env.below B2.out)).mono ?_
    rintro e w3 ⟨rfl, c3⟩
    have B3 := Lib.hid (B2.out.trans (c3.mono B2.out.size))
    clear c3  B2
    go_wp2_with fail
    go_ret
    exact ⟨rfl, B3.out⟩
  · have hbb : decide (60 < (cm.size : Int)) = false := decide_eq_false (by omega)
    have hcs : cm.size ≤ 60 := by omega
    clear hbig
    go_wp2_with fail
    go_loop [8] (fun ii => ∃ k : Nat, k ≤ cm.size ∧ ii = .int .i64 k ∧ (10 : UInt8) ∉ cm.data.toList.take k) (fun i => cm.size - (intOf i).toNat)
    case atStart => exact ⟨0, Nat.zero_le _, rfl, by simp⟩
    case round =>
      obtain ⟨k, hk, rfl, hno⟩ := hrel
      have HNO := Lib.hid hno
      clear hno
      by_cases hlt : k < cm.size
      · by_cases h10 : ((cm[k].toNat : Int) == 10) = true
        · go_wp2_with fail
          refine (opworks_any _ (env.below B2.out)).mono ?_
          rintro e w3 ⟨rfl, c3⟩
          go_wp2_with fail
          go_ret
          exact ⟨rfl, B2.out.trans (c3.mono B2.out.size)⟩
        · have h10' : ((cm[k].toNat : Int) == 10) = false := by simpa using h10
          have hno2 := Lib.hid (Lx.noLF_take HNO.out h10')
          clear h10
          go_wp2_with fail
          go_round
          case rel => exact ⟨k + 1, by omega, by go_num, hno2.out⟩
          case measure => simp [intOf]; omega
      · obtain rfl : k = cm.size := by omega
        have hno := HNO.out
        rw [Lx.take_all cm _ (Nat.le_refl _)] at hno
        have HNC := Lib.hid hno
        clear hno HNO
        go_wp2_with fail
        refine (HA.out _ (env.below B2.out)).mono ?_
        rintro e w3 ⟨A3, cp3, rfl, l3, c3⟩
        have I13 := Lib.hid (I12.out.below c3)
        have B3 := Lib.hid (B2.out.trans (c3.mono B2.out.size))
        clear c3 I12 B2
        have K33 := Lib.hid l3
        clear l3
        go_wp2_with fail
        refine (HSM.out _ _ _ _ _ K33.out I13.out).mono ?_
        rintro e w4 ⟨rfl, c4⟩
        have I14 := Lib.hid (I13.out.below c4)
        have B4 := Lib.hid (B3.out.trans (c4.mono B3.out.size))
        clear c4 I13 B3
        have y1 : (⟨#[10, 35]⟩ : ByteArray).size = 2 := rfl
        have y2 : (⟨#[10]⟩ : ByteArray).size = 1 := rfl
        have y3 : (⟨#[10, 10]⟩ : ByteArray).size = 2 := rfl
        have g1 : ¬ (9223372036854775807 < (⟨#[10, 35]⟩ : ByteArray).size + cm.size) := by omega
        have g2 : ¬ (9223372036854775807 < (⟨#[10, 35]⟩ : ByteArray).size + cm.size + (⟨#[10]⟩ : ByteArray).size) := by omega
        clear y1 y2 y3
        go_wp2_with fail
        clear g1 g2
        go_loopw [12, 13, 14] (fun tt mm ii wr => ∃ (i : Nat) (tb mb : ByteArray), i ≤ q1 ∧ ii = .int .i64 i ∧ tt = .string tb ∧ mm = .string mb ∧ tb.data.toList = Lx.scriptText (X.take i) ∧ mb.data.toList = Lx.moreL cm (X.take i) ∧ Below w4.heap.size w4 wr) (fun _ _ ii _ => q1 - (intOf ii).toNat)
        case atStart => exact ⟨0, _, _, Nat.zero_le _, rfl, rfl, rfl, rfl, Lx.more_start cm, Below.refl _ _⟩
        case round =>
          obtain ⟨i, tb, mb, hi, rfl, rfl, rfl, htb, hmb, hbel⟩ := hrel
          have hoL : ∀ o ∈ X.take i, (Lx.opText o).length ≤ 32 := fun o ho => (Lx.opText_facts (HF.out o (List.mem_of_mem_take ho)).1 (HF.out o (List.mem_of_mem_take ho)).2.2.2.2.2).2
          have htl : (X.take i).length ≤ i := List.length_take_le _ _
          have htz := Lx.scriptText_len (L := X.take i) (fun o ho => (HF.out o (List.mem_of_mem_take ho)).1) (fun o ho => (HF.out o (List.mem_of_mem_take ho)).2.2.2.2.2)
          have hmz := Lx.moreL_len cm hcs (X.take i) hoL
          rw [← htb, ← Lib.size_eq] at htz
          rw [← hmb, ← Lib.size_eq] at hmz
          have HTB := Lib.hid htb
          have HMB := Lib.hid hmb
          have HBEL := Lib.hid hbel
          have tz : tb.size ≤ 1980 := by omega
          have mz : mb.size ≤ 6000 := by omega
          clear htb hmb hbel hoL htz hmz
          by_cases hlt2 : i < q1
          · obtain ⟨o, ho⟩ : ∃ o, X[i]? = some o := ⟨_, List.getElem?_eq_getElem (by rw [HX1.out]; exact hlt2)⟩
            obtain ⟨g, off, rfl, lt, hc⟩ := (I14.out.below HBEL.out).2 (by omega)
            have hof := HF.out o (List.mem_of_getElem? ho)
            have st1 := Lx.scriptText_take ho
            have st2 := Lx.moreL_take cm ho
            obtain ⟨V, hV⟩ : ∃ V, V = Lx.txt o := ⟨_, rfl⟩
            have hVd : Lx.opText o = V.data.toList := by rw [hV]; rfl
            have hVs : V.size ≤ 32 := by rw [Lib.size_eq, ← hVd]; exact (Lx.opText_facts hof.1 hof.2.2.2.2.2).2
            have HPR := Lib.hid (fun W (E : Env W) => print_at o V W E hof.2 hof.1 hVd)
            rw [hVd, ← HTB.out] at st1
            rw [hVd, ← HMB.out] at st2
            have ST1 := Lib.hid st1
            have ST2 := Lib.hid st2
            obtain ⟨ok, od, ot, or, oo, oj⟩ := o
            unfold Lx.OpV.val at HPR
            have c0 : wr.cell? ⟨g, off + i * 6, none⟩ = some (.int .i64 ok) := hc i _ ho 0 _ rfl
            have c1 := hc i _ ho 1 _ rfl
            have c2 := hc i _ ho 2 _ rfl
            have c3 := hc i _ ho 3 _ rfl
            have c4 := hc i _ ho 4 _ rfl
            have c5 := hc i _ ho 5 _ rfl
            have hii : (i : Int) < (q1 : Int) := by omega
            have hib : (q1 : Int) ≤ 60 := by omega
            have y1 : (⟨#[10, 35]⟩ : ByteArray).size = 2 := rfl
            have y2 : (⟨#[10]⟩ : ByteArray).size = 1 := rfl
            have y3 : (⟨#[10, 10]⟩ : ByteArray).size = 2 := rfl
            have g1 : ¬ (9223372036854775807 < tb.size + V.size) := by omega
            have g2 : ¬ (9223372036854775807 < tb.size + V.size + (⟨#[10]⟩ : ByteArray).size) := by omega
            have g3 : ¬ (9223372036854775807 < mb.size + V.size) := by omega
            have g4 : ¬ (9223372036854775807 < mb.size + V.size + (⟨#[10, 35]⟩ : ByteArray).size) := by omega
            have g5 : ¬ (9223372036854775807 < mb.size + V.size + (⟨#[10, 35]⟩ : ByteArray).size + cm.size) := by omega
            have g6 : ¬ (9223372036854775807 < mb.size + V.size + (⟨#[10, 35]⟩ : ByteArray).size + cm.size + (⟨#[10, 10]⟩ : ByteArray).size) := by omega
            clear hc ho hof st1 st2 hV hVd y1 y2 y3
            go_wp2_with fail
            refine (HPR.out _ (env.below (B4.out.trans (HBEL.out.mono B4.out.size)))).mono ?_
            rintro e w5 ⟨rfl, c6⟩
            have HB5 := Lib.hid (HBEL.out.trans (c6.mono HBEL.out.size))
            clear c6 c0 c1 c2 c3 c4 c5
            go_wp2_with fail
            go_roundw
            case rel => exact ⟨i + 1, _, _, by omega, by go_num, rfl, rfl, by rw [ST1.out]; simp [ByteArray.data_append], by rw [ST2.out]; simp [ByteArray.data_append], HB5.out⟩
            case measure => simp [intOf]; omega
          · obtain rfl : i = q1 := by omega
            have ht := HTB.out
            have hm := HMB.out
            rw [List.take_of_length_le (by rw [HX1.out]; exact Nat.le_refl _)] at ht hm
            have hts : tb = S := ByteArray.ext (Array.toList_inj.1 (ht.trans HSd.out.symm))
            have HM := Lib.hid (fun W (E : Env W) => parseAll_at mb _ _ _ W E (by omega) (Lx.more_all HF.out HNC.out hm))
            rw [HX1.out] at HM
            subst hts
            have B5 := Lib.hid (B4.out.trans (HBEL.out.mono B4.out.size))
            have I15 := Lib.hid (I14.out.below HBEL.out)
            have hsb : (tb.toList == tb.toList) = true := by simp
            clear ht hm HTB HMB
            go_wp2_with fail
            refine (HM.out _ (env.below B5.out)).mono ?_
            rintro e w6 ⟨A6, cp6, rfl, l6, c6⟩
            have I16 := Lib.hid (I15.out.below c6)
            have B6 := Lib.hid (B5.out.trans (c6.mono B5.out.size))
            clear c6 I15 B5
            have K66 := Lib.hid l6
            clear l6
            go_wp2_with fail
            refine (HSM.out _ _ _ _ _ K66.out I16.out).mono ?_
            rintro e w7 ⟨rfl, c7⟩
            have B7 := Lib.hid (B6.out.trans (c7.mono B6.out.size))
            clear c7  B6
            go_wp2_with fail
            refine (opworks_any _ (env.below B7.out)).mono ?_
            rintro e w8 ⟨rfl, c8⟩
            have B8 := Lib.hid (B7.out.trans (c8.mono B7.out.size))
            clear c8  B7
            go_wp2_with fail
            go_ret
            exact ⟨rfl, B8.out⟩

set_option maxRecDepth 100000 in
/-- What the walk gives, for every argument that can be read. -/
theorem contract (H : Type) (enc : TypeId × Value → H) (W : World) (base : Nat) (args : Array Value) (ds gs : List (DataW H)) (before : List MemPlace)
    (hval : ∀ (j : Nat) t v, Tryd.f9.params[j]? = some t → args[j]? = some v → Value.okWide Tryd.prog W .any base t v)
    (hW : DataW.Whole enc Tryd.prog Tryd.f9.params.toList Rows.opAllSpec.vars false W args.toList ds gs before) (hsz : (DataW.weightsEach Tryd.prog (Tryd.f9.params.toList ++ (OpenSpec.ofChange Rows.opAllSpec).bare.plain.varTypes Tryd.prog) (ds ++ gs)).all (· ≤ reachBytes) = true) (hL : laidMetH Tryd.prog Rows.opAllRow.laid W) (hsh : W.ShapedOpen Tryd.prog) :
    Calls Tryd.prog 9 args W fun e W' => ∃ v, e = .returned v ∧ Rows.opAllSpec.post enc Tryd.prog Tryd.f9 false true false false W args v W' := by
  have hW' := hW
  obtain ⟨p, q, hA0, hV, rfl, hfz, hnd⟩ := hW
  have hA : DataW.TrodAll enc Tryd.prog W 0 (fun _ => true) true Tryd.f9.params.toList args.toList ds p := hA0
  rw [Tryd.params9] at hA hval
  obtain ⟨v0, vs0, d0, ds0, p0, q0, hargs, rfl, rfl, h0, r0⟩ := trodAll_cons hA
  obtain ⟨v1, vs1, d1, ds1, p1, q1, rfl, rfl, rfl, h1, r1⟩ := trodAll_cons r0
  obtain ⟨rfl, rfl, rfl⟩ := trodAll_nil r1
  obtain rfl : args = #[v0, v1] := by cases args; simp_all
  obtain ⟨rfl, rfl⟩ := trodVars_none hV
  obtain ⟨a0, len0, cap0, rfl⟩ := okWide_slice Tryd.underlying34 (hval 0 34 v0 rfl rfl)
  have k0 := h0
  have lt0 : ∀ x ∈ p0, x.block < W.heap.size := by obtain ⟨m, hm⟩ := k0; exact DataW.trod_lt m _ _ _ hm
  obtain ⟨L0, z0⟩ : ∃ L, OpsIn W a0 len0 L := by
    obtain ⟨fuel, hf⟩ := h0
    exact opsIn_of hf
  obtain ⟨s1, rfl, rfl, rfl, w1⟩ := Go.ChangeMaps.open_string Tryd.underlying9 (hval 1 9 v1 rfl rfl) h1
  clear hA0
  refine (walk W a0 len0 cap0 L0 z0 s1 w1 (env_of hL hsh)).mono fun e W' ⟨he, bel⟩ => ?_
  subst he
  exact ⟨_, rfl, _, _, _, [], _, [], hW', trodAll_mk1 (shut_bool Tryd.underlying4 _), (trodAll_cons_mk (Below.trod laidOut (by kernel_rfl) (of_decide_eq_true (by kernel_rfl)) k0 bel lt0) (trodAll_cons_mk (Go.ChangeMaps.shut_string Tryd.underlying9 w1) trodAll_mk0)), rfl, bel.frame _, fun h => by cases h⟩

set_option maxRecDepth 100000 in
theorem reads (os : Os) {H : Type} (enc : TypeId × Value → H) : ∃ places, DataW.whole enc Tryd.prog ((World.doorLaid Tryd.prog 72 os).forCall (fun _ _ => 0) ⟨#[], #[.slice none 0 0, .string ⟨#[]⟩], []⟩).memory Tryd.f9.params.toList Rows.opAllSpec.vars false (#[.slice none 0 0, .string ⟨#[]⟩] : Array Value).toList 8 = some ([.nil, .lit (.string [])], [], places) :=
  ⟨[], by kernel_rfl⟩

set_option maxRecDepth 100000 in
theorem lifted (os : Os) (started : os.Started) (H : Type) (enc : TypeId × Value → H) (F : Stop.Interp) :
    ReturnsInHanded {} Tryd.checked os 9 .any ((OpenSpec.ofChange Rows.opAllSpec).preRow enc Tryd.prog Tryd.f9 Rows.opAllRow.domain false Rows.opAllRow.laid) (((OpenSpec.ofChange Rows.opAllSpec).at F).post enc Tryd.prog Tryd.f9 false true false false) := by
  obtain ⟨places, hx⟩ := reads os enc
  refine returnsInHanded_of_row (C := Tryd.checked) (s := OpenSpec.ofChange Rows.opAllSpec) own started (by kernel_rfl) Tryd.func9
    (witness_row_atRef (enc := enc) (C := Tryd.checked) false (World.doorLaid Tryd.prog 72 os) #[.slice none 0 0, .string ⟨#[]⟩] rfl (door_vars os _) (door_rest os _) (by kernel_rfl)
      (OpenSpec.preRow_of_cond 8 hx (by kernel_rfl) (fun k hk => by cases hk) (by kernel_rfl) (door_laid os _))) ?_
  intro W base args ds gs before hval hW _ _ hsz hL hsh _
  exact contract H enc W base args ds gs before hval hW hsz hL hsh

theorem said : Rows.OpAllSaid :=
  OpenClaim.holds_of_cond 9 Tryd.f9 rfl rfl rfl rfl rfl rfl rfl ⟨rfl, rfl, rfl, rfl, rfl⟩ rfl rfl rfl rfl rfl (by kernel_rfl) Tryd.func9 (by kernel_rfl)
    (of_decide_eq_true (by kernel_rfl)) (by unfold Func.isWrapper; first | (rw [if_pos (by decide +kernel)]; kernel_rfl) | (rw [if_neg (by decide +kernel)]; exact ⟨rfl, rfl⟩))
    (fun os started H enc _ F => by rw [OpenClaim.pre_eq_preRow]; exact lifted os started H enc F)

theorem plain (f : FuncId) (fn : Func) (hf : Tryd.pinned.checked.prog.funcNamed "wakeman/wakemanlaw38.OpAll" = some f) (hfn : Tryd.pinned.checked.prog.funcs[f]? = some fn) :
    Rows.opAllCard.stood.looks = Tryd.pinned.checked.prog.looks [] ∧ ∀ (j : Nat) t, fn.params[j]? = some t → Tryd.pinned.checked.prog.wantsStandIn t = false := by
  obtain rfl : f = 9 := Option.some.inj ((show Tryd.prog.funcNamed "wakeman/wakemanlaw38.OpAll" = some 9 by kernel_rfl).symm.trans hf) |>.symm
  obtain rfl : fn = Tryd.f9 := (Option.some.inj (Tryd.func9.symm.trans hfn)).symm
  refine ⟨by kernel_rfl, fun j t ht => ?_⟩
  rw [Tryd.params9] at ht
  have hm : t ∈ [34, 9] := by
    have := Array.mem_of_getElem? ht
    simpa using this
  have hall : ([34, 9].all fun u => !Tryd.prog.wantsStandIn u) = true := by kernel_rfl
  exact (show Tryd.prog.wantsStandIn t = false by simpa using List.all_eq_true.1 hall t hm)

/-- The card. -/
theorem card : Rows.OpAllCardSaid :=
  Claim7.holds_tied_plain_at .later [] _ _ _ _ said (fun _ h => by cases h) (by kernel_rfl) (fun _ h => by cases h) opAll_row_tie rfl ⟨rfl, rfl⟩ (by kernel_rfl) rfl plain (by kernel_rfl)
end Go.Proofs.YtnnkamfpcodnnaaDoor.lawOpAll
