/- OpLines: for every list of operations, every text and every byte the law returns true; what the call was given reads as before. Conditions: the five listed variables lie as the program lays them. -/
import Derived.Test.YtnnkamfpcodnnaaDoorOpFrame
import Derived.Test.YtnnkamfpcodnnaaDoorOpFr
import Derived.Test.YtnnkamfpcodnnaaDoorOpWk
import Derived.Test.YtnnkamfpcodnnaaDoorOpX
import Derived.SevenTiedAt
namespace Go.Proofs.YtnnkamfpcodnnaaDoor.lawOpLines
open Go.ChangeShapes Go.WideShapes Go.ChangeAt Go.RowKit
theorem bound_of {s : ByteArray} (h : s.data.toList.length ≤ reachBytes) : s.size ≤ 140737488355328 := by
  rw [← Lib.size_eq] at h
  unfold reachBytes at h
  omega
theorem Lx.noLF_take' {s : ByteArray} {k : Nat} {hk : k < s.size} (h : (10 : UInt8) ∉ s.data.toList.take k) (hc : ((s[k].toNat : Int) == 10) = false) : (10 : UInt8) ∉ s.data.toList.take (k + 1) := by
  have e : s.data.toList.take (k + 1) = s.data.toList.take k ++ [s[k]] := by
    rw [List.take_succ_eq_append_getElem (by rw [← Lib.size_eq]; exact hk)]; rfl
  rw [e]
  intro hm
  rcases List.mem_append.1 hm with hm | hm
  · exact h hm
  · rw [List.mem_singleton] at hm
    rw [← hm] at hc
    revert hc; decide
theorem Lx.fine_take {L : List Lx.OpV} (h : Lx.Fine L) (k : Nat) : Lx.Fine (L.take k) := fun o ho => h o (List.mem_of_mem_take ho)
theorem Lx.fine_drop {L : List Lx.OpV} (h : Lx.Fine L) (k : Nat) : Lx.Fine (L.drop k) := fun o ho => h o (List.mem_of_mem_drop ho)
theorem Lx.row_cap {w : World} {base n : Nat} {v : Value} {e : TypeId} {xs : List Value} (h : w.ownsRow base e 6 v n xs) : ∀ A c, v = .slice A n c → (A = none ∧ n = 0 ∧ c = 0) ∨ (∃ g, A = some ⟨g, 0, none⟩ ∧ n ≤ c ∧ c ≤ maxLen) := by
  intro A c e
  rcases h.2 with ⟨h1, h2⟩ | ⟨g, cap, cur, h1, _, _, h4, h5, _⟩
  · rw [h1] at e
    injection e with e1 e2 e3
    exact .inl ⟨e1.symm, e2.symm, e3.symm⟩
  · rw [h1] at e
    injection e with e1 e2 e3
    subst e3
    exact .inr ⟨g, e1.symm, h4, h5⟩
theorem Lx.isOps_take {w : World} {A : Option Addr} {n : Nat} {L : List Lx.OpV} (h : Lx.IsOps w A n L) {k : Nat} (hk : k ≤ n) : Lx.IsOps w A k (L.take k) := by
  refine ⟨by rw [List.length_take, h.1]; omega, fun h0 => ?_⟩
  obtain ⟨g, off, e, lt, hc⟩ := h.2 (by omega)
  refine ⟨g, off, e, lt, fun i o hi j v hv => ?_⟩
  rw [List.getElem?_take] at hi
  split at hi
  · exact hc i o hi j v hv
  · cases hi
theorem Lx.isOps_drop {w : World} {g n : Nat} {L : List Lx.OpV} (h : Lx.IsOps w (some ⟨g, 0, none⟩) n L) {k : Nat} (hk : k ≤ n) : Lx.IsOps w (some ⟨g, k * 6, none⟩) (n - k) (L.drop k) := by
  refine ⟨by rw [List.length_drop, h.1], fun h0 => ?_⟩
  obtain ⟨g', off, e, lt, hc⟩ := h.2 (by omega)
  injection e with e; injection e with e1 e2
  subst e1 e2
  refine ⟨g, k * 6, rfl, lt, fun i o hi j v hv => ?_⟩
  rw [List.getElem?_drop] at hi
  have := hc (k + i) o hi j v hv
  rwa [show 0 + (k + i) * 6 + j = k * 6 + i * 6 + j by omega] at this
theorem Lx.isOps_empty {w : World} {A : Option Addr} {L : List Lx.OpV} (h : L = []) : Lx.IsOps w A 0 L := ⟨by rw [h]; rfl, fun h0 => absurd h0 (by omega)⟩
set_option maxRecDepth 100000 in
set_option maxHeartbeats 3200000 in
theorem walk (w : World) (ad : Option Addr) (n cap : Nat) (L : List Lx.OpV) (z : OpsIn w ad n L) (ln : ByteArray) (hln : ln.size ≤ 140737488355328) (c : Int) (hc : (Lit.int .u8 c).wf = true) (env : Env w) :
    Calls Tryd.prog 10 #[.slice ad n cap, .string ln, .int .u8 c] w fun e w' => e = .returned (.bool true) ∧ Below w.heap.size w w' := by
  obtain ⟨io, hn, hin⟩ := z
  have hcb := bounds_u8 hc
  have HV1 := Lib.hid (valid_any ad n cap L w io (fun o ho => (hin o ho).2) hn)
  have HPL := Lib.hid (fun W (E : Env W) => op_parse ln W E hln)
  have hfine := Lx.fine_valid hin
  have c0 : 0 ≤ c := by omega
  have c255 : c ≤ 255 := by omega
  clear io hn hin hcb hc
  go_enter Tryd.func10, Tryd.ntmps10
  go_wp2_with fail
  refine HV1.out.mono ?_
  rintro e w1 ⟨v1, rfl, r1, b1⟩
  have hcap := Lx.row_cap r1
  obtain ⟨A1, c1, rfl, j1⟩ := Lx.row_isOps' r1
  have I11 := Lib.hid (j1 rfl)
  have HCAP := Lib.hid (hcap A1 c1 rfl)
  have B1 := Lib.hid b1
  have hq1 := Lx.validL_len L
  clear b1 r1 j1 HV1 hcap
  generalize Lx.validL L = X at *
  generalize hx1 : X.length = q1 at *
  have HX1 := Lib.hid hx1
  have HF := Lib.hid hfine
  clear hx1 hfine
  go_wp2_with fail
  refine (HPL.out _ (env.below B1.out)).mono ?_
  rintro e w2 ⟨⟨k', d', t', r', ok', job'⟩, x', rfl, hr, c2⟩
  unfold Lx.OpV.val
  dsimp only
  have I12 := Lib.hid (I11.out.below c2)
  have B2 := Lib.hid (B1.out.trans (c2.mono B1.out.size))
  clear c2 B1 I11
  have c3 := (Below.refl (w2).heap.size (w2)).alloc (Nat.le_refl _) (.cells #[.int .i64 k', .int .i64 d', .int .i64 t', .int .i64 r', .bool ok', .string job'] 23)
  have I13 := Lib.hid (I12.out.below c3)
  have B3 := Lib.hid (B2.out.trans (c3.mono B2.out.size))
  clear c3 I12 B2
  have HW := Lib.hid (opworks_any _ (env.below B3.out))
  by_cases hbig : 60 < ln.size
  · have hbi : (60 : Int) < (ln.size : Int) := by omega
    clear hr
    go_wp2_with fail
    refine (HW.out).mono ?_
    rintro e w4 ⟨rfl, c4⟩
    have B4 := Lib.hid (B3.out.trans (c4.mono B3.out.size))
    clear c4  B3
    go_wp2_with fail
    go_ret
    exact ⟨rfl, B4.out⟩
  · have g1 : decide ((60 : Int) < (ln.size : Int)) = false := decide_eq_false (by omega)
    have g1n : decide (60 < ln.size) = false := decide_eq_false (by omega)
    rcases hr with ⟨rfl, hp, hi⟩ | ⟨rfl, hz, hno⟩
    · clear hp hi
      go_wp2_with fail
      refine (HW.out).mono ?_
      rintro e w4 ⟨rfl, c4⟩
      have B4 := Lib.hid (B3.out.trans (c4.mono B3.out.size))
      clear c4  B3
      go_wp2_with fail
      go_ret
      exact ⟨rfl, B4.out⟩
    · have HR := Lib.hid (Lx.reads_no hno)
      clear hz hno
      by_cases he : ln.size = 0
      · have heb := Lx.streq he
        clear he
        go_wp2_with fail
        refine (HW.out).mono ?_
        rintro e w4 ⟨rfl, c4⟩
        have B4 := Lib.hid (B3.out.trans (c4.mono B3.out.size))
        clear c4  B3
        go_wp2_with fail
        go_ret
        exact ⟨rfl, B4.out⟩
      · have heb := Lx.strne he
        have hp0 : 0 < ln.size := by omega
        have hp0i : (0 : Int) < (ln.size : Int) := by omega
        have hsk := Lx.skip_head hp0
        clear he
        by_cases h35 : ((ln[0].toNat : Int) == 35) = true
        · clear hsk
          go_wp2_with fail
          refine (HW.out).mono ?_
          rintro e w4 ⟨rfl, c4⟩
          have B4 := Lib.hid (B3.out.trans (c4.mono B3.out.size))
          clear c4  B3
          go_wp2_with fail
          go_ret
          exact ⟨rfl, B4.out⟩
        · have h35' : ((ln[0].toNat : Int) == 35) = false := by simpa using h35
          have HSK := Lib.hid (hsk.trans h35')
          clear h35 hsk
          go_wp2_with fail
          go_loop [10] (fun ii => ∃ k : Nat, k ≤ ln.size ∧ ii = .int .i64 k ∧ (10 : UInt8) ∉ ln.data.toList.take k) (fun i => ln.size - (intOf i).toNat)
          case atStart => exact ⟨0, Nat.zero_le _, rfl, by simp⟩
          case round =>
            obtain ⟨k, hk, rfl, hno⟩ := hrel
            have HNO := Lib.hid hno
            clear hno
            by_cases hlt : k < ln.size
            · by_cases h10 : ((ln[k].toNat : Int) == 10) = true
              · skip
                go_wp2_with fail
                refine (HW.out).mono ?_
                rintro e w4 ⟨rfl, c4⟩
                have B4 := Lib.hid (B3.out.trans (c4.mono B3.out.size))
                clear c4  B3
                go_wp2_with fail
                go_ret
                exact ⟨rfl, B4.out⟩
              · have h10' : ((ln[k].toNat : Int) == 10) = false := by simpa using h10
                have hno2 := Lib.hid (Lx.noLF_take' HNO.out h10')
                clear h10
                go_wp2_with fail
                go_round
                case rel => exact ⟨k + 1, by omega, by go_num, hno2.out⟩
                case measure => simp [intOf]; omega
            · obtain rfl : k = ln.size := by omega
              have hno := HNO.out
              rw [Lx.take_all ln _ (Nat.le_refl _)] at hno
              have HNC := Lib.hid hno
              clear hno HNO hlt
              obtain ⟨k, hkc⟩ : ∃ k : Nat, c % ((q1 : Int) + 1) = (k : Int) := ⟨(c % ((q1 : Int) + 1)).toNat, by rw [Int.toNat_of_nonneg (Int.emod_nonneg _ (by omega))]⟩
              have hkq : k ≤ q1 := by have := Int.emod_lt_of_pos c (show (0 : Int) < (q1 : Int) + 1 by omega); omega
              have hkl : (X.take k).length = k := by rw [List.length_take, HX1.out]; omega
              have hdl : (X.drop k).length = q1 - k := by rw [List.length_drop, HX1.out]
              have hft := Lx.fine_take HF.out k
              have hfd := Lx.fine_drop HF.out k
              obtain ⟨p1, p2, p3⟩ := Lx.fine_prn hft (by omega)
              obtain ⟨p4, p5, p6⟩ := Lx.fine_prn hfd (by omega)
              have HP1 := Lib.hid (fun A cc W (E : Env W) (h : Lx.IsOps W A k (X.take k)) => printAll_any A k cc (X.take k) W E h (fun o ho => ⟨(hft o ho).2, Lx.jobLen (hft o ho).1⟩) (by omega))
              have HP2 := Lib.hid (fun A cc W (E : Env W) (h : Lx.IsOps W A (q1 - k) (X.drop k)) => printAll_any A (q1 - k) cc (X.drop k) W E h (fun o ho => ⟨(hfd o ho).2, Lx.jobLen (hfd o ho).1⟩) (by omega))
              unfold PrnAllIs at HP1 HP2
              rw [p1, p2] at HP1
              rw [p4, p5] at HP2
              obtain ⟨S1, hS1⟩ : ∃ S : ByteArray, S = ⟨(Lx.scriptText (X.take k)).toArray⟩ := ⟨_, rfl⟩
              have hS1d : S1.data.toList = Lx.scriptText (X.take k) := by rw [hS1]
              have hS1s : S1.size ≤ 1980 := by rw [Lib.size_eq, hS1d]; exact p3
              rw [← hS1] at HP1
              obtain ⟨S2, hS2⟩ : ∃ S : ByteArray, S = ⟨(Lx.scriptText (X.drop k)).toArray⟩ := ⟨_, rfl⟩
              have hS2d : S2.data.toList = Lx.scriptText (X.drop k) := by rw [hS2]
              have hS2s : S2.size ≤ 1980 := by rw [Lib.size_eq, hS2d]; exact p6
              rw [← hS2] at HP2
              have hall := Lx.wrong_all hft hfd (s := S1 ++ ln ++ ⟨#[10]⟩ ++ S2) HNC.out HSK.out HR.out (by simp [ByteArray.data_append, hS1d, hS2d])
              rw [hkl] at hall
              have hn1 : (⟨#[10]⟩ : ByteArray).size = 1 := rfl
              have HA := Lib.hid (fun W (E : Env W) => parseAll_at (S1 ++ ln ++ ⟨#[10]⟩ ++ S2) _ _ _ W E (by simp only [ByteArray.size_append]; omega) hall)
              have y1 : ¬ (9223372036854775807 < S1.size + ln.size) := by omega
              have y2 : ¬ (9223372036854775807 < S1.size + ln.size + (⟨#[10]⟩ : ByteArray).size) := by omega
              have y3 : ¬ (9223372036854775807 < S1.size + ln.size + (⟨#[10]⟩ : ByteArray).size + S2.size) := by omega
              have hki : (k : Int) ≤ (q1 : Int) := by omega
              have hq60 : (q1 : Int) ≤ 60 := by omega
              have hkk : ((k : Int) + 1 == (k : Int) + 1) = true := by simp
              clear hkl hdl hft hfd p1 p2 p3 p4 p5 p6 hS1 hS1d hS2 hS2d hall hn1
              rcases HCAP.out with ⟨rfl, rfl, rfl⟩ | ⟨g, rfl, hqc, hcm⟩
              · obtain rfl : k = 0 := by omega
                go_wp2_with fail
                refine (HP1.out _ _ _ (env.below B3.out) (Lx.isOps_empty rfl)).mono ?_
                rintro e w4 ⟨rfl, c4⟩
                have B4 := Lib.hid (B3.out.trans (c4.mono B3.out.size))
                clear c4  B3
                go_wp2_with fail
                refine (HP2.out _ _ _ (env.below B4.out) (Lx.isOps_empty (by rw [List.drop_zero]; exact List.eq_nil_of_length_eq_zero HX1.out))).mono ?_
                rintro e w5 ⟨rfl, c5⟩
                have B5 := Lib.hid (B4.out.trans (c5.mono B4.out.size))
                clear c5  B4
                go_wp2_with fail
                refine (HA.out _ (env.below B5.out)).mono ?_
                rintro e w6 ⟨A6, cp6, rfl, -, c6⟩
                have B6 := Lib.hid (B5.out.trans (c6.mono B5.out.size))
                clear c6  B5
                go_wp2_with fail
                refine (opworks_any _ (env.below B6.out)).mono ?_
                rintro e w7 ⟨rfl, c7⟩
                have B7 := Lib.hid (B6.out.trans (c7.mono B6.out.size))
                clear c7  B6
                go_wp2_with fail
                go_ret
                exact ⟨rfl, B7.out⟩
              · unfold maxLen at hcm
                go_wp2_with fail
                refine (HP1.out _ _ _ (env.below B3.out) (Lx.isOps_take I13.out hkq)).mono ?_
                rintro e w4 ⟨rfl, c4⟩
                have I14 := Lib.hid (I13.out.below c4)
                have B4 := Lib.hid (B3.out.trans (c4.mono B3.out.size))
                clear c4 I13 B3
                by_cases hkc1 : k < c1
                · have hkci : (k : Int) < (c1 : Int) := by omega
                  go_wp2_with fail
                  refine (HP2.out _ _ _ (env.below B4.out) (Lx.isOps_drop I14.out hkq)).mono ?_
                  rintro e w5 ⟨rfl, c5⟩
                  have B5 := Lib.hid (B4.out.trans (c5.mono B4.out.size))
                  clear c5  B4
                  go_wp2_with fail
                  refine (HA.out _ (env.below B5.out)).mono ?_
                  rintro e w6 ⟨A6, cp6, rfl, -, c6⟩
                  have B6 := Lib.hid (B5.out.trans (c6.mono B5.out.size))
                  clear c6  B5
                  go_wp2_with fail
                  refine (opworks_any _ (env.below B6.out)).mono ?_
                  rintro e w7 ⟨rfl, c7⟩
                  have B7 := Lib.hid (B6.out.trans (c7.mono B6.out.size))
                  clear c7  B6
                  go_wp2_with fail
                  go_ret
                  exact ⟨rfl, B7.out⟩
                · obtain rfl : k = c1 := by omega
                  obtain rfl : k = q1 := by omega
                  rw [Nat.sub_self] at HP2
                  go_wp2_with fail
                  refine (HP2.out _ _ _ (env.below B4.out) (Lx.isOps_empty (List.drop_eq_nil_of_le (by rw [HX1.out]; exact Nat.le_refl _)))).mono ?_
                  rintro e w5 ⟨rfl, c5⟩
                  have B5 := Lib.hid (B4.out.trans (c5.mono B4.out.size))
                  clear c5  B4
                  go_wp2_with fail
                  refine (HA.out _ (env.below B5.out)).mono ?_
                  rintro e w6 ⟨A6, cp6, rfl, -, c6⟩
                  have B6 := Lib.hid (B5.out.trans (c6.mono B5.out.size))
                  clear c6  B5
                  go_wp2_with fail
                  refine (opworks_any _ (env.below B6.out)).mono ?_
                  rintro e w7 ⟨rfl, c7⟩
                  have B7 := Lib.hid (B6.out.trans (c7.mono B6.out.size))
                  clear c7  B6
                  go_wp2_with fail
                  go_ret
                  exact ⟨rfl, B7.out⟩

set_option maxRecDepth 100000 in
/-- What the walk gives, for every argument that can be read. -/
theorem contract (H : Type) (enc : TypeId × Value → H) (W : World) (base : Nat) (args : Array Value) (ds gs : List (DataW H)) (before : List MemPlace)
    (hval : ∀ (j : Nat) t v, Tryd.f10.params[j]? = some t → args[j]? = some v → Value.okWide Tryd.prog W .any base t v)
    (hW : DataW.Whole enc Tryd.prog Tryd.f10.params.toList Rows.opLinesSpec.vars false W args.toList ds gs before) (hsz : (DataW.weightsEach Tryd.prog (Tryd.f10.params.toList ++ (OpenSpec.ofChange Rows.opLinesSpec).bare.plain.varTypes Tryd.prog) (ds ++ gs)).all (· ≤ reachBytes) = true) (hL : laidMetH Tryd.prog Rows.opLinesRow.laid W) (hsh : W.ShapedOpen Tryd.prog) :
    Calls Tryd.prog 10 args W fun e W' => ∃ v, e = .returned v ∧ Rows.opLinesSpec.post enc Tryd.prog Tryd.f10 false true false false W args v W' := by
  have hW' := hW
  obtain ⟨p, q, hA0, hV, rfl, hfz, hnd⟩ := hW
  have hA : DataW.TrodAll enc Tryd.prog W 0 (fun _ => true) true Tryd.f10.params.toList args.toList ds p := hA0
  rw [Tryd.params10] at hA hval
  obtain ⟨v0, vs0, d0, ds0, p0, q0, hargs, rfl, rfl, h0, r0⟩ := trodAll_cons hA
  obtain ⟨v1, vs1, d1, ds1, p1, q1, rfl, rfl, rfl, h1, r1⟩ := trodAll_cons r0
  obtain ⟨v2, vs2, d2, ds2, p2, q2, rfl, rfl, rfl, h2, r2⟩ := trodAll_cons r1
  obtain ⟨rfl, rfl, rfl⟩ := trodAll_nil r2
  obtain rfl : args = #[v0, v1, v2] := by cases args; simp_all
  obtain ⟨rfl, rfl⟩ := trodVars_none hV
  obtain ⟨a0, len0, cap0, rfl⟩ := okWide_slice Tryd.underlying34 (hval 0 34 v0 rfl rfl)
  have k0 := h0
  have lt0 : ∀ x ∈ p0, x.block < W.heap.size := by obtain ⟨m, hm⟩ := k0; exact DataW.trod_lt m _ _ _ hm
  obtain ⟨L0, z0⟩ : ∃ L, OpsIn W a0 len0 L := by
    obtain ⟨fuel, hf⟩ := h0
    exact opsIn_of hf
  obtain ⟨s1, rfl, rfl, rfl, w1⟩ := Go.ChangeMaps.open_string Tryd.underlying9 (hval 1 9 v1 rfl rfl) h1
  obtain ⟨s2, rfl, rfl, rfl, w2⟩ := open_int Tryd.underlying5 (hval 2 5 v2 rfl rfl) h2
  clear hA0
  refine (walk W a0 len0 cap0 L0 z0 s1 (bound_of (sized_string hsz (j := 1) (t := 9) rfl rfl)) s2 w2 (env_of hL hsh)).mono fun e W' ⟨he, bel⟩ => ?_
  subst he
  exact ⟨_, rfl, _, _, _, [], _, [], hW', trodAll_mk1 (shut_bool Tryd.underlying4 _), (trodAll_cons_mk (Below.trod laidOut (by kernel_rfl) (of_decide_eq_true (by kernel_rfl)) k0 bel lt0) (trodAll_cons_mk (Go.ChangeMaps.shut_string Tryd.underlying9 w1) (trodAll_cons_mk (shut_int Tryd.underlying5 w2) trodAll_mk0))), rfl, bel.frame _, fun h => by cases h⟩

set_option maxRecDepth 100000 in
theorem reads (os : Os) {H : Type} (enc : TypeId × Value → H) : ∃ places, DataW.whole enc Tryd.prog ((World.doorLaid Tryd.prog 72 os).forCall (fun _ _ => 0) ⟨#[], #[.slice none 0 0, .string ⟨#[]⟩, .int .u8 0], []⟩).memory Tryd.f10.params.toList Rows.opLinesSpec.vars false (#[.slice none 0 0, .string ⟨#[]⟩, .int .u8 0] : Array Value).toList 8 = some ([.nil, .lit (.string []), .lit (.int .u8 0)], [], places) :=
  ⟨[], by kernel_rfl⟩

set_option maxRecDepth 100000 in
theorem lifted (os : Os) (started : os.Started) (H : Type) (enc : TypeId × Value → H) (F : Stop.Interp) :
    ReturnsInHanded {} Tryd.checked os 10 .any ((OpenSpec.ofChange Rows.opLinesSpec).preRow enc Tryd.prog Tryd.f10 Rows.opLinesRow.domain false Rows.opLinesRow.laid) (((OpenSpec.ofChange Rows.opLinesSpec).at F).post enc Tryd.prog Tryd.f10 false true false false) := by
  obtain ⟨places, hx⟩ := reads os enc
  refine returnsInHanded_of_row (C := Tryd.checked) (s := OpenSpec.ofChange Rows.opLinesSpec) own started (by kernel_rfl) Tryd.func10
    (witness_row_atRef (enc := enc) (C := Tryd.checked) false (World.doorLaid Tryd.prog 72 os) #[.slice none 0 0, .string ⟨#[]⟩, .int .u8 0] rfl (door_vars os _) (door_rest os _) (by kernel_rfl)
      (OpenSpec.preRow_of_cond 8 hx (by kernel_rfl) (fun k hk => by cases hk) (by kernel_rfl) (door_laid os _))) ?_
  intro W base args ds gs before hval hW _ _ hsz hL hsh _
  exact contract H enc W base args ds gs before hval hW hsz hL hsh

theorem said : Rows.OpLinesSaid :=
  OpenClaim.holds_of_cond 10 Tryd.f10 rfl rfl rfl rfl rfl rfl rfl ⟨rfl, rfl, rfl, rfl, rfl⟩ rfl rfl rfl rfl rfl (by kernel_rfl) Tryd.func10 (by kernel_rfl)
    (of_decide_eq_true (by kernel_rfl)) (by unfold Func.isWrapper; first | (rw [if_pos (by decide +kernel)]; kernel_rfl) | (rw [if_neg (by decide +kernel)]; exact ⟨rfl, rfl⟩))
    (fun os started H enc _ F => by rw [OpenClaim.pre_eq_preRow]; exact lifted os started H enc F)

theorem plain (f : FuncId) (fn : Func) (hf : Tryd.pinned.checked.prog.funcNamed "wakeman/wakemanlaw38.OpLines" = some f) (hfn : Tryd.pinned.checked.prog.funcs[f]? = some fn) :
    Rows.opLinesCard.stood.looks = Tryd.pinned.checked.prog.looks [] ∧ ∀ (j : Nat) t, fn.params[j]? = some t → Tryd.pinned.checked.prog.wantsStandIn t = false := by
  obtain rfl : f = 10 := Option.some.inj ((show Tryd.prog.funcNamed "wakeman/wakemanlaw38.OpLines" = some 10 by kernel_rfl).symm.trans hf) |>.symm
  obtain rfl : fn = Tryd.f10 := (Option.some.inj (Tryd.func10.symm.trans hfn)).symm
  refine ⟨by kernel_rfl, fun j t ht => ?_⟩
  rw [Tryd.params10] at ht
  have hm : t ∈ [34, 9, 5] := by
    have := Array.mem_of_getElem? ht
    simpa using this
  have hall : ([34, 9, 5].all fun u => !Tryd.prog.wantsStandIn u) = true := by kernel_rfl
  exact (show Tryd.prog.wantsStandIn t = false by simpa using List.all_eq_true.1 hall t hm)

/-- The card. -/
theorem card : Rows.OpLinesCardSaid :=
  Claim7.holds_tied_plain_at .later [] _ _ _ _ said (fun _ h => by cases h) (by kernel_rfl) (fun _ h => by cases h) opLines_row_tie rfl ⟨rfl, rfl⟩ (by kernel_rfl) rfl plain (by kernel_rfl)
end Go.Proofs.YtnnkamfpcodnnaaDoor.lawOpLines
