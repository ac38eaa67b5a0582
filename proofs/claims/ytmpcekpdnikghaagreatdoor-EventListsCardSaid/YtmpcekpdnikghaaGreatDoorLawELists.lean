/- EventLists: for every two lists of events, every list of names, every job and every time the law returns true; what the call was given reads as before. Conditions: the eight listed variables lie as the program lays them. -/
import Derived.Test.YtmpcekpdnikghaaGreatDoorEvFrame
import Derived.Test.YtmpcekpdnikghaaGreatDoorEvFr
import Derived.Test.YtmpcekpdnikghaaGreatDoorEvO
import Derived.Test.YtmpcekpdnikghaaGreatDoorR36L
import Derived.Test.YtmpcekpdnikghaaGreatDoorEvI
import Derived.Laws.OwnMore
import Derived.Deep.DeepCutAuto
import Derived.SevenTiedAt
namespace Go.Proofs.YtmpcekpdnikghaaGreatDoor.lawEventLists
open Go.ChangeShapes Go.WideShapes Go.ChangeAt Go.RowKit
theorem evsKp {W W' : World} {b : Nat} {A : Option Addr} {n : Nat} {L : List Lx.EvV} (h : Lx.IsEvs W A n L) (hk : Lx.Kp b W W') (hb : ∀ g off, 0 < n → A = some ⟨g, off, none⟩ → g ≠ b) : Lx.IsEvs W' A n L := by
  refine ⟨h.1, fun hn => ?_⟩
  obtain ⟨g, off, e, lt, hc⟩ := h.2 hn
  exact ⟨g, off, e, Nat.lt_of_lt_of_le lt hk.2.1, fun i o hi j v hv => (hk.cell lt (hb g off hn e)).trans (hc i o hi j v hv)⟩
/-- The cells of a row, whatever they hold. -/
def Held (W : World) (g n : Nat) : Prop := ∀ p, p < n → ∃ v, W.cell? ⟨g, p, none⟩ = some v
theorem Held.set {W : World} {g n p : Nat} {v : Value} (h : Held W g n) : Held (W.setCell ⟨g, p, none⟩ v) g n := by
  intro q hq
  obtain ⟨u, hu⟩ := h q hq
  by_cases e : p = q
  · subst e; exact ⟨v, Lx.set_cell hu v⟩
  · exact ⟨u, (Lx.set_other v e).trans hu⟩
theorem kpSet8 {W : World} {g a0 a1 a2 a3 a4 a5 a6 a7 : Nat} {v0 v1 v2 v3 v4 v5 v6 v7 : Value} : Lx.Kp g W ((((((((W.setCell ⟨g, a0, none⟩ v0).setCell ⟨g, a1, none⟩ v1).setCell ⟨g, a2, none⟩ v2).setCell ⟨g, a3, none⟩ v3).setCell ⟨g, a4, none⟩ v4).setCell ⟨g, a5, none⟩ v5).setCell ⟨g, a6, none⟩ v6).setCell ⟨g, a7, none⟩ v7) :=
  (((((((Lx.Kp.set.trans Lx.Kp.set).trans Lx.Kp.set).trans Lx.Kp.set).trans Lx.Kp.set).trans Lx.Kp.set).trans Lx.Kp.set).trans Lx.Kp.set)
set_option maxRecDepth 100000 in
set_option maxHeartbeats 6400000 in
theorem walk (w : World) (ad : Option Addr) (len cap : Nat) (L : List Lx.EvV) (z : EvsIn w ad len L) (_n : ad = none → cap = 0) (ad' : Option Addr) (len' cap' : Nat) (M : List Lx.EvV) (z' : EvsIn w ad' len' M) (_n' : ad' = none → cap' = 0) (adn : Option Addr) (ln cpn : Nat) (hz : ∃ ss, IsStrs w adn ln cpn ss) (j : Int) (_hj : (Lit.int .i64 j).wf = true) (d : Int) (_hd : (Lit.int .i64 d).wf = true) (env : EEnv w) :
    Calls Tryz.prog 4 #[.slice ad len cap, .slice ad' len' cap', .slice adn ln cpn, .int .i64 j, .int .i64 d] w fun e w' => e = .returned (.bool true) ∧ Below w.heap.size w w' := by
  obtain ⟨hl, -, hin⟩ := z
  obtain ⟨hl', -, -⟩ := z'
  obtain ⟨NS, hss⟩ := hz
  obtain ⟨hN, hsz, hlm, -⟩ := isNames_of hss
  obtain ⟨i0, hi, hz0, hz1, hz2⟩ := info_parts infoEv
  have HW := Lib.hid (fun W (b : Below w.heap.size w W) => evworks_any W (env.below b))
  have HF := Lib.hid (fun W (b : Below w.heap.size w W) => few_any adn ln cpn NS W (hN.below b) hsz)
  generalize Lx.fewV NS = F at *
  by_cases hbad : F = false ∨ 100 < len ∨ 100 < len'
  · clear hl hl' hN hss hsz
    by_cases hF : F = true
    · subst hF
      by_cases h1 : 100 < len
      · have h1i : (100 : Int) < (len : Int) := by omega
        go_enter Tryz.func4, Tryz.ntmps4
        go_wp2_with fail
        refine (HF.out _ (Below.refl _ _)).mono ?_
        rintro e w1 ⟨rfl, c1⟩
        go_wp2_with fail
        refine (HW.out _ c1).mono ?_
        rintro e w2 ⟨rfl, c2⟩
        go_wp2_with fail
        go_ret
        exact ⟨rfl, c1.trans (c2.mono c1.size)⟩
      · have h1i : decide ((100 : Int) < (len : Int)) = false := decide_eq_false (by omega)
        have h2 : 100 < len' := by
          rcases hbad with c | c | c
          · cases c
          · exact absurd c h1
          · exact c
        have h2i : (100 : Int) < (len' : Int) := by omega
        go_enter Tryz.func4, Tryz.ntmps4
        go_wp2_with fail
        refine (HF.out _ (Below.refl _ _)).mono ?_
        rintro e w1 ⟨rfl, c1⟩
        go_wp2_with fail
        refine (HW.out _ c1).mono ?_
        rintro e w2 ⟨rfl, c2⟩
        go_wp2_with fail
        go_ret
        exact ⟨rfl, c1.trans (c2.mono c1.size)⟩
    · obtain rfl : F = false := by simpa using hF
      go_enter Tryz.func4, Tryz.ntmps4
      go_wp2_with fail
      refine (HF.out _ (Below.refl _ _)).mono ?_
      rintro e w1 ⟨rfl, c1⟩
      go_wp2_with fail
      refine (HW.out _ c1).mono ?_
      rintro e w2 ⟨rfl, c2⟩
      go_wp2_with fail
      go_ret
      exact ⟨rfl, c1.trans (c2.mono c1.size)⟩
  obtain rfl : F = true := by
    cases F
    · exact absurd (.inl rfl) hbad
    · rfl
  have hb1 : ¬ 100 < len := fun c => hbad (.inr (.inl c))
  have hb2 : ¬ 100 < len' := fun c => hbad (.inr (.inr c))
  have hbi : decide ((100 : Int) < (len : Int)) = false := decide_eq_false (by omega)
  have hbj : decide ((100 : Int) < (len' : Int)) = false := decide_eq_false (by omega)
  have hl100 : len ≤ 100 := by omega
  have hli : (len : Int) ≤ 100 := by omega
  have P1 := Lib.hid (fun W (b : Below w.heap.size w W) => evprintAll_any ad len cap L adn ln cpn NS W (env.below b) (hl.below b) (by omega) (hN.below b) hsz hlm)
  have P2 := Lib.hid (fun W (b : Below w.heap.size w W) => r36printAll_any ad len cap L adn ln cpn NS W (hl.below b) hin (by omega) (hN.below b) hsz)
  unfold WriteIs at P1 P2
  obtain ⟨V, hV⟩ : ∃ V : ByteArray, V = ⟨(Lx.prAS NS L).toArray⟩ := ⟨_, rfl⟩
  rw [← hV] at P1 P2
  generalize Lx.prAE NS L = X at *
  have S1 := Lib.hid (fun W (b : Below w.heap.size w W) => evsame_any ad len cap L ad' len' cap' M W (hl.below b) (hl'.below b) (by omega) (by omega))
  have S2 := Lib.hid (fun W (b : Below w.heap.size w W) => r36same_any ad len cap L ad' len' cap' M W (hl.below b) (hl'.below b) (by omega) (by omega))
  have S3 := Lib.hid (fun (A : Option Addr) (n c : Nat) (K : List Lx.EvV) (A' : Option Addr) (c' : Nat) W (h : Lx.IsEvs W A n K) (h' : Lx.IsEvs W A' n K) (hn : n ≤ 1000000000) => r36same_any A n c K A' n c' K W h h' hn hn)
  unfold SameIsE at S1 S2 S3
  have O1 := Lib.hid (fun W (b : Below w.heap.size w W) => evof_any ad len cap L j d W (hl.below b) (by omega))
  have O2 := Lib.hid (fun W (b : Below w.heap.size w W) => r36of_any ad len cap L j d W (hl.below b) (by omega))
  unfold OfPost at O1 O2
  have C1 := Lib.hid (fun (x : Int) W (b : Below w.heap.size w W) => evcount_any ad len cap L x W (hl.below b) (by omega))
  have C2 := Lib.hid (fun (x : Int) W (b : Below w.heap.size w W) => r36count_any ad len cap L x W (hl.below b) (by omega))
  have HL := Lib.hid hl
  have HLN := Lib.hid hl.1
  have HONE := Lib.hid (Lx.evCells_one L)
  have hofl : (Lx.ofE L j d).length ≤ 100 := by
    have h1 : (Lx.ofE L j d).length ≤ L.length := by unfold Lx.ofE; exact List.length_filter_le _ _
    have := hl.1
    omega
  generalize Lx.ofE L j d = K at *
  obtain ⟨nk, hnk⟩ : ∃ nk, K.length = nk := ⟨_, rfl⟩
  rw [hnk] at hofl O1 O2
  have HNK := Lib.hid hnk
  clear hbad hb1 hb2 hl hl' hN hss hsz hlm hV hin hnk
  go_enter Tryz.func4, Tryz.ntmps4
  go_wp2_with fail
  refine (HF.out _ (Below.refl _ _)).mono ?_
  rintro e w3 ⟨rfl, c3⟩
  have B3 := Lib.hid c3
  clear c3 HF
  have R0 := Lib.hid ((World.ownsRow_made (e := 26) (size := 8) (base := w3.heap.size) w3 #[] 0 (Nat.le_refl _) (by unfold maxLen; omega) rfl))
  have z3 := (Below.refl w3.heap.size w3).alloc (Nat.le_refl _) (.cells #[] 26)
  have Z3 := Lib.hid z3
  have HL3 := Lib.hid ((HL.out.below B3.out).below z3)
  clear z3
  go_wp2_with (at_builtin; refine wpList_append_isEvs rfl _ _ 30 rfl w3.heap.size 26 i0 _ 64 Tryz.underlying30 hi hz0 hz1 hz2 rfl _ rfl R0.out ad len cap L rfl HL3.out HONE.out (by unfold maxLen; omega) (by omega) Z3.out.size ?_)
  intro v4 w4 own4 grow4
  have c4 := Z3.out.grown grow4 Z3.out.size (Lx.ownBase R0.out)
  have B4 := Lib.hid (B3.out.trans (c4.mono B3.out.size))
  obtain ⟨A4, cp4, rfl, j4⟩ := Lx.row_isEvs' own4
  have I4 := Lib.hid (j4 HLN.out)
  clear own4 grow4 c4 j4 R0 Z3 HL3 B3
  go_wp2_with fail
  refine (P1.out _ B4.out).mono ?_
  rintro e w5 ⟨rfl, c5⟩
  have I5 := Lib.hid (I4.out.below c5)
  have B5 := Lib.hid (B4.out.trans (c5.mono B4.out.size))
  clear c5 I4 B4 P1
  go_wp2_with fail
  refine (P2.out _ B5.out).mono ?_
  rintro e w6 ⟨rfl, c6⟩
  have I6 := Lib.hid (I5.out.below c6)
  have B6 := Lib.hid (B5.out.trans (c6.mono B5.out.size))
  clear c6 I5 B5 P2
  go_wp2_with fail
  refine (S1.out _ B6.out).mono ?_
  rintro e w7 ⟨i, b, rfl, hd1, c7⟩
  have HD := Lib.hid hd1
  have I7 := Lib.hid (I6.out.below c7)
  have B7 := Lib.hid (B6.out.trans (c7.mono B6.out.size))
  clear hd1 c7 I6 B6 S1
  go_wp2_with fail
  refine (S2.out _ B7.out).mono ?_
  rintro e w8 ⟨i', b', rfl, hd2, c8⟩
  obtain ⟨e1, e2⟩ := Lx.difIs_one HD.out hd2
  subst e1 e2
  have I8 := Lib.hid (I7.out.below c8)
  have B8 := Lib.hid (B7.out.trans (c8.mono B7.out.size))
  clear hd2 c8 I7 B7 S2 HD
  go_wp2_with fail
  refine (O1.out _ B8.out).mono ?_
  rintro e w9 ⟨v9, rfl, own9, c9⟩
  have I9 := Lib.hid (I8.out.below c9)
  have B9 := Lib.hid (B8.out.trans (c9.mono B8.out.size))
  have HGW := Lib.hid (show ∀ g off, 0 < len → A4 = some ⟨g, off, none⟩ → g < w8.heap.size from fun g off h0 e => by
    obtain ⟨g', off', e', lt, _⟩ := I8.out.2 h0
    rw [e'] at e
    have := Option.some.inj e
    injection this with a _ _
    rw [← a]; exact lt)
  have HWZ := Lib.hid B8.out.size
  obtain ⟨A9, cp9, rfl⟩ := Lx.ownSlice own9
  have OWN9 := Lib.hid own9
  clear c9 I8 B8 O1 own9
  go_wp2_with fail
  refine (O2.out _ B9.out).mono ?_
  rintro e w10 ⟨v10, rfl, own10, c10⟩
  obtain ⟨A10, cp10, rfl⟩ := Lx.ownSlice own10
  have I10 := Lib.hid (I9.out.below c10)
  have B10 := Lib.hid (B9.out.trans (c10.mono B9.out.size))
  have OWN10 := Lib.hid (Lx.ownBelowO OWN9.out c10)
  have HS := Lib.hid (S3.out A9 nk cp9 K A10 cp10 w10 (Lx.row_isEvs OWN10.out HNK.out) (Lx.row_isEvs own10 HNK.out) (by omega))
  clear c10 I9 B9 O2 own10 OWN9
  go_wp2_with fail
  refine HS.out.mono ?_
  rintro e w11 ⟨i3, b3, rfl, hd3, c11⟩
  obtain ⟨e1, e2⟩ := Lx.difIs_one hd3 (Lx.difIs_self K)
  subst e1 e2
  have I11 := Lib.hid (I10.out.below c11)
  have B11 := Lib.hid (B10.out.trans (c11.mono B10.out.size))
  have OWN11 := Lib.hid (Lx.ownBelowO OWN10.out c11)
  clear hd3 c11 I10 B10 OWN10 HS
  go_wp2_with fail
  go_loopw [23] (fun iv wr => ∃ k : Nat, k ≤ 12 ∧ iv = .int .i64 ((k : Int) - 1) ∧ Below w11.heap.size w11 wr) (fun iv _ => 12 - (intOf iv + 1).toNat)
  case atStart => exact ⟨0, Nat.zero_le _, rfl, Below.refl _ _⟩
  case round =>
    obtain ⟨k, hk, rfl, hb⟩ := hrel
    have Hb := Lib.hid hb
    have BR := Lib.hid (B11.out.trans (hb.mono B11.out.size))
    clear hb
    by_cases hlt : k < 12
    · have hki : (k : Int) - 1 < 11 := by omega
      have D1 := Lib.hid (C1.out ((k : Int) - 1) wr BR.out)
      go_wp2_with fail
      refine D1.out.mono ?_
      rintro e w12 ⟨rfl, c12⟩
      have D2 := Lib.hid (C2.out ((k : Int) - 1) w12 (BR.out.trans (c12.mono BR.out.size)))
      go_wp2_with fail
      refine D2.out.mono ?_
      rintro e w13 ⟨rfl, c13⟩
      have hb13 := Hb.out.trans ((c12.trans (c13.mono c12.size)).mono Hb.out.size)
      clear c12 c13 D1 D2
      go_wp2_with fail
      go_roundw
      case rel => exact ⟨k + 1, by omega, by congr 1; omega, hb13⟩
      case measure => simp [intOf]; omega
    · obtain rfl : k = 12 := by omega
      rw [show (((12 : Nat) : Int) - 1) = 11 from rfl]
      have I12 := Lib.hid (I11.out.below Hb.out)
      have OWN12 := Lib.hid (Lx.ownBelowO OWN11.out Hb.out)
      clear I11 OWN11 hlt hk C1 C2 B11 Hb
      obtain ⟨W12, hW12⟩ : ∃ W, W = wr := ⟨_, rfl⟩
      rw [← hW12] at BR I12 OWN12
      rw [← hW12]
      clear hW12
      by_cases hnk0 : nk = 0
      · subst hnk0
        go_wp2_with fail
        go_loopw [24] (fun iv wr => iv = .int .i64 0 ∧ wr = W12) (fun _ _ => 0)
        case atStart => exact ⟨rfl, rfl⟩
        case round =>
          obtain ⟨rfl, rfl⟩ := hrel
          have HS := Lib.hid (S3.out ad len cap L A4 cp4 _ (HL.out.below BR.out) I12.out (by omega))
          go_wp2_with fail
          refine HS.out.mono ?_
          rintro e w14 ⟨i4, b4, rfl, hd4, c14⟩
          obtain ⟨e1, e2⟩ := Lx.difIs_one hd4 (Lx.difIs_self L)
          subst e1 e2
          have B14 := Lib.hid (BR.out.trans (c14.mono BR.out.size))
          clear hd4 c14
          go_wp2_with fail
          refine (HW.out _ B14.out).mono ?_
          rintro e w15 ⟨rfl, c15⟩
          go_wp2_with fail
          go_ret
          exact ⟨rfl, B14.out.trans (c15.mono B14.out.size)⟩
      · obtain ⟨ga, ca, hA9, hga, hcl⟩ := Lx.ownPos OWN12.out (by omega)
        obtain ⟨rfl, rfl⟩ : A9 = some ⟨ga, 0, none⟩ ∧ cp9 = ca := by simpa using hA9
        have hgb := Lx.ownBase OWN12.out ga rfl
        have hfz := fun p => OWN12.out.frozenAt p
        have hheld : Held W12 ga (nk * 8) := fun p hp => by
          have hlen : (Lx.evCells K).length = nk * 8 := by rw [Lx.evCells_len, HNK.out]
          exact ⟨_, hcl p _ (List.getElem?_eq_getElem (by rw [hlen]; exact hp))⟩
        have HFZ := Lib.hid hfz
        have HHD := Lib.hid hheld
        have HGB := Lib.hid hgb
        clear hA9 hcl hfz hheld OWN12 hga hgb
        go_wp2_with fail
        go_loopw [24] (fun iv wr => ∃ k : Nat, k ≤ nk ∧ iv = .int .i64 k ∧ Held wr ga (nk * 8) ∧ (∀ p, wr.frozen? ⟨ga, p, none⟩ = false) ∧ Lx.Kp ga W12 wr) (fun iv _ => nk - (intOf iv).toNat)
        case atStart => exact ⟨0, Nat.zero_le _, rfl, HHD.out, HFZ.out, Lx.Kp.refl _ _⟩
        case round =>
          obtain ⟨k, hk, rfl, hh, hf, hkp⟩ := hrel
          have HH := Lib.hid hh
          have HFR := Lib.hid hf
          have HKP := Lib.hid hkp
          clear hh hf hkp
          by_cases hlt : k < nk
          · have hki : (k : Int) < (nk : Int) := by omega
            obtain ⟨u0, c0⟩ := HH.out (k * 8) (by omega)
            obtain ⟨u1, c1⟩ := HH.out (k * 8 + 1) (by omega)
            obtain ⟨u2, c2⟩ := HH.out (k * 8 + 2) (by omega)
            obtain ⟨u3, c3⟩ := HH.out (k * 8 + 3) (by omega)
            obtain ⟨u4, c4⟩ := HH.out (k * 8 + 4) (by omega)
            obtain ⟨u5, c5⟩ := HH.out (k * 8 + 5) (by omega)
            obtain ⟨u6, c6⟩ := HH.out (k * 8 + 6) (by omega)
            obtain ⟨u7, c7⟩ := HH.out (k * 8 + 7) (by omega)
            have f0 := HFR.out (k * 8)
            have f1 := HFR.out (k * 8 + 1)
            have f2 := HFR.out (k * 8 + 2)
            have f3 := HFR.out (k * 8 + 3)
            have f4 := HFR.out (k * 8 + 4)
            have f5 := HFR.out (k * 8 + 5)
            have f6 := HFR.out (k * 8 + 6)
            have f7 := HFR.out (k * 8 + 7)
            go_wp2_with fail
            clear c0 c1 c2 c3 c4 c5 c6 c7 f0 f1 f2 f3 f4 f5 f6 f7
            go_roundw
            case rel => exact ⟨k + 1, by omega, by go_num, HH.out.set.set.set.set.set.set.set.set, fun p => by rw [Lx.set_frozen, Lx.set_frozen, Lx.set_frozen, Lx.set_frozen, Lx.set_frozen, Lx.set_frozen, Lx.set_frozen, Lx.set_frozen]; exact HFR.out p, HKP.out.trans kpSet8⟩
            case measure => simp [intOf]; omega
          · obtain rfl : k = nk := by omega
            have hki : decide ((k : Int) < (k : Int)) = false := decide_eq_false (by omega)
            have hgw : w.heap.size ≤ ga := Nat.le_trans HWZ.out HGB.out
            have BK := Lib.hid (BR.out.trans (HKP.out.1.mono hgw))
            have IK := Lib.hid (evsKp I12.out HKP.out (fun g off h0 e => by
              have h1 := HGW.out g off h0 e
              have h2 := HGB.out
              omega))
            have HS := Lib.hid (S3.out ad len cap L A4 cp4 wr (HL.out.below BK.out) IK.out (by omega))
            clear HH HFR HKP hlt hk hgw
            go_wp2_with fail
            refine HS.out.mono ?_
            rintro e w14 ⟨i4, b4, rfl, hd4, c14⟩
            obtain ⟨e1, e2⟩ := Lx.difIs_one hd4 (Lx.difIs_self L)
            subst e1 e2
            have B14 := Lib.hid (BK.out.trans (c14.mono BK.out.size))
            clear hd4 c14
            go_wp2_with fail
            refine (HW.out _ B14.out).mono ?_
            rintro e w15 ⟨rfl, c15⟩
            go_wp2_with fail
            go_ret
            exact ⟨rfl, B14.out.trans (c15.mono B14.out.size)⟩

set_option maxRecDepth 100000 in
/-- What the walk gives, for every argument that can be read. -/
theorem contract (H : Type) (enc : TypeId × Value → H) (W : World) (base : Nat) (args : Array Value) (ds gs : List (DataW H)) (before : List MemPlace)
    (hval : ∀ (j : Nat) t v, Tryz.f4.params[j]? = some t → args[j]? = some v → Value.okWide Tryz.prog W .any base t v)
    (hW : DataW.Whole enc Tryz.prog Tryz.f4.params.toList Rows.eventListsSpec.vars false W args.toList ds gs before) (hsz : (DataW.weightsEach Tryz.prog (Tryz.f4.params.toList ++ (OpenSpec.ofChange Rows.eventListsSpec).bare.plain.varTypes Tryz.prog) (ds ++ gs)).all (· ≤ reachBytes) = true) (hL : laidMetH Tryz.prog Rows.eventListsRow.laid W) (hsh : W.ShapedOpen Tryz.prog) :
    Calls Tryz.prog 4 args W fun e W' => ∃ v, e = .returned v ∧ Rows.eventListsSpec.post enc Tryz.prog Tryz.f4 false true false false W args v W' := by
  have hW' := hW
  obtain ⟨p, q, hA0, hV, rfl, hfz, hnd⟩ := hW
  have hA : DataW.TrodAll enc Tryz.prog W 0 (fun _ => true) true Tryz.f4.params.toList args.toList ds p := hA0
  rw [Tryz.params4] at hA hval
  obtain ⟨v0, vs0, d0, ds0, p0, q0, hargs, rfl, rfl, h0, r0⟩ := trodAll_cons hA
  obtain ⟨v1, vs1, d1, ds1, p1, q1, rfl, rfl, rfl, h1, r1⟩ := trodAll_cons r0
  obtain ⟨v2, vs2, d2, ds2, p2, q2, rfl, rfl, rfl, h2, r2⟩ := trodAll_cons r1
  obtain ⟨v3, vs3, d3, ds3, p3, q3, rfl, rfl, rfl, h3, r3⟩ := trodAll_cons r2
  obtain ⟨v4, vs4, d4, ds4, p4, q4, rfl, rfl, rfl, h4, r4⟩ := trodAll_cons r3
  obtain ⟨rfl, rfl, rfl⟩ := trodAll_nil r4
  obtain rfl : args = #[v0, v1, v2, v3, v4] := by cases args; simp_all
  obtain ⟨rfl, rfl⟩ := trodVars_none hV
  obtain ⟨a0, len0, cap0, rfl⟩ := okWide_slice Tryz.underlying30 (hval 0 30 v0 rfl rfl)
  have k0 := h0
  have lt0 : ∀ x ∈ p0, x.block < W.heap.size := by obtain ⟨m, hm⟩ := k0; exact DataW.trod_lt m _ _ _ hm
  obtain ⟨⟨L0, z0⟩, n0⟩ : (∃ L, EvsIn W a0 len0 L) ∧ (a0 = none → cap0 = 0) := by
    obtain ⟨fuel, hf⟩ := h0
    exact evsIn_of hf
  obtain ⟨a1, len1, cap1, rfl⟩ := okWide_slice Tryz.underlying30 (hval 1 30 v1 rfl rfl)
  have k1 := h1
  have lt1 : ∀ x ∈ p1, x.block < W.heap.size := by obtain ⟨m, hm⟩ := k1; exact DataW.trod_lt m _ _ _ hm
  obtain ⟨⟨L1, z1⟩, n1⟩ : (∃ L, EvsIn W a1 len1 L) ∧ (a1 = none → cap1 = 0) := by
    obtain ⟨fuel, hf⟩ := h1
    exact evsIn_of hf
  obtain ⟨a2, len2, cap2, rfl⟩ := okWide_slice Tryz.underlying22 (hval 2 22 v2 rfl rfl)
  have k2 := h2
  have lt2 : ∀ x ∈ p2, x.block < W.heap.size := by obtain ⟨m, hm⟩ := k2; exact DataW.trod_lt m _ _ _ hm
  have z2 : ∃ ss, IsStrs W a2 len2 cap2 ss := by
    obtain ⟨fuel, hf⟩ := h2
    refine isStrs_of hf (fun x hx => ?_)
    have := List.all_eq_true.1 hsz x (DataW.weights_mem_each (j := 2) (t := 22) rfl rfl x hx)
    simpa using this
  obtain ⟨s3, rfl, rfl, rfl, w3⟩ := open_int Tryz.underlying3 (hval 3 3 v3 rfl rfl) h3
  obtain ⟨s4, rfl, rfl, rfl, w4⟩ := open_int Tryz.underlying2 (hval 4 2 v4 rfl rfl) h4
  clear hA0
  refine (walk W a0 len0 cap0 L0 z0 n0 a1 len1 cap1 L1 z1 n1 a2 len2 cap2 z2 s3 w3 s4 w4 (env_of hL hsh)).mono fun e W' ⟨he, bel⟩ => ?_
  subst he
  exact ⟨_, rfl, _, _, _, [], _, [], hW', trodAll_mk1 (shut_bool Tryz.underlying4 _), (trodAll_cons_mk (Below.trod laidOut (by kernel_rfl) (of_decide_eq_true (by kernel_rfl)) k0 bel lt0) (trodAll_cons_mk (Below.trod laidOut (by kernel_rfl) (of_decide_eq_true (by kernel_rfl)) k1 bel lt1) (trodAll_cons_mk (Below.trod laidOut (by kernel_rfl) (of_decide_eq_true (by kernel_rfl)) k2 bel lt2) (trodAll_cons_mk (shut_int Tryz.underlying3 w3) (trodAll_cons_mk (shut_int Tryz.underlying2 w4) trodAll_mk0))))), rfl, bel.frame _, fun h => by cases h⟩

set_option maxRecDepth 100000 in
theorem reads (os : Os) {H : Type} (enc : TypeId × Value → H) : ∃ places, DataW.whole enc Tryz.prog ((World.laidAll Tryz.prog os Rows.eventReadsRow.laid).forCall (fun _ _ => 0) ⟨#[], #[.slice none 0 0, .slice none 0 0, .slice none 0 0, .int .i64 0, .int .i64 0], []⟩).memory Tryz.f4.params.toList Rows.eventListsSpec.vars false (#[.slice none 0 0, .slice none 0 0, .slice none 0 0, .int .i64 0, .int .i64 0] : Array Value).toList 8 = some ([.nil, .nil, .nil, .lit (.int .i64 0), .lit (.int .i64 0)], [], places) :=
  ⟨[], by kernel_rfl⟩

set_option maxRecDepth 100000 in
theorem lifted (os : Os) (started : os.Started) (H : Type) (enc : TypeId × Value → H) (F : Stop.Interp) :
    ReturnsInHanded {} Tryz.checked os 4 .any ((OpenSpec.ofChange Rows.eventListsSpec).preRow enc Tryz.prog Tryz.f4 Rows.eventListsRow.domain false Rows.eventListsRow.laid) (((OpenSpec.ofChange Rows.eventListsSpec).at F).post enc Tryz.prog Tryz.f4 false true false false) := by
  obtain ⟨places, hx⟩ := reads os enc
  refine returnsInHanded_of_row (C := Tryz.checked) (s := OpenSpec.ofChange Rows.eventListsSpec) own started (by kernel_rfl) Tryz.func4
    (witness_row_atRef (enc := enc) (C := Tryz.checked) false (World.laidAll Tryz.prog os Rows.eventReadsRow.laid) #[.slice none 0 0, .slice none 0 0, .slice none 0 0, .int .i64 0, .int .i64 0] (World.laidAll_os _ _ _) (door_vars os _) (door_rest os _) (by kernel_rfl)
      (OpenSpec.preRow_of_cond 8 hx (by kernel_rfl) (fun k hk => by cases hk) (by kernel_rfl) (door_laid os _))) ?_
  intro W base args ds gs before hval hW _ _ hsz hL hsh _
  exact contract H enc W base args ds gs before hval hW hsz hL hsh

theorem said : Rows.EventListsSaid :=
  OpenClaim.holds_of_cond 4 Tryz.f4 rfl rfl rfl rfl rfl rfl rfl ⟨rfl, rfl, rfl, rfl, rfl⟩ rfl rfl rfl rfl rfl (by kernel_rfl) Tryz.func4 (by kernel_rfl)
    (of_decide_eq_true (by kernel_rfl)) (by unfold Func.isWrapper; first | (rw [if_pos (by decide +kernel)]; kernel_rfl) | (rw [if_neg (by decide +kernel)]; exact ⟨rfl, rfl⟩))
    (fun os started H enc _ F => by rw [OpenClaim.pre_eq_preRow]; exact lifted os started H enc F)

theorem plain (f : FuncId) (fn : Func) (hf : Tryz.pinned.checked.prog.funcNamed "wakeman/wakemanlaw36.EventLists" = some f) (hfn : Tryz.pinned.checked.prog.funcs[f]? = some fn) :
    Rows.eventListsCard.stood.looks = Tryz.pinned.checked.prog.looks [] ∧ ∀ (j : Nat) t, fn.params[j]? = some t → Tryz.pinned.checked.prog.wantsStandIn t = false := by
  obtain rfl : f = 4 := Option.some.inj ((show Tryz.prog.funcNamed "wakeman/wakemanlaw36.EventLists" = some 4 by kernel_rfl).symm.trans hf) |>.symm
  obtain rfl : fn = Tryz.f4 := (Option.some.inj (Tryz.func4.symm.trans hfn)).symm
  refine ⟨by kernel_rfl, fun j t ht => ?_⟩
  rw [Tryz.params4] at ht
  have hm : t ∈ [30, 22, 3, 2] := by
    have := Array.mem_of_getElem? ht
    simpa using this
  have hall : ([30, 22, 3, 2].all fun u => !Tryz.prog.wantsStandIn u) = true := by kernel_rfl
  exact (show Tryz.prog.wantsStandIn t = false by simpa using List.all_eq_true.1 hall t hm)

/-- The card. -/
theorem card : Rows.EventListsCardSaid :=
  Claim7.holds_tied_plain_at .later [] _ _ _ _ said (fun _ h => by cases h) (by kernel_rfl) (fun _ h => by cases h) eventLists_row_tie rfl ⟨rfl, rfl⟩ (by kernel_rfl) rfl plain (by kernel_rfl)
end Go.Proofs.YtmpcekpdnikghaaGreatDoor.lawEventLists
