/- EventCounts: for every list of events the law returns true; what the call was given reads as before. Conditions: the eight listed variables lie as the program lays them. -/
import Derived.Test.YtmpcekpdnikghaaDoorEvFrame
import Derived.Test.YtmpcekpdnikghaaDoorEvFr
import Derived.Test.YtmpcekpdnikghaaDoorEvO
import Derived.Test.YtmpcekpdnikghaaDoorEvCn
import Derived.Deep.QuietTactic
import Derived.BigQuiet
import Derived.SevenTiedAt
namespace Go.Proofs.YtmpcekpdnikghaaDoor.lawEventCounts
open Go.ChangeShapes Go.WideShapes Go.ChangeAt Go.RowKit
set_option maxRecDepth 100000 in
set_option maxHeartbeats 3200000 in
theorem walk (w : World) (ad : Option Addr) (len cap : Nat) (L : List Lx.EvV) (z : EvsIn w ad len L) (_n : ad = none → cap = 0) (env : EEnv w) :
    Calls Tryd.prog 8 #[.slice ad len cap] w fun e w' => e = .returned (.bool true) ∧ Below w.heap.size w w' := by
  obtain ⟨hl, -, -⟩ := z
  have HW := Lib.hid (fun W (b : Below w.heap.size w W) => evworks_any W (env.below b))
  by_cases hbig : 60 < len
  · have hbi : (60 : Int) < (len : Int) := by omega
    clear hl
    go_enter Tryd.func8, Tryd.ntmps8
    go_wp2_with fail
    refine (HW.out _ (Below.refl _ _)).mono ?_
    rintro e w1 ⟨rfl, c1⟩
    go_wp2_with fail
    go_ret
    exact ⟨rfl, c1⟩
  have hbi : (len : Int) ≤ 60 := by omega
  have hbd : decide ((60 : Int) < (len : Int)) = false := decide_eq_false (by omega)
  have hl60 : len ≤ 60 := by omega
  have HC := Lib.hid (fun (x : Int) W (b : Below w.heap.size w W) => evcount_any ad len cap L x W (hl.below b) (by omega))
  have HO := Lib.hid (fun (j d : Int) W (b : Below w.heap.size w W) => evof_any ad len cap L j d W (hl.below b) (by omega))
  unfold OfPost at HO
  have HLN := Lib.hid hl.1
  have HL := Lib.hid hl
  have HcL := Lib.hid (fun a b => Lx.cR_le L a b)
  clear hl hbig env
  go_enter Tryd.func8, Tryd.ntmps8
  go_wp2_with fail
  go_loopw [3, 6] (fun c i wr => ∃ k : Nat, k ≤ len ∧ i = .int .i64 k ∧ c = .int .i64 (Lx.cR (L.take k) 1 8 : Nat) ∧ Below w.heap.size w wr) (fun _ i _ => len - (intOf i).toNat)
  case atStart => exact ⟨0, Nat.zero_le _, rfl, rfl, Below.refl _ _⟩
  case round =>
    obtain ⟨k, hk, rfl, rfl, hb⟩ := hrel
    have Hb := Lib.hid hb
    clear hb
    by_cases hlt : k < len
    · have hki : (k : Int) < (len : Int) := by omega
      obtain ⟨o, ho⟩ : ∃ o, L[k]? = some o := ⟨_, List.getElem?_eq_getElem (by rw [HLN.out]; exact hlt)⟩
      obtain ⟨g, off, rfl, lt, hc⟩ := (HL.out.below Hb.out).2 (by omega)
      have hst := Lx.cR_take 1 8 ho
      have hle := Lx.cR_le (L.take k) 1 8
      have hlk : (L.take k).length ≤ k := List.length_take_le _ _
      have HST := Lib.hid hst
      generalize Lx.cR (L.take k) 1 8 = q at *
      obtain ⟨ok, ot, oj, od, oa, or, oy, on⟩ := o
      have c0 : wr.cell? ⟨g, off + k * 8, none⟩ = some (.int .i64 ok) := hc k _ ho 0 _ rfl
      clear hc ho hst
      by_cases h1 : 1 ≤ ok
      · have d1 : decide (1 ≤ ok) = true := decide_eq_true h1
        by_cases h2 : ok ≤ 8
        · have d2 : decide (ok ≤ 8) = true := decide_eq_true h2
          have hs := HST.out
          rw [if_pos (by unfold Lx.inK; dsimp only; rw [d1, d2]; rfl)] at hs
          have HS := Lib.hid hs
          clear hs
          go_wp2_with fail
          go_roundw
          case rel => exact ⟨k + 1, by omega, by go_num, by rw [HS.out]; go_num, Hb.out⟩
          case measure => simp [intOf]; omega
        · have d2 : decide (ok ≤ 8) = false := decide_eq_false h2
          have hs := HST.out
          rw [if_neg (by unfold Lx.inK; dsimp only; rw [d1, d2]; simp)] at hs
          have HS := Lib.hid hs
          clear hs
          go_wp2_with fail
          go_roundw
          case rel => exact ⟨k + 1, by omega, by go_num, by rw [HS.out]; rfl, Hb.out⟩
          case measure => simp [intOf]; omega
      · have d1 : decide (1 ≤ ok) = false := decide_eq_false h1
        have hs := HST.out
        rw [if_neg (by unfold Lx.inK; dsimp only; rw [d1]; simp)] at hs
        have HS := Lib.hid hs
        clear hs
        go_wp2_with fail
        go_roundw
        case rel => exact ⟨k + 1, by omega, by go_num, by rw [HS.out]; rfl, Hb.out⟩
        case measure => simp [intOf]; omega
    · obtain rfl : k = len := by omega
      have hki : decide ((k : Int) < (k : Int)) = false := decide_eq_false (by omega)
      have ht : L.take k = L := List.take_of_length_le (by rw [HLN.out]; exact Nat.le_refl _)
      rw [ht]
      obtain ⟨V, hV⟩ : ∃ V, Lx.cR L 1 8 = V := ⟨_, rfl⟩
      rw [hV]
      have HV := Lib.hid hV
      have hVl : V ≤ k := by rw [← hV, ← HLN.out]; exact Lx.cR_le _ _ _
      clear ht hV
      go_wp2_with fail
      go_loopw [4, 7] (fun s i wr2 => ∃ k2 : Nat, 1 ≤ k2 ∧ k2 ≤ 9 ∧ i = .int .i64 k2 ∧ s = .int .i64 (Lx.cR L 1 ((k2 : Int) - 1) : Nat) ∧ Below w.heap.size w wr2) (fun _ i _ => 9 - (intOf i).toNat)
      case atStart => exact ⟨1, by omega, by omega, rfl, by show _ = Value.int .i64 ((Lx.cR L 1 0 : Nat) : Int); rw [Lx.cR_none]; rfl, Hb.out⟩
      case round =>
        obtain ⟨k2, hk1, hk2, rfl, rfl, hb2⟩ := hrel
        have Hb2 := Lib.hid hb2
        clear hb2
        by_cases hlt2 : k2 ≤ 8
        · have hki2 : (k2 : Int) ≤ 8 := by omega
          have hst := Lx.cR_step (a := 1) (b := (k2 : Int)) (by omega) L
          have hle := HcL.out 1 (k2 : Int)
          rw [HLN.out] at hle
          have HCK := Lib.hid (HC.out (k2 : Int))
          generalize Lx.cR L 1 ((k2 : Int) - 1) = q1 at *
          generalize Lx.cntE L (k2 : Int) = q2 at *
          have HST := Lib.hid hst
          rw [hst] at hle
          clear hst
          go_wp2_with fail
          refine (HCK.out _ Hb2.out).mono ?_
          rintro e w3 ⟨rfl, c3⟩
          have B3 := Lib.hid (Hb2.out.trans (c3.mono Hb2.out.size))
          clear c3
          go_wp2_with fail
          go_roundw
          case rel => exact ⟨k2 + 1, by omega, by omega, by go_num, by rw [show ((k2 + 1 : Nat) : Int) - 1 = (k2 : Int) by omega, HST.out]; go_num, B3.out⟩
          case measure => simp [intOf]; omega
        · obtain rfl : k2 = 9 := by omega
          rw [show ((9 : Nat) : Int) - 1 = 8 from rfl, HV.out, show ((9 : Nat) : Int) = 9 from rfl]
          go_wp2_with fail
          go_loopw [5, 8] (fun s i wr3 => ∃ k3 : Nat, k3 ≤ k ∧ i = .int .i64 k3 ∧ s = .int .i64 (Lx.cR (L.take k3) 1 5 : Nat) ∧ Below w.heap.size w wr3) (fun _ i _ => k - (intOf i).toNat)
          case atStart => exact ⟨0, Nat.zero_le _, rfl, rfl, Hb2.out⟩
          case round =>
            obtain ⟨k3, hk3, rfl, rfl, hb3⟩ := hrel
            have Hb3 := Lib.hid hb3
            clear hb3
            by_cases hlt3 : k3 < k
            · have hki3 : (k3 : Int) < (k : Int) := by omega
              obtain ⟨o, ho⟩ : ∃ o, L[k3]? = some o := ⟨_, List.getElem?_eq_getElem (by rw [HLN.out]; exact hlt3)⟩
              obtain ⟨g, off, rfl, lt, hc⟩ := HL.out.2 (by omega)
              have hlt0 : g < w.heap.size := lt
              have hst := Lx.cR_take 1 5 ho
              have hle := Lx.cR_le (L.take k3) 1 5
              have hlk : (L.take k3).length ≤ k3 := List.length_take_le _ _
              have HST := Lib.hid hst
              generalize Lx.cR (L.take k3) 1 5 = q at *
              have HO2 := Lib.hid (HO.out o.j o.d)
              obtain ⟨ok, ot, oj, od, oa, or, oy, on⟩ := o
              dsimp only at HO2
              have hS : ∀ wx, Below w.heap.size w wx → Below w.heap.size w wx ∧ wx.cell? ⟨g, off + k3 * 8 + 2, none⟩ = some (.int .i64 oj) ∧ wx.cell? ⟨g, off + k3 * 8 + 3, none⟩ = some (.int .i64 od) ∧ wx.cell? ⟨g, off + k3 * 8, none⟩ = some (.int .i64 ok) := fun wx b =>
                ⟨b, (b.cell (p := ⟨g, off + k3 * 8 + 2, none⟩) lt).trans (hc k3 _ ho 2 _ rfl), (b.cell (p := ⟨g, off + k3 * 8 + 3, none⟩) lt).trans (hc k3 _ ho 3 _ rfl), (b.cell (p := ⟨g, off + k3 * 8, none⟩) lt).trans (hc k3 _ ho 0 _ rfl)⟩
              have HS := Lib.hid hS
              clear hS hc ho hst lt
              go_wp2_with fail
              have hS0 := HS.out _ (Hb3.out.drew)
              refine wp_region_held_drew (S := (fun wx => Below w.heap.size w wx ∧ wx.cell? ⟨g, off + k3 * 8 + 2, none⟩ = some (.int .i64 oj) ∧ wx.cell? ⟨g, off + k3 * 8 + 3, none⟩ = some (.int .i64 od) ∧ wx.cell? ⟨g, off + k3 * 8, none⟩ = some (.int .i64 ok))) (by kernel_rfl) ?_ (fun hHeld => ?_)
              · exact hS0
              refine' wpAnyH_take (i := 0) (oi := _) (v := _) ?hi0r1 (by kernel_rfl) (by kernel_rfl) (by kernel_rfl) ?hq0r1 ?hy0r1 (by assumption) ?re0r1
              case hi0r1 => simp only [List.getElem?_toArray, List.getElem?_cons_zero]; rfl
              case hq0r1 => exact fun _ _ _ h => h
              case hy0r1 =>
                refine Or.inl ⟨by rfl, ?_⟩
                intro w hSw; (try dsimp only at hSw); go_simp; try with_reducible rfl
              try simp only [Act.put, List.setIfInBounds_toArray, List.set_cons_zero, List.set_cons_succ]
              refine' wpAnyH_take (i := 1) (oi := _) (v := _) ?hi1r1 (by kernel_rfl) (by kernel_rfl) (by kernel_rfl) ?hq1r1 ?hy1r1 (by assumption) ?re1r1
              case hi1r1 => simp only [List.getElem?_toArray, List.getElem?_cons_succ, List.getElem?_cons_zero]; rfl
              case hq1r1 => exact fun _ _ _ h => h
              case hy1r1 =>
                refine Or.inl ⟨by rfl, ?_⟩
                intro w hSw; (try dsimp only at hSw); go_simp; try with_reducible rfl
              try simp only [Act.put, List.setIfInBounds_toArray, List.set_cons_zero, List.set_cons_succ]
              refine' wpAnyH_take (i := 2) (oi := _) (v := _) ?hi2r1 (by kernel_rfl) (by kernel_rfl) (by kernel_rfl) ?hq2r1 ?hy2r1 (by assumption) ?re2r1
              case hi2r1 => simp only [List.getElem?_toArray, List.getElem?_cons_succ, List.getElem?_cons_zero]; rfl
              case hq2r1 => exact fun _ _ _ h => h
              case hy2r1 =>
                refine Or.inl ⟨by rfl, ?_⟩
                intro w hSw; (try dsimp only at hSw); go_simp; try with_reducible rfl
              try simp only [Act.put, List.setIfInBounds_toArray, List.set_cons_zero, List.set_cons_succ]
              refine' wpAnyH_take (i := 3) (oi := _) (v := _) ?hi3r1 (by kernel_rfl) (by kernel_rfl) (by kernel_rfl) ?hq3r1 ?hy3r1 (by assumption) ?re3r1
              case hi3r1 => simp only [List.getElem?_toArray, List.getElem?_cons_succ, List.getElem?_cons_zero]; rfl
              case hq3r1 => exact fun _ _ _ h => h
              case hy3r1 =>
                refine Or.inl ⟨by rfl, ?_⟩
                intro w hSw; (try dsimp only at hSw); go_simp; try with_reducible rfl
              try simp only [Act.put, List.setIfInBounds_toArray, List.set_cons_zero, List.set_cons_succ]
              refine' wpAnyH_take (i := 4) (oi := _) (v := _) ?hi4r1 (by kernel_rfl) (by kernel_rfl) (by kernel_rfl) ?hq4r1 ?hy4r1 (by assumption) ?re4r1
              case hi4r1 => simp only [List.getElem?_toArray, List.getElem?_cons_succ, List.getElem?_cons_zero]; rfl
              case hq4r1 => exact fun _ _ _ h => h
              case hy4r1 =>
                refine Or.inl ⟨by rfl, ?_⟩
                intro w hSw; (try dsimp only at hSw); go_simp; try with_reducible rfl
              try simp only [Act.put, List.setIfInBounds_toArray, List.set_cons_zero, List.set_cons_succ]
              refine' wpAnyH_take (i := 5) (oi := _) (v := _) ?hi5r1 (by kernel_rfl) (by kernel_rfl) (by kernel_rfl) ?hq5r1 ?hy5r1 (by assumption) ?re5r1
              case hi5r1 => simp only [List.getElem?_toArray, List.getElem?_cons_succ, List.getElem?_cons_zero]; rfl
              case hq5r1 => exact fun _ _ _ h => h
              case hy5r1 =>
                refine Or.inl ⟨by rfl, ?_⟩
                intro w hSw; (try dsimp only at hSw); go_simp; try with_reducible rfl
              try simp only [Act.put, List.setIfInBounds_toArray, List.set_cons_zero, List.set_cons_succ]
              refine' wpAnyH_take (i := 6) (oi := _) (v := _) ?hi6r1 (by kernel_rfl) (by kernel_rfl) (by kernel_rfl) ?hq6r1 ?hy6r1 (by assumption) ?re6r1
              case hi6r1 => simp only [List.getElem?_toArray, List.getElem?_cons_succ, List.getElem?_cons_zero]; rfl
              case hq6r1 => exact fun _ _ _ h => h
              case hy6r1 =>
                refine Or.inl ⟨by rfl, ?_⟩
                intro w hSw; (try dsimp only at hSw); go_simp; try with_reducible rfl
              try simp only [Act.put, List.setIfInBounds_toArray, List.set_cons_zero, List.set_cons_succ]
              refine' wpAnyH_take (i := 7) (oi := _) (v := _) ?hi7r1 (by kernel_rfl) (by kernel_rfl) (by kernel_rfl) ?hq7r1 ?hy7r1 (by assumption) ?re7r1
              case hi7r1 => simp only [List.getElem?_toArray, List.getElem?_cons_succ, List.getElem?_cons_zero]; rfl
              case hq7r1 => exact fun _ _ _ h => h
              case hy7r1 =>
                refine Or.inl ⟨by rfl, ?_⟩
                intro w hSw; (try dsimp only at hSw); go_simp; try with_reducible rfl
              try simp only [Act.put, List.setIfInBounds_toArray, List.set_cons_zero, List.set_cons_succ]
              refine' wpAnyH_take (i := 8) (oi := _) (v := _) ?hi8r1 (by kernel_rfl) (by kernel_rfl) (by kernel_rfl) ?hq8r1 ?hy8r1 (by assumption) ?re8r1
              case hi8r1 => simp only [List.getElem?_toArray, List.getElem?_cons_succ, List.getElem?_cons_zero]; rfl
              case hq8r1 => exact fun _ _ _ h => h
              case hy8r1 =>
                refine Or.inl ⟨by rfl, ?_⟩
                intro w hSw; (try dsimp only at hSw); go_simp; try with_reducible rfl
              try simp only [Act.put, List.setIfInBounds_toArray, List.set_cons_zero, List.set_cons_succ]
              refine' wpAnyH_take (i := 9) (oi := _) (v := _) ?hi9r1 (by kernel_rfl) (by kernel_rfl) (by kernel_rfl) ?hq9r1 ?hy9r1 (by assumption) ?re9r1
              case hi9r1 => simp only [List.getElem?_toArray, List.getElem?_cons_succ, List.getElem?_cons_zero]; rfl
              case hq9r1 => exact fun _ _ _ h => h
              case hy9r1 =>
                refine Or.inl ⟨by rfl, ?_⟩
                intro w hSw; (try dsimp only at hSw); go_simp; try with_reducible rfl
              try simp only [Act.put, List.setIfInBounds_toArray, List.set_cons_zero, List.set_cons_succ]
              refine' wpAnyH_take (i := 10) (oi := _) (v := _) ?hi10r1 (by kernel_rfl) (by kernel_rfl) (by kernel_rfl) ?hq10r1 ?hy10r1 (by assumption) ?re10r1
              case hi10r1 => simp only [List.getElem?_toArray, List.getElem?_cons_succ, List.getElem?_cons_zero]; rfl
              case hq10r1 => exact fun _ _ _ h => h
              case hy10r1 =>
                refine Or.inl ⟨by rfl, ?_⟩
                intro w hSw; (try dsimp only at hSw); go_simp; try with_reducible rfl
              try simp only [Act.put, List.setIfInBounds_toArray, List.set_cons_zero, List.set_cons_succ]
              refine wpAnyH_ready (rs := [11]) (by kernel_rfl) (by simp) ?_
              refine' AllReadyH.cons (o := _) ?hi11r1 (fun K hK => ?st11r1) AllReadyH.nil
              case hi11r1 => simp only [List.getElem?_toArray, List.getElem?_cons_succ, List.getElem?_cons_zero]; rfl
              go_simp
              go_at_call 20; refine (HO2.out _ hHeld.1).mono ?_; rintro e w8 ⟨v8, rfl, own8, c8⟩; have k8 := HS.out w8 (hHeld.1.trans (c8.mono hHeld.1.size)); obtain ⟨A8, cp8, rfl, j8⟩ := Lx.row_isEvs' own8; replace j8 := j8 rfl
              try go_wp2_with fail
              refine hK.out _ _ ?_ (fun hHeld => ?_)
              · exact k8
              clear hK K
              try simp only [Act.put, List.setIfInBounds_toArray, List.set_cons_zero, List.set_cons_succ]
              refine' wpAnyH_take (i := 12) (oi := _) (v := _) ?hi12r1 (by kernel_rfl) (by kernel_rfl) (by kernel_rfl) ?hq12r1 ?hy12r1 (by assumption) ?re12r1
              case hi12r1 => simp only [List.getElem?_toArray, List.getElem?_cons_succ, List.getElem?_cons_zero]; rfl
              case hq12r1 => exact fun _ _ _ h => h
              case hy12r1 =>
                refine Or.inl ⟨by rfl, ?_⟩
                intro w hSw; (try dsimp only at hSw); go_simp; try with_reducible rfl
              try simp only [Act.put, List.setIfInBounds_toArray, List.set_cons_zero, List.set_cons_succ]
              refine wpAnyH_done (by kernel_rfl) ?_ _
              obtain ⟨b8, -, -, -⟩ := k8
              have B8 := Lib.hid b8
              have HMem := Lib.hid (show ∀ p ∈ Lx.ofE L oj od, 1 ≤ p.k ∧ p.k ≤ 5 ∧ p.j = oj ∧ p.d = od from fun p hp => Lx.ofE_mem hp)
              have HM := Lib.hid (show Lx.ofE L oj od = L.filter (Lx.isOf oj od) from rfl)
              have HJ := Lib.hid j8
              clear b8 own8 c8 j8 hS0 hHeld HO2
              generalize Lx.ofE L oj od = M at *
              obtain ⟨q8, hq8⟩ : ∃ q, M.length = q := ⟨_, rfl⟩
              rw [hq8] at HJ ⊢
              have hq8l : q8 ≤ k := by rw [← hq8, HM.out, ← HLN.out]; exact List.length_filter_le _ _
              have HQ8 := Lib.hid hq8
              clear hq8
              go_wp2_with fail
              go_loopw [11] (fun i wr4 => ∃ k4 : Nat, k4 ≤ q8 ∧ i = .int .i64 k4 ∧ Below w8.heap.size w8 wr4) (fun i _ => q8 - (intOf i).toNat)
              case atStart => exact ⟨0, Nat.zero_le _, rfl, by first | exact Below.refl _ _ | exact (Below.refl _ _).drew⟩
              case round =>
                obtain ⟨k4, hk4, rfl, hb4⟩ := hrel
                have Hb4 := Lib.hid hb4
                clear hb4
                by_cases hlt4 : k4 < q8
                · have hki4 : (k4 : Int) < (q8 : Int) := by omega
                  obtain ⟨p, hp⟩ : ∃ p, M[k4]? = some p := ⟨_, List.getElem?_eq_getElem (by rw [HQ8.out]; exact hlt4)⟩
                  obtain ⟨g8, off8, rfl, lt8, hc8⟩ := (HJ.out.below Hb4.out).2 (by omega)
                  obtain ⟨m1, m2, m3, m4⟩ := HMem.out p (List.mem_of_getElem? hp)
                  have b4 := B8.out.trans (Hb4.out.mono B8.out.size)
                  obtain ⟨-, q2, q3, -⟩ := HS.out _ b4
                  obtain ⟨pk, pt, pj, pd, pa, pr, py, pn⟩ := p
                  dsimp only at m1 m2 m3 m4
                  have p0 : wr.cell? ⟨g8, off8 + k4 * 8, none⟩ = some (.int .i64 pk) := hc8 k4 _ hp 0 _ rfl
                  have p2 : wr.cell? ⟨g8, off8 + k4 * 8 + 2, none⟩ = some (.int .i64 oj) := by rw [← m3]; exact hc8 k4 _ hp 2 _ rfl
                  have p3 : wr.cell? ⟨g8, off8 + k4 * 8 + 3, none⟩ = some (.int .i64 od) := by rw [← m4]; exact hc8 k4 _ hp 3 _ rfl
                  have d1 : decide (pk < 1) = false := decide_eq_false (by omega)
                  have d2 : decide (5 < pk) = false := decide_eq_false (by omega)
                  clear hc8 hp m1 m2 m3 m4 b4
                  go_wp2_with fail
                  go_quiet (fail)
                  go_wp2_with fail
                  go_roundw
                  case rel => exact ⟨k4 + 1, by omega, by go_num, Hb4.out.trans (below_drewN _ _ _)⟩
                  case measure => simp [intOf]; omega
                · obtain rfl : k4 = q8 := by omega
                  have hki4 : decide ((k4 : Int) < (k4 : Int)) = false := decide_eq_false (by omega)
                  go_wp2_with fail
                  go_loopw [10, 12] (fun own i wr5 => ∃ k5 : Nat, k5 ≤ k ∧ i = .int .i64 k5 ∧ own = .int .i64 (((L.take k5).filter (Lx.isOf oj od)).length : Nat) ∧ Below w8.heap.size w8 wr5) (fun _ i _ => k - (intOf i).toNat)
                  case atStart => exact ⟨0, Nat.zero_le _, rfl, rfl, Hb4.out⟩
                  case round =>
                    obtain ⟨k5, hk5, rfl, rfl, hb5⟩ := hrel
                    have Hb5 := Lib.hid hb5
                    clear hb5
                    by_cases hlt5 : k5 < k
                    · have hki5 : (k5 : Int) < (k : Int) := by omega
                      obtain ⟨u, hu⟩ : ∃ u, L[k5]? = some u := ⟨_, List.getElem?_eq_getElem (by rw [HLN.out]; exact hlt5)⟩
                      have b5 := B8.out.trans (Hb5.out.mono B8.out.size)
                      obtain ⟨-, hc5⟩ := Lx.isEvs_cells (HL.out.below b5) (by omega)
                      obtain ⟨-, s2, s3, -⟩ := HS.out _ b5
                      have HST5 := Lib.hid (Lx.filt_take (p := Lx.isOf oj od) hu)
                      have hget := fun e => Lx.filt_get (p := Lx.isOf oj od) hu e
                      rw [← HM.out] at hget
                      have hq5l := Lx.filt_len (Lx.isOf oj od) L k5
                      obtain ⟨q5, hq5⟩ : ∃ q, ((L.take k5).filter (Lx.isOf oj od)).length = q := ⟨_, rfl⟩
                      rw [hq5] at hget hq5l ⊢
                      have Hq5 := Lib.hid hq5
                      have HGET := Lib.hid hget
                      obtain ⟨uk, ut, uj, ud, ua, ur, uy, un⟩ := u
                      have v0 : wr.cell? ⟨g, off + k5 * 8, none⟩ = some (.int .i64 uk) := hc5 k5 _ hu 0 _ rfl
                      have v1 : wr.cell? ⟨g, off + k5 * 8 + 1, none⟩ = some (.int .i64 ut) := hc5 k5 _ hu 1 _ rfl
                      have v2 : wr.cell? ⟨g, off + k5 * 8 + 2, none⟩ = some (.int .i64 uj) := hc5 k5 _ hu 2 _ rfl
                      have v3 : wr.cell? ⟨g, off + k5 * 8 + 3, none⟩ = some (.int .i64 ud) := hc5 k5 _ hu 3 _ rfl
                      have v4 : wr.cell? ⟨g, off + k5 * 8 + 4, none⟩ = some (.int .i64 ua) := hc5 k5 _ hu 4 _ rfl
                      have v5 : wr.cell? ⟨g, off + k5 * 8 + 5, none⟩ = some (.int .i64 ur) := hc5 k5 _ hu 5 _ rfl
                      have v6 : wr.cell? ⟨g, off + k5 * 8 + 6, none⟩ = some (.int .i64 uy) := hc5 k5 _ hu 6 _ rfl
                      have v7 : wr.cell? ⟨g, off + k5 * 8 + 7, none⟩ = some (.int .i64 un) := hc5 k5 _ hu 7 _ rfl
                      clear hc5 hu b5 hget hq5
                      by_cases h1 : 1 ≤ uk
                      · have d1 : decide (1 ≤ uk) = true := decide_eq_true h1
                        by_cases h2 : uk ≤ 5
                        · have d2 : decide (uk ≤ 5) = true := decide_eq_true h2
                          by_cases h3 : uj = oj
                          · have d3 : (uj == oj) = true := by rw [beq_iff_eq]; exact h3
                            by_cases h4 : ud = od
                            · have d4 : (ud == od) = true := by rw [beq_iff_eq]; exact h4
                              have hy : Lx.isOf oj od ⟨uk, ut, uj, ud, ua, ur, uy, un⟩ = true := by unfold Lx.isOf; dsimp only; rw [d1, d2, d3, d4]; rfl
                              have hs := Lx.cnt_more (HST5.out.1 hy)
                              have hm5 := HGET.out hy
                              have HS5 := Lib.hid hs
                              have hq5m : q5 < k4 := by rw [← HQ8.out]; exact (List.getElem?_eq_some_iff.1 hm5).1
                              obtain ⟨g8, off8, rfl, lt8, hc8⟩ := (HJ.out.below Hb5.out).2 (by omega)
                              have x0 : wr.cell? ⟨g8, off8 + q5 * 8, none⟩ = some (.int .i64 uk) := hc8 q5 _ hm5 0 _ rfl
                              have x1 : wr.cell? ⟨g8, off8 + q5 * 8 + 1, none⟩ = some (.int .i64 ut) := hc8 q5 _ hm5 1 _ rfl
                              have x2 : wr.cell? ⟨g8, off8 + q5 * 8 + 2, none⟩ = some (.int .i64 uj) := hc8 q5 _ hm5 2 _ rfl
                              have x3 : wr.cell? ⟨g8, off8 + q5 * 8 + 3, none⟩ = some (.int .i64 ud) := hc8 q5 _ hm5 3 _ rfl
                              have x4 : wr.cell? ⟨g8, off8 + q5 * 8 + 4, none⟩ = some (.int .i64 ua) := hc8 q5 _ hm5 4 _ rfl
                              have x5 : wr.cell? ⟨g8, off8 + q5 * 8 + 5, none⟩ = some (.int .i64 ur) := hc8 q5 _ hm5 5 _ rfl
                              have x6 : wr.cell? ⟨g8, off8 + q5 * 8 + 6, none⟩ = some (.int .i64 uy) := hc8 q5 _ hm5 6 _ rfl
                              have x7 : wr.cell? ⟨g8, off8 + q5 * 8 + 7, none⟩ = some (.int .i64 un) := hc8 q5 _ hm5 7 _ rfl
                              have heq := fun W => (eqEv ⟨uk, ut, uj, ud, ua, ur, uy, un⟩ ⟨uk, ut, uj, ud, ua, ur, uy, un⟩ W).trans (by rw [Lx.evEq_self])
                              unfold Lx.EvV.val at heq
                              dsimp only at heq
                              have hqi : (q5 : Int) < (k4 : Int) := by omega
                              have hqd : decide ((k4 : Int) ≤ (q5 : Int)) = false := decide_eq_false (by omega)
                              clear hs hm5 hy HST5 HGET hc8
                              go_wp2_with fail
                              go_quiet (fail)
                              go_wp2_with fail
                              go_quiet (fail)
                              go_wp2_with fail
                              go_roundw
                              case rel => exact ⟨k5 + 1, by omega, by go_num, by rw [HS5.out, Hq5.out]; go_num, Hb5.out.trans (below_drewN _ _ _)⟩
                              case measure => simp [intOf]; omega
                            · have d4 : (ud == od) = false := by rw [beq_eq_false_iff_ne]; exact h4
                              have hs := Lx.cnt_same (HST5.out.2 (by unfold Lx.isOf; dsimp only; rw [d1, d2, d3, d4]; rfl))
                              have HS5 := Lib.hid hs
                              clear hs HST5
                              go_wp2_with fail
                              go_quiet (fail)
                              go_wp2_with fail
                              go_roundw
                              case rel => exact ⟨k5 + 1, by omega, by go_num, by rw [HS5.out, Hq5.out], Hb5.out.trans (below_drewN _ _ _)⟩
                              case measure => simp [intOf]; omega
                          · have d3 : (uj == oj) = false := by rw [beq_eq_false_iff_ne]; exact h3
                            have hs := Lx.cnt_same (HST5.out.2 (by unfold Lx.isOf; dsimp only; rw [d1, d2, d3]; rfl))
                            have HS5 := Lib.hid hs
                            clear hs HST5
                            go_wp2_with fail
                            go_quiet (fail)
                            go_wp2_with fail
                            go_roundw
                            case rel => exact ⟨k5 + 1, by omega, by go_num, by rw [HS5.out, Hq5.out], Hb5.out.trans (below_drewN _ _ _)⟩
                            case measure => simp [intOf]; omega
                        · have d2 : decide (uk ≤ 5) = false := decide_eq_false h2
                          have hs := Lx.cnt_same (HST5.out.2 (by unfold Lx.isOf; dsimp only; rw [d1, d2]; rfl))
                          have HS5 := Lib.hid hs
                          clear hs HST5
                          go_wp2_with fail
                          go_quiet (fail)
                          go_wp2_with fail
                          go_roundw
                          case rel => exact ⟨k5 + 1, by omega, by go_num, by rw [HS5.out, Hq5.out], Hb5.out.trans (below_drewN _ _ _)⟩
                          case measure => simp [intOf]; omega
                      · have d1 : decide (1 ≤ uk) = false := decide_eq_false h1
                        have hs := Lx.cnt_same (HST5.out.2 (by unfold Lx.isOf; dsimp only; rw [d1]; rfl))
                        have HS5 := Lib.hid hs
                        clear hs HST5
                        go_wp2_with fail
                        go_quiet (fail)
                        go_wp2_with fail
                        go_roundw
                        case rel => exact ⟨k5 + 1, by omega, by go_num, by rw [HS5.out, Hq5.out], Hb5.out.trans (below_drewN _ _ _)⟩
                        case measure => simp [intOf]; omega
                    · obtain rfl : k5 = k := by omega
                      have ht5 : L.take k5 = L := List.take_of_length_le (by rw [HLN.out]; exact Nat.le_refl _)
                      rw [ht5, ← HM.out, HQ8.out]
                      clear ht5
                      have B5 := Lib.hid (B8.out.trans (Hb5.out.mono B8.out.size))
                      obtain ⟨-, -, -, s0⟩ := HS.out _ B5.out
                      have hq1 : q ≤ k5 := by omega
                      by_cases h1 : 1 ≤ ok
                      · have d1 : decide (1 ≤ ok) = true := decide_eq_true h1
                        by_cases h2 : ok ≤ 5
                        · have d2 : decide (ok ≤ 5) = true := decide_eq_true h2
                          have hs := HST.out
                          rw [if_pos (by unfold Lx.inK; dsimp only; rw [d1, d2]; rfl)] at hs
                          have HSX := Lib.hid hs
                          clear hs
                          go_wp2_with fail
                          go_roundw
                          case rel => exact ⟨k3 + 1, by omega, by go_num, by rw [HSX.out]; go_num, B5.out⟩
                          case measure => simp [intOf]; omega
                        · have d2 : decide (ok ≤ 5) = false := decide_eq_false h2
                          have hs := HST.out
                          rw [if_neg (by unfold Lx.inK; dsimp only; rw [d1, d2]; simp)] at hs
                          have HSX := Lib.hid hs
                          clear hs
                          go_wp2_with fail
                          go_roundw
                          case rel => exact ⟨k3 + 1, by omega, by go_num, by rw [HSX.out]; rfl, B5.out⟩
                          case measure => simp [intOf]; omega
                      · have d1 : decide (1 ≤ ok) = false := decide_eq_false h1
                        have hs := HST.out
                        rw [if_neg (by unfold Lx.inK; dsimp only; rw [d1]; simp)] at hs
                        have HSX := Lib.hid hs
                        clear hs
                        go_wp2_with fail
                        go_roundw
                        case rel => exact ⟨k3 + 1, by omega, by go_num, by rw [HSX.out]; rfl, B5.out⟩
                        case measure => simp [intOf]; omega
            · obtain rfl : k3 = k := by omega
              have hki3 : decide ((k3 : Int) < (k3 : Int)) = false := decide_eq_false (by omega)
              have ht3 : L.take k3 = L := List.take_of_length_le (by rw [HLN.out]; exact Nat.le_refl _)
              rw [ht3]
              obtain ⟨P, hP⟩ : ∃ P, Lx.cR L 1 5 = P := ⟨_, rfl⟩
              rw [hP]
              have HP := Lib.hid hP
              have hPl : P ≤ k3 := by rw [← hP, ← HLN.out]; exact Lx.cR_le _ _ _
              clear ht3 hP
              go_wp2_with fail
              go_loopw [13, 14] (fun s i wr6 => ∃ k6 : Nat, 1 ≤ k6 ∧ k6 ≤ 6 ∧ i = .int .i64 k6 ∧ s = .int .i64 (Lx.cR L 1 ((k6 : Int) - 1) : Nat) ∧ Below w.heap.size w wr6) (fun _ i _ => 6 - (intOf i).toNat)
              case atStart => exact ⟨1, by omega, by omega, rfl, by show _ = Value.int .i64 ((Lx.cR L 1 0 : Nat) : Int); rw [Lx.cR_none]; rfl, Hb3.out⟩
              case round =>
                obtain ⟨k6, hk61, hk62, rfl, rfl, hb6⟩ := hrel
                have Hb6 := Lib.hid hb6
                clear hb6
                by_cases hlt6 : k6 ≤ 5
                · have hki6 : (k6 : Int) ≤ 5 := by omega
                  have hst := Lx.cR_step (a := 1) (b := (k6 : Int)) (by omega) L
                  have hle := HcL.out 1 (k6 : Int)
                  rw [HLN.out] at hle
                  have HCK := Lib.hid (HC.out (k6 : Int))
                  generalize Lx.cR L 1 ((k6 : Int) - 1) = q1 at *
                  generalize Lx.cntE L (k6 : Int) = q2 at *
                  have HST := Lib.hid hst
                  rw [hst] at hle
                  clear hst
                  go_wp2_with fail
                  refine (HCK.out _ Hb6.out).mono ?_
                  rintro e w9 ⟨rfl, c9⟩
                  have B9 := Lib.hid (Hb6.out.trans (c9.mono Hb6.out.size))
                  clear c9
                  go_wp2_with fail
                  go_roundw
                  case rel => exact ⟨k6 + 1, by omega, by omega, by go_num, by rw [show ((k6 + 1 : Nat) : Int) - 1 = (k6 : Int) by omega, HST.out]; go_num, B9.out⟩
                  case measure => simp [intOf]; omega
                · obtain rfl : k6 = 6 := by omega
                  rw [show ((6 : Nat) : Int) - 1 = 5 from rfl, HP.out]
                  go_wp2_with fail
                  refine (HW.out _ Hb6.out).mono ?_
                  rintro e w9 ⟨rfl, c9⟩
                  go_wp2_with fail
                  go_ret
                  exact ⟨rfl, Hb6.out.trans (c9.mono Hb6.out.size)⟩

set_option maxRecDepth 100000 in
/-- What the walk gives, for every argument that can be read. -/
theorem contract (H : Type) (enc : TypeId × Value → H) (W : World) (base : Nat) (args : Array Value) (ds gs : List (DataW H)) (before : List MemPlace)
    (hval : ∀ (j : Nat) t v, Tryd.f8.params[j]? = some t → args[j]? = some v → Value.okWide Tryd.prog W .any base t v)
    (hW : DataW.Whole enc Tryd.prog Tryd.f8.params.toList Rows.eventCountsSpec.vars false W args.toList ds gs before) (hsz : (DataW.weightsEach Tryd.prog (Tryd.f8.params.toList ++ (OpenSpec.ofChange Rows.eventCountsSpec).bare.plain.varTypes Tryd.prog) (ds ++ gs)).all (· ≤ reachBytes) = true) (hL : laidMetH Tryd.prog Rows.eventCountsRow.laid W) (hsh : W.ShapedOpen Tryd.prog) :
    Calls Tryd.prog 8 args W fun e W' => ∃ v, e = .returned v ∧ Rows.eventCountsSpec.post enc Tryd.prog Tryd.f8 false true false false W args v W' := by
  have hW' := hW
  obtain ⟨p, q, hA0, hV, rfl, hfz, hnd⟩ := hW
  have hA : DataW.TrodAll enc Tryd.prog W 0 (fun _ => true) true Tryd.f8.params.toList args.toList ds p := hA0
  rw [Tryd.params8] at hA hval
  obtain ⟨v0, vs0, d0, ds0, p0, q0, hargs, rfl, rfl, h0, r0⟩ := trodAll_cons hA
  obtain ⟨rfl, rfl, rfl⟩ := trodAll_nil r0
  obtain rfl : args = #[v0] := by cases args; simp_all
  obtain ⟨rfl, rfl⟩ := trodVars_none hV
  obtain ⟨a0, len0, cap0, rfl⟩ := okWide_slice Tryd.underlying36 (hval 0 36 v0 rfl rfl)
  have k0 := h0
  have lt0 : ∀ x ∈ p0, x.block < W.heap.size := by obtain ⟨m, hm⟩ := k0; exact DataW.trod_lt m _ _ _ hm
  obtain ⟨⟨L0, z0⟩, n0⟩ : (∃ L, EvsIn W a0 len0 L) ∧ (a0 = none → cap0 = 0) := by
    obtain ⟨fuel, hf⟩ := h0
    exact evsIn_of hf
  clear hA0
  refine (walk W a0 len0 cap0 L0 z0 n0 (env_of hL hsh)).mono fun e W' ⟨he, bel⟩ => ?_
  subst he
  exact ⟨_, rfl, _, _, _, [], _, [], hW', trodAll_mk1 (shut_bool Tryd.underlying4 _), (trodAll_cons_mk (Below.trod laidOut (by kernel_rfl) (of_decide_eq_true (by kernel_rfl)) k0 bel lt0) trodAll_mk0), rfl, bel.frame _, fun h => by cases h⟩

set_option maxRecDepth 100000 in
theorem reads (os : Os) {H : Type} (enc : TypeId × Value → H) : ∃ places, DataW.whole enc Tryd.prog ((World.laidAll Tryd.prog os Rows.eventOnesRow.laid).forCall (fun _ _ => 0) ⟨#[], #[.slice none 0 0], []⟩).memory Tryd.f8.params.toList Rows.eventCountsSpec.vars false (#[.slice none 0 0] : Array Value).toList 8 = some ([.nil], [], places) :=
  ⟨[], by kernel_rfl⟩

set_option maxRecDepth 100000 in
theorem lifted (os : Os) (started : os.Started) (H : Type) (enc : TypeId × Value → H) (F : Stop.Interp) :
    ReturnsInHanded {} Tryd.checked os 8 .any ((OpenSpec.ofChange Rows.eventCountsSpec).preRow enc Tryd.prog Tryd.f8 Rows.eventCountsRow.domain false Rows.eventCountsRow.laid) (((OpenSpec.ofChange Rows.eventCountsSpec).at F).post enc Tryd.prog Tryd.f8 false true false false) := by
  obtain ⟨places, hx⟩ := reads os enc
  refine returnsInHanded_of_row (C := Tryd.checked) (s := OpenSpec.ofChange Rows.eventCountsSpec) own started (by kernel_rfl) Tryd.func8
    (witness_row_atRef (enc := enc) (C := Tryd.checked) false (World.laidAll Tryd.prog os Rows.eventOnesRow.laid) #[.slice none 0 0] (World.laidAll_os _ _ _) (door_vars os _) (door_rest os _) (by kernel_rfl)
      (OpenSpec.preRow_of_cond 8 hx (by kernel_rfl) (fun k hk => by cases hk) (by kernel_rfl) (door_laid os _))) ?_
  intro W base args ds gs before hval hW _ _ hsz hL hsh _
  exact contract H enc W base args ds gs before hval hW hsz hL hsh

theorem said : Rows.EventCountsSaid :=
  OpenClaim.holds_of_cond 8 Tryd.f8 rfl rfl rfl rfl rfl rfl rfl ⟨rfl, rfl, rfl, rfl, rfl⟩ rfl rfl rfl rfl rfl (by kernel_rfl) Tryd.func8 (by kernel_rfl)
    (of_decide_eq_true (by kernel_rfl)) (by unfold Func.isWrapper; first | (rw [if_pos (by decide +kernel)]; kernel_rfl) | (rw [if_neg (by decide +kernel)]; exact ⟨rfl, rfl⟩))
    (fun os started H enc _ F => by rw [OpenClaim.pre_eq_preRow]; exact lifted os started H enc F)

theorem plain (f : FuncId) (fn : Func) (hf : Tryd.pinned.checked.prog.funcNamed "wakeman/wakemanlaw36.EventCounts" = some f) (hfn : Tryd.pinned.checked.prog.funcs[f]? = some fn) :
    Rows.eventCountsCard.stood.looks = Tryd.pinned.checked.prog.looks [] ∧ ∀ (j : Nat) t, fn.params[j]? = some t → Tryd.pinned.checked.prog.wantsStandIn t = false := by
  obtain rfl : f = 8 := Option.some.inj ((show Tryd.prog.funcNamed "wakeman/wakemanlaw36.EventCounts" = some 8 by kernel_rfl).symm.trans hf) |>.symm
  obtain rfl : fn = Tryd.f8 := (Option.some.inj (Tryd.func8.symm.trans hfn)).symm
  refine ⟨by kernel_rfl, fun j t ht => ?_⟩
  rw [Tryd.params8] at ht
  have hm : t ∈ [36] := by
    have := Array.mem_of_getElem? ht
    simpa using this
  have hall : ([36].all fun u => !Tryd.prog.wantsStandIn u) = true := by kernel_rfl
  exact (show Tryd.prog.wantsStandIn t = false by simpa using List.all_eq_true.1 hall t hm)

/-- The card. -/
theorem card : Rows.EventCountsCardSaid :=
  Claim7.holds_tied_plain_at .later [] _ _ _ _ said (fun _ h => by cases h) (by kernel_rfl) (fun _ h => by cases h) eventCounts_row_tie rfl ⟨rfl, rfl⟩ (by kernel_rfl) rfl plain (by kernel_rfl)
end Go.Proofs.YtmpcekpdnikghaaDoor.lawEventCounts
