/- The walk of event.read at the kinds 0, 1, 2. -/
import Derived.Test.YtmpcekpdnikghaaGreatDoorEvR
namespace Go.Proofs.YtmpcekpdnikghaaGreatDoor
open Go.RowKit
open Go.Maps (Keyed)
set_option maxRecDepth 100000 in
set_option maxHeartbeats 3200000 in
theorem read_0 (s : ByteArray) (ad : Option Addr) (m cap : Nat) (NS : List ByteArray) (w : World) (env : EEnv w) (h : Lx.IsNames w ad m NS) (hN : Lx.NOk NS) (hs : s.size ≤ 65536) (hk : Lx.kindOf (Lx.pAt (Lx.bl (Lx.spS s)) 1) = 0) :
    Calls Tryz.prog 21 #[.string s, .slice ad m cap] w (ReadEv NS s w) := by
  obtain ⟨mx, hmx⟩ := env.env.mx
  have HSP := Lib.hid (fun W (b : Below w.heap.size w W) => split_sp_any s W hs mx ((b.cell (p := ⟨1, 0, none⟩) (Nat.lt_of_lt_of_le g_mx_lt env.env.lt)).trans hmx))
  have HH := Lib.hid h
  have HPB := Lib.hid (Lx.spS_bd s)
  have HPC := Lib.hid (Lx.spS_pcs s)
  have hNm := hN.1
  have hml := h.1
  have HN := Lib.hid hN
  unfold ReadEv
  generalize Lx.spS s = P at *
  have hPl : P.length ≤ 65537 := by have := HPB.out.2; omega
  have hPz : ∀ x ∈ P, x.size ≤ 1000000000 := fun x hx => by have := HPB.out.1 x hx; omega
  have HPz := Lib.hid hPz
  have HK := Lib.hid hk
  have hgl := env.env.lt
  have hmm := @run_makeMap Tryz.prog
  clear hmx hPz hk hN h
  go_enter Tryz.func21, Tryz.ntmps21
  go_wp2_with fail
  refine (kinds_any _).mono ?_
  rintro e w1 ⟨g, rfl, hg, hk, c1⟩
  have ba : Below w.heap.size w ((w.alloc (.cells #[.int .i64 0, .int .i64 0, .int .i64 0, .int .i64 0, .int .i64 0, .int .i64 0, .int .i64 0, .int .i64 0] 26)).alloc (.map #[] 0)) := ((Below.refl _ w).alloc (Nat.le_refl _) _).alloc (by simp) _
  have B1 := Lib.hid (ba.trans (c1.mono ba.size))
  have Z1 := Lib.hid (((Lx.EvBox.new w 0 0 0 0 0 0 0 0 26).below ((Below.refl _ _).alloc (Nat.le_refl _) (.map #[] 0))).below c1)
  have M1 : w1.ownsMap Tryz.prog 9 Lx.wordR (w.heap.size + 1) 0 (Lx.wordD 0) := by
    have h0 := World.ownsMap_made (w.alloc (.cells #[.int .i64 0, .int .i64 0, .int .i64 0, .int .i64 0, .int .i64 0, .int .i64 0, .int .i64 0, .int .i64 0] 26)) Tryz.prog 9 Lx.wordR
    rw [World.size_alloc] at h0
    exact Lx.mapBelow h0 c1
  have hgM : w.heap.size + 2 ≤ g := by have := hg; simp at this; omega
  have M1 := Lib.hid M1
  have K1 := Lib.hid hk
  clear ba c1 hg hk
  obtain ⟨M, hM⟩ : ∃ M, w.heap.size + 1 = M := ⟨_, rfl⟩
  rw [hM] at M1
  simp only [hM]
  have HM := Lib.hid hM
  have hMg : M < g := by omega
  have hwM : w.heap.size < M := by omega
  clear hM hgM
  go_wp2_with fail
  go_loopw [15] (fun i wr => ∃ k : Nat, k ≤ 9 ∧ i = .int .i64 k ∧ wr.ownsMap Tryz.prog 9 Lx.wordR M k (Lx.wordD k) ∧ Lx.KindsAt wr g ∧ Lx.EvBox wr w.heap.size Lx.evZ ∧ Below w.heap.size w wr) (fun i _ => 9 - (intOf i).toNat)
  case atStart => exact ⟨0, by omega, rfl, M1.out, K1.out, Z1.out, B1.out⟩
  case round =>
    obtain ⟨k, hk, rfl, hown, hka, hz, hb⟩ := hrel
    clear M1 K1 Z1 B1
    by_cases hlt : k < 9
    · obtain ⟨c0, c1, c2⟩ := hka.2 k hlt
      have hki : (k : Int) < 9 := by omega
      have hkey : keyOf Tryz.prog 9 (.string ⟨(Lx.evWord (k : Nat)).toArray⟩) = some (.string (Lx.evWord (k : Nat))) := Go.WideMaps.keyOf_string_mk Tryz.underlying9 (Lx.word_small k)
      obtain ⟨w2, hrun2, hown2, hgr⟩ := (hown.alloc (.cells #[.string ⟨(Lx.evWord (k : Nat)).toArray⟩, .int .i64 (Lx.usesN k), .int .i64 (Lx.yMax (k : Nat))] 69)).update lawS Tryz.underlying65 (by unfold maxLen; omega) (key := .string ⟨(Lx.evWord (k : Nat)).toArray⟩) (val := .int .i64 (k : Nat)) hkey (d := .lit (.int .i64 (k : Nat))) (ps := []) rfl
      have kp := Lx.Kp.grown hgr (Nat.lt_of_lt_of_le hown.lt (by simp))
      have ba := (Below.refl wr.heap.size wr).alloc (Nat.le_refl _) (.cells #[.string ⟨(Lx.evWord (k : Nat)).toArray⟩, .int .i64 (Lx.usesN k), .int .i64 (Lx.yMax (k : Nat))] 69)
      have HOW := Lib.hid hown2
      have HKA := Lib.hid ((hka.below ba).kp kp (by omega))
      have HZ := Lib.hid ((hz.below ba).kp kp (by omega))
      have HB := Lib.hid ((hb.trans (ba.mono hb.size)).trans (kp.1.mono (by omega)))
      clear hown hka hz hb hown2 hgr kp ba hkey
      go_wp2_with fail
      go_roundw
      case rel => exact ⟨k + 1, by omega, by go_num, HOW.out, HKA.out, HZ.out, HB.out⟩
      case measure => simp [intOf]; omega
    · obtain rfl : k = 9 := by omega
      have HOW := Lib.hid hown
      have HZ := Lib.hid hz
      have HB := Lib.hid hb
      clear hown hka hz hb
      go_wp2_with fail
      refine (HSP.out _ HB.out).mono ?_
      rintro e w2 ⟨rfl, rfl⟩
      obtain ⟨W2, hW2⟩ : ∃ W2, W2 = (wr.alloc (.cells (P.map Value.string).toArray 9)).alloc (.cells #[.slice (some ⟨wr.heap.size, 0, none⟩) P.length P.length, .bool false] 73) := ⟨_, rfl⟩
      have ba : Below wr.heap.size wr W2 := by rw [hW2]; exact ((Below.refl _ _).alloc (Nat.le_refl _) _).alloc (by simp) _
      have RD2 : Lx.Rd W2 (wr.heap.size + 1) wr.heap.size P (min 0 P.length) false := by rw [hW2]; exact Lx.Rd.new wr P _ _
      have Z2 := Lib.hid (HZ.out.below ba)
      have B2 := Lib.hid (HB.out.trans (ba.mono HB.out.size))
      have M2 := Lib.hid (Lx.mapBelow HOW.out ba)
      have RD2 := Lib.hid RD2
      have hwr : w.heap.size ≤ wr.heap.size := HB.out.size
      have hMr : M < wr.heap.size := HOW.out.lt
      obtain ⟨gp, hgp⟩ : ∃ gp, wr.heap.size = gp := ⟨_, rfl⟩
      obtain ⟨R, hR⟩ : ∃ R, gp + 1 = R := ⟨_, rfl⟩
      rw [hgp, hR] at RD2
      rw [hgp] at hW2
      rw [hgp] at hMr hwr
      have hzR : w.heap.size ≠ R := by omega
      have hMR : M ≠ R := by omega
      have hgR : Tryz.prog.globals.size ≤ R := by omega
      go_wp2_with fail
      rw [← hW2]
      try simp only [hgp, hR]
      clear ba HZ HB HOW hW2
      refine (number_i R gp P 0 _ W2 (env.env.below B2.out) hgR RD2.out (by omega) HPz.out).mono ?_
      rintro e w3 ⟨rfl, rd3, kp3⟩
      have hs3 : R < w3.heap.size := rd3.lt
      have Z3 := Z2.out.kp kp3 hzR
      have B3 := B2.out.trans (kp3.1.mono (by omega))
      have M3 := Lx.mapKp M2.out kp3 hMR
      have HNB := Lib.hid (Lx.num_bd (Lx.pAt (Lx.bl P) 0))
      obtain ⟨t, ht⟩ : ∃ t, Lx.numRes (Lx.pAt (Lx.bl P) 0) = t := ⟨_, rfl⟩
      rw [ht]
      have HT := Lib.hid ht
      have be := (Below.refl w3.heap.size w3).alloc (Nat.le_refl _) (.cells #[.int .i64 0, .int .i64 t, .int .i64 0, .int .i64 0, .int .i64 0, .int .i64 0, .int .i64 0, .int .i64 0] 26)
      have E4 := Lib.hid (Lx.EvBox.new w3 0 t 0 0 0 0 0 0 26)
      have Z4 := Lib.hid (Z3.below be)
      have B4 := Lib.hid (B3.trans (be.mono B3.size))
      have M4 := Lib.hid (Lx.mapBelow M3 be)
      have RD4 := Lib.hid (rd3.below be)
      obtain ⟨E, hE⟩ : ∃ E, w3.heap.size = E := ⟨_, rfl⟩
      rw [hE] at E4 hs3
      have hER : E ≠ R := by omega
      have hwE : w.heap.size ≤ E := by omega
      clear rd3 kp3 Z3 B3 M3 be Z2 B2 M2 RD2 ht
      go_wp2_with fail
      try simp only [hE]
      refine (next_i R gp P 1 _ _ RD4.out (by omega)).mono ?_
      rintro e w5 ⟨rfl, rd5, kp5⟩
      have Z5 := Lib.hid (Z4.out.kp kp5 hzR)
      have B5 := Lib.hid (B4.out.trans (kp5.1.mono (by omega)))
      have E5 := Lib.hid (E4.out.kp kp5 hER)
      have RD5 := Lib.hid rd5
      have M5 := Lx.mapKp M4.out kp5 hMR
      have hkey : keyOf Tryz.prog 9 (.string ⟨(Lx.pAt (Lx.bl P) 1).toArray⟩) = some (.string (Lx.pAt (Lx.bl P) 1)) := Go.WideMaps.keyOf_string_mk Tryz.underlying9 (Lx.pAt_small P 1 (fun x hx => by have := HPz.out x hx; unfold maxLen; omega))
      obtain ⟨v, ps, hrun, hv⟩ := M5.lookup lawS Tryz.underlying65 (zeroI w5) (zd := .lit (.int .i64 0)) (zp := []) rfl hkey
      rw [Lx.wordD_at, HK.out] at hv
      have hvb : v = .int .i64 0 := by
        cases v <;> simp [Lx.wordR] at hv
        rename_i kk nn; cases kk <;> simp at hv; rw [hv.1]
      subst hvb
      clear rd5 kp5 M5 hkey hv Z4 B4 E4 RD4 M4
      have qe0 := (E5.out.2 0 _ rfl).1
      have fe0 := (E5.out.2 0 _ rfl).2
      go_upto_region 10 with (fail)
      clear hrun
      obtain ⟨W6, hW6⟩ : ∃ W6, W6 = w5.setCell ⟨E, 0, none⟩ (.int .i64 0) := ⟨_, rfl⟩
      rw [← hW6]
      have E6 := Lib.hid (show Lx.EvBox W6 E ⟨0, t, 0, 0, 0, 0, 0, 0⟩ by rw [hW6]; exact E5.out.set (by decide) rfl)
      have kp6 : Lx.Kp E w5 W6 := by rw [hW6]; exact Lx.Kp.set
      have Z6 := Lib.hid (Z5.out.kp kp6 (by omega))
      have B6 := Lib.hid (B5.out.trans (kp6.1.mono (by omega)))
      have RD6 := Lib.hid (RD5.out.kp kp6 (by omega) (by omega))
      clear qe0 fe0 kp6 Z5 B5 E5 RD5 hW6
      have q6 := (E6.out.2 0 _ rfl).1
      have hl6 := E6.out.1
      go_cut [11] (fun s11 wx => ∃ kb : Nat, s11 = .pointer (some ⟨kb, 0, none⟩) ∧ W6.heap.size ≤ kb ∧ Lx.KBox wx kb 0 ∧ Below W6.heap.size W6 wx)
      case first =>
        have HP := Lib.hid (fun W (hb : Below W6.heap.size W6 W) => (hb.cell (p := ⟨E, 0, none⟩) hl6).trans q6)
        have hS0 : (fun wx => Below W6.heap.size W6 wx ∧ wx.cell? ⟨E, 0, none⟩ = some (.int .i64 0)) W6.drew := ⟨(Below.refl _ _).drew, q6⟩
        dsimp only at hS0
        refine wp_region_held_drew (S := (fun wx => Below W6.heap.size W6 wx ∧ wx.cell? ⟨E, 0, none⟩ = some (.int .i64 0))) (by kernel_rfl) ?_ (fun hHeld => ?_)
        · exact hS0
        refine' wpAnyH_take (i := 1) (oi := _) (v := _) ?hiz1 (by kernel_rfl) (by kernel_rfl) (by kernel_rfl) ?hqz1 ?hyz1 (by assumption) ?rez1
        case hiz1 => simp only [List.getElem?_toArray, List.getElem?_cons_succ, List.getElem?_cons_zero]; rfl
        case hqz1 => exact fun _ _ _ h => h
        case hyz1 =>
          refine Or.inl ⟨by rfl, ?_⟩
          intro w hSw; (try dsimp only at hSw); go_simp; try with_reducible rfl
        case rez1 =>
          try simp only [Act.put, List.setIfInBounds_toArray, List.set_cons_zero, List.set_cons_succ]
          refine' wpAnyH_take (i := 2) (oi := _) (v := _) ?hiz2 (by kernel_rfl) (by kernel_rfl) (by kernel_rfl) ?hqz2 ?hyz2 (by assumption) ?rez2
          case hiz2 => simp only [List.getElem?_toArray, List.getElem?_cons_succ, List.getElem?_cons_zero]; rfl
          case hqz2 => exact fun _ _ _ h => h
          case hyz2 =>
            refine Or.inl ⟨by rfl, ?_⟩
            intro w hSw; (try dsimp only at hSw); go_simp; try with_reducible rfl
          case rez2 =>
            try simp only [Act.put, List.setIfInBounds_toArray, List.set_cons_zero, List.set_cons_succ]
            refine wpAnyH_ready (rs := [0, 5]) (by kernel_rfl) (by simp) ?_
            refine' AllReadyH.cons (o := _) ?hi0z3 (fun K hK => ?st0z3) (AllReadyH.cons (o := _) ?hi5z3 (fun K hK => ?st5z3) AllReadyH.nil)
            case hi0z3 => simp only [List.getElem?_toArray, List.getElem?_cons_zero]; rfl
            case hi5z3 => simp only [List.getElem?_toArray, List.getElem?_cons_succ, List.getElem?_cons_zero]; rfl
            case st0z3 =>
              go_simp
              go_at_call 37; refine (kinds_any _).mono ?_; rintro e w7 ⟨g7, rfl, hg7, hk7, c7⟩; obtain ⟨k0, k1, k2⟩ := hk7.2 0 (by omega); have hgl7 := hk7.1; clear hk7 hg7; have kb := Lx.bCall (P := fun wx => wx.cell? ⟨E, 0, none⟩ = some (.int .i64 0)) (by assumption) c7; have hz7 := kb.size; have hs7 := c7.size; simp at hs7; have kS := Lx.mkS HP.out kb; have b0 := fun i => c7.cell (p := ⟨W6.heap.size, i, none⟩); have f0 := fun i => c7.frozen (p := ⟨W6.heap.size, i, none⟩)
              try go_wp2_with fail
              refine hK.out _ _ ?_ (fun hHeld => ?_)
              · (first | assumption | (refine Lx.mkS HP.out ?_; repeat (first | assumption | exact Below.refl _ _ | apply Lx.bDrew | apply Lx.bAlloc | (apply Lx.bSet; (first | exact Nat.le_refl _ | assumption)))))
              clear hK K
              try simp only [Act.put, List.setIfInBounds_toArray, List.set_cons_zero, List.set_cons_succ]
              refine' wpAnyH_take (i := 3) (oi := _) (v := _) ?hiz4 (by kernel_rfl) (by kernel_rfl) (by kernel_rfl) ?hqz4 ?hyz4 (by assumption) ?rez4
              case hiz4 => simp only [List.getElem?_toArray, List.getElem?_cons_succ, List.getElem?_cons_zero]; rfl
              case hqz4 => exact fun _ _ _ h => h
              case hyz4 =>
                refine Or.inl ⟨by rfl, ?_⟩
                intro w hSw; (try dsimp only at hSw); go_simp; try with_reducible rfl
              case rez4 =>
                try simp only [Act.put, List.setIfInBounds_toArray, List.set_cons_zero, List.set_cons_succ]
                refine wpAnyH_ready (rs := [4, 5]) (by kernel_rfl) (by simp) ?_
                refine' AllReadyH.cons (o := _) ?hi4z5 (fun K hK => ?st4z5) (AllReadyH.cons (o := _) ?hi5z5 (fun K hK => ?st5z5) AllReadyH.nil)
                case hi4z5 => simp only [List.getElem?_toArray, List.getElem?_cons_succ, List.getElem?_cons_zero]; rfl
                case hi5z5 => simp only [List.getElem?_toArray, List.getElem?_cons_succ, List.getElem?_cons_zero]; rfl
                case st4z5 =>
                  go_simp
                  try go_wp2_with fail
                  refine hK.out _ _ ?_ (fun hHeld => ?_)
                  · (first | assumption | (refine Lx.mkS HP.out ?_; repeat (first | assumption | exact Below.refl _ _ | apply Lx.bDrew | apply Lx.bAlloc | (apply Lx.bSet; (first | exact Nat.le_refl _ | assumption)))))
                  clear hK K
                  try simp only [Act.put, List.setIfInBounds_toArray, List.set_cons_zero, List.set_cons_succ]
                  refine wpAnyH_ready (rs := [5]) (by kernel_rfl) (by simp) ?_
                  refine' AllReadyH.cons (o := _) ?hi5z6 (fun K hK => ?st5z6) AllReadyH.nil
                  case hi5z6 => simp only [List.getElem?_toArray, List.getElem?_cons_succ, List.getElem?_cons_zero]; rfl
                  case st5z6 =>
                    go_simp
                    try go_wp2_with fail
                    refine hK.out _ _ ?_ (fun hHeld => ?_)
                    · (first | assumption | (refine Lx.mkS HP.out ?_; repeat (first | assumption | exact Below.refl _ _ | apply Lx.bDrew | apply Lx.bAlloc | (apply Lx.bSet; (first | exact Nat.le_refl _ | assumption)))))
                    clear hK K
                    try simp only [Act.put, List.setIfInBounds_toArray, List.set_cons_zero, List.set_cons_succ]
                    refine wpAnyH_ready (rs := [6]) (by kernel_rfl) (by simp) ?_
                    refine' AllReadyH.cons (o := _) ?hi6z7 (fun K hK => ?st6z7) AllReadyH.nil
                    case hi6z7 => simp only [List.getElem?_toArray, List.getElem?_cons_succ, List.getElem?_cons_zero]; rfl
                    case st6z7 =>
                      go_simp
                      try go_wp2_with fail
                      refine hK.out _ _ ?_ (fun hHeld => ?_)
                      · (first | assumption | (refine Lx.mkS HP.out ?_; repeat (first | assumption | exact Below.refl _ _ | apply Lx.bDrew | apply Lx.bAlloc | (apply Lx.bSet; (first | exact Nat.le_refl _ | assumption)))))
                      clear hK K
                      try simp only [Act.put, List.setIfInBounds_toArray, List.set_cons_zero, List.set_cons_succ]
                      refine wpAnyH_done (by kernel_rfl) ?_ _
                      go_wp2_with fail
                      go_meet
                      first | exact ⟨_, rfl, by omega, ⟨by simp, by simp, by simp, by simp⟩, And.left (by assumption)⟩ | (refine ⟨_, rfl, Nat.le_refl _, ⟨?_, ?_, ?_, ?_⟩, And.left (by assumption)⟩ <;> first | (go_simp; done) | (rw [Lx.size_set, Lx.size_set, Lx.size_set]; omega))
                case st5z5 =>
                  go_simp
                  try go_wp2_with fail
                  refine hK.out _ _ ?_ (fun hHeld => ?_)
                  · (first | assumption | (refine Lx.mkS HP.out ?_; repeat (first | assumption | exact Below.refl _ _ | apply Lx.bDrew | apply Lx.bAlloc | (apply Lx.bSet; (first | exact Nat.le_refl _ | assumption)))))
                  clear hK K
                  try simp only [Act.put, List.setIfInBounds_toArray, List.set_cons_zero, List.set_cons_succ]
                  refine wpAnyH_ready (rs := [4]) (by kernel_rfl) (by simp) ?_
                  refine' AllReadyH.cons (o := _) ?hi4z8 (fun K hK => ?st4z8) AllReadyH.nil
                  case hi4z8 => simp only [List.getElem?_toArray, List.getElem?_cons_succ, List.getElem?_cons_zero]; rfl
                  case st4z8 =>
                    go_simp
                    try go_wp2_with fail
                    refine hK.out _ _ ?_ (fun hHeld => ?_)
                    · (first | assumption | (refine Lx.mkS HP.out ?_; repeat (first | assumption | exact Below.refl _ _ | apply Lx.bDrew | apply Lx.bAlloc | (apply Lx.bSet; (first | exact Nat.le_refl _ | assumption)))))
                    clear hK K
                    try simp only [Act.put, List.setIfInBounds_toArray, List.set_cons_zero, List.set_cons_succ]
                    refine wpAnyH_ready (rs := [6]) (by kernel_rfl) (by simp) ?_
                    refine' AllReadyH.cons (o := _) ?hi6z9 (fun K hK => ?st6z9) AllReadyH.nil
                    case hi6z9 => simp only [List.getElem?_toArray, List.getElem?_cons_succ, List.getElem?_cons_zero]; rfl
                    case st6z9 =>
                      go_simp
                      try go_wp2_with fail
                      refine hK.out _ _ ?_ (fun hHeld => ?_)
                      · (first | assumption | (refine Lx.mkS HP.out ?_; repeat (first | assumption | exact Below.refl _ _ | apply Lx.bDrew | apply Lx.bAlloc | (apply Lx.bSet; (first | exact Nat.le_refl _ | assumption)))))
                      clear hK K
                      try simp only [Act.put, List.setIfInBounds_toArray, List.set_cons_zero, List.set_cons_succ]
                      refine wpAnyH_done (by kernel_rfl) ?_ _
                      go_wp2_with fail
                      go_meet
                      first | exact ⟨_, rfl, by omega, ⟨by simp, by simp, by simp, by simp⟩, And.left (by assumption)⟩ | (refine ⟨_, rfl, Nat.le_refl _, ⟨?_, ?_, ?_, ?_⟩, And.left (by assumption)⟩ <;> first | (go_simp; done) | (rw [Lx.size_set, Lx.size_set, Lx.size_set]; omega))
            case st5z3 =>
              go_simp
              try go_wp2_with fail
              refine hK.out _ _ ?_ (fun hHeld => ?_)
              · (first | assumption | (refine Lx.mkS HP.out ?_; repeat (first | assumption | exact Below.refl _ _ | apply Lx.bDrew | apply Lx.bAlloc | (apply Lx.bSet; (first | exact Nat.le_refl _ | assumption)))))
              clear hK K
              try simp only [Act.put, List.setIfInBounds_toArray, List.set_cons_zero, List.set_cons_succ]
              refine wpAnyH_ready (rs := [0]) (by kernel_rfl) (by simp) ?_
              refine' AllReadyH.cons (o := _) ?hi0z10 (fun K hK => ?st0z10) AllReadyH.nil
              case hi0z10 => simp only [List.getElem?_toArray, List.getElem?_cons_zero]; rfl
              case st0z10 =>
                go_simp
                go_at_call 37; refine (kinds_any _).mono ?_; rintro e w7 ⟨g7, rfl, hg7, hk7, c7⟩; obtain ⟨k0, k1, k2⟩ := hk7.2 0 (by omega); have hgl7 := hk7.1; clear hk7 hg7; have kb := Lx.bCall (P := fun wx => wx.cell? ⟨E, 0, none⟩ = some (.int .i64 0)) (by assumption) c7; have hz7 := kb.size; have hs7 := c7.size; simp at hs7; have kS := Lx.mkS HP.out kb; have b0 := fun i => c7.cell (p := ⟨W6.heap.size, i, none⟩); have f0 := fun i => c7.frozen (p := ⟨W6.heap.size, i, none⟩)
                try go_wp2_with fail
                refine hK.out _ _ ?_ (fun hHeld => ?_)
                · (first | assumption | (refine Lx.mkS HP.out ?_; repeat (first | assumption | exact Below.refl _ _ | apply Lx.bDrew | apply Lx.bAlloc | (apply Lx.bSet; (first | exact Nat.le_refl _ | assumption)))))
                clear hK K
                try simp only [Act.put, List.setIfInBounds_toArray, List.set_cons_zero, List.set_cons_succ]
                refine' wpAnyH_take (i := 3) (oi := _) (v := _) ?hiz11 (by kernel_rfl) (by kernel_rfl) (by kernel_rfl) ?hqz11 ?hyz11 (by assumption) ?rez11
                case hiz11 => simp only [List.getElem?_toArray, List.getElem?_cons_succ, List.getElem?_cons_zero]; rfl
                case hqz11 => exact fun _ _ _ h => h
                case hyz11 =>
                  refine Or.inl ⟨by rfl, ?_⟩
                  intro w hSw; (try dsimp only at hSw); go_simp; try with_reducible rfl
                case rez11 =>
                  try simp only [Act.put, List.setIfInBounds_toArray, List.set_cons_zero, List.set_cons_succ]
                  refine wpAnyH_ready (rs := [4]) (by kernel_rfl) (by simp) ?_
                  refine' AllReadyH.cons (o := _) ?hi4z12 (fun K hK => ?st4z12) AllReadyH.nil
                  case hi4z12 => simp only [List.getElem?_toArray, List.getElem?_cons_succ, List.getElem?_cons_zero]; rfl
                  case st4z12 =>
                    go_simp
                    try go_wp2_with fail
                    refine hK.out _ _ ?_ (fun hHeld => ?_)
                    · (first | assumption | (refine Lx.mkS HP.out ?_; repeat (first | assumption | exact Below.refl _ _ | apply Lx.bDrew | apply Lx.bAlloc | (apply Lx.bSet; (first | exact Nat.le_refl _ | assumption)))))
                    clear hK K
                    try simp only [Act.put, List.setIfInBounds_toArray, List.set_cons_zero, List.set_cons_succ]
                    refine wpAnyH_ready (rs := [6]) (by kernel_rfl) (by simp) ?_
                    refine' AllReadyH.cons (o := _) ?hi6z13 (fun K hK => ?st6z13) AllReadyH.nil
                    case hi6z13 => simp only [List.getElem?_toArray, List.getElem?_cons_succ, List.getElem?_cons_zero]; rfl
                    case st6z13 =>
                      go_simp
                      try go_wp2_with fail
                      refine hK.out _ _ ?_ (fun hHeld => ?_)
                      · (first | assumption | (refine Lx.mkS HP.out ?_; repeat (first | assumption | exact Below.refl _ _ | apply Lx.bDrew | apply Lx.bAlloc | (apply Lx.bSet; (first | exact Nat.le_refl _ | assumption)))))
                      clear hK K
                      try simp only [Act.put, List.setIfInBounds_toArray, List.set_cons_zero, List.set_cons_succ]
                      refine wpAnyH_done (by kernel_rfl) ?_ _
                      go_wp2_with fail
                      go_meet
                      first | exact ⟨_, rfl, by omega, ⟨by simp, by simp, by simp, by simp⟩, And.left (by assumption)⟩ | (refine ⟨_, rfl, Nat.le_refl _, ⟨?_, ?_, ?_, ?_⟩, And.left (by assumption)⟩ <;> first | (go_simp; done) | (rw [Lx.size_set, Lx.size_set, Lx.size_set]; omega))
      case rest =>
        obtain ⟨kb, rfl, hkb, hkx, hbc⟩ := hcut
        obtain ⟨W7, rfl⟩ : ∃ W, W = wc := ⟨_, rfl⟩
        have S0 := Lib.hid (Lx.RS.mk (w := w) (i := 2) (B6.out.trans (hbc.mono B6.out.size)) (Z6.out.below hbc) (E6.out.below hbc) hkx (RD6.out.below hbc) (Nat.le_refl _) (by omega) hwE hzR hER (by have := RD6.out.lt; omega) (by omega) (by omega) (by omega))
        clear hkb hkx hbc q6 hl6 Z6 E6 B6 RD6
        have HTB := Lib.hid (show Lx.inR t from by rw [← HT.out]; exact HNB.out)
        have k1 : (W7).cell? ⟨kb, 1, none⟩ = some (.int .i64 0) := S0.out.kx.2.2.1
        obtain ⟨BV, SF, hBV⟩ := S0.out.ex
        have SF := Lib.hid SF
        have bd := SF.out.rd.bd
        obtain ⟨A0, C0, sl0, -⟩ := SF.out.rd.sl
        obtain ⟨len, hlen⟩ : ∃ len, P.length - min 2 P.length = len := ⟨_, rfl⟩
        rw [hlen] at sl0
        have HF := Lib.hid (Lx.fin_0 HN.out HPC.out HK.out)
        have hlenb : len ≤ 65537 := by omega
        clear hBV hlen HPC HK HPz S0
        have qe0 := (SF.out.e.2 0 _ rfl).1
        have z0 := (SF.out.z.2 0 _ rfl).1
        have y0 := (SF.out.z.2 0 _ rfl).2
        have z1 := (SF.out.z.2 1 _ rfl).1
        have y1 := (SF.out.z.2 1 _ rfl).2
        have z2 := (SF.out.z.2 2 _ rfl).1
        have y2 := (SF.out.z.2 2 _ rfl).2
        have z3 := (SF.out.z.2 3 _ rfl).1
        have y3 := (SF.out.z.2 3 _ rfl).2
        have z4 := (SF.out.z.2 4 _ rfl).1
        have y4 := (SF.out.z.2 4 _ rfl).2
        have z5 := (SF.out.z.2 5 _ rfl).1
        have y5 := (SF.out.z.2 5 _ rfl).2
        have z6 := (SF.out.z.2 6 _ rfl).1
        have y6 := (SF.out.z.2 6 _ rfl).2
        have z7 := (SF.out.z.2 7 _ rfl).1
        have y7 := (SF.out.z.2 7 _ rfl).2
        cases BV
        · by_cases hl0 : len = 0
          · subst hl0
            have qe1 := (SF.out.e.2 1 _ rfl).1
            have qe2 := (SF.out.e.2 2 _ rfl).1
            have qe3 := (SF.out.e.2 3 _ rfl).1
            have qe4 := (SF.out.e.2 4 _ rfl).1
            have qe5 := (SF.out.e.2 5 _ rfl).1
            have qe6 := (SF.out.e.2 6 _ rfl).1
            have qe7 := (SF.out.e.2 7 _ rfl).1
            have HCK := Lib.hid (fun W => evcheck_any ⟨0, t, 0, 0, 0, 0, 0, 0⟩ W)
            unfold EvCheckIs Lx.EvV.val at HCK
            dsimp only at HCK
            have HX := Lib.hid (show ∃ x, Lx.evErr ⟨0, t, 0, 0, 0, 0, 0, 0⟩ = x from ⟨_, rfl⟩)
            obtain ⟨xe, hxe⟩ := HX.out
            rw [hxe] at HCK
            have HXE := Lib.hid hxe
            clear HX hxe
            go_wp2_with fail
            refine (HCK.out _).mono ?_
            rintro e wf ⟨rfl, cf⟩
            have SG := Lib.hid (SF.out.below cf)
            clear cf z0 z1 z2 z3 z4 z5 z6 z7 y0 y1 y2 y3 y4 y5 y6 y7 qe0 qe1 qe2 qe3 qe4 qe5 qe6 qe7
            have qe0 := (SG.out.e.2 0 _ rfl).1
            have qe1 := (SG.out.e.2 1 _ rfl).1
            have qe2 := (SG.out.e.2 2 _ rfl).1
            have qe3 := (SG.out.e.2 3 _ rfl).1
            have qe4 := (SG.out.e.2 4 _ rfl).1
            have qe5 := (SG.out.e.2 5 _ rfl).1
            have qe6 := (SG.out.e.2 6 _ rfl).1
            have qe7 := (SG.out.e.2 7 _ rfl).1
            have z0 := (SG.out.z.2 0 _ rfl).1
            have y0 := (SG.out.z.2 0 _ rfl).2
            have z1 := (SG.out.z.2 1 _ rfl).1
            have y1 := (SG.out.z.2 1 _ rfl).2
            have z2 := (SG.out.z.2 2 _ rfl).1
            have y2 := (SG.out.z.2 2 _ rfl).2
            have z3 := (SG.out.z.2 3 _ rfl).1
            have y3 := (SG.out.z.2 3 _ rfl).2
            have z4 := (SG.out.z.2 4 _ rfl).1
            have y4 := (SG.out.z.2 4 _ rfl).2
            have z5 := (SG.out.z.2 5 _ rfl).1
            have y5 := (SG.out.z.2 5 _ rfl).2
            have z6 := (SG.out.z.2 6 _ rfl).1
            have y6 := (SG.out.z.2 6 _ rfl).2
            have z7 := (SG.out.z.2 7 _ rfl).1
            have y7 := (SG.out.z.2 7 _ rfl).2
            by_cases hx : xe = 0
            · have he : (xe != 0) = false := by rw [bne_eq_false_iff_eq]; exact hx
              have HX0 := Lib.hid (HXE.out.trans hx)
              clear hx
              go_wp2_with fail
              refine bodyPost_ret (v := .tuple #[.agg #[.int .i64 0, .int .i64 t, .int .i64 0, .int .i64 0, .int .i64 0, .int .i64 0, .int .i64 0, .int .i64 0], .int .i64 0]) (by simp [results, Tryz.results21, go_sem, z0, z1, z2, z3, z4, z5, z6, z7]) rfl ?_
              exact absurd HX0.out (by unfold Lx.evErr; rw [if_pos (Or.inl (show (0 : Int) < 1 by decide))]; decide)
            · have he : (xe != 0) = true := by rw [bne_iff_ne]; exact hx
              have HX0 := Lib.hid (show ¬ Lx.evErr ⟨0, t, 0, 0, 0, 0, 0, 0⟩ = 0 from fun c => hx (HXE.out.symm.trans c))
              clear hx
              go_wp2_with fail
              refine bodyPost_ret (v := .tuple #[.agg #[.int .i64 0, .int .i64 0, .int .i64 0, .int .i64 0, .int .i64 0, .int .i64 0, .int .i64 0, .int .i64 0], .int .i64 10]) (by simp [results, Tryz.results21, go_sem, z0, z1, z2, z3, z4, z5, z6, z7]) rfl ?_
              exact ⟨Lx.evZ, 10, rfl, HF.out, ((((((((SG.out.bel.setCell (p := ⟨w.heap.size, 0, none⟩) (Nat.le_refl _) _).setCell (p := ⟨w.heap.size, 1, none⟩) (Nat.le_refl _) _).setCell (p := ⟨w.heap.size, 2, none⟩) (Nat.le_refl _) _).setCell (p := ⟨w.heap.size, 3, none⟩) (Nat.le_refl _) _).setCell (p := ⟨w.heap.size, 4, none⟩) (Nat.le_refl _) _).setCell (p := ⟨w.heap.size, 5, none⟩) (Nat.le_refl _) _).setCell (p := ⟨w.heap.size, 6, none⟩) (Nat.le_refl _) _).setCell (p := ⟨w.heap.size, 7, none⟩) (Nat.le_refl _) _)⟩
          · have hl1 : decide ((0 : Int) < (len : Int)) = true := decide_eq_true (by omega)
            have hl2 : decide (0 < len) = true := decide_eq_true (by omega)
            have HL0 := Lib.hid hl0
            clear hl0
            go_wp2_with fail
            refine bodyPost_ret (v := .tuple #[.agg #[.int .i64 0, .int .i64 0, .int .i64 0, .int .i64 0, .int .i64 0, .int .i64 0, .int .i64 0, .int .i64 0], .int .i64 10]) (by simp [results, Tryz.results21, go_sem, z0, z1, z2, z3, z4, z5, z6, z7]) rfl ?_
            exact ⟨Lx.evZ, 10, rfl, HF.out, ((((((((SF.out.bel.setCell (p := ⟨w.heap.size, 0, none⟩) (Nat.le_refl _) _).setCell (p := ⟨w.heap.size, 1, none⟩) (Nat.le_refl _) _).setCell (p := ⟨w.heap.size, 2, none⟩) (Nat.le_refl _) _).setCell (p := ⟨w.heap.size, 3, none⟩) (Nat.le_refl _) _).setCell (p := ⟨w.heap.size, 4, none⟩) (Nat.le_refl _) _).setCell (p := ⟨w.heap.size, 5, none⟩) (Nat.le_refl _) _).setCell (p := ⟨w.heap.size, 6, none⟩) (Nat.le_refl _) _).setCell (p := ⟨w.heap.size, 7, none⟩) (Nat.le_refl _) _)⟩
        · go_wp2_with fail
          refine bodyPost_ret (v := .tuple #[.agg #[.int .i64 0, .int .i64 0, .int .i64 0, .int .i64 0, .int .i64 0, .int .i64 0, .int .i64 0, .int .i64 0], .int .i64 10]) (by simp [results, Tryz.results21, go_sem, z0, z1, z2, z3, z4, z5, z6, z7]) rfl ?_
          exact ⟨Lx.evZ, 10, rfl, HF.out, ((((((((SF.out.bel.setCell (p := ⟨w.heap.size, 0, none⟩) (Nat.le_refl _) _).setCell (p := ⟨w.heap.size, 1, none⟩) (Nat.le_refl _) _).setCell (p := ⟨w.heap.size, 2, none⟩) (Nat.le_refl _) _).setCell (p := ⟨w.heap.size, 3, none⟩) (Nat.le_refl _) _).setCell (p := ⟨w.heap.size, 4, none⟩) (Nat.le_refl _) _).setCell (p := ⟨w.heap.size, 5, none⟩) (Nat.le_refl _) _).setCell (p := ⟨w.heap.size, 6, none⟩) (Nat.le_refl _) _).setCell (p := ⟨w.heap.size, 7, none⟩) (Nat.le_refl _) _)⟩
set_option maxRecDepth 100000 in
set_option maxHeartbeats 3200000 in
theorem read_1 (s : ByteArray) (ad : Option Addr) (m cap : Nat) (NS : List ByteArray) (w : World) (env : EEnv w) (h : Lx.IsNames w ad m NS) (hN : Lx.NOk NS) (hs : s.size ≤ 65536) (hk : Lx.kindOf (Lx.pAt (Lx.bl (Lx.spS s)) 1) = 1) :
    Calls Tryz.prog 21 #[.string s, .slice ad m cap] w (ReadEv NS s w) := by
  obtain ⟨mx, hmx⟩ := env.env.mx
  have HSP := Lib.hid (fun W (b : Below w.heap.size w W) => split_sp_any s W hs mx ((b.cell (p := ⟨1, 0, none⟩) (Nat.lt_of_lt_of_le g_mx_lt env.env.lt)).trans hmx))
  have HH := Lib.hid h
  have HPB := Lib.hid (Lx.spS_bd s)
  have HPC := Lib.hid (Lx.spS_pcs s)
  have hNm := hN.1
  have hml := h.1
  have HN := Lib.hid hN
  unfold ReadEv
  generalize Lx.spS s = P at *
  have hPl : P.length ≤ 65537 := by have := HPB.out.2; omega
  have hPz : ∀ x ∈ P, x.size ≤ 1000000000 := fun x hx => by have := HPB.out.1 x hx; omega
  have HPz := Lib.hid hPz
  have HK := Lib.hid hk
  have hgl := env.env.lt
  have hmm := @run_makeMap Tryz.prog
  clear hmx hPz hk hN h
  go_enter Tryz.func21, Tryz.ntmps21
  go_wp2_with fail
  refine (kinds_any _).mono ?_
  rintro e w1 ⟨g, rfl, hg, hk, c1⟩
  have ba : Below w.heap.size w ((w.alloc (.cells #[.int .i64 0, .int .i64 0, .int .i64 0, .int .i64 0, .int .i64 0, .int .i64 0, .int .i64 0, .int .i64 0] 26)).alloc (.map #[] 0)) := ((Below.refl _ w).alloc (Nat.le_refl _) _).alloc (by simp) _
  have B1 := Lib.hid (ba.trans (c1.mono ba.size))
  have Z1 := Lib.hid (((Lx.EvBox.new w 0 0 0 0 0 0 0 0 26).below ((Below.refl _ _).alloc (Nat.le_refl _) (.map #[] 0))).below c1)
  have M1 : w1.ownsMap Tryz.prog 9 Lx.wordR (w.heap.size + 1) 0 (Lx.wordD 0) := by
    have h0 := World.ownsMap_made (w.alloc (.cells #[.int .i64 0, .int .i64 0, .int .i64 0, .int .i64 0, .int .i64 0, .int .i64 0, .int .i64 0, .int .i64 0] 26)) Tryz.prog 9 Lx.wordR
    rw [World.size_alloc] at h0
    exact Lx.mapBelow h0 c1
  have hgM : w.heap.size + 2 ≤ g := by have := hg; simp at this; omega
  have M1 := Lib.hid M1
  have K1 := Lib.hid hk
  clear ba c1 hg hk
  obtain ⟨M, hM⟩ : ∃ M, w.heap.size + 1 = M := ⟨_, rfl⟩
  rw [hM] at M1
  simp only [hM]
  have HM := Lib.hid hM
  have hMg : M < g := by omega
  have hwM : w.heap.size < M := by omega
  clear hM hgM
  go_wp2_with fail
  go_loopw [15] (fun i wr => ∃ k : Nat, k ≤ 9 ∧ i = .int .i64 k ∧ wr.ownsMap Tryz.prog 9 Lx.wordR M k (Lx.wordD k) ∧ Lx.KindsAt wr g ∧ Lx.EvBox wr w.heap.size Lx.evZ ∧ Below w.heap.size w wr) (fun i _ => 9 - (intOf i).toNat)
  case atStart => exact ⟨0, by omega, rfl, M1.out, K1.out, Z1.out, B1.out⟩
  case round =>
    obtain ⟨k, hk, rfl, hown, hka, hz, hb⟩ := hrel
    clear M1 K1 Z1 B1
    by_cases hlt : k < 9
    · obtain ⟨c0, c1, c2⟩ := hka.2 k hlt
      have hki : (k : Int) < 9 := by omega
      have hkey : keyOf Tryz.prog 9 (.string ⟨(Lx.evWord (k : Nat)).toArray⟩) = some (.string (Lx.evWord (k : Nat))) := Go.WideMaps.keyOf_string_mk Tryz.underlying9 (Lx.word_small k)
      obtain ⟨w2, hrun2, hown2, hgr⟩ := (hown.alloc (.cells #[.string ⟨(Lx.evWord (k : Nat)).toArray⟩, .int .i64 (Lx.usesN k), .int .i64 (Lx.yMax (k : Nat))] 69)).update lawS Tryz.underlying65 (by unfold maxLen; omega) (key := .string ⟨(Lx.evWord (k : Nat)).toArray⟩) (val := .int .i64 (k : Nat)) hkey (d := .lit (.int .i64 (k : Nat))) (ps := []) rfl
      have kp := Lx.Kp.grown hgr (Nat.lt_of_lt_of_le hown.lt (by simp))
      have ba := (Below.refl wr.heap.size wr).alloc (Nat.le_refl _) (.cells #[.string ⟨(Lx.evWord (k : Nat)).toArray⟩, .int .i64 (Lx.usesN k), .int .i64 (Lx.yMax (k : Nat))] 69)
      have HOW := Lib.hid hown2
      have HKA := Lib.hid ((hka.below ba).kp kp (by omega))
      have HZ := Lib.hid ((hz.below ba).kp kp (by omega))
      have HB := Lib.hid ((hb.trans (ba.mono hb.size)).trans (kp.1.mono (by omega)))
      clear hown hka hz hb hown2 hgr kp ba hkey
      go_wp2_with fail
      go_roundw
      case rel => exact ⟨k + 1, by omega, by go_num, HOW.out, HKA.out, HZ.out, HB.out⟩
      case measure => simp [intOf]; omega
    · obtain rfl : k = 9 := by omega
      have HOW := Lib.hid hown
      have HZ := Lib.hid hz
      have HB := Lib.hid hb
      clear hown hka hz hb
      go_wp2_with fail
      refine (HSP.out _ HB.out).mono ?_
      rintro e w2 ⟨rfl, rfl⟩
      obtain ⟨W2, hW2⟩ : ∃ W2, W2 = (wr.alloc (.cells (P.map Value.string).toArray 9)).alloc (.cells #[.slice (some ⟨wr.heap.size, 0, none⟩) P.length P.length, .bool false] 73) := ⟨_, rfl⟩
      have ba : Below wr.heap.size wr W2 := by rw [hW2]; exact ((Below.refl _ _).alloc (Nat.le_refl _) _).alloc (by simp) _
      have RD2 : Lx.Rd W2 (wr.heap.size + 1) wr.heap.size P (min 0 P.length) false := by rw [hW2]; exact Lx.Rd.new wr P _ _
      have Z2 := Lib.hid (HZ.out.below ba)
      have B2 := Lib.hid (HB.out.trans (ba.mono HB.out.size))
      have M2 := Lib.hid (Lx.mapBelow HOW.out ba)
      have RD2 := Lib.hid RD2
      have hwr : w.heap.size ≤ wr.heap.size := HB.out.size
      have hMr : M < wr.heap.size := HOW.out.lt
      obtain ⟨gp, hgp⟩ : ∃ gp, wr.heap.size = gp := ⟨_, rfl⟩
      obtain ⟨R, hR⟩ : ∃ R, gp + 1 = R := ⟨_, rfl⟩
      rw [hgp, hR] at RD2
      rw [hgp] at hW2
      rw [hgp] at hMr hwr
      have hzR : w.heap.size ≠ R := by omega
      have hMR : M ≠ R := by omega
      have hgR : Tryz.prog.globals.size ≤ R := by omega
      go_wp2_with fail
      rw [← hW2]
      try simp only [hgp, hR]
      clear ba HZ HB HOW hW2
      refine (number_i R gp P 0 _ W2 (env.env.below B2.out) hgR RD2.out (by omega) HPz.out).mono ?_
      rintro e w3 ⟨rfl, rd3, kp3⟩
      have hs3 : R < w3.heap.size := rd3.lt
      have Z3 := Z2.out.kp kp3 hzR
      have B3 := B2.out.trans (kp3.1.mono (by omega))
      have M3 := Lx.mapKp M2.out kp3 hMR
      have HNB := Lib.hid (Lx.num_bd (Lx.pAt (Lx.bl P) 0))
      obtain ⟨t, ht⟩ : ∃ t, Lx.numRes (Lx.pAt (Lx.bl P) 0) = t := ⟨_, rfl⟩
      rw [ht]
      have HT := Lib.hid ht
      have be := (Below.refl w3.heap.size w3).alloc (Nat.le_refl _) (.cells #[.int .i64 0, .int .i64 t, .int .i64 0, .int .i64 0, .int .i64 0, .int .i64 0, .int .i64 0, .int .i64 0] 26)
      have E4 := Lib.hid (Lx.EvBox.new w3 0 t 0 0 0 0 0 0 26)
      have Z4 := Lib.hid (Z3.below be)
      have B4 := Lib.hid (B3.trans (be.mono B3.size))
      have M4 := Lib.hid (Lx.mapBelow M3 be)
      have RD4 := Lib.hid (rd3.below be)
      obtain ⟨E, hE⟩ : ∃ E, w3.heap.size = E := ⟨_, rfl⟩
      rw [hE] at E4 hs3
      have hER : E ≠ R := by omega
      have hwE : w.heap.size ≤ E := by omega
      clear rd3 kp3 Z3 B3 M3 be Z2 B2 M2 RD2 ht
      go_wp2_with fail
      try simp only [hE]
      refine (next_i R gp P 1 _ _ RD4.out (by omega)).mono ?_
      rintro e w5 ⟨rfl, rd5, kp5⟩
      have Z5 := Lib.hid (Z4.out.kp kp5 hzR)
      have B5 := Lib.hid (B4.out.trans (kp5.1.mono (by omega)))
      have E5 := Lib.hid (E4.out.kp kp5 hER)
      have RD5 := Lib.hid rd5
      have M5 := Lx.mapKp M4.out kp5 hMR
      have hkey : keyOf Tryz.prog 9 (.string ⟨(Lx.pAt (Lx.bl P) 1).toArray⟩) = some (.string (Lx.pAt (Lx.bl P) 1)) := Go.WideMaps.keyOf_string_mk Tryz.underlying9 (Lx.pAt_small P 1 (fun x hx => by have := HPz.out x hx; unfold maxLen; omega))
      obtain ⟨v, ps, hrun, hv⟩ := M5.lookup lawS Tryz.underlying65 (zeroI w5) (zd := .lit (.int .i64 0)) (zp := []) rfl hkey
      rw [Lx.wordD_at, HK.out] at hv
      have hvb : v = .int .i64 1 := by
        cases v <;> simp [Lx.wordR] at hv
        rename_i kk nn; cases kk <;> simp at hv; rw [hv.1]
      subst hvb
      clear rd5 kp5 M5 hkey hv Z4 B4 E4 RD4 M4
      have qe0 := (E5.out.2 0 _ rfl).1
      have fe0 := (E5.out.2 0 _ rfl).2
      go_upto_region 10 with (fail)
      clear hrun
      obtain ⟨W6, hW6⟩ : ∃ W6, W6 = w5.setCell ⟨E, 0, none⟩ (.int .i64 1) := ⟨_, rfl⟩
      rw [← hW6]
      have E6 := Lib.hid (show Lx.EvBox W6 E ⟨1, t, 0, 0, 0, 0, 0, 0⟩ by rw [hW6]; exact E5.out.set (by decide) rfl)
      have kp6 : Lx.Kp E w5 W6 := by rw [hW6]; exact Lx.Kp.set
      have Z6 := Lib.hid (Z5.out.kp kp6 (by omega))
      have B6 := Lib.hid (B5.out.trans (kp6.1.mono (by omega)))
      have RD6 := Lib.hid (RD5.out.kp kp6 (by omega) (by omega))
      clear qe0 fe0 kp6 Z5 B5 E5 RD5 hW6
      have q6 := (E6.out.2 0 _ rfl).1
      have hl6 := E6.out.1
      go_cut [11] (fun s11 wx => ∃ kb : Nat, s11 = .pointer (some ⟨kb, 0, none⟩) ∧ W6.heap.size ≤ kb ∧ Lx.KBox wx kb 1 ∧ Below W6.heap.size W6 wx)
      case first =>
        have HP := Lib.hid (fun W (hb : Below W6.heap.size W6 W) => (hb.cell (p := ⟨E, 0, none⟩) hl6).trans q6)
        have hS0 : (fun wx => Below W6.heap.size W6 wx ∧ wx.cell? ⟨E, 0, none⟩ = some (.int .i64 1)) W6.drew := ⟨(Below.refl _ _).drew, q6⟩
        dsimp only at hS0
        refine wp_region_held_drew (S := (fun wx => Below W6.heap.size W6 wx ∧ wx.cell? ⟨E, 0, none⟩ = some (.int .i64 1))) (by kernel_rfl) ?_ (fun hHeld => ?_)
        · exact hS0
        refine' wpAnyH_take (i := 1) (oi := _) (v := _) ?hiz14 (by kernel_rfl) (by kernel_rfl) (by kernel_rfl) ?hqz14 ?hyz14 (by assumption) ?rez14
        case hiz14 => simp only [List.getElem?_toArray, List.getElem?_cons_succ, List.getElem?_cons_zero]; rfl
        case hqz14 => exact fun _ _ _ h => h
        case hyz14 =>
          refine Or.inl ⟨by rfl, ?_⟩
          intro w hSw; (try dsimp only at hSw); go_simp; try with_reducible rfl
        case rez14 =>
          try simp only [Act.put, List.setIfInBounds_toArray, List.set_cons_zero, List.set_cons_succ]
          refine' wpAnyH_take (i := 2) (oi := _) (v := _) ?hiz15 (by kernel_rfl) (by kernel_rfl) (by kernel_rfl) ?hqz15 ?hyz15 (by assumption) ?rez15
          case hiz15 => simp only [List.getElem?_toArray, List.getElem?_cons_succ, List.getElem?_cons_zero]; rfl
          case hqz15 => exact fun _ _ _ h => h
          case hyz15 =>
            refine Or.inl ⟨by rfl, ?_⟩
            intro w hSw; (try dsimp only at hSw); go_simp; try with_reducible rfl
          case rez15 =>
            try simp only [Act.put, List.setIfInBounds_toArray, List.set_cons_zero, List.set_cons_succ]
            refine wpAnyH_ready (rs := [0, 5]) (by kernel_rfl) (by simp) ?_
            refine' AllReadyH.cons (o := _) ?hi0z16 (fun K hK => ?st0z16) (AllReadyH.cons (o := _) ?hi5z16 (fun K hK => ?st5z16) AllReadyH.nil)
            case hi0z16 => simp only [List.getElem?_toArray, List.getElem?_cons_zero]; rfl
            case hi5z16 => simp only [List.getElem?_toArray, List.getElem?_cons_succ, List.getElem?_cons_zero]; rfl
            case st0z16 =>
              go_simp
              go_at_call 37; refine (kinds_any _).mono ?_; rintro e w7 ⟨g7, rfl, hg7, hk7, c7⟩; obtain ⟨k0, k1, k2⟩ := hk7.2 1 (by omega); have hgl7 := hk7.1; clear hk7 hg7; have kb := Lx.bCall (P := fun wx => wx.cell? ⟨E, 0, none⟩ = some (.int .i64 1)) (by assumption) c7; have hz7 := kb.size; have hs7 := c7.size; simp at hs7; have kS := Lx.mkS HP.out kb; have b0 := fun i => c7.cell (p := ⟨W6.heap.size, i, none⟩); have f0 := fun i => c7.frozen (p := ⟨W6.heap.size, i, none⟩)
              try go_wp2_with fail
              refine hK.out _ _ ?_ (fun hHeld => ?_)
              · (first | assumption | (refine Lx.mkS HP.out ?_; repeat (first | assumption | exact Below.refl _ _ | apply Lx.bDrew | apply Lx.bAlloc | (apply Lx.bSet; (first | exact Nat.le_refl _ | assumption)))))
              clear hK K
              try simp only [Act.put, List.setIfInBounds_toArray, List.set_cons_zero, List.set_cons_succ]
              refine' wpAnyH_take (i := 3) (oi := _) (v := _) ?hiz17 (by kernel_rfl) (by kernel_rfl) (by kernel_rfl) ?hqz17 ?hyz17 (by assumption) ?rez17
              case hiz17 => simp only [List.getElem?_toArray, List.getElem?_cons_succ, List.getElem?_cons_zero]; rfl
              case hqz17 => exact fun _ _ _ h => h
              case hyz17 =>
                refine Or.inl ⟨by rfl, ?_⟩
                intro w hSw; (try dsimp only at hSw); go_simp; try with_reducible rfl
              case rez17 =>
                try simp only [Act.put, List.setIfInBounds_toArray, List.set_cons_zero, List.set_cons_succ]
                refine wpAnyH_ready (rs := [4, 5]) (by kernel_rfl) (by simp) ?_
                refine' AllReadyH.cons (o := _) ?hi4z18 (fun K hK => ?st4z18) (AllReadyH.cons (o := _) ?hi5z18 (fun K hK => ?st5z18) AllReadyH.nil)
                case hi4z18 => simp only [List.getElem?_toArray, List.getElem?_cons_succ, List.getElem?_cons_zero]; rfl
                case hi5z18 => simp only [List.getElem?_toArray, List.getElem?_cons_succ, List.getElem?_cons_zero]; rfl
                case st4z18 =>
                  go_simp
                  try go_wp2_with fail
                  refine hK.out _ _ ?_ (fun hHeld => ?_)
                  · (first | assumption | (refine Lx.mkS HP.out ?_; repeat (first | assumption | exact Below.refl _ _ | apply Lx.bDrew | apply Lx.bAlloc | (apply Lx.bSet; (first | exact Nat.le_refl _ | assumption)))))
                  clear hK K
                  try simp only [Act.put, List.setIfInBounds_toArray, List.set_cons_zero, List.set_cons_succ]
                  refine wpAnyH_ready (rs := [5]) (by kernel_rfl) (by simp) ?_
                  refine' AllReadyH.cons (o := _) ?hi5z19 (fun K hK => ?st5z19) AllReadyH.nil
                  case hi5z19 => simp only [List.getElem?_toArray, List.getElem?_cons_succ, List.getElem?_cons_zero]; rfl
                  case st5z19 =>
                    go_simp
                    try go_wp2_with fail
                    refine hK.out _ _ ?_ (fun hHeld => ?_)
                    · (first | assumption | (refine Lx.mkS HP.out ?_; repeat (first | assumption | exact Below.refl _ _ | apply Lx.bDrew | apply Lx.bAlloc | (apply Lx.bSet; (first | exact Nat.le_refl _ | assumption)))))
                    clear hK K
                    try simp only [Act.put, List.setIfInBounds_toArray, List.set_cons_zero, List.set_cons_succ]
                    refine wpAnyH_ready (rs := [6]) (by kernel_rfl) (by simp) ?_
                    refine' AllReadyH.cons (o := _) ?hi6z20 (fun K hK => ?st6z20) AllReadyH.nil
                    case hi6z20 => simp only [List.getElem?_toArray, List.getElem?_cons_succ, List.getElem?_cons_zero]; rfl
                    case st6z20 =>
                      go_simp
                      try go_wp2_with fail
                      refine hK.out _ _ ?_ (fun hHeld => ?_)
                      · (first | assumption | (refine Lx.mkS HP.out ?_; repeat (first | assumption | exact Below.refl _ _ | apply Lx.bDrew | apply Lx.bAlloc | (apply Lx.bSet; (first | exact Nat.le_refl _ | assumption)))))
                      clear hK K
                      try simp only [Act.put, List.setIfInBounds_toArray, List.set_cons_zero, List.set_cons_succ]
                      refine wpAnyH_done (by kernel_rfl) ?_ _
                      go_wp2_with fail
                      go_meet
                      first | exact ⟨_, rfl, by omega, ⟨by simp, by simp, by simp, by simp⟩, And.left (by assumption)⟩ | (refine ⟨_, rfl, Nat.le_refl _, ⟨?_, ?_, ?_, ?_⟩, And.left (by assumption)⟩ <;> first | (go_simp; done) | (rw [Lx.size_set, Lx.size_set, Lx.size_set]; omega))
                case st5z18 =>
                  go_simp
                  try go_wp2_with fail
                  refine hK.out _ _ ?_ (fun hHeld => ?_)
                  · (first | assumption | (refine Lx.mkS HP.out ?_; repeat (first | assumption | exact Below.refl _ _ | apply Lx.bDrew | apply Lx.bAlloc | (apply Lx.bSet; (first | exact Nat.le_refl _ | assumption)))))
                  clear hK K
                  try simp only [Act.put, List.setIfInBounds_toArray, List.set_cons_zero, List.set_cons_succ]
                  refine wpAnyH_ready (rs := [4]) (by kernel_rfl) (by simp) ?_
                  refine' AllReadyH.cons (o := _) ?hi4z21 (fun K hK => ?st4z21) AllReadyH.nil
                  case hi4z21 => simp only [List.getElem?_toArray, List.getElem?_cons_succ, List.getElem?_cons_zero]; rfl
                  case st4z21 =>
                    go_simp
                    try go_wp2_with fail
                    refine hK.out _ _ ?_ (fun hHeld => ?_)
                    · (first | assumption | (refine Lx.mkS HP.out ?_; repeat (first | assumption | exact Below.refl _ _ | apply Lx.bDrew | apply Lx.bAlloc | (apply Lx.bSet; (first | exact Nat.le_refl _ | assumption)))))
                    clear hK K
                    try simp only [Act.put, List.setIfInBounds_toArray, List.set_cons_zero, List.set_cons_succ]
                    refine wpAnyH_ready (rs := [6]) (by kernel_rfl) (by simp) ?_
                    refine' AllReadyH.cons (o := _) ?hi6z22 (fun K hK => ?st6z22) AllReadyH.nil
                    case hi6z22 => simp only [List.getElem?_toArray, List.getElem?_cons_succ, List.getElem?_cons_zero]; rfl
                    case st6z22 =>
                      go_simp
                      try go_wp2_with fail
                      refine hK.out _ _ ?_ (fun hHeld => ?_)
                      · (first | assumption | (refine Lx.mkS HP.out ?_; repeat (first | assumption | exact Below.refl _ _ | apply Lx.bDrew | apply Lx.bAlloc | (apply Lx.bSet; (first | exact Nat.le_refl _ | assumption)))))
                      clear hK K
                      try simp only [Act.put, List.setIfInBounds_toArray, List.set_cons_zero, List.set_cons_succ]
                      refine wpAnyH_done (by kernel_rfl) ?_ _
                      go_wp2_with fail
                      go_meet
                      first | exact ⟨_, rfl, by omega, ⟨by simp, by simp, by simp, by simp⟩, And.left (by assumption)⟩ | (refine ⟨_, rfl, Nat.le_refl _, ⟨?_, ?_, ?_, ?_⟩, And.left (by assumption)⟩ <;> first | (go_simp; done) | (rw [Lx.size_set, Lx.size_set, Lx.size_set]; omega))
            case st5z16 =>
              go_simp
              try go_wp2_with fail
              refine hK.out _ _ ?_ (fun hHeld => ?_)
              · (first | assumption | (refine Lx.mkS HP.out ?_; repeat (first | assumption | exact Below.refl _ _ | apply Lx.bDrew | apply Lx.bAlloc | (apply Lx.bSet; (first | exact Nat.le_refl _ | assumption)))))
              clear hK K
              try simp only [Act.put, List.setIfInBounds_toArray, List.set_cons_zero, List.set_cons_succ]
              refine wpAnyH_ready (rs := [0]) (by kernel_rfl) (by simp) ?_
              refine' AllReadyH.cons (o := _) ?hi0z23 (fun K hK => ?st0z23) AllReadyH.nil
              case hi0z23 => simp only [List.getElem?_toArray, List.getElem?_cons_zero]; rfl
              case st0z23 =>
                go_simp
                go_at_call 37; refine (kinds_any _).mono ?_; rintro e w7 ⟨g7, rfl, hg7, hk7, c7⟩; obtain ⟨k0, k1, k2⟩ := hk7.2 1 (by omega); have hgl7 := hk7.1; clear hk7 hg7; have kb := Lx.bCall (P := fun wx => wx.cell? ⟨E, 0, none⟩ = some (.int .i64 1)) (by assumption) c7; have hz7 := kb.size; have hs7 := c7.size; simp at hs7; have kS := Lx.mkS HP.out kb; have b0 := fun i => c7.cell (p := ⟨W6.heap.size, i, none⟩); have f0 := fun i => c7.frozen (p := ⟨W6.heap.size, i, none⟩)
                try go_wp2_with fail
                refine hK.out _ _ ?_ (fun hHeld => ?_)
                · (first | assumption | (refine Lx.mkS HP.out ?_; repeat (first | assumption | exact Below.refl _ _ | apply Lx.bDrew | apply Lx.bAlloc | (apply Lx.bSet; (first | exact Nat.le_refl _ | assumption)))))
                clear hK K
                try simp only [Act.put, List.setIfInBounds_toArray, List.set_cons_zero, List.set_cons_succ]
                refine' wpAnyH_take (i := 3) (oi := _) (v := _) ?hiz24 (by kernel_rfl) (by kernel_rfl) (by kernel_rfl) ?hqz24 ?hyz24 (by assumption) ?rez24
                case hiz24 => simp only [List.getElem?_toArray, List.getElem?_cons_succ, List.getElem?_cons_zero]; rfl
                case hqz24 => exact fun _ _ _ h => h
                case hyz24 =>
                  refine Or.inl ⟨by rfl, ?_⟩
                  intro w hSw; (try dsimp only at hSw); go_simp; try with_reducible rfl
                case rez24 =>
                  try simp only [Act.put, List.setIfInBounds_toArray, List.set_cons_zero, List.set_cons_succ]
                  refine wpAnyH_ready (rs := [4]) (by kernel_rfl) (by simp) ?_
                  refine' AllReadyH.cons (o := _) ?hi4z25 (fun K hK => ?st4z25) AllReadyH.nil
                  case hi4z25 => simp only [List.getElem?_toArray, List.getElem?_cons_succ, List.getElem?_cons_zero]; rfl
                  case st4z25 =>
                    go_simp
                    try go_wp2_with fail
                    refine hK.out _ _ ?_ (fun hHeld => ?_)
                    · (first | assumption | (refine Lx.mkS HP.out ?_; repeat (first | assumption | exact Below.refl _ _ | apply Lx.bDrew | apply Lx.bAlloc | (apply Lx.bSet; (first | exact Nat.le_refl _ | assumption)))))
                    clear hK K
                    try simp only [Act.put, List.setIfInBounds_toArray, List.set_cons_zero, List.set_cons_succ]
                    refine wpAnyH_ready (rs := [6]) (by kernel_rfl) (by simp) ?_
                    refine' AllReadyH.cons (o := _) ?hi6z26 (fun K hK => ?st6z26) AllReadyH.nil
                    case hi6z26 => simp only [List.getElem?_toArray, List.getElem?_cons_succ, List.getElem?_cons_zero]; rfl
                    case st6z26 =>
                      go_simp
                      try go_wp2_with fail
                      refine hK.out _ _ ?_ (fun hHeld => ?_)
                      · (first | assumption | (refine Lx.mkS HP.out ?_; repeat (first | assumption | exact Below.refl _ _ | apply Lx.bDrew | apply Lx.bAlloc | (apply Lx.bSet; (first | exact Nat.le_refl _ | assumption)))))
                      clear hK K
                      try simp only [Act.put, List.setIfInBounds_toArray, List.set_cons_zero, List.set_cons_succ]
                      refine wpAnyH_done (by kernel_rfl) ?_ _
                      go_wp2_with fail
                      go_meet
                      first | exact ⟨_, rfl, by omega, ⟨by simp, by simp, by simp, by simp⟩, And.left (by assumption)⟩ | (refine ⟨_, rfl, Nat.le_refl _, ⟨?_, ?_, ?_, ?_⟩, And.left (by assumption)⟩ <;> first | (go_simp; done) | (rw [Lx.size_set, Lx.size_set, Lx.size_set]; omega))
      case rest =>
        obtain ⟨kb, rfl, hkb, hkx, hbc⟩ := hcut
        obtain ⟨W7, rfl⟩ : ∃ W, W = wc := ⟨_, rfl⟩
        have S0 := Lib.hid (Lx.RS.mk (w := w) (i := 2) (B6.out.trans (hbc.mono B6.out.size)) (Z6.out.below hbc) (E6.out.below hbc) hkx (RD6.out.below hbc) (Nat.le_refl _) (by omega) hwE hzR hER (by have := RD6.out.lt; omega) (by omega) (by omega) (by omega))
        clear hkb hkx hbc q6 hl6 Z6 E6 B6 RD6
        have HTB := Lib.hid (show Lx.inR t from by rw [← HT.out]; exact HNB.out)
        have k1 : (W7).cell? ⟨kb, 1, none⟩ = some (.int .i64 7) := S0.out.kx.2.2.1
        go_wp2_with fail
        refine (among_i R gp P 2 _ ad m cap NS _ S0.out.rd (by omega) (fun W k => HH.out.below (S0.out.bel.trans (k.1.mono S0.out.hR))) (by omega)).mono ?_
        rintro e w8 ⟨rfl, rd, kp⟩
        have S1 := Lib.hid (S0.out.kp kp rd)
        clear S0
        clear rd kp
        obtain ⟨j, hj⟩ : ∃ j, Lx.nVal NS (Lx.pAt (Lx.bl P) 2) = j := ⟨_, rfl⟩
        rw [hj]
        have Vj := Lib.hid hj
        clear hj
        have qe2 := (S1.out.e.2 2 _ rfl).1
        have fe2 := (S1.out.e.2 2 _ rfl).2
        have S2 := Lib.hid (S1.out.set (o' := ⟨1, t, j, 0, 0, 0, 0, 0⟩) (j := 2) (v := .int .i64 j) (by decide) rfl)
        clear S1
        have k1 : ((w8).setCell ⟨E, 2, none⟩ (.int .i64 j)).cell? ⟨kb, 1, none⟩ = some (.int .i64 7) := S2.out.kx.2.2.1
        go_wp2_with fail
        refine (number_i R gp P 3 _ _ (env.env.below S2.out.bel) hgR S2.out.rd (by omega) HPz.out).mono ?_
        rintro e w9 ⟨rfl, rd, kp⟩
        have S3 := Lib.hid (S2.out.kp kp rd)
        clear S2
        clear rd kp
        obtain ⟨d, hd⟩ : ∃ d, Lx.numRes (Lx.pAt (Lx.bl P) 3) = d := ⟨_, rfl⟩
        rw [hd]
        have Vd := Lib.hid hd
        clear hd
        go_wp2_with fail
        refine (number_i R gp P 4 _ _ (env.env.below S3.out.bel) hgR S3.out.rd (by omega) HPz.out).mono ?_
        rintro e w10 ⟨rfl, rd, kp⟩
        have S4 := Lib.hid (S3.out.kp kp rd)
        clear S3
        clear rd kp
        obtain ⟨a, ha⟩ : ∃ a, Lx.numRes (Lx.pAt (Lx.bl P) 4) = a := ⟨_, rfl⟩
        rw [ha]
        have Va := Lib.hid ha
        clear ha
        have qe3 := (S4.out.e.2 3 _ rfl).1
        have fe3 := (S4.out.e.2 3 _ rfl).2
        have S5 := Lib.hid (S4.out.set (o' := ⟨1, t, j, d, 0, 0, 0, 0⟩) (j := 3) (v := .int .i64 d) (by decide) rfl)
        clear S4
        have qe4 := (S5.out.e.2 4 _ rfl).1
        have fe4 := (S5.out.e.2 4 _ rfl).2
        have S6 := Lib.hid (S5.out.set (o' := ⟨1, t, j, d, a, 0, 0, 0⟩) (j := 4) (v := .int .i64 a) (by decide) rfl)
        clear S5
        have k1 : (((w10).setCell ⟨E, 3, none⟩ (.int .i64 d)).setCell ⟨E, 4, none⟩ (.int .i64 a)).cell? ⟨kb, 1, none⟩ = some (.int .i64 7) := S6.out.kx.2.2.1
        have qe0 := (S6.out.e.2 0 _ rfl).1
        go_wp2_with fail
        refine (number_i R gp P 5 _ _ (env.env.below S6.out.bel) hgR S6.out.rd (by omega) HPz.out).mono ?_
        rintro e w11 ⟨rfl, rd, kp⟩
        have S7 := Lib.hid (S6.out.kp kp rd)
        clear S6
        clear rd kp
        obtain ⟨r, hr⟩ : ∃ r, Lx.numRes (Lx.pAt (Lx.bl P) 5) = r := ⟨_, rfl⟩
        rw [hr]
        have Vr := Lib.hid hr
        clear hr
        have qe5 := (S7.out.e.2 5 _ rfl).1
        have fe5 := (S7.out.e.2 5 _ rfl).2
        have S8 := Lib.hid (S7.out.set (o' := ⟨1, t, j, d, a, r, 0, 0⟩) (j := 5) (v := .int .i64 r) (by decide) rfl)
        clear S7
        have k1 : ((w11).setCell ⟨E, 5, none⟩ (.int .i64 r)).cell? ⟨kb, 1, none⟩ = some (.int .i64 7) := S8.out.kx.2.2.1
        obtain ⟨BV, SF, hBV⟩ := S8.out.ex
        have SF := Lib.hid SF
        have bd := SF.out.rd.bd
        obtain ⟨A0, C0, sl0, -⟩ := SF.out.rd.sl
        obtain ⟨len, hlen⟩ : ∃ len, P.length - min 6 P.length = len := ⟨_, rfl⟩
        rw [hlen] at sl0
        have HF := Lib.hid (Lx.fin HN.out HPC.out (b := BV) (len := len) (o := ⟨1, t, j, d, a, r, 0, 0⟩) (by rw [hBV, ← hlen]; exact Lx.ok_r HK.out (by decide) (by decide)) (by unfold Lx.rdE; rw [HK.out]; simp only [HT.out, Vj.out, Vd.out, Va.out, Vr.out]; rfl))
        have hlenb : len ≤ 65537 := by omega
        clear hBV hlen HPC HK HPz S8
        have qe0 := (SF.out.e.2 0 _ rfl).1
        have z0 := (SF.out.z.2 0 _ rfl).1
        have y0 := (SF.out.z.2 0 _ rfl).2
        have z1 := (SF.out.z.2 1 _ rfl).1
        have y1 := (SF.out.z.2 1 _ rfl).2
        have z2 := (SF.out.z.2 2 _ rfl).1
        have y2 := (SF.out.z.2 2 _ rfl).2
        have z3 := (SF.out.z.2 3 _ rfl).1
        have y3 := (SF.out.z.2 3 _ rfl).2
        have z4 := (SF.out.z.2 4 _ rfl).1
        have y4 := (SF.out.z.2 4 _ rfl).2
        have z5 := (SF.out.z.2 5 _ rfl).1
        have y5 := (SF.out.z.2 5 _ rfl).2
        have z6 := (SF.out.z.2 6 _ rfl).1
        have y6 := (SF.out.z.2 6 _ rfl).2
        have z7 := (SF.out.z.2 7 _ rfl).1
        have y7 := (SF.out.z.2 7 _ rfl).2
        cases BV
        · by_cases hl0 : len = 0
          · subst hl0
            have qe1 := (SF.out.e.2 1 _ rfl).1
            have qe2 := (SF.out.e.2 2 _ rfl).1
            have qe3 := (SF.out.e.2 3 _ rfl).1
            have qe4 := (SF.out.e.2 4 _ rfl).1
            have qe5 := (SF.out.e.2 5 _ rfl).1
            have qe6 := (SF.out.e.2 6 _ rfl).1
            have qe7 := (SF.out.e.2 7 _ rfl).1
            have HCK := Lib.hid (fun W => evcheck_any ⟨1, t, j, d, a, r, 0, 0⟩ W)
            unfold EvCheckIs Lx.EvV.val at HCK
            dsimp only at HCK
            have HX := Lib.hid (show ∃ x, Lx.evErr ⟨1, t, j, d, a, r, 0, 0⟩ = x from ⟨_, rfl⟩)
            obtain ⟨xe, hxe⟩ := HX.out
            rw [hxe] at HCK
            have HXE := Lib.hid hxe
            clear HX hxe
            go_wp2_with fail
            refine (HCK.out _).mono ?_
            rintro e wf ⟨rfl, cf⟩
            have SG := Lib.hid (SF.out.below cf)
            clear cf z0 z1 z2 z3 z4 z5 z6 z7 y0 y1 y2 y3 y4 y5 y6 y7 qe0 qe1 qe2 qe3 qe4 qe5 qe6 qe7
            have qe0 := (SG.out.e.2 0 _ rfl).1
            have qe1 := (SG.out.e.2 1 _ rfl).1
            have qe2 := (SG.out.e.2 2 _ rfl).1
            have qe3 := (SG.out.e.2 3 _ rfl).1
            have qe4 := (SG.out.e.2 4 _ rfl).1
            have qe5 := (SG.out.e.2 5 _ rfl).1
            have qe6 := (SG.out.e.2 6 _ rfl).1
            have qe7 := (SG.out.e.2 7 _ rfl).1
            have z0 := (SG.out.z.2 0 _ rfl).1
            have y0 := (SG.out.z.2 0 _ rfl).2
            have z1 := (SG.out.z.2 1 _ rfl).1
            have y1 := (SG.out.z.2 1 _ rfl).2
            have z2 := (SG.out.z.2 2 _ rfl).1
            have y2 := (SG.out.z.2 2 _ rfl).2
            have z3 := (SG.out.z.2 3 _ rfl).1
            have y3 := (SG.out.z.2 3 _ rfl).2
            have z4 := (SG.out.z.2 4 _ rfl).1
            have y4 := (SG.out.z.2 4 _ rfl).2
            have z5 := (SG.out.z.2 5 _ rfl).1
            have y5 := (SG.out.z.2 5 _ rfl).2
            have z6 := (SG.out.z.2 6 _ rfl).1
            have y6 := (SG.out.z.2 6 _ rfl).2
            have z7 := (SG.out.z.2 7 _ rfl).1
            have y7 := (SG.out.z.2 7 _ rfl).2
            by_cases hx : xe = 0
            · have he : (xe != 0) = false := by rw [bne_eq_false_iff_eq]; exact hx
              have HX0 := Lib.hid (HXE.out.trans hx)
              clear hx
              go_wp2_with fail
              refine bodyPost_ret (v := .tuple #[.agg #[.int .i64 1, .int .i64 t, .int .i64 j, .int .i64 d, .int .i64 a, .int .i64 r, .int .i64 0, .int .i64 0], .int .i64 0]) (by simp [results, Tryz.results21, go_sem, z0, z1, z2, z3, z4, z5, z6, z7]) rfl ?_
              exact ⟨⟨1, t, j, d, a, r, 0, 0⟩, 0, rfl, HF.out.1 (by first | exact rfl | exact trivial) (by first | exact rfl | exact trivial) HX0.out, ((((((((SG.out.bel.setCell (p := ⟨w.heap.size, 0, none⟩) (Nat.le_refl _) _).setCell (p := ⟨w.heap.size, 1, none⟩) (Nat.le_refl _) _).setCell (p := ⟨w.heap.size, 2, none⟩) (Nat.le_refl _) _).setCell (p := ⟨w.heap.size, 3, none⟩) (Nat.le_refl _) _).setCell (p := ⟨w.heap.size, 4, none⟩) (Nat.le_refl _) _).setCell (p := ⟨w.heap.size, 5, none⟩) (Nat.le_refl _) _).setCell (p := ⟨w.heap.size, 6, none⟩) (Nat.le_refl _) _).setCell (p := ⟨w.heap.size, 7, none⟩) (Nat.le_refl _) _)⟩
            · have he : (xe != 0) = true := by rw [bne_iff_ne]; exact hx
              have HX0 := Lib.hid (show ¬ Lx.evErr ⟨1, t, j, d, a, r, 0, 0⟩ = 0 from fun c => hx (HXE.out.symm.trans c))
              clear hx
              go_wp2_with fail
              refine bodyPost_ret (v := .tuple #[.agg #[.int .i64 0, .int .i64 0, .int .i64 0, .int .i64 0, .int .i64 0, .int .i64 0, .int .i64 0, .int .i64 0], .int .i64 10]) (by simp [results, Tryz.results21, go_sem, z0, z1, z2, z3, z4, z5, z6, z7]) rfl ?_
              exact ⟨Lx.evZ, 10, rfl, HF.out.2 (fun c => HX0.out c.2.2), ((((((((SG.out.bel.setCell (p := ⟨w.heap.size, 0, none⟩) (Nat.le_refl _) _).setCell (p := ⟨w.heap.size, 1, none⟩) (Nat.le_refl _) _).setCell (p := ⟨w.heap.size, 2, none⟩) (Nat.le_refl _) _).setCell (p := ⟨w.heap.size, 3, none⟩) (Nat.le_refl _) _).setCell (p := ⟨w.heap.size, 4, none⟩) (Nat.le_refl _) _).setCell (p := ⟨w.heap.size, 5, none⟩) (Nat.le_refl _) _).setCell (p := ⟨w.heap.size, 6, none⟩) (Nat.le_refl _) _).setCell (p := ⟨w.heap.size, 7, none⟩) (Nat.le_refl _) _)⟩
          · have hl1 : decide ((0 : Int) < (len : Int)) = true := decide_eq_true (by omega)
            have hl2 : decide (0 < len) = true := decide_eq_true (by omega)
            have HL0 := Lib.hid hl0
            clear hl0
            go_wp2_with fail
            refine bodyPost_ret (v := .tuple #[.agg #[.int .i64 0, .int .i64 0, .int .i64 0, .int .i64 0, .int .i64 0, .int .i64 0, .int .i64 0, .int .i64 0], .int .i64 10]) (by simp [results, Tryz.results21, go_sem, z0, z1, z2, z3, z4, z5, z6, z7]) rfl ?_
            exact ⟨Lx.evZ, 10, rfl, HF.out.2 (fun c => HL0.out c.2.1), ((((((((SF.out.bel.setCell (p := ⟨w.heap.size, 0, none⟩) (Nat.le_refl _) _).setCell (p := ⟨w.heap.size, 1, none⟩) (Nat.le_refl _) _).setCell (p := ⟨w.heap.size, 2, none⟩) (Nat.le_refl _) _).setCell (p := ⟨w.heap.size, 3, none⟩) (Nat.le_refl _) _).setCell (p := ⟨w.heap.size, 4, none⟩) (Nat.le_refl _) _).setCell (p := ⟨w.heap.size, 5, none⟩) (Nat.le_refl _) _).setCell (p := ⟨w.heap.size, 6, none⟩) (Nat.le_refl _) _).setCell (p := ⟨w.heap.size, 7, none⟩) (Nat.le_refl _) _)⟩
        · go_wp2_with fail
          refine bodyPost_ret (v := .tuple #[.agg #[.int .i64 0, .int .i64 0, .int .i64 0, .int .i64 0, .int .i64 0, .int .i64 0, .int .i64 0, .int .i64 0], .int .i64 10]) (by simp [results, Tryz.results21, go_sem, z0, z1, z2, z3, z4, z5, z6, z7]) rfl ?_
          exact ⟨Lx.evZ, 10, rfl, HF.out.2 (fun c => by cases c.1), ((((((((SF.out.bel.setCell (p := ⟨w.heap.size, 0, none⟩) (Nat.le_refl _) _).setCell (p := ⟨w.heap.size, 1, none⟩) (Nat.le_refl _) _).setCell (p := ⟨w.heap.size, 2, none⟩) (Nat.le_refl _) _).setCell (p := ⟨w.heap.size, 3, none⟩) (Nat.le_refl _) _).setCell (p := ⟨w.heap.size, 4, none⟩) (Nat.le_refl _) _).setCell (p := ⟨w.heap.size, 5, none⟩) (Nat.le_refl _) _).setCell (p := ⟨w.heap.size, 6, none⟩) (Nat.le_refl _) _).setCell (p := ⟨w.heap.size, 7, none⟩) (Nat.le_refl _) _)⟩
set_option maxRecDepth 100000 in
set_option maxHeartbeats 3200000 in
theorem read_2 (s : ByteArray) (ad : Option Addr) (m cap : Nat) (NS : List ByteArray) (w : World) (env : EEnv w) (h : Lx.IsNames w ad m NS) (hN : Lx.NOk NS) (hs : s.size ≤ 65536) (hk : Lx.kindOf (Lx.pAt (Lx.bl (Lx.spS s)) 1) = 2) :
    Calls Tryz.prog 21 #[.string s, .slice ad m cap] w (ReadEv NS s w) := by
  obtain ⟨mx, hmx⟩ := env.env.mx
  have HSP := Lib.hid (fun W (b : Below w.heap.size w W) => split_sp_any s W hs mx ((b.cell (p := ⟨1, 0, none⟩) (Nat.lt_of_lt_of_le g_mx_lt env.env.lt)).trans hmx))
  have HH := Lib.hid h
  have HPB := Lib.hid (Lx.spS_bd s)
  have HPC := Lib.hid (Lx.spS_pcs s)
  have hNm := hN.1
  have hml := h.1
  have HN := Lib.hid hN
  unfold ReadEv
  generalize Lx.spS s = P at *
  have hPl : P.length ≤ 65537 := by have := HPB.out.2; omega
  have hPz : ∀ x ∈ P, x.size ≤ 1000000000 := fun x hx => by have := HPB.out.1 x hx; omega
  have HPz := Lib.hid hPz
  have HK := Lib.hid hk
  have hgl := env.env.lt
  have hmm := @run_makeMap Tryz.prog
  clear hmx hPz hk hN h
  go_enter Tryz.func21, Tryz.ntmps21
  go_wp2_with fail
  refine (kinds_any _).mono ?_
  rintro e w1 ⟨g, rfl, hg, hk, c1⟩
  have ba : Below w.heap.size w ((w.alloc (.cells #[.int .i64 0, .int .i64 0, .int .i64 0, .int .i64 0, .int .i64 0, .int .i64 0, .int .i64 0, .int .i64 0] 26)).alloc (.map #[] 0)) := ((Below.refl _ w).alloc (Nat.le_refl _) _).alloc (by simp) _
  have B1 := Lib.hid (ba.trans (c1.mono ba.size))
  have Z1 := Lib.hid (((Lx.EvBox.new w 0 0 0 0 0 0 0 0 26).below ((Below.refl _ _).alloc (Nat.le_refl _) (.map #[] 0))).below c1)
  have M1 : w1.ownsMap Tryz.prog 9 Lx.wordR (w.heap.size + 1) 0 (Lx.wordD 0) := by
    have h0 := World.ownsMap_made (w.alloc (.cells #[.int .i64 0, .int .i64 0, .int .i64 0, .int .i64 0, .int .i64 0, .int .i64 0, .int .i64 0, .int .i64 0] 26)) Tryz.prog 9 Lx.wordR
    rw [World.size_alloc] at h0
    exact Lx.mapBelow h0 c1
  have hgM : w.heap.size + 2 ≤ g := by have := hg; simp at this; omega
  have M1 := Lib.hid M1
  have K1 := Lib.hid hk
  clear ba c1 hg hk
  obtain ⟨M, hM⟩ : ∃ M, w.heap.size + 1 = M := ⟨_, rfl⟩
  rw [hM] at M1
  simp only [hM]
  have HM := Lib.hid hM
  have hMg : M < g := by omega
  have hwM : w.heap.size < M := by omega
  clear hM hgM
  go_wp2_with fail
  go_loopw [15] (fun i wr => ∃ k : Nat, k ≤ 9 ∧ i = .int .i64 k ∧ wr.ownsMap Tryz.prog 9 Lx.wordR M k (Lx.wordD k) ∧ Lx.KindsAt wr g ∧ Lx.EvBox wr w.heap.size Lx.evZ ∧ Below w.heap.size w wr) (fun i _ => 9 - (intOf i).toNat)
  case atStart => exact ⟨0, by omega, rfl, M1.out, K1.out, Z1.out, B1.out⟩
  case round =>
    obtain ⟨k, hk, rfl, hown, hka, hz, hb⟩ := hrel
    clear M1 K1 Z1 B1
    by_cases hlt : k < 9
    · obtain ⟨c0, c1, c2⟩ := hka.2 k hlt
      have hki : (k : Int) < 9 := by omega
      have hkey : keyOf Tryz.prog 9 (.string ⟨(Lx.evWord (k : Nat)).toArray⟩) = some (.string (Lx.evWord (k : Nat))) := Go.WideMaps.keyOf_string_mk Tryz.underlying9 (Lx.word_small k)
      obtain ⟨w2, hrun2, hown2, hgr⟩ := (hown.alloc (.cells #[.string ⟨(Lx.evWord (k : Nat)).toArray⟩, .int .i64 (Lx.usesN k), .int .i64 (Lx.yMax (k : Nat))] 69)).update lawS Tryz.underlying65 (by unfold maxLen; omega) (key := .string ⟨(Lx.evWord (k : Nat)).toArray⟩) (val := .int .i64 (k : Nat)) hkey (d := .lit (.int .i64 (k : Nat))) (ps := []) rfl
      have kp := Lx.Kp.grown hgr (Nat.lt_of_lt_of_le hown.lt (by simp))
      have ba := (Below.refl wr.heap.size wr).alloc (Nat.le_refl _) (.cells #[.string ⟨(Lx.evWord (k : Nat)).toArray⟩, .int .i64 (Lx.usesN k), .int .i64 (Lx.yMax (k : Nat))] 69)
      have HOW := Lib.hid hown2
      have HKA := Lib.hid ((hka.below ba).kp kp (by omega))
      have HZ := Lib.hid ((hz.below ba).kp kp (by omega))
      have HB := Lib.hid ((hb.trans (ba.mono hb.size)).trans (kp.1.mono (by omega)))
      clear hown hka hz hb hown2 hgr kp ba hkey
      go_wp2_with fail
      go_roundw
      case rel => exact ⟨k + 1, by omega, by go_num, HOW.out, HKA.out, HZ.out, HB.out⟩
      case measure => simp [intOf]; omega
    · obtain rfl : k = 9 := by omega
      have HOW := Lib.hid hown
      have HZ := Lib.hid hz
      have HB := Lib.hid hb
      clear hown hka hz hb
      go_wp2_with fail
      refine (HSP.out _ HB.out).mono ?_
      rintro e w2 ⟨rfl, rfl⟩
      obtain ⟨W2, hW2⟩ : ∃ W2, W2 = (wr.alloc (.cells (P.map Value.string).toArray 9)).alloc (.cells #[.slice (some ⟨wr.heap.size, 0, none⟩) P.length P.length, .bool false] 73) := ⟨_, rfl⟩
      have ba : Below wr.heap.size wr W2 := by rw [hW2]; exact ((Below.refl _ _).alloc (Nat.le_refl _) _).alloc (by simp) _
      have RD2 : Lx.Rd W2 (wr.heap.size + 1) wr.heap.size P (min 0 P.length) false := by rw [hW2]; exact Lx.Rd.new wr P _ _
      have Z2 := Lib.hid (HZ.out.below ba)
      have B2 := Lib.hid (HB.out.trans (ba.mono HB.out.size))
      have M2 := Lib.hid (Lx.mapBelow HOW.out ba)
      have RD2 := Lib.hid RD2
      have hwr : w.heap.size ≤ wr.heap.size := HB.out.size
      have hMr : M < wr.heap.size := HOW.out.lt
      obtain ⟨gp, hgp⟩ : ∃ gp, wr.heap.size = gp := ⟨_, rfl⟩
      obtain ⟨R, hR⟩ : ∃ R, gp + 1 = R := ⟨_, rfl⟩
      rw [hgp, hR] at RD2
      rw [hgp] at hW2
      rw [hgp] at hMr hwr
      have hzR : w.heap.size ≠ R := by omega
      have hMR : M ≠ R := by omega
      have hgR : Tryz.prog.globals.size ≤ R := by omega
      go_wp2_with fail
      rw [← hW2]
      try simp only [hgp, hR]
      clear ba HZ HB HOW hW2
      refine (number_i R gp P 0 _ W2 (env.env.below B2.out) hgR RD2.out (by omega) HPz.out).mono ?_
      rintro e w3 ⟨rfl, rd3, kp3⟩
      have hs3 : R < w3.heap.size := rd3.lt
      have Z3 := Z2.out.kp kp3 hzR
      have B3 := B2.out.trans (kp3.1.mono (by omega))
      have M3 := Lx.mapKp M2.out kp3 hMR
      have HNB := Lib.hid (Lx.num_bd (Lx.pAt (Lx.bl P) 0))
      obtain ⟨t, ht⟩ : ∃ t, Lx.numRes (Lx.pAt (Lx.bl P) 0) = t := ⟨_, rfl⟩
      rw [ht]
      have HT := Lib.hid ht
      have be := (Below.refl w3.heap.size w3).alloc (Nat.le_refl _) (.cells #[.int .i64 0, .int .i64 t, .int .i64 0, .int .i64 0, .int .i64 0, .int .i64 0, .int .i64 0, .int .i64 0] 26)
      have E4 := Lib.hid (Lx.EvBox.new w3 0 t 0 0 0 0 0 0 26)
      have Z4 := Lib.hid (Z3.below be)
      have B4 := Lib.hid (B3.trans (be.mono B3.size))
      have M4 := Lib.hid (Lx.mapBelow M3 be)
      have RD4 := Lib.hid (rd3.below be)
      obtain ⟨E, hE⟩ : ∃ E, w3.heap.size = E := ⟨_, rfl⟩
      rw [hE] at E4 hs3
      have hER : E ≠ R := by omega
      have hwE : w.heap.size ≤ E := by omega
      clear rd3 kp3 Z3 B3 M3 be Z2 B2 M2 RD2 ht
      go_wp2_with fail
      try simp only [hE]
      refine (next_i R gp P 1 _ _ RD4.out (by omega)).mono ?_
      rintro e w5 ⟨rfl, rd5, kp5⟩
      have Z5 := Lib.hid (Z4.out.kp kp5 hzR)
      have B5 := Lib.hid (B4.out.trans (kp5.1.mono (by omega)))
      have E5 := Lib.hid (E4.out.kp kp5 hER)
      have RD5 := Lib.hid rd5
      have M5 := Lx.mapKp M4.out kp5 hMR
      have hkey : keyOf Tryz.prog 9 (.string ⟨(Lx.pAt (Lx.bl P) 1).toArray⟩) = some (.string (Lx.pAt (Lx.bl P) 1)) := Go.WideMaps.keyOf_string_mk Tryz.underlying9 (Lx.pAt_small P 1 (fun x hx => by have := HPz.out x hx; unfold maxLen; omega))
      obtain ⟨v, ps, hrun, hv⟩ := M5.lookup lawS Tryz.underlying65 (zeroI w5) (zd := .lit (.int .i64 0)) (zp := []) rfl hkey
      rw [Lx.wordD_at, HK.out] at hv
      have hvb : v = .int .i64 2 := by
        cases v <;> simp [Lx.wordR] at hv
        rename_i kk nn; cases kk <;> simp at hv; rw [hv.1]
      subst hvb
      clear rd5 kp5 M5 hkey hv Z4 B4 E4 RD4 M4
      have qe0 := (E5.out.2 0 _ rfl).1
      have fe0 := (E5.out.2 0 _ rfl).2
      go_upto_region 10 with (fail)
      clear hrun
      obtain ⟨W6, hW6⟩ : ∃ W6, W6 = w5.setCell ⟨E, 0, none⟩ (.int .i64 2) := ⟨_, rfl⟩
      rw [← hW6]
      have E6 := Lib.hid (show Lx.EvBox W6 E ⟨2, t, 0, 0, 0, 0, 0, 0⟩ by rw [hW6]; exact E5.out.set (by decide) rfl)
      have kp6 : Lx.Kp E w5 W6 := by rw [hW6]; exact Lx.Kp.set
      have Z6 := Lib.hid (Z5.out.kp kp6 (by omega))
      have B6 := Lib.hid (B5.out.trans (kp6.1.mono (by omega)))
      have RD6 := Lib.hid (RD5.out.kp kp6 (by omega) (by omega))
      clear qe0 fe0 kp6 Z5 B5 E5 RD5 hW6
      have q6 := (E6.out.2 0 _ rfl).1
      have hl6 := E6.out.1
      go_cut [11] (fun s11 wx => ∃ kb : Nat, s11 = .pointer (some ⟨kb, 0, none⟩) ∧ W6.heap.size ≤ kb ∧ Lx.KBox wx kb 2 ∧ Below W6.heap.size W6 wx)
      case first =>
        have HP := Lib.hid (fun W (hb : Below W6.heap.size W6 W) => (hb.cell (p := ⟨E, 0, none⟩) hl6).trans q6)
        have hS0 : (fun wx => Below W6.heap.size W6 wx ∧ wx.cell? ⟨E, 0, none⟩ = some (.int .i64 2)) W6.drew := ⟨(Below.refl _ _).drew, q6⟩
        dsimp only at hS0
        refine wp_region_held_drew (S := (fun wx => Below W6.heap.size W6 wx ∧ wx.cell? ⟨E, 0, none⟩ = some (.int .i64 2))) (by kernel_rfl) ?_ (fun hHeld => ?_)
        · exact hS0
        refine' wpAnyH_take (i := 1) (oi := _) (v := _) ?hiz27 (by kernel_rfl) (by kernel_rfl) (by kernel_rfl) ?hqz27 ?hyz27 (by assumption) ?rez27
        case hiz27 => simp only [List.getElem?_toArray, List.getElem?_cons_succ, List.getElem?_cons_zero]; rfl
        case hqz27 => exact fun _ _ _ h => h
        case hyz27 =>
          refine Or.inl ⟨by rfl, ?_⟩
          intro w hSw; (try dsimp only at hSw); go_simp; try with_reducible rfl
        case rez27 =>
          try simp only [Act.put, List.setIfInBounds_toArray, List.set_cons_zero, List.set_cons_succ]
          refine' wpAnyH_take (i := 2) (oi := _) (v := _) ?hiz28 (by kernel_rfl) (by kernel_rfl) (by kernel_rfl) ?hqz28 ?hyz28 (by assumption) ?rez28
          case hiz28 => simp only [List.getElem?_toArray, List.getElem?_cons_succ, List.getElem?_cons_zero]; rfl
          case hqz28 => exact fun _ _ _ h => h
          case hyz28 =>
            refine Or.inl ⟨by rfl, ?_⟩
            intro w hSw; (try dsimp only at hSw); go_simp; try with_reducible rfl
          case rez28 =>
            try simp only [Act.put, List.setIfInBounds_toArray, List.set_cons_zero, List.set_cons_succ]
            refine wpAnyH_ready (rs := [0, 5]) (by kernel_rfl) (by simp) ?_
            refine' AllReadyH.cons (o := _) ?hi0z29 (fun K hK => ?st0z29) (AllReadyH.cons (o := _) ?hi5z29 (fun K hK => ?st5z29) AllReadyH.nil)
            case hi0z29 => simp only [List.getElem?_toArray, List.getElem?_cons_zero]; rfl
            case hi5z29 => simp only [List.getElem?_toArray, List.getElem?_cons_succ, List.getElem?_cons_zero]; rfl
            case st0z29 =>
              go_simp
              go_at_call 37; refine (kinds_any _).mono ?_; rintro e w7 ⟨g7, rfl, hg7, hk7, c7⟩; obtain ⟨k0, k1, k2⟩ := hk7.2 2 (by omega); have hgl7 := hk7.1; clear hk7 hg7; have kb := Lx.bCall (P := fun wx => wx.cell? ⟨E, 0, none⟩ = some (.int .i64 2)) (by assumption) c7; have hz7 := kb.size; have hs7 := c7.size; simp at hs7; have kS := Lx.mkS HP.out kb; have b0 := fun i => c7.cell (p := ⟨W6.heap.size, i, none⟩); have f0 := fun i => c7.frozen (p := ⟨W6.heap.size, i, none⟩)
              try go_wp2_with fail
              refine hK.out _ _ ?_ (fun hHeld => ?_)
              · (first | assumption | (refine Lx.mkS HP.out ?_; repeat (first | assumption | exact Below.refl _ _ | apply Lx.bDrew | apply Lx.bAlloc | (apply Lx.bSet; (first | exact Nat.le_refl _ | assumption)))))
              clear hK K
              try simp only [Act.put, List.setIfInBounds_toArray, List.set_cons_zero, List.set_cons_succ]
              refine' wpAnyH_take (i := 3) (oi := _) (v := _) ?hiz30 (by kernel_rfl) (by kernel_rfl) (by kernel_rfl) ?hqz30 ?hyz30 (by assumption) ?rez30
              case hiz30 => simp only [List.getElem?_toArray, List.getElem?_cons_succ, List.getElem?_cons_zero]; rfl
              case hqz30 => exact fun _ _ _ h => h
              case hyz30 =>
                refine Or.inl ⟨by rfl, ?_⟩
                intro w hSw; (try dsimp only at hSw); go_simp; try with_reducible rfl
              case rez30 =>
                try simp only [Act.put, List.setIfInBounds_toArray, List.set_cons_zero, List.set_cons_succ]
                refine wpAnyH_ready (rs := [4, 5]) (by kernel_rfl) (by simp) ?_
                refine' AllReadyH.cons (o := _) ?hi4z31 (fun K hK => ?st4z31) (AllReadyH.cons (o := _) ?hi5z31 (fun K hK => ?st5z31) AllReadyH.nil)
                case hi4z31 => simp only [List.getElem?_toArray, List.getElem?_cons_succ, List.getElem?_cons_zero]; rfl
                case hi5z31 => simp only [List.getElem?_toArray, List.getElem?_cons_succ, List.getElem?_cons_zero]; rfl
                case st4z31 =>
                  go_simp
                  try go_wp2_with fail
                  refine hK.out _ _ ?_ (fun hHeld => ?_)
                  · (first | assumption | (refine Lx.mkS HP.out ?_; repeat (first | assumption | exact Below.refl _ _ | apply Lx.bDrew | apply Lx.bAlloc | (apply Lx.bSet; (first | exact Nat.le_refl _ | assumption)))))
                  clear hK K
                  try simp only [Act.put, List.setIfInBounds_toArray, List.set_cons_zero, List.set_cons_succ]
                  refine wpAnyH_ready (rs := [5]) (by kernel_rfl) (by simp) ?_
                  refine' AllReadyH.cons (o := _) ?hi5z32 (fun K hK => ?st5z32) AllReadyH.nil
                  case hi5z32 => simp only [List.getElem?_toArray, List.getElem?_cons_succ, List.getElem?_cons_zero]; rfl
                  case st5z32 =>
                    go_simp
                    try go_wp2_with fail
                    refine hK.out _ _ ?_ (fun hHeld => ?_)
                    · (first | assumption | (refine Lx.mkS HP.out ?_; repeat (first | assumption | exact Below.refl _ _ | apply Lx.bDrew | apply Lx.bAlloc | (apply Lx.bSet; (first | exact Nat.le_refl _ | assumption)))))
                    clear hK K
                    try simp only [Act.put, List.setIfInBounds_toArray, List.set_cons_zero, List.set_cons_succ]
                    refine wpAnyH_ready (rs := [6]) (by kernel_rfl) (by simp) ?_
                    refine' AllReadyH.cons (o := _) ?hi6z33 (fun K hK => ?st6z33) AllReadyH.nil
                    case hi6z33 => simp only [List.getElem?_toArray, List.getElem?_cons_succ, List.getElem?_cons_zero]; rfl
                    case st6z33 =>
                      go_simp
                      try go_wp2_with fail
                      refine hK.out _ _ ?_ (fun hHeld => ?_)
                      · (first | assumption | (refine Lx.mkS HP.out ?_; repeat (first | assumption | exact Below.refl _ _ | apply Lx.bDrew | apply Lx.bAlloc | (apply Lx.bSet; (first | exact Nat.le_refl _ | assumption)))))
                      clear hK K
                      try simp only [Act.put, List.setIfInBounds_toArray, List.set_cons_zero, List.set_cons_succ]
                      refine wpAnyH_done (by kernel_rfl) ?_ _
                      go_wp2_with fail
                      go_meet
                      first | exact ⟨_, rfl, by omega, ⟨by simp, by simp, by simp, by simp⟩, And.left (by assumption)⟩ | (refine ⟨_, rfl, Nat.le_refl _, ⟨?_, ?_, ?_, ?_⟩, And.left (by assumption)⟩ <;> first | (go_simp; done) | (rw [Lx.size_set, Lx.size_set, Lx.size_set]; omega))
                case st5z31 =>
                  go_simp
                  try go_wp2_with fail
                  refine hK.out _ _ ?_ (fun hHeld => ?_)
                  · (first | assumption | (refine Lx.mkS HP.out ?_; repeat (first | assumption | exact Below.refl _ _ | apply Lx.bDrew | apply Lx.bAlloc | (apply Lx.bSet; (first | exact Nat.le_refl _ | assumption)))))
                  clear hK K
                  try simp only [Act.put, List.setIfInBounds_toArray, List.set_cons_zero, List.set_cons_succ]
                  refine wpAnyH_ready (rs := [4]) (by kernel_rfl) (by simp) ?_
                  refine' AllReadyH.cons (o := _) ?hi4z34 (fun K hK => ?st4z34) AllReadyH.nil
                  case hi4z34 => simp only [List.getElem?_toArray, List.getElem?_cons_succ, List.getElem?_cons_zero]; rfl
                  case st4z34 =>
                    go_simp
                    try go_wp2_with fail
                    refine hK.out _ _ ?_ (fun hHeld => ?_)
                    · (first | assumption | (refine Lx.mkS HP.out ?_; repeat (first | assumption | exact Below.refl _ _ | apply Lx.bDrew | apply Lx.bAlloc | (apply Lx.bSet; (first | exact Nat.le_refl _ | assumption)))))
                    clear hK K
                    try simp only [Act.put, List.setIfInBounds_toArray, List.set_cons_zero, List.set_cons_succ]
                    refine wpAnyH_ready (rs := [6]) (by kernel_rfl) (by simp) ?_
                    refine' AllReadyH.cons (o := _) ?hi6z35 (fun K hK => ?st6z35) AllReadyH.nil
                    case hi6z35 => simp only [List.getElem?_toArray, List.getElem?_cons_succ, List.getElem?_cons_zero]; rfl
                    case st6z35 =>
                      go_simp
                      try go_wp2_with fail
                      refine hK.out _ _ ?_ (fun hHeld => ?_)
                      · (first | assumption | (refine Lx.mkS HP.out ?_; repeat (first | assumption | exact Below.refl _ _ | apply Lx.bDrew | apply Lx.bAlloc | (apply Lx.bSet; (first | exact Nat.le_refl _ | assumption)))))
                      clear hK K
                      try simp only [Act.put, List.setIfInBounds_toArray, List.set_cons_zero, List.set_cons_succ]
                      refine wpAnyH_done (by kernel_rfl) ?_ _
                      go_wp2_with fail
                      go_meet
                      first | exact ⟨_, rfl, by omega, ⟨by simp, by simp, by simp, by simp⟩, And.left (by assumption)⟩ | (refine ⟨_, rfl, Nat.le_refl _, ⟨?_, ?_, ?_, ?_⟩, And.left (by assumption)⟩ <;> first | (go_simp; done) | (rw [Lx.size_set, Lx.size_set, Lx.size_set]; omega))
            case st5z29 =>
              go_simp
              try go_wp2_with fail
              refine hK.out _ _ ?_ (fun hHeld => ?_)
              · (first | assumption | (refine Lx.mkS HP.out ?_; repeat (first | assumption | exact Below.refl _ _ | apply Lx.bDrew | apply Lx.bAlloc | (apply Lx.bSet; (first | exact Nat.le_refl _ | assumption)))))
              clear hK K
              try simp only [Act.put, List.setIfInBounds_toArray, List.set_cons_zero, List.set_cons_succ]
              refine wpAnyH_ready (rs := [0]) (by kernel_rfl) (by simp) ?_
              refine' AllReadyH.cons (o := _) ?hi0z36 (fun K hK => ?st0z36) AllReadyH.nil
              case hi0z36 => simp only [List.getElem?_toArray, List.getElem?_cons_zero]; rfl
              case st0z36 =>
                go_simp
                go_at_call 37; refine (kinds_any _).mono ?_; rintro e w7 ⟨g7, rfl, hg7, hk7, c7⟩; obtain ⟨k0, k1, k2⟩ := hk7.2 2 (by omega); have hgl7 := hk7.1; clear hk7 hg7; have kb := Lx.bCall (P := fun wx => wx.cell? ⟨E, 0, none⟩ = some (.int .i64 2)) (by assumption) c7; have hz7 := kb.size; have hs7 := c7.size; simp at hs7; have kS := Lx.mkS HP.out kb; have b0 := fun i => c7.cell (p := ⟨W6.heap.size, i, none⟩); have f0 := fun i => c7.frozen (p := ⟨W6.heap.size, i, none⟩)
                try go_wp2_with fail
                refine hK.out _ _ ?_ (fun hHeld => ?_)
                · (first | assumption | (refine Lx.mkS HP.out ?_; repeat (first | assumption | exact Below.refl _ _ | apply Lx.bDrew | apply Lx.bAlloc | (apply Lx.bSet; (first | exact Nat.le_refl _ | assumption)))))
                clear hK K
                try simp only [Act.put, List.setIfInBounds_toArray, List.set_cons_zero, List.set_cons_succ]
                refine' wpAnyH_take (i := 3) (oi := _) (v := _) ?hiz37 (by kernel_rfl) (by kernel_rfl) (by kernel_rfl) ?hqz37 ?hyz37 (by assumption) ?rez37
                case hiz37 => simp only [List.getElem?_toArray, List.getElem?_cons_succ, List.getElem?_cons_zero]; rfl
                case hqz37 => exact fun _ _ _ h => h
                case hyz37 =>
                  refine Or.inl ⟨by rfl, ?_⟩
                  intro w hSw; (try dsimp only at hSw); go_simp; try with_reducible rfl
                case rez37 =>
                  try simp only [Act.put, List.setIfInBounds_toArray, List.set_cons_zero, List.set_cons_succ]
                  refine wpAnyH_ready (rs := [4]) (by kernel_rfl) (by simp) ?_
                  refine' AllReadyH.cons (o := _) ?hi4z38 (fun K hK => ?st4z38) AllReadyH.nil
                  case hi4z38 => simp only [List.getElem?_toArray, List.getElem?_cons_succ, List.getElem?_cons_zero]; rfl
                  case st4z38 =>
                    go_simp
                    try go_wp2_with fail
                    refine hK.out _ _ ?_ (fun hHeld => ?_)
                    · (first | assumption | (refine Lx.mkS HP.out ?_; repeat (first | assumption | exact Below.refl _ _ | apply Lx.bDrew | apply Lx.bAlloc | (apply Lx.bSet; (first | exact Nat.le_refl _ | assumption)))))
                    clear hK K
                    try simp only [Act.put, List.setIfInBounds_toArray, List.set_cons_zero, List.set_cons_succ]
                    refine wpAnyH_ready (rs := [6]) (by kernel_rfl) (by simp) ?_
                    refine' AllReadyH.cons (o := _) ?hi6z39 (fun K hK => ?st6z39) AllReadyH.nil
                    case hi6z39 => simp only [List.getElem?_toArray, List.getElem?_cons_succ, List.getElem?_cons_zero]; rfl
                    case st6z39 =>
                      go_simp
                      try go_wp2_with fail
                      refine hK.out _ _ ?_ (fun hHeld => ?_)
                      · (first | assumption | (refine Lx.mkS HP.out ?_; repeat (first | assumption | exact Below.refl _ _ | apply Lx.bDrew | apply Lx.bAlloc | (apply Lx.bSet; (first | exact Nat.le_refl _ | assumption)))))
                      clear hK K
                      try simp only [Act.put, List.setIfInBounds_toArray, List.set_cons_zero, List.set_cons_succ]
                      refine wpAnyH_done (by kernel_rfl) ?_ _
                      go_wp2_with fail
                      go_meet
                      first | exact ⟨_, rfl, by omega, ⟨by simp, by simp, by simp, by simp⟩, And.left (by assumption)⟩ | (refine ⟨_, rfl, Nat.le_refl _, ⟨?_, ?_, ?_, ?_⟩, And.left (by assumption)⟩ <;> first | (go_simp; done) | (rw [Lx.size_set, Lx.size_set, Lx.size_set]; omega))
      case rest =>
        obtain ⟨kb, rfl, hkb, hkx, hbc⟩ := hcut
        obtain ⟨W7, rfl⟩ : ∃ W, W = wc := ⟨_, rfl⟩
        have S0 := Lib.hid (Lx.RS.mk (w := w) (i := 2) (B6.out.trans (hbc.mono B6.out.size)) (Z6.out.below hbc) (E6.out.below hbc) hkx (RD6.out.below hbc) (Nat.le_refl _) (by omega) hwE hzR hER (by have := RD6.out.lt; omega) (by omega) (by omega) (by omega))
        clear hkb hkx hbc q6 hl6 Z6 E6 B6 RD6
        have HTB := Lib.hid (show Lx.inR t from by rw [← HT.out]; exact HNB.out)
        have k1 : (W7).cell? ⟨kb, 1, none⟩ = some (.int .i64 7) := S0.out.kx.2.2.1
        go_wp2_with fail
        refine (among_i R gp P 2 _ ad m cap NS _ S0.out.rd (by omega) (fun W k => HH.out.below (S0.out.bel.trans (k.1.mono S0.out.hR))) (by omega)).mono ?_
        rintro e w8 ⟨rfl, rd, kp⟩
        have S1 := Lib.hid (S0.out.kp kp rd)
        clear S0
        clear rd kp
        obtain ⟨j, hj⟩ : ∃ j, Lx.nVal NS (Lx.pAt (Lx.bl P) 2) = j := ⟨_, rfl⟩
        rw [hj]
        have Vj := Lib.hid hj
        clear hj
        have qe2 := (S1.out.e.2 2 _ rfl).1
        have fe2 := (S1.out.e.2 2 _ rfl).2
        have S2 := Lib.hid (S1.out.set (o' := ⟨2, t, j, 0, 0, 0, 0, 0⟩) (j := 2) (v := .int .i64 j) (by decide) rfl)
        clear S1
        have k1 : ((w8).setCell ⟨E, 2, none⟩ (.int .i64 j)).cell? ⟨kb, 1, none⟩ = some (.int .i64 7) := S2.out.kx.2.2.1
        go_wp2_with fail
        refine (number_i R gp P 3 _ _ (env.env.below S2.out.bel) hgR S2.out.rd (by omega) HPz.out).mono ?_
        rintro e w9 ⟨rfl, rd, kp⟩
        have S3 := Lib.hid (S2.out.kp kp rd)
        clear S2
        clear rd kp
        obtain ⟨d, hd⟩ : ∃ d, Lx.numRes (Lx.pAt (Lx.bl P) 3) = d := ⟨_, rfl⟩
        rw [hd]
        have Vd := Lib.hid hd
        clear hd
        go_wp2_with fail
        refine (number_i R gp P 4 _ _ (env.env.below S3.out.bel) hgR S3.out.rd (by omega) HPz.out).mono ?_
        rintro e w10 ⟨rfl, rd, kp⟩
        have S4 := Lib.hid (S3.out.kp kp rd)
        clear S3
        clear rd kp
        obtain ⟨a, ha⟩ : ∃ a, Lx.numRes (Lx.pAt (Lx.bl P) 4) = a := ⟨_, rfl⟩
        rw [ha]
        have Va := Lib.hid ha
        clear ha
        have qe3 := (S4.out.e.2 3 _ rfl).1
        have fe3 := (S4.out.e.2 3 _ rfl).2
        have S5 := Lib.hid (S4.out.set (o' := ⟨2, t, j, d, 0, 0, 0, 0⟩) (j := 3) (v := .int .i64 d) (by decide) rfl)
        clear S4
        have qe4 := (S5.out.e.2 4 _ rfl).1
        have fe4 := (S5.out.e.2 4 _ rfl).2
        have S6 := Lib.hid (S5.out.set (o' := ⟨2, t, j, d, a, 0, 0, 0⟩) (j := 4) (v := .int .i64 a) (by decide) rfl)
        clear S5
        have k1 : (((w10).setCell ⟨E, 3, none⟩ (.int .i64 d)).setCell ⟨E, 4, none⟩ (.int .i64 a)).cell? ⟨kb, 1, none⟩ = some (.int .i64 7) := S6.out.kx.2.2.1
        have qe0 := (S6.out.e.2 0 _ rfl).1
        go_wp2_with fail
        refine (number_i R gp P 5 _ _ (env.env.below S6.out.bel) hgR S6.out.rd (by omega) HPz.out).mono ?_
        rintro e w11 ⟨rfl, rd, kp⟩
        have S7 := Lib.hid (S6.out.kp kp rd)
        clear S6
        clear rd kp
        obtain ⟨r, hr⟩ : ∃ r, Lx.numRes (Lx.pAt (Lx.bl P) 5) = r := ⟨_, rfl⟩
        rw [hr]
        have Vr := Lib.hid hr
        clear hr
        have qe5 := (S7.out.e.2 5 _ rfl).1
        have fe5 := (S7.out.e.2 5 _ rfl).2
        have S8 := Lib.hid (S7.out.set (o' := ⟨2, t, j, d, a, r, 0, 0⟩) (j := 5) (v := .int .i64 r) (by decide) rfl)
        clear S7
        have k1 : ((w11).setCell ⟨E, 5, none⟩ (.int .i64 r)).cell? ⟨kb, 1, none⟩ = some (.int .i64 7) := S8.out.kx.2.2.1
        obtain ⟨BV, SF, hBV⟩ := S8.out.ex
        have SF := Lib.hid SF
        have bd := SF.out.rd.bd
        obtain ⟨A0, C0, sl0, -⟩ := SF.out.rd.sl
        obtain ⟨len, hlen⟩ : ∃ len, P.length - min 6 P.length = len := ⟨_, rfl⟩
        rw [hlen] at sl0
        have HF := Lib.hid (Lx.fin HN.out HPC.out (b := BV) (len := len) (o := ⟨2, t, j, d, a, r, 0, 0⟩) (by rw [hBV, ← hlen]; exact Lx.ok_r HK.out (by decide) (by decide)) (by unfold Lx.rdE; rw [HK.out]; simp only [HT.out, Vj.out, Vd.out, Va.out, Vr.out]; rfl))
        have hlenb : len ≤ 65537 := by omega
        clear hBV hlen HPC HK HPz S8
        have qe0 := (SF.out.e.2 0 _ rfl).1
        have z0 := (SF.out.z.2 0 _ rfl).1
        have y0 := (SF.out.z.2 0 _ rfl).2
        have z1 := (SF.out.z.2 1 _ rfl).1
        have y1 := (SF.out.z.2 1 _ rfl).2
        have z2 := (SF.out.z.2 2 _ rfl).1
        have y2 := (SF.out.z.2 2 _ rfl).2
        have z3 := (SF.out.z.2 3 _ rfl).1
        have y3 := (SF.out.z.2 3 _ rfl).2
        have z4 := (SF.out.z.2 4 _ rfl).1
        have y4 := (SF.out.z.2 4 _ rfl).2
        have z5 := (SF.out.z.2 5 _ rfl).1
        have y5 := (SF.out.z.2 5 _ rfl).2
        have z6 := (SF.out.z.2 6 _ rfl).1
        have y6 := (SF.out.z.2 6 _ rfl).2
        have z7 := (SF.out.z.2 7 _ rfl).1
        have y7 := (SF.out.z.2 7 _ rfl).2
        cases BV
        · by_cases hl0 : len = 0
          · subst hl0
            have qe1 := (SF.out.e.2 1 _ rfl).1
            have qe2 := (SF.out.e.2 2 _ rfl).1
            have qe3 := (SF.out.e.2 3 _ rfl).1
            have qe4 := (SF.out.e.2 4 _ rfl).1
            have qe5 := (SF.out.e.2 5 _ rfl).1
            have qe6 := (SF.out.e.2 6 _ rfl).1
            have qe7 := (SF.out.e.2 7 _ rfl).1
            have HCK := Lib.hid (fun W => evcheck_any ⟨2, t, j, d, a, r, 0, 0⟩ W)
            unfold EvCheckIs Lx.EvV.val at HCK
            dsimp only at HCK
            have HX := Lib.hid (show ∃ x, Lx.evErr ⟨2, t, j, d, a, r, 0, 0⟩ = x from ⟨_, rfl⟩)
            obtain ⟨xe, hxe⟩ := HX.out
            rw [hxe] at HCK
            have HXE := Lib.hid hxe
            clear HX hxe
            go_wp2_with fail
            refine (HCK.out _).mono ?_
            rintro e wf ⟨rfl, cf⟩
            have SG := Lib.hid (SF.out.below cf)
            clear cf z0 z1 z2 z3 z4 z5 z6 z7 y0 y1 y2 y3 y4 y5 y6 y7 qe0 qe1 qe2 qe3 qe4 qe5 qe6 qe7
            have qe0 := (SG.out.e.2 0 _ rfl).1
            have qe1 := (SG.out.e.2 1 _ rfl).1
            have qe2 := (SG.out.e.2 2 _ rfl).1
            have qe3 := (SG.out.e.2 3 _ rfl).1
            have qe4 := (SG.out.e.2 4 _ rfl).1
            have qe5 := (SG.out.e.2 5 _ rfl).1
            have qe6 := (SG.out.e.2 6 _ rfl).1
            have qe7 := (SG.out.e.2 7 _ rfl).1
            have z0 := (SG.out.z.2 0 _ rfl).1
            have y0 := (SG.out.z.2 0 _ rfl).2
            have z1 := (SG.out.z.2 1 _ rfl).1
            have y1 := (SG.out.z.2 1 _ rfl).2
            have z2 := (SG.out.z.2 2 _ rfl).1
            have y2 := (SG.out.z.2 2 _ rfl).2
            have z3 := (SG.out.z.2 3 _ rfl).1
            have y3 := (SG.out.z.2 3 _ rfl).2
            have z4 := (SG.out.z.2 4 _ rfl).1
            have y4 := (SG.out.z.2 4 _ rfl).2
            have z5 := (SG.out.z.2 5 _ rfl).1
            have y5 := (SG.out.z.2 5 _ rfl).2
            have z6 := (SG.out.z.2 6 _ rfl).1
            have y6 := (SG.out.z.2 6 _ rfl).2
            have z7 := (SG.out.z.2 7 _ rfl).1
            have y7 := (SG.out.z.2 7 _ rfl).2
            by_cases hx : xe = 0
            · have he : (xe != 0) = false := by rw [bne_eq_false_iff_eq]; exact hx
              have HX0 := Lib.hid (HXE.out.trans hx)
              clear hx
              go_wp2_with fail
              refine bodyPost_ret (v := .tuple #[.agg #[.int .i64 2, .int .i64 t, .int .i64 j, .int .i64 d, .int .i64 a, .int .i64 r, .int .i64 0, .int .i64 0], .int .i64 0]) (by simp [results, Tryz.results21, go_sem, z0, z1, z2, z3, z4, z5, z6, z7]) rfl ?_
              exact ⟨⟨2, t, j, d, a, r, 0, 0⟩, 0, rfl, HF.out.1 (by first | exact rfl | exact trivial) (by first | exact rfl | exact trivial) HX0.out, ((((((((SG.out.bel.setCell (p := ⟨w.heap.size, 0, none⟩) (Nat.le_refl _) _).setCell (p := ⟨w.heap.size, 1, none⟩) (Nat.le_refl _) _).setCell (p := ⟨w.heap.size, 2, none⟩) (Nat.le_refl _) _).setCell (p := ⟨w.heap.size, 3, none⟩) (Nat.le_refl _) _).setCell (p := ⟨w.heap.size, 4, none⟩) (Nat.le_refl _) _).setCell (p := ⟨w.heap.size, 5, none⟩) (Nat.le_refl _) _).setCell (p := ⟨w.heap.size, 6, none⟩) (Nat.le_refl _) _).setCell (p := ⟨w.heap.size, 7, none⟩) (Nat.le_refl _) _)⟩
            · have he : (xe != 0) = true := by rw [bne_iff_ne]; exact hx
              have HX0 := Lib.hid (show ¬ Lx.evErr ⟨2, t, j, d, a, r, 0, 0⟩ = 0 from fun c => hx (HXE.out.symm.trans c))
              clear hx
              go_wp2_with fail
              refine bodyPost_ret (v := .tuple #[.agg #[.int .i64 0, .int .i64 0, .int .i64 0, .int .i64 0, .int .i64 0, .int .i64 0, .int .i64 0, .int .i64 0], .int .i64 10]) (by simp [results, Tryz.results21, go_sem, z0, z1, z2, z3, z4, z5, z6, z7]) rfl ?_
              exact ⟨Lx.evZ, 10, rfl, HF.out.2 (fun c => HX0.out c.2.2), ((((((((SG.out.bel.setCell (p := ⟨w.heap.size, 0, none⟩) (Nat.le_refl _) _).setCell (p := ⟨w.heap.size, 1, none⟩) (Nat.le_refl _) _).setCell (p := ⟨w.heap.size, 2, none⟩) (Nat.le_refl _) _).setCell (p := ⟨w.heap.size, 3, none⟩) (Nat.le_refl _) _).setCell (p := ⟨w.heap.size, 4, none⟩) (Nat.le_refl _) _).setCell (p := ⟨w.heap.size, 5, none⟩) (Nat.le_refl _) _).setCell (p := ⟨w.heap.size, 6, none⟩) (Nat.le_refl _) _).setCell (p := ⟨w.heap.size, 7, none⟩) (Nat.le_refl _) _)⟩
          · have hl1 : decide ((0 : Int) < (len : Int)) = true := decide_eq_true (by omega)
            have hl2 : decide (0 < len) = true := decide_eq_true (by omega)
            have HL0 := Lib.hid hl0
            clear hl0
            go_wp2_with fail
            refine bodyPost_ret (v := .tuple #[.agg #[.int .i64 0, .int .i64 0, .int .i64 0, .int .i64 0, .int .i64 0, .int .i64 0, .int .i64 0, .int .i64 0], .int .i64 10]) (by simp [results, Tryz.results21, go_sem, z0, z1, z2, z3, z4, z5, z6, z7]) rfl ?_
            exact ⟨Lx.evZ, 10, rfl, HF.out.2 (fun c => HL0.out c.2.1), ((((((((SF.out.bel.setCell (p := ⟨w.heap.size, 0, none⟩) (Nat.le_refl _) _).setCell (p := ⟨w.heap.size, 1, none⟩) (Nat.le_refl _) _).setCell (p := ⟨w.heap.size, 2, none⟩) (Nat.le_refl _) _).setCell (p := ⟨w.heap.size, 3, none⟩) (Nat.le_refl _) _).setCell (p := ⟨w.heap.size, 4, none⟩) (Nat.le_refl _) _).setCell (p := ⟨w.heap.size, 5, none⟩) (Nat.le_refl _) _).setCell (p := ⟨w.heap.size, 6, none⟩) (Nat.le_refl _) _).setCell (p := ⟨w.heap.size, 7, none⟩) (Nat.le_refl _) _)⟩
        · go_wp2_with fail
          refine bodyPost_ret (v := .tuple #[.agg #[.int .i64 0, .int .i64 0, .int .i64 0, .int .i64 0, .int .i64 0, .int .i64 0, .int .i64 0, .int .i64 0], .int .i64 10]) (by simp [results, Tryz.results21, go_sem, z0, z1, z2, z3, z4, z5, z6, z7]) rfl ?_
          exact ⟨Lx.evZ, 10, rfl, HF.out.2 (fun c => by cases c.1), ((((((((SF.out.bel.setCell (p := ⟨w.heap.size, 0, none⟩) (Nat.le_refl _) _).setCell (p := ⟨w.heap.size, 1, none⟩) (Nat.le_refl _) _).setCell (p := ⟨w.heap.size, 2, none⟩) (Nat.le_refl _) _).setCell (p := ⟨w.heap.size, 3, none⟩) (Nat.le_refl _) _).setCell (p := ⟨w.heap.size, 4, none⟩) (Nat.le_refl _) _).setCell (p := ⟨w.heap.size, 5, none⟩) (Nat.le_refl _) _).setCell (p := ⟨w.heap.size, 6, none⟩) (Nat.le_refl _) _).setCell (p := ⟨w.heap.size, 7, none⟩) (Nat.le_refl _) _)⟩
end Go.Proofs.YtmpcekpdnikghaaGreatDoor
