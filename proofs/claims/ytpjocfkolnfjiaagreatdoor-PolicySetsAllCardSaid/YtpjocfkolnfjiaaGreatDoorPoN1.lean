/- The walks of units.Limit and PrintLimit. The walks of units.PrintLimit and of the references of Limit and PrintLimit. The walks of the references of Limit and PrintLimit. The walk of the reference of PrintLimit. -/
import Derived.Test.YtpjocfkolnfjiaaGreatDoorUnPrint
import Derived.Test.YtpjocfkolnfjiaaGreatDoorShelf2
import Derived.Test.YtpjocfkolnfjiaaGreatDoorUnFacts2
import Derived.Test.YtpjocfkolnfjiaaGreatDoorUnRef2
namespace Go.Proofs.YtpjocfkolnfjiaaGreatDoor
open Go.RowKit

namespace Lx
theorem hasPrefix_two (l : List UInt8) : Lib.hasPrefix l [49, 47] = decide (l.take 2 = [49, 47]) := by
  match l with
  | [] => rfl
  | [a] => simp [Lib.hasPrefix, List.isPrefixOf]
  | a :: b :: r =>
    have e : Lib.hasPrefix (a :: b :: r) [49, 47] = ((49 == a) && (47 == b)) := by
      unfold Lib.hasPrefix
      rw [List.isPrefixOf_cons_cons, List.isPrefixOf_cons_cons, List.isPrefixOf_nil_left, Bool.and_true]
    have e2 : (a :: b :: r).take 2 = [a, b] := rfl
    rw [e, e2]
    by_cases h : a = 49
    · by_cases h2 : b = 47
      · subst h; subst h2; rfl
      · have h3 : (47 == b) = false := beq_eq_false_iff_ne.2 (Ne.symm h2)
        rw [h3, Bool.and_false, decide_eq_false]
        intro e; injection e with _ e; injection e with e _; exact h2 e
    · have h3 : (49 == a) = false := beq_eq_false_iff_ne.2 (Ne.symm h)
      rw [h3, Bool.false_and, decide_eq_false]
      intro e; injection e with e _; exact h e
theorem trimPrefix_two (l : List UInt8) (h : l.take 2 = [49, 47]) : Lib.trimPrefix l [49, 47] = l.drop 2 := by
  unfold Lib.trimPrefix
  rw [hasPrefix_two, decide_eq_true h]; rfl
/-- What the parts of a limit come to. -/
theorem lim_cases {s a b : ByteArray} {one two ok3 ok4 : Bool} {c3 c4 : Int} (hn : s.data.toList ≠ [110, 111, 110, 101]) (h1 : one = decide (s.data.toList.take 2 = [49, 47]))
    (h2 : one = true → two = cutIs (s.extract 2 s.size) 43 ∧ a = cutA (s.extract 2 s.size) 43 ∧ b = cutB (s.extract 2 s.size) 43) (h3 : ReadIs a.data.toList c3 ok3) (h4 : ReadIs b.data.toList c4 ok4) :
    (¬ (one = true ∧ two = true ∧ ok3 = true ∧ ok4 = true ∧ c3 ≠ 0) → limT s = 0 ∧ limU s = 0 ∧ limE s = 10) ∧
    ((one = true ∧ two = true ∧ ok3 = true ∧ ok4 = true ∧ c3 ≠ 0) → (c3 ≤ 68719476736 ∧ c4 ≤ 68719476736 ∧ limT s = c3 ∧ limU s = c4 ∧ limE s = 0) ∨ (¬ (c3 ≤ 68719476736 ∧ c4 ≤ 68719476736) ∧ limT s = 0 ∧ limU s = 0 ∧ limE s = 7)) := by
  by_cases ho : one = true
  · obtain ⟨e2, ea, eb⟩ := h2 ho
    rw [ho] at h1
    have ht := of_decide_eq_true h1.symm
    by_cases hw : two = true
    · have hc : cutIs (s.extract 2 s.size) 43 = true := by rw [← e2]; exact hw
      have hl : limP s = match durS a.data.toList, durS b.data.toList with
          | some t, some u => if t = 0 then none else some (t, u)
          | _, _ => none := by
        unfold limP
        rw [if_neg hn, if_pos ⟨ht, hc⟩, ← ea, ← eb]
        cases durS a.data.toList <;> cases durS b.data.toList <;> rfl
      unfold ReadIs at h3 h4
      cases hd3 : durS a.data.toList with
      | none =>
        rw [hd3] at h3 hl
        refine ⟨fun _ => lim_none (by rw [hl]), fun h => ?_⟩
        rw [h3.2] at h; exact absurd h.2.2.1 (by decide)
      | some t =>
        cases hd4 : durS b.data.toList with
        | none =>
          rw [hd4] at h4
          rw [hd3, hd4] at hl
          refine ⟨fun _ => lim_none (by rw [hl]), fun h => ?_⟩
          rw [h4.2] at h; exact absurd h.2.2.2.1 (by decide)
        | some u =>
          rw [hd3] at h3
          rw [hd4] at h4
          rw [hd3, hd4] at hl
          simp only at hl
          obtain ⟨⟨p0, p1, p2⟩, o3⟩ := h3
          obtain ⟨⟨r0, r1, r2⟩, o4⟩ := h4
          by_cases h0 : t = 0
          · rw [if_pos h0] at hl
            refine ⟨fun _ => lim_none hl, fun h => ?_⟩
            have := p1 (by omega)
            omega
          · rw [if_neg h0] at hl
            have hc0 : c3 ≠ 0 := by
              by_cases hv : t ≤ 68719476736
              · have := p1 hv; omega
              · have := p2 (by omega); omega
            refine ⟨fun h => absurd ⟨ho, hw, o3, o4, hc0⟩ h, fun _ => ?_⟩
            by_cases hv : t ≤ 68719476736 ∧ u ≤ 68719476736
            · obtain ⟨k1, k2, k3⟩ := lim_in hl hv.1 hv.2
              have e3 := p1 hv.1
              have e4 := r1 hv.2
              exact .inl ⟨by omega, by omega, by rw [k1, e3], by rw [k2, e4], k3⟩
            · refine .inr ⟨?_, lim_over hl hv⟩
              intro hcc
              apply hv
              constructor
              · rcases Nat.lt_or_ge 68719476736 t with h | h
                · have := p2 h; omega
                · exact h
              · rcases Nat.lt_or_ge 68719476736 u with h | h
                · have := r2 h; omega
                · exact h
    · have hc : cutIs (s.extract 2 s.size) 43 = false := by rw [← e2]; simpa using hw
      have hl : limP s = none := by
        unfold limP
        rw [if_neg hn, if_neg (fun h => by rw [hc] at h; exact absurd h.2 (by decide))]
      exact ⟨fun _ => lim_none hl, fun h => absurd h.2.1 hw⟩
  · have ho' : one = false := by simpa using ho
    rw [ho'] at h1
    have ht := of_decide_eq_false h1.symm
    have hl : limP s = none := lim_nohead hn ht
    exact ⟨fun _ => lim_none hl, fun h => absurd h.1 ho⟩
theorem plim_eq {t u : Int} (T U : ByteArray) (h : limOk t u = true) (h0 : t ≠ 0) (hT : T.data.toList = prnS t.toNat) (hU : U.data.toList = prnS u.toNat) : plimS t u = (⟨#[49, 47]⟩ ++ T ++ ⟨#[43]⟩ ++ U : ByteArray).data.toList ∧ plimE t u = 0 := by
  unfold plimS plimE
  rw [h, if_pos rfl, if_neg h0, if_pos rfl]
  refine ⟨?_, rfl⟩
  simp only [ByteArray.data_append, Array.toList_append, hT, hU]
theorem plim_bad {t u : Int} (h : limOk t u = false) : plimS t u = [] ∧ plimE t u = 16 := by unfold plimS plimE; rw [h]; exact ⟨rfl, rfl⟩
theorem plim_zero : plimS 0 0 = [110, 111, 110, 101] ∧ plimE 0 0 = 0 := by
  have h : limOk 0 0 = true := by decide
  unfold plimS plimE; rw [h]; exact ⟨rfl, rfl⟩
theorem prn_size (d : Nat) (h : d ≤ 68719476736) : (prnS d).length ≤ 48 := by
  unfold prnS
  split
  · decide
  · have := text_len d h 4; omega
end Lx

set_option maxRecDepth 100000 in
set_option maxHeartbeats 1600000 in
theorem limit_any (s : ByteArray) (hs : s.size ≤ 1000000000) (w : World) (env : UEnv w) :
    Calls Tryz.prog 62 #[.string s] w fun e w' => e = .returned (.tuple #[.agg #[.int .i64 (Lx.limT s), .int .i64 (Lx.limU s)], .int .i64 (Lx.limE s)]) ∧ Below w.heap.size w w' := by
  by_cases hz : s.data.toList = [110, 111, 110, 101]
  · have hzb : (s.toList == [110, 111, 110, 101]) = true := by rw [Lib.toList_data, hz]; rfl
    have hl : Lx.limP s = some (0, 0) := by unfold Lx.limP; rw [if_pos hz]
    obtain ⟨k1, k2, k3⟩ := Lx.lim_in hl (by omega) (by omega)
    rw [k1, k2, k3]
    clear k1 k2 k3 hl hz
    go_enter Tryz.func62, Tryz.ntmps62
    go_wp2
    exact bodyPost_ret (v := .tuple #[.agg #[.int .i64 0, .int .i64 0], .int .i64 0]) (by simp [results, Tryz.results62, go_sem]) rfl ⟨rfl, ((Below.refl _ _).alloc (Nat.le_refl _) _).trans (Below.refl _ _)⟩
  · have hzb : (s.toList == [110, 111, 110, 101]) = false := by rw [Lib.toList_data, beq_eq_false_iff_ne]; exact hz
    obtain ⟨one, hone⟩ : ∃ one, one = decide (s.data.toList.take 2 = [49, 47]) := ⟨_, rfl⟩
    obtain ⟨R, hR⟩ : ∃ R : ByteArray, R = ⟨(Lib.trimPrefix s.data.toList [49, 47]).toArray⟩ := ⟨_, rfl⟩
    have hP := fun W => Tryz.strings_CutPrefix s ⟨#[49, 47]⟩ W
    have hRs : R.size ≤ s.size := by
      rw [Lib.size_eq, hR, Lib.size_eq]
      show (Lib.trimPrefix s.data.toList [49, 47]).length ≤ _
      unfold Lib.trimPrefix
      split
      · rw [List.length_drop]; omega
      · exact Nat.le_refl _
    have hRe : one = true → R = s.extract 2 s.size := by
      intro h
      rw [hone] at h
      have ht := of_decide_eq_true h
      rw [hR, Lx.trimPrefix_two _ ht, ← Lx.rest_data, Lib.mk_data]
    have hPP : ∀ W, Calls Tryz.prog 60 #[.string s, .string ⟨#[49, 47]⟩] W fun e w' => e = .returned (.tuple #[.string R, .bool one]) ∧ w' = W := by
      intro W
      refine (hP W).mono ?_
      rintro e w' ⟨rfl, rfl⟩
      refine ⟨?_, rfl⟩
      rw [hR, hone, ← Lx.hasPrefix_two]
    have HC := Lib.hid (fun W => cut_any R 43 W (by unfold maxLen; omega))
    have HP := Lib.hid hPP
    have hcas : ∀ (two ok3 ok4 : Bool) (a b : ByteArray) (c3 c4 : Int), (one = true → two = Lx.cutIs (s.extract 2 s.size) 43 ∧ a = Lx.cutA (s.extract 2 s.size) 43 ∧ b = Lx.cutB (s.extract 2 s.size) 43) → Lx.ReadIs a.data.toList c3 ok3 → Lx.ReadIs b.data.toList c4 ok4 → _ :=
      fun two ok3 ok4 a b c3 c4 h2 h3 h4 => Lx.lim_cases (s := s) (a := a) (b := b) (one := one) (two := two) (ok3 := ok3) (ok4 := ok4) (c3 := c3) (c4 := c4) hz hone h2 h3 h4
    have Hcas := Lib.hid hcas
    have hAs := Lx.cutA_size R 43
    have hBs := Lx.cutB_size R 43
    have HRd := Lib.hid (fun (x : ByteArray) (hx : x.size ≤ s.size) (W : World) (E : UEnv W) => read_any x W (by omega) E)
    have h2 : one = true → Lx.cutIs R 43 = Lx.cutIs (s.extract 2 s.size) 43 ∧ Lx.cutA R 43 = Lx.cutA (s.extract 2 s.size) 43 ∧ Lx.cutB R 43 = Lx.cutB (s.extract 2 s.size) 43 := fun h => by rw [hRe h]; exact ⟨rfl, rfl, rfl⟩
    have hA2 : (Lx.cutA R 43).size ≤ s.size := by omega
    have hB2 : (Lx.cutB R 43).size ≤ s.size := by omega
    have hCc : ∀ W, Calls Tryz.prog 45 #[.string R, .int .u8 43] W fun e w' => e = .returned (.tuple #[.string (Lx.cutA R 43), .string (Lx.cutB R 43), .bool (Lx.cutIs R 43)]) ∧ ∃ n, w' = W.drewN n := HC.out
    obtain ⟨a, ha⟩ : ∃ a, a = Lx.cutA R 43 := ⟨_, rfl⟩
    obtain ⟨b, hb⟩ : ∃ b, b = Lx.cutB R 43 := ⟨_, rfl⟩
    obtain ⟨two, h2w⟩ : ∃ two, two = Lx.cutIs R 43 := ⟨_, rfl⟩
    rw [← ha, ← hb, ← h2w] at hCc
    rw [← ha, ← hb, ← h2w] at h2
    rw [← ha] at hA2
    rw [← hb] at hB2
    have HCc := Lib.hid hCc
    have H2 := Lib.hid h2
    have hblk0 : (w.alloc (.cells #[.int .i64 0, .int .i64 0] 23)).heap[w.heap.size]? = some (.cells #[.int .i64 0, .int .i64 0] 23 (0, 0)) := Lx.alloc_block _ _
    have hba : Below w.heap.size w (w.alloc (.cells #[.int .i64 0, .int .i64 0] 23)) := (Below.refl _ _).alloc (Nat.le_refl _) _
    have hlt0 : w.heap.size < (w.alloc (.cells #[.int .i64 0, .int .i64 0] 23)).heap.size := by simp
    have env0 := env.below hba
    clear hz hone hR hP hRs hRe hPP hcas HC hAs hBs h2 hCc ha hb h2w
    go_enter Tryz.func62, Tryz.ntmps62
    go_wp2_with fail
    refine (HP.out _).mono ?_
    rintro e w1 ⟨rfl, rfl⟩
    go_wp2_with fail
    refine (HCc.out _).mono ?_
    rintro e w1 ⟨rfl, nq, rfl⟩
    have hd := below_drewN w.heap.size (w.alloc (.cells #[.int .i64 0, .int .i64 0] 23)) nq
    have hb1 := hba.trans hd
    have env1 := env.below hb1
    have hblk1 : ((w.alloc (.cells #[.int .i64 0, .int .i64 0] 23)).drewN nq).heap[w.heap.size]? = some (.cells #[.int .i64 0, .int .i64 0] 23 (0, 0)) := hblk0
    go_wp2_with fail
    refine (HRd.out a hA2 _ env1).mono ?_
    rintro e w2 ⟨c3, ok3, rfl, hr3, hb2⟩
    have hb2' := hb1.trans (hb2.mono hb1.size)
    have env2 := env.below hb2'
    have hblk2 := (hb2.block _ hlt0).trans hblk1
    have hlt2 : w.heap.size < w2.heap.size := Nat.lt_of_lt_of_le hlt0 hb2.size
    have Hr3 := Lib.hid hr3
    clear hr3 hb2 hblk1 hblk0 hd hb1 env1 env0 hba hlt0
    go_wp2_with fail
    refine (HRd.out b hB2 _ env2).mono ?_
    rintro e w3 ⟨c4, ok4, rfl, hr4, hb3⟩
    have hb3' := hb2'.trans (hb3.mono hb2'.size)
    have hblk3 := (hb3.block _ hlt2).trans hblk2
    obtain ⟨hbadC, hgoodC⟩ := Hcas.out two ok3 ok4 a b c3 c4 H2.out Hr3.out hr4
    have c0 := Lx.block_cell hblk3 0
    have c1 := Lx.block_cell hblk3 1
    have f0 : w3.frozen? ⟨w.heap.size, 0, none⟩ = false := by unfold World.frozen?; rw [hblk3]; simp
    have f1 : w3.frozen? ⟨w.heap.size, 1, none⟩ = false := by unfold World.frozen?; rw [hblk3]; simp
    have c4n := (Lx.readIs_ok hr4).2
    have c3n := (Lx.readIs_ok Hr3.out).2
    have HB := Lib.hid hbadC
    have HG := Lib.hid hgoodC
    have hlt3 : w.heap.size < w3.heap.size := Nat.lt_of_lt_of_le hlt2 hb3.size
    clear hbadC hgoodC hr4 hb3 hblk2 env2 hb2' Hr3 H2 Hcas HCc HP HRd hblk3 hlt2 hA2 hB2
    cases one
    · obtain ⟨e1, e2, e3⟩ := HB.out (by simp)
      have E1 := Lib.hid e1
      have E2 := Lib.hid e2
      have E3 := Lib.hid e3
      clear e1 e2 e3 HB HG
      go_wp2_with fail
      refine bodyPost_ret (v := .tuple #[.agg #[.int .i64 0, .int .i64 0], .int .i64 10]) ?_ rfl ⟨by rw [E1.out, E2.out, E3.out], ?_⟩
      · simp [results, Tryz.results62, go_sem, c0, c1]
      · exact (hb3'.setCell (Nat.le_refl _) _).setCell (Nat.le_refl _) _
    · cases two
      · obtain ⟨e1, e2, e3⟩ := HB.out (by simp)
        have E1 := Lib.hid e1
        have E2 := Lib.hid e2
        have E3 := Lib.hid e3
        clear e1 e2 e3 HB HG
        go_wp2_with fail
        refine bodyPost_ret (v := .tuple #[.agg #[.int .i64 0, .int .i64 0], .int .i64 10]) ?_ rfl ⟨by rw [E1.out, E2.out, E3.out], ?_⟩
        · simp [results, Tryz.results62, go_sem, c0, c1]
        · exact (hb3'.setCell (Nat.le_refl _) _).setCell (Nat.le_refl _) _
      · cases ok3
        · obtain ⟨e1, e2, e3⟩ := HB.out (by simp)
          have E1 := Lib.hid e1
          have E2 := Lib.hid e2
          have E3 := Lib.hid e3
          clear e1 e2 e3 HB HG
          go_wp2_with fail
          refine bodyPost_ret (v := .tuple #[.agg #[.int .i64 0, .int .i64 0], .int .i64 10]) ?_ rfl ⟨by rw [E1.out, E2.out, E3.out], ?_⟩
          · simp [results, Tryz.results62, go_sem, c0, c1]
          · exact (hb3'.setCell (Nat.le_refl _) _).setCell (Nat.le_refl _) _
        · cases ok4
          · obtain ⟨e1, e2, e3⟩ := HB.out (by simp)
            have E1 := Lib.hid e1
            have E2 := Lib.hid e2
            have E3 := Lib.hid e3
            clear e1 e2 e3 HB HG
            go_wp2_with fail
            refine bodyPost_ret (v := .tuple #[.agg #[.int .i64 0, .int .i64 0], .int .i64 10]) ?_ rfl ⟨by rw [E1.out, E2.out, E3.out], ?_⟩
            · simp [results, Tryz.results62, go_sem, c0, c1]
            · exact (hb3'.setCell (Nat.le_refl _) _).setCell (Nat.le_refl _) _
          · by_cases h0 : c3 = 0
            · subst h0
              obtain ⟨e1, e2, e3⟩ := HB.out (by simp)
              have E1 := Lib.hid e1
              have E2 := Lib.hid e2
              have E3 := Lib.hid e3
              clear e1 e2 e3 HB HG
              go_wp2_with fail
              refine bodyPost_ret (v := .tuple #[.agg #[.int .i64 0, .int .i64 0], .int .i64 10]) ?_ rfl ⟨by rw [E1.out, E2.out, E3.out], ?_⟩
              · simp [results, Tryz.results62, go_sem, c0, c1]
              · exact (hb3'.setCell (Nat.le_refl _) _).setCell (Nat.le_refl _) _
            · have h0b : (c3 == 0) = false := by rw [beq_eq_false_iff_ne]; exact h0
              have hg := HG.out ⟨rfl, rfl, rfl, rfl, h0⟩
              clear HB HG h0
              rcases hg with ⟨hc3, hc4, e1, e2, e3⟩ | ⟨hov, e1, e2, e3⟩
              · have hmax : max c3 c4 ≤ 68719476736 := by omega
                have E1 := Lib.hid e1
                have E2 := Lib.hid e2
                have E3 := Lib.hid e3
                clear e1 e2 e3 hc3 hc4
                go_wp2_with fail
                refine bodyPost_ret (v := .tuple #[.agg #[.int .i64 c3, .int .i64 c4], .int .i64 0]) ?_ rfl ⟨by rw [E1.out, E2.out, E3.out], ?_⟩
                · simp [results, Tryz.results62, go_sem, c0, c1]
                · exact (hb3'.setCell (Nat.le_refl _) _).setCell (Nat.le_refl _) _
              · have hmax : 68719476736 < max c3 c4 := by omega
                have E1 := Lib.hid e1
                have E2 := Lib.hid e2
                have E3 := Lib.hid e3
                clear e1 e2 e3 hov
                go_wp2_with fail
                refine bodyPost_ret (v := .tuple #[.agg #[.int .i64 0, .int .i64 0], .int .i64 7]) ?_ rfl ⟨by rw [E1.out, E2.out, E3.out], ?_⟩
                · simp [results, Tryz.results62, go_sem, c0, c1]
                · exact (hb3'.setCell (Nat.le_refl _) _).setCell (Nat.le_refl _) _
end Go.Proofs.YtpjocfkolnfjiaaGreatDoor
namespace Go.Proofs.YtpjocfkolnfjiaaGreatDoor
open Go.RowKit

theorem Lx.limOk_split (t u : Int) : (¬ (0 ≤ t ∧ t ≤ 68719476736) ∧ Lx.limOk t u = false) ∨ ((0 ≤ t ∧ t ≤ 68719476736) ∧ ¬ (0 ≤ u ∧ u ≤ 68719476736) ∧ Lx.limOk t u = false) ∨ ((0 ≤ t ∧ t ≤ 68719476736) ∧ (0 ≤ u ∧ u ≤ 68719476736) ∧ t = 0 ∧ 0 < u ∧ Lx.limOk t u = false) ∨ (t = 0 ∧ u = 0) ∨ ((0 < t ∧ t ≤ 68719476736) ∧ (0 ≤ u ∧ u ≤ 68719476736) ∧ Lx.limOk t u = true) := by
  unfold Lx.limOk
  rw [decide_eq_false_iff_not, decide_eq_true_iff]
  omega

set_option maxRecDepth 100000 in
set_option maxHeartbeats 1600000 in
theorem plimit_any (t u : Int) (w : World) (env : UEnv w) :
    Calls Tryz.prog 61 #[.agg #[.int .i64 t, .int .i64 u]] w fun e w' => e = .returned (.tuple #[.string ⟨(Lx.plimS t u).toArray⟩, .int .i64 (Lx.plimE t u)]) ∧ Below w.heap.size w w' := by
  have hba : Below w.heap.size w (w.alloc (.cells #[.int .i64 t, .int .i64 u] 23)) := (Below.refl _ _).alloc (Nat.le_refl _) _
  have env0 := env.below hba
  have hlt0 : w.heap.size < (w.alloc (.cells #[.int .i64 t, .int .i64 u] 23)).heap.size := by simp
  have HP1 := Lib.hid (print_any t _ env0)
  have HP2 := Lib.hid (fun W (E : UEnv W) => print_any u W E)
  rcases Lx.limOk_split t u with ⟨ht, hk⟩ | ⟨ht, hu, hk⟩ | ⟨ht, hu, h0, h1, hk⟩ | ⟨h0, h1⟩ | ⟨ht, hu, hk⟩
  · obtain ⟨e1, e2⟩ := Lx.plim_bad hk
    rw [e1, e2]
    rw [(Lx.prn_out ht).1, (Lx.prn_out ht).2] at HP1
    obtain ⟨UV, hUV⟩ : ∃ UV : ByteArray, UV = ⟨(Lx.prnV u).toArray⟩ := ⟨_, rfl⟩
    rw [← hUV] at HP2
    generalize Lx.prnE u = UE at HP2
    clear e1 e2 hk ht hUV
    go_enter Tryz.func61, Tryz.ntmps61
    go_wp2_with fail
    refine HP1.out.mono ?_
    rintro e w1 ⟨rfl, hb1⟩
    have hb1' := hba.trans (hb1.mono hba.size)
    have c1 : w1.cell? ⟨w.heap.size, 1, none⟩ = some (.int .i64 u) := (hb1.cell (p := ⟨w.heap.size, 1, none⟩) hlt0).trans (by simp)
    go_wp2_with fail
    refine (HP2.out _ (env.below hb1')).mono ?_
    rintro e w2 ⟨rfl, hb2⟩
    go_wp2_with fail
    go_ret2
    exact ⟨rfl, hb1'.trans (hb2.mono hb1'.size)⟩
  · obtain ⟨e1, e2⟩ := Lx.plim_bad hk
    rw [e1, e2]
    rw [(Lx.prn_in ht).1, (Lx.prn_in ht).2] at HP1
    rw [(Lx.prn_out hu).1, (Lx.prn_out hu).2] at HP2
    obtain ⟨TV, hTV⟩ : ∃ TV : ByteArray, TV = ⟨(Lx.prnS t.toNat).toArray⟩ := ⟨_, rfl⟩
    rw [← hTV] at HP1
    clear e1 e2 hk ht hu hTV
    go_enter Tryz.func61, Tryz.ntmps61
    go_wp2_with fail
    refine HP1.out.mono ?_
    rintro e w1 ⟨rfl, hb1⟩
    have hb1' := hba.trans (hb1.mono hba.size)
    have c1 : w1.cell? ⟨w.heap.size, 1, none⟩ = some (.int .i64 u) := (hb1.cell (p := ⟨w.heap.size, 1, none⟩) hlt0).trans (by simp)
    go_wp2_with fail
    refine (HP2.out _ (env.below hb1')).mono ?_
    rintro e w2 ⟨rfl, hb2⟩
    go_wp2_with fail
    go_ret2
    exact ⟨rfl, hb1'.trans (hb2.mono hb1'.size)⟩
  · obtain ⟨e1, e2⟩ := Lx.plim_bad hk
    rw [e1, e2]
    rw [(Lx.prn_in ht).1, (Lx.prn_in ht).2] at HP1
    rw [(Lx.prn_in hu).1, (Lx.prn_in hu).2] at HP2
    obtain ⟨TV, hTV⟩ : ∃ TV : ByteArray, TV = ⟨(Lx.prnS t.toNat).toArray⟩ := ⟨_, rfl⟩
    rw [← hTV] at HP1
    obtain ⟨UV, hUV⟩ : ∃ UV : ByteArray, UV = ⟨(Lx.prnS u.toNat).toArray⟩ := ⟨_, rfl⟩
    rw [← hUV] at HP2
    clear e1 e2 hk ht hu hTV hUV
    subst h0
    go_enter Tryz.func61, Tryz.ntmps61
    go_wp2_with fail
    refine HP1.out.mono ?_
    rintro e w1 ⟨rfl, hb1⟩
    have hb1' := hba.trans (hb1.mono hba.size)
    have c1 : w1.cell? ⟨w.heap.size, 1, none⟩ = some (.int .i64 u) := (hb1.cell (p := ⟨w.heap.size, 1, none⟩) hlt0).trans (by simp)
    have c0 : w1.cell? ⟨w.heap.size, 0, none⟩ = some (.int .i64 0) := (hb1.cell (p := ⟨w.heap.size, 0, none⟩) hlt0).trans (by simp)
    have hl1 := Nat.lt_of_lt_of_le hlt0 hb1.size
    go_wp2_with fail
    refine (HP2.out _ (env.below hb1')).mono ?_
    rintro e w2 ⟨rfl, hb2⟩
    have d1 := (hb2.cell (p := ⟨w.heap.size, 1, none⟩) hl1).trans c1
    have d0 := (hb2.cell (p := ⟨w.heap.size, 0, none⟩) hl1).trans c0
    clear c0 c1
    go_wp2_with fail
    go_ret2
    exact ⟨rfl, hb1'.trans (hb2.mono hb1'.size)⟩
  · subst h0
    subst h1
    rw [Lx.plim_zero.1, Lx.plim_zero.2]
    rw [(Lx.prn_in (d := 0) (by omega)).1, (Lx.prn_in (d := 0) (by omega)).2] at HP1
    rw [(Lx.prn_in (d := 0) (by omega)).1, (Lx.prn_in (d := 0) (by omega)).2] at HP2
    obtain ⟨TV, hTV⟩ : ∃ TV : ByteArray, TV = ⟨(Lx.prnS (0 : Int).toNat).toArray⟩ := ⟨_, rfl⟩
    rw [← hTV] at HP1 HP2
    clear hTV
    go_enter Tryz.func61, Tryz.ntmps61
    go_wp2_with fail
    refine HP1.out.mono ?_
    rintro e w1 ⟨rfl, hb1⟩
    have hb1' := hba.trans (hb1.mono hba.size)
    have c1 : w1.cell? ⟨w.heap.size, 1, none⟩ = some (.int .i64 0) := (hb1.cell (p := ⟨w.heap.size, 1, none⟩) hlt0).trans (by simp)
    have c0 : w1.cell? ⟨w.heap.size, 0, none⟩ = some (.int .i64 0) := (hb1.cell (p := ⟨w.heap.size, 0, none⟩) hlt0).trans (by simp)
    have hl1 := Nat.lt_of_lt_of_le hlt0 hb1.size
    go_wp2_with fail
    refine (HP2.out _ (env.below hb1')).mono ?_
    rintro e w2 ⟨rfl, hb2⟩
    have d1 := (hb2.cell (p := ⟨w.heap.size, 1, none⟩) hl1).trans c1
    have d0 := (hb2.cell (p := ⟨w.heap.size, 0, none⟩) hl1).trans c0
    clear c0 c1
    go_wp2_with fail
    go_ret2
    exact ⟨rfl, hb1'.trans (hb2.mono hb1'.size)⟩
  · have ht' : 0 ≤ t ∧ t ≤ 68719476736 := by omega
    have hts := Lx.prn_size t.toNat (by omega)
    have hus := Lx.prn_size u.toNat (by omega)
    rw [(Lx.prn_in ht').1, (Lx.prn_in ht').2] at HP1
    rw [(Lx.prn_in hu).1, (Lx.prn_in hu).2] at HP2
    obtain ⟨TV, hTV⟩ : ∃ TV : ByteArray, TV = ⟨(Lx.prnS t.toNat).toArray⟩ := ⟨_, rfl⟩
    rw [← hTV] at HP1
    obtain ⟨UV, hUV⟩ : ∃ UV : ByteArray, UV = ⟨(Lx.prnS u.toNat).toArray⟩ := ⟨_, rfl⟩
    rw [← hUV] at HP2
    have hTl : TV.data.toList = Lx.prnS t.toNat := by rw [hTV]
    have hUl : UV.data.toList = Lx.prnS u.toNat := by rw [hUV]
    obtain ⟨e1, e2⟩ := Lx.plim_eq TV UV hk (by omega) hTl hUl
    have hTs : TV.size ≤ 48 := by rw [Lib.size_eq, hTl]; exact hts
    have hUs : UV.size ≤ 48 := by rw [Lib.size_eq, hUl]; exact hus
    have hfin : (⟨#[49, 47]⟩ ++ TV ++ ⟨#[43]⟩ ++ UV : ByteArray) = ⟨(Lx.plimS t u).toArray⟩ := by rw [e1, Lib.mk_data]
    have Hfin := Lib.hid hfin
    have h0b : (t == 0) = false := by rw [beq_eq_false_iff_ne]; omega
    have s1 : (⟨#[49, 47]⟩ : ByteArray).size = 2 := rfl
    have s2 : (⟨#[43]⟩ : ByteArray).size = 1 := rfl
    rw [e2]
    clear e1 e2 hk ht ht' hu hTV hUV hTl hUl hfin hts hus
    go_enter Tryz.func61, Tryz.ntmps61
    go_wp2_with fail
    refine HP1.out.mono ?_
    rintro e w1 ⟨rfl, hb1⟩
    have hb1' := hba.trans (hb1.mono hba.size)
    have c1 : w1.cell? ⟨w.heap.size, 1, none⟩ = some (.int .i64 u) := (hb1.cell (p := ⟨w.heap.size, 1, none⟩) hlt0).trans (by simp)
    have c0 : w1.cell? ⟨w.heap.size, 0, none⟩ = some (.int .i64 t) := (hb1.cell (p := ⟨w.heap.size, 0, none⟩) hlt0).trans (by simp)
    have hl1 := Nat.lt_of_lt_of_le hlt0 hb1.size
    go_wp2_with fail
    refine (HP2.out _ (env.below hb1')).mono ?_
    rintro e w2 ⟨rfl, hb2⟩
    have d1 := (hb2.cell (p := ⟨w.heap.size, 1, none⟩) hl1).trans c1
    have d0 := (hb2.cell (p := ⟨w.heap.size, 0, none⟩) hl1).trans c0
    clear c0 c1
    go_wp2_with fail
    go_ret2
    exact ⟨Lx.ret_t2 (Lx.v_str Hfin.out) rfl, hb1'.trans (hb2.mono hb1'.size)⟩
end Go.Proofs.YtpjocfkolnfjiaaGreatDoor
namespace Go.Proofs.YtpjocfkolnfjiaaGreatDoor
open Go.RowKit

end Go.Proofs.YtpjocfkolnfjiaaGreatDoor
namespace Go.Proofs.YtpjocfkolnfjiaaGreatDoor
open Go.RowKit

end Go.Proofs.YtpjocfkolnfjiaaGreatDoor
