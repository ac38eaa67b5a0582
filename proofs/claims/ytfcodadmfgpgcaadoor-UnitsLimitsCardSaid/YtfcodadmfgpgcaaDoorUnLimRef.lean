/- The walks of the references of Limit and PrintLimit. -/
import Derived.Test.YtfcodadmfgpgcaaDoorUnLim2
namespace Go.Proofs.YtfcodadmfgpgcaaDoor
open Go.RowKit

set_option maxRecDepth 100000 in
set_option maxHeartbeats 1600000 in
theorem ref_limit_any (s : ByteArray) (hs : s.size ≤ 1000000000) (w : World) :
    Calls Tryd.prog 10 #[.string s] w fun e w' => e = .returned (.tuple #[.agg #[.int .i64 (Lx.limT s), .int .i64 (Lx.limU s)], .int .i64 (Lx.limE s)]) ∧ Below w.heap.size w w' := by
  by_cases hz : s.data.toList = [110, 111, 110, 101]
  · have hzb : (s.toList == [110, 111, 110, 101]) = true := by rw [Lib.toList_data, hz]; rfl
    have hl : Lx.limP s = some (0, 0) := by unfold Lx.limP; rw [if_pos hz]
    obtain ⟨k1, k2, k3⟩ := Lx.lim_in hl (by omega) (by omega)
    rw [k1, k2, k3]
    clear k1 k2 k3 hl hz
    go_enter Tryd.func10, Tryd.ntmps10
    go_wp2
    exact bodyPost_ret (v := .tuple #[.agg #[.int .i64 0, .int .i64 0], .int .i64 0]) (by simp [results, Tryd.results10, go_sem]) rfl ⟨rfl, ((Below.refl _ _).alloc (Nat.le_refl _) _).trans (Below.refl _ _)⟩
  · have hzb : (s.toList == [110, 111, 110, 101]) = false := by rw [Lib.toList_data, beq_eq_false_iff_ne]; exact hz
    have hba : Below w.heap.size w (w.alloc (.cells #[.int .i64 0, .int .i64 0] 33)) := (Below.refl _ _).alloc (Nat.le_refl _) _
    by_cases ht : s.data.toList.take 2 = [49, 47]
    · have h2s : 2 ≤ s.size := by
        rw [Lib.size_eq]
        have := congrArg List.length ht
        rw [List.length_take] at this
        have h2 : ([49, 47] : List UInt8).length = 2 := rfl
        omega
      have hpre : ((s.extract 0 2).toList == [49, 47]) = true := by rw [Lib.toList_data, Lx.ext_data, ht]; rfl
      have hpre2 : (s.extract 0 2).toList = [49, 47] := by rw [Lib.toList_data, Lx.ext_data, ht]
      have h2i : (2 : Int) ≤ (s.size : Int) := by omega
      obtain ⟨R, hR⟩ : ∃ R, R = s.extract 2 s.size := ⟨_, rfl⟩
      have hRs : R.size ≤ s.size := by
        rw [hR, Lib.size_eq, Lx.rest_data, List.length_drop, ← Lib.size_eq]; omega
      have hC := fun W => ref_cut_any R 43 W (by unfold maxLen; omega)
      have hcas : ∀ (ok3 ok4 : Bool) (a b : ByteArray) (c3 c4 : Int), a = Lx.cutA R 43 → b = Lx.cutB R 43 → Lx.ReadIs a.data.toList c3 ok3 → Lx.ReadIs b.data.toList c4 ok4 → _ :=
        fun ok3 ok4 a b c3 c4 ha hb h3 h4 => Lx.lim_cases (s := s) (a := a) (b := b) (one := true) (two := Lx.cutIs R 43) (ok3 := ok3) (ok4 := ok4) (c3 := c3) (c4 := c4) hz (decide_eq_true ht).symm (fun _ => by rw [ha, hb, hR]; exact ⟨rfl, rfl, rfl⟩) h3 h4
      have hAs := Lx.cutA_size R 43
      have hBs := Lx.cutB_size R 43
      have hCc : ∀ W, Calls Tryd.prog 25 #[.string R, .int .u8 43] W fun e w' => e = .returned (.tuple #[.string (Lx.cutA R 43), .string (Lx.cutB R 43), .bool (Lx.cutIs R 43)]) ∧ ∃ n, w' = W.drewN n := hC
      obtain ⟨a, ha⟩ : ∃ a, a = Lx.cutA R 43 := ⟨_, rfl⟩
      obtain ⟨b, hb⟩ : ∃ b, b = Lx.cutB R 43 := ⟨_, rfl⟩
      have hcas2 := fun ok3 ok4 c3 c4 => hcas ok3 ok4 a b c3 c4 ha hb
      rw [← ha] at hAs hCc
      rw [← hb] at hBs hCc
      obtain ⟨two, h2w⟩ : ∃ two, two = Lx.cutIs R 43 := ⟨_, rfl⟩
      rw [← h2w] at hCc hcas2
      rw [hR] at hCc
      have HCc := Lib.hid hCc
      have Hcas := Lib.hid hcas2
      have HA := Lib.hid (fun W => ref_read_any a W (by omega))
      have HB0 := Lib.hid (fun W => ref_read_any b W (by omega))
      have hblk0 : (w.alloc (.cells #[.int .i64 0, .int .i64 0] 33)).heap[w.heap.size]? = some (.cells #[.int .i64 0, .int .i64 0] 33 (0, 0)) := Lx.alloc_block _ _
      have hlt0 : w.heap.size < (w.alloc (.cells #[.int .i64 0, .int .i64 0] 33)).heap.size := by simp
      clear hz ht hR hRs hC hcas hAs hBs hCc ha hb h2w hcas2 h2s
      go_enter Tryd.func10, Tryd.ntmps10
      go_wp2_with fail
      refine (HCc.out _).mono ?_
      rintro e w1 ⟨rfl, nq, rfl⟩
      have hd := below_drewN w.heap.size (w.alloc (.cells #[.int .i64 0, .int .i64 0] 33)) nq
      have hb1 := hba.trans hd
      have hblk1 : ((w.alloc (.cells #[.int .i64 0, .int .i64 0] 33)).drewN nq).heap[w.heap.size]? = some (.cells #[.int .i64 0, .int .i64 0] 33 (0, 0)) := hblk0
      go_wp2_with fail
      refine (HA.out _).mono ?_
      rintro e w2 ⟨c3, ok3, rfl, hr3, hb2⟩
      have hb2' := hb1.trans (hb2.mono hb1.size)
      have hblk2 := (hb2.block _ hlt0).trans hblk1
      have hlt2 : w.heap.size < w2.heap.size := Nat.lt_of_lt_of_le hlt0 hb2.size
      have Hr3 := Lib.hid hr3
      clear hr3 hb2 hblk1 hblk0 hd hb1 hba hlt0
      go_wp2_with fail
      refine (HB0.out _).mono ?_
      rintro e w3 ⟨c4, ok4, rfl, hr4, hb3⟩
      have hb3' := hb2'.trans (hb3.mono hb2'.size)
      have hblk3 := (hb3.block _ hlt2).trans hblk2
      obtain ⟨hbadC, hgoodC⟩ := Hcas.out ok3 ok4 c3 c4 Hr3.out hr4
      have c0 := Lx.block_cell hblk3 0
      have c1 := Lx.block_cell hblk3 1
      have f0 : w3.frozen? ⟨w.heap.size, 0, none⟩ = false := by unfold World.frozen?; rw [hblk3]; simp
      have f1 : w3.frozen? ⟨w.heap.size, 1, none⟩ = false := by unfold World.frozen?; rw [hblk3]; simp
      have c4n := (Lx.readIs_ok hr4).2
      have c3n := (Lx.readIs_ok Hr3.out).2
      have HB := Lib.hid hbadC
      have HG := Lib.hid hgoodC
      have hlt3 : w.heap.size < w3.heap.size := Nat.lt_of_lt_of_le hlt2 hb3.size
      clear hbadC hgoodC hr4 hb3 hblk2 hb2' Hr3 Hcas HCc HA HB0 hblk3 hlt2
      cases two
      · obtain ⟨e1, e2, e3⟩ := HB.out (by simp)
        have E1 := Lib.hid e1
        have E2 := Lib.hid e2
        have E3 := Lib.hid e3
        clear e1 e2 e3 HB HG
        go_wp2_with fail
        refine bodyPost_ret (v := .tuple #[.agg #[.int .i64 0, .int .i64 0], .int .i64 10]) ?_ rfl ⟨by rw [E1.out, E2.out, E3.out], ?_⟩
        · simp [results, Tryd.results10, go_sem, c0, c1]
        · exact (hb3'.setCell (Nat.le_refl _) _).setCell (Nat.le_refl _) _
      · cases ok3
        · obtain ⟨e1, e2, e3⟩ := HB.out (by simp)
          have E1 := Lib.hid e1
          have E2 := Lib.hid e2
          have E3 := Lib.hid e3
          clear e1 e2 e3 HB HG
          go_wp2_with fail
          refine bodyPost_ret (v := .tuple #[.agg #[.int .i64 0, .int .i64 0], .int .i64 10]) ?_ rfl ⟨by rw [E1.out, E2.out, E3.out], ?_⟩
          · simp [results, Tryd.results10, go_sem, c0, c1]
          · exact (hb3'.setCell (Nat.le_refl _) _).setCell (Nat.le_refl _) _
        · cases ok4
          · obtain ⟨e1, e2, e3⟩ := HB.out (by simp)
            have E1 := Lib.hid e1
            have E2 := Lib.hid e2
            have E3 := Lib.hid e3
            clear e1 e2 e3 HB HG
            go_wp2_with fail
            refine bodyPost_ret (v := .tuple #[.agg #[.int .i64 0, .int .i64 0], .int .i64 10]) ?_ rfl ⟨by rw [E1.out, E2.out, E3.out], ?_⟩
            · simp [results, Tryd.results10, go_sem, c0, c1]
            · exact (hb3'.setCell (Nat.le_refl _) _).setCell (Nat.le_refl _) _
          · by_cases h0 : c3 = 0
            · subst h0
              obtain ⟨e1, e2, e3⟩ := HB.out (by simp)
              have E1 := Lib.hid e1
              have E2 := Lib.hid e2
              have E3 := Lib.hid e3
              clear e1 e2 e3 HB HG
              go_wp2_with fail
              refine bodyPost_ret (v := .tuple #[.agg #[.int .i64 0, .int .i64 0], .int .i64 10]) ?_ rfl ⟨by rw [E1.out, E2.out, E3.out], ?_⟩
              · simp [results, Tryd.results10, go_sem, c0, c1]
              · exact (hb3'.setCell (Nat.le_refl _) _).setCell (Nat.le_refl _) _
            · have h0b : (c3 == 0) = false := by rw [beq_eq_false_iff_ne]; exact h0
              have hg := HG.out (by simpa using h0)
              clear HB HG h0
              rcases hg with ⟨hc3, hc4, e1, e2, e3⟩ | ⟨hov, e1, e2, e3⟩
              · have E1 := Lib.hid e1
                have E2 := Lib.hid e2
                have E3 := Lib.hid e3
                clear e1 e2 e3
                go_wp2_with fail
                refine bodyPost_ret (v := .tuple #[.agg #[.int .i64 c3, .int .i64 c4], .int .i64 0]) ?_ rfl ⟨by rw [E1.out, E2.out, E3.out], ?_⟩
                · simp [results, Tryd.results10, go_sem, c0, c1]
                · exact (hb3'.setCell (Nat.le_refl _) _).setCell (Nat.le_refl _) _
              · have E1 := Lib.hid e1
                have E2 := Lib.hid e2
                have E3 := Lib.hid e3
                rcases (show 68719476736 < c3 ∨ (c3 ≤ 68719476736 ∧ 68719476736 < c4) by omega) with hv | ⟨hv, hv2⟩
                · have hvb : decide (68719476736 < c3) = true := decide_eq_true hv
                  clear e1 e2 e3 hov hv c3n c4n
                  go_wp2_with fail
                  refine bodyPost_ret (v := .tuple #[.agg #[.int .i64 0, .int .i64 0], .int .i64 7]) ?_ rfl ⟨by rw [E1.out, E2.out, E3.out], ?_⟩
                  · simp [results, Tryd.results10, go_sem, c0, c1]
                  · exact (hb3'.setCell (Nat.le_refl _) _).setCell (Nat.le_refl _) _
                · clear e1 e2 e3 hov
                  go_wp2_with fail
                  all_goals first | (exfalso; omega) | (exact bodyPost_ret (v := .tuple #[.agg #[.int .i64 0, .int .i64 0], .int .i64 7]) (by simp [results, Tryd.results10, go_sem, c0, c1]) rfl ⟨by rw [E1.out, E2.out, E3.out], (hb3'.setCell (Nat.le_refl _) _).setCell (Nat.le_refl _) _⟩)
    · obtain ⟨e1, e2, e3⟩ := Lx.lim_none (Lx.lim_nohead hz ht)
      rw [e1, e2, e3]
      by_cases h2s : 2 ≤ s.size
      · have h2i : (2 : Int) ≤ (s.size : Int) := by omega
        have hpre : ((s.extract 0 2).toList == [49, 47]) = false := by rw [Lib.toList_data, Lx.ext_data, beq_eq_false_iff_ne]; exact ht
        have hpre2 : ((s.extract 0 2).toList != [49, 47]) = true := by rw [bne_iff_ne, Lib.toList_data, Lx.ext_data]; exact ht
        clear e1 e2 e3 hz ht h2s
        go_enter Tryd.func10, Tryd.ntmps10
        go_wp2_with fail
        exact bodyPost_ret (v := .tuple #[.agg #[.int .i64 0, .int .i64 0], .int .i64 10]) (by simp [results, Tryd.results10, go_sem]) rfl ⟨rfl, hba⟩
      · have h2i : (s.size : Int) < 2 := by omega
        clear e1 e2 e3 hz ht h2s
        go_enter Tryd.func10, Tryd.ntmps10
        go_wp2_with fail
        exact bodyPost_ret (v := .tuple #[.agg #[.int .i64 0, .int .i64 0], .int .i64 10]) (by simp [results, Tryd.results10, go_sem]) rfl ⟨rfl, hba⟩
end Go.Proofs.YtfcodadmfgpgcaaDoor
