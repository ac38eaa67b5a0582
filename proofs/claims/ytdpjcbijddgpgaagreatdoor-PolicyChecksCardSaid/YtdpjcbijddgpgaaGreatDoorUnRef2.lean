/- The walks of the references of units.Print at any number, Normal and Pair. -/
import Derived.Test.YtdpjcbijddgpgaaGreatDoorUnRefPrint
import Derived.Test.YtdpjcbijddgpgaaGreatDoorCut
import Derived.Test.YtdpjcbijddgpgaaGreatDoorCutLx
namespace Go.Proofs.YtdpjcbijddgpgaaGreatDoor
open Go.RowKit

theorem ref_print_any (d : Int) (w : World) :
    Calls Tryz.prog 118 #[.int .i64 d] w fun e w' => e = .returned (.tuple #[.string ⟨(Lx.prnV d).toArray⟩, .int .i64 (Lx.prnE d)]) ∧ Below w.heap.size w w' := by
  by_cases hin : 0 ≤ d ∧ d ≤ 68719476736
  · obtain ⟨e1, e2⟩ := Lx.prn_in hin
    rw [e1, e2]
    by_cases h0 : d = 0
    · subst h0
      clear e1 e2 hin
      go_enter Tryz.func118, Tryz.ntmps118
      go_wp2
      go_ret2
      exact ⟨rfl, Below.refl _ _⟩
    · have h := ref_print_pos d.toNat (by omega) (by omega) w
      rw [Int.toNat_of_nonneg hin.1] at h
      exact h
  · obtain ⟨e1, e2⟩ := Lx.prn_out hin
    rw [e1, e2]
    rcases (show d < 0 ∨ 68719476736 < d by omega) with h | h
    · clear e1 e2 hin
      go_enter Tryz.func118, Tryz.ntmps118
      go_wp2
      go_ret2
      exact ⟨rfl, Below.refl _ _⟩
    · have h2 : 0 ≤ d := by omega
      clear e1 e2 hin
      go_enter Tryz.func118, Tryz.ntmps118
      go_wp2
      all_goals first | (exfalso; omega) | (go_ret2; exact ⟨rfl, Below.refl _ _⟩)
/-- units.Print at a text that is known. -/
theorem ref_print_in (d : Nat) (hd : d ≤ 68719476736) (w : World) :
    Calls Tryz.prog 118 #[.int .i64 d] w fun e w' => e = .returned (.tuple #[.string ⟨(Lx.prnS d).toArray⟩, .int .i64 0]) ∧ Below w.heap.size w w' := by
  have h := ref_print_any d w
  rw [(Lx.prn_in (d := d) (by omega)).1, (Lx.prn_in (d := d) (by omega)).2, Int.toNat_natCast] at h
  exact h

set_option maxHeartbeats 800000 in
theorem ref_pair_any (s : ByteArray) (w : World) (hs : s.size ≤ 1000000000) :
    Calls Tryz.prog 46 #[.string s] w fun e w' => e = .returned (.tuple #[.string (Lx.pairK s), .string (Lx.pairV s), .int .i64 (Lx.pairE s)]) ∧ ∃ n, w' = w.drewN n := by
  have HC := Lib.hid (ref_cut_any s 61 w (by unfold maxLen; omega))
  have hks := Lx.cutA_size s 61
  by_cases hi : Lx.cutIs s 61 = true
  · by_cases he : (Lx.cutA s 61).size = 0
    · have heb := Lx.streq he
      have hp : Lx.pairOk s = false := by
        unfold Lx.pairOk
        rw [Lx.nil_of_size he]; simp
      have hg := Lx.pair_bad hp
      rw [hg.1, hg.2.1, hg.2.2]
      rw [hi] at HC
      clear hg hp hi
      generalize Lx.cutA s 61 = ka at HC heb hks
      generalize Lx.cutB s 61 = kb at HC
      go_enter Tryz.func46, Tryz.ntmps46
      go_wp2_with fail
      refine HC.out.mono ?_
      rintro e w1 ⟨rfl, nq, rfl⟩
      go_wp2_with fail
      go_ret3
      exact ⟨rfl, nq, rfl⟩
    · have heb := Lx.strne he
      have Hg : Hid ((Lx.cutA s 61).data.toList.all Lx.isLow = true → Lx.pairK s = Lx.cutA s 61 ∧ Lx.pairV s = Lx.cutB s 61 ∧ Lx.pairE s = 0) := Lib.hid fun hall => by
        refine Lx.pair_good ?_
        unfold Lx.pairOk
        rw [hi, hall]
        cases h : (Lx.cutA s 61).data.toList with
        | nil => exact absurd (by rw [Lib.size_eq, h]; rfl) he
        | cons a t => rfl
      have Hb : Hid ((Lx.cutA s 61).data.toList.all Lx.isLow = false → Lx.pairK s = ⟨#[]⟩ ∧ Lx.pairV s = ⟨#[]⟩ ∧ Lx.pairE s = 10) := Lib.hid fun hall => by
        refine Lx.pair_bad ?_
        unfold Lx.pairOk
        rw [hall]; simp
      rw [hi] at HC
      have hka : (Lx.cutA s 61).size ≤ 1000000000 := by omega
      clear hi he hks
      generalize Lx.cutA s 61 = ka at HC heb Hg Hb hka
      generalize Lx.cutB s 61 = kb at HC Hg
      go_enter Tryz.func46, Tryz.ntmps46
      go_wp2_with fail
      refine HC.out.mono ?_
      rintro e w1 ⟨rfl, nq, rfl⟩
      go_wp2_with fail
      go_loop [8] (fun i => ∃ k : Nat, k ≤ ka.size ∧ i = .int .i64 k ∧ Hid ((ka.data.toList.take k).all Lx.isLow = true)) (fun i => ka.size - (intOf i).toNat)
      case atStart => exact ⟨0, Nat.zero_le _, rfl, Lib.hid rfl⟩
      case round =>
        obtain ⟨k, hk, rfl, hall⟩ := hrel
        by_cases hlt : k < ka.size
        · have hki : (k : Int) < (ka.size : Int) := by omega
          by_cases hl : Lx.isLow ka[k] = true
          · have hn : Hid ((ka.data.toList.take (k + 1)).all Lx.isLow = true) := Lib.hid (by rw [Lx.all_take_succ _ _ _ hlt, hall.out, hl]; rfl)
            unfold Lx.isLow at hl
            obtain ⟨l1, l2⟩ := of_decide_eq_true hl
            clear hl hall
            go_wp2
            go_round
            case rel => exact ⟨k + 1, by omega, by go_num, hn⟩
            case measure => simp [intOf]; omega
          · have hl' : Lx.isLow ka[k] = false := by simpa using hl
            have hbad := Hb.out (Lx.all_of_not _ ka k hlt hl')
            have Hbad := Lib.hid hbad
            unfold Lx.isLow at hl'
            have hno := of_decide_eq_false hl'
            clear hbad hl hl' hall
            rcases (show (ka[k].toNat : Int) < 97 ∨ (97 ≤ (ka[k].toNat : Int) ∧ 122 < (ka[k].toNat : Int)) by omega) with h1 | ⟨h1, h2⟩
            all_goals
              clear hno
              go_wp2
              all_goals first | (exfalso; omega) | (go_ret3; exact ⟨Lx.ret_t3 (Lx.v_str Hbad.out.1.symm) (Lx.v_str Hbad.out.2.1.symm) (Lx.v_int Hbad.out.2.2.symm), nq, rfl⟩)
        · obtain rfl : k = ka.size := by omega
          have hgood := Hg.out (by rw [← Lx.all_take_size _ ka ka.size (Nat.le_refl _)]; exact hall.out)
          have Hgood := Lib.hid hgood
          clear hgood hall
          go_wp2
          go_ret3
          exact ⟨Lx.ret_t3 (Lx.v_str Hgood.out.1.symm) (Lx.v_str Hgood.out.2.1.symm) (Lx.v_int Hgood.out.2.2.symm), nq, rfl⟩
  · have hi' : Lx.cutIs s 61 = false := by simpa using hi
    have hp : Lx.pairOk s = false := by unfold Lx.pairOk; rw [hi']; rfl
    have hg := Lx.pair_bad hp
    rw [hg.1, hg.2.1, hg.2.2]
    rw [hi'] at HC
    clear hg hp hi hi'
    generalize Lx.cutA s 61 = ka at HC hks
    generalize Lx.cutB s 61 = kb at HC
    go_enter Tryz.func46, Tryz.ntmps46
    go_wp2_with fail
    refine HC.out.mono ?_
    rintro e w1 ⟨rfl, nq, rfl⟩
    go_wp2_with fail
    go_ret3
    exact ⟨rfl, nq, rfl⟩
end Go.Proofs.YtdpjcbijddgpgaaGreatDoor
