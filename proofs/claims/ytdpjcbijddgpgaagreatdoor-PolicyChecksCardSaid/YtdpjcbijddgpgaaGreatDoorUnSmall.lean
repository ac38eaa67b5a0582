/- The walks of units.Int, Pair, Seed, Hex, Parse and of their references (but for the reference of Parse). -/
import Derived.Test.YtdpjcbijddgpgaaGreatDoorUnRead
import Derived.Test.YtdpjcbijddgpgaaGreatDoorUnPu
import Derived.Test.YtdpjcbijddgpgaaGreatDoorUnFu
import Derived.Test.YtdpjcbijddgpgaaGreatDoorUnHexLaw
import Derived.Test.YtdpjcbijddgpgaaGreatDoorCut
import Derived.Test.YtdpjcbijddgpgaaGreatDoorCutLx
import Derived.Test.YtdpjcbijddgpgaaGreatDoorNumberP
import Derived.Test.YtdpjcbijddgpgaaGreatDoorInt
namespace Go.Proofs.YtdpjcbijddgpgaaGreatDoor
open Go.RowKit

theorem ref_int_any (s : ByteArray) (lo hi : Int) (w : World) (hs : s.size ≤ 1000000000) :
    Calls Tryz.prog 63 #[.string s, .int .i64 lo, .int .i64 hi] w fun e w' => e = .returned (.tuple #[.int .i64 (Lx.intV s.data.toList lo hi), .int .i64 (Lx.intE s.data.toList lo hi)]) ∧ w = w' := by
  have hN := ref_number_any s w hs
  rcases Lx.num_split s.data.toList with h | ⟨h1, h⟩ | ⟨h1, h⟩
  · have hb : lo ≤ Lx.numRes s.data.toList ∧ Lx.numRes s.data.toList ≤ hi ∨ Lx.numRes s.data.toList < lo ∨ (lo ≤ Lx.numRes s.data.toList ∧ hi < Lx.numRes s.data.toList) := by omega
    rw [h] at hN
    rcases hb with hin | hlo | ⟨hlo, hhi⟩
    · have hg := Lx.int_good (lo := lo) (hi := hi) ⟨h, hin.1, hin.2⟩
      obtain ⟨i1, i2⟩ := hin
      rw [hg.1, hg.2]
      clear hg h
      generalize Lx.numRes s.data.toList = n at hN i1 i2 ⊢
      go_enter Tryz.func63, Tryz.ntmps63
      go_wp2_with fail
      refine hN.mono ?_
      rintro e w1 ⟨rfl, rfl⟩
      go_wp2_with fail
      all_goals first | (exfalso; omega) | (go_ret2; exact ⟨rfl, rfl⟩)
    · have hg := Lx.int_bad (l := s.data.toList) (lo := lo) (hi := hi) (by omega) (by omega)
      rw [hg.1, hg.2]
      clear hg h
      generalize Lx.numRes s.data.toList = n at hN hlo
      go_enter Tryz.func63, Tryz.ntmps63
      go_wp2_with fail
      refine hN.mono ?_
      rintro e w1 ⟨rfl, rfl⟩
      go_wp2_with fail
      all_goals first | (exfalso; omega) | (go_ret2; exact ⟨rfl, rfl⟩)
    · have hg := Lx.int_bad (l := s.data.toList) (lo := lo) (hi := hi) (by omega) (by omega)
      rw [hg.1, hg.2]
      clear hg h
      generalize Lx.numRes s.data.toList = n at hN hlo hhi
      go_enter Tryz.func63, Tryz.ntmps63
      go_wp2_with fail
      refine hN.mono ?_
      rintro e w1 ⟨rfl, rfl⟩
      go_wp2_with fail
      all_goals first | (exfalso; omega) | (go_ret2; exact ⟨rfl, rfl⟩)
  · have hg := Lx.int_form (lo := lo) (hi := hi) h
    rw [hg.1, hg.2]
    rw [h, h1] at hN
    clear hg h h1
    go_enter Tryz.func63, Tryz.ntmps63
    go_wp2_with fail
    refine hN.mono ?_
    rintro e w1 ⟨rfl, rfl⟩
    go_wp2_with fail
    go_ret2
    exact ⟨rfl, rfl⟩
  · have hg := Lx.int_bad (l := s.data.toList) (lo := lo) (hi := hi) (by omega) (by omega)
    rw [hg.1, hg.2]
    rw [h, h1] at hN
    clear hg h h1
    go_enter Tryz.func63, Tryz.ntmps63
    go_wp2_with fail
    refine hN.mono ?_
    rintro e w1 ⟨rfl, rfl⟩
    go_wp2_with fail
    go_ret2
    exact ⟨rfl, rfl⟩

theorem Lx.repeat_one (c : UInt8) : ∀ k, Lib.repeatL [c] k = List.replicate k c
  | 0 => rfl
  | k + 1 => by rw [Lib.repeatL, Lx.repeat_one c k]; rfl
theorem pair_any (s : ByteArray) (w : World) (hs : s.size ≤ 1000000000) :
    Calls Tryz.prog 44 #[.string s] w fun e w' => e = .returned (.tuple #[.string (Lx.pairK s), .string (Lx.pairV s), .int .i64 (Lx.pairE s)]) ∧ Below w.heap.size w w' := by
  have hC := cut_any s 61 w (by unfold maxLen; omega)
  have hks := Lx.cutA_size s 61
  have HC := Lib.hid hC
  clear hC
  by_cases hi : Lx.cutIs s 61 = true
  · by_cases he : (Lx.cutA s 61).size = 0
    · have heb := Lx.streq he
      have hp : Lx.pairOk s = false := by
        unfold Lx.pairOk
        rw [Lx.nil_of_size he]; simp
      have hg := Lx.pair_bad hp
      rw [hg.1, hg.2.1, hg.2.2]
      rw [hi] at HC
      clear hg hp hi
      generalize Lx.cutA s 61 = ka at HC heb hks
      generalize Lx.cutB s 61 = kb at HC
      go_enter Tryz.func44, Tryz.ntmps44
      go_wp2_with fail
      refine HC.out.mono ?_
      rintro e w1 ⟨rfl, nq, rfl⟩
      go_wp2_with fail
      go_ret3
      exact ⟨rfl, below_drewN _ _ _⟩
    · have heb := Lx.strne he
      have HT := Lib.hid (fun W => trim_low (Lx.cutA s 61) (by omega) W)
      rw [hi] at HC
      by_cases hall : (Lx.cutA s 61).data.toList.all Lx.isLow = true
      · have hp : Lx.pairOk s = true := by
          unfold Lx.pairOk
          rw [hi, hall]
          cases h : (Lx.cutA s 61).data.toList with
          | nil => exact absurd (by rw [Lib.size_eq, h]; rfl) he
          | cons a t => rfl
        have hg := Lx.pair_good hp
        rw [hg.1, hg.2.1, hg.2.2]
        have ht : Lib.trimS (Lx.cutA s 61).data.toList Lx.lows = [] := Lx.trimS_all (by rw [Lx.low_all]; exact hall)
        rw [ht] at HT
        clear hg hp hi hall ht
        generalize Lx.cutA s 61 = ka at HC HT heb hks he ⊢
        generalize Lx.cutB s 61 = kb at HC ⊢
        go_enter Tryz.func44, Tryz.ntmps44
        go_wp2_with fail
        refine HC.out.mono ?_
        rintro e w1 ⟨rfl, nq, rfl⟩
        go_wp2_with fail
        refine (HT.out _).mono ?_
        rintro e w2 ⟨rfl, hb⟩
        go_wp2_with fail
        go_ret3
        exact ⟨rfl, (below_drewN _ w nq).trans hb⟩
      · have hall' : (Lx.cutA s 61).data.toList.all Lx.isLow = false := by simpa using hall
        have hp : Lx.pairOk s = false := by
          unfold Lx.pairOk
          rw [hall']; simp
        have hg := Lx.pair_bad hp
        rw [hg.1, hg.2.1, hg.2.2]
        obtain ⟨T, hT⟩ : ∃ T : ByteArray, T = ⟨(Lib.trimS (Lx.cutA s 61).data.toList Lx.lows).toArray⟩ := ⟨_, rfl⟩
        have hTb : T.toList.isEmpty = false := by
          refine Lx.strne fun e => ?_
          have := Lx.nil_of_size e
          rw [hT] at this
          exact Lx.trimS_some (by rw [Lx.low_all]; exact hall') this
        rw [← hT] at HT
        clear hg hp hi hall hall' hT
        generalize Lx.cutA s 61 = ka at HC HT heb hks he
        generalize Lx.cutB s 61 = kb at HC
        go_enter Tryz.func44, Tryz.ntmps44
        go_wp2_with fail
        refine HC.out.mono ?_
        rintro e w1 ⟨rfl, nq, rfl⟩
        go_wp2_with fail
        refine (HT.out _).mono ?_
        rintro e w2 ⟨rfl, hb⟩
        go_wp2_with fail
        go_ret3
        exact ⟨rfl, (below_drewN _ w nq).trans hb⟩
  · have hi' : Lx.cutIs s 61 = false := by simpa using hi
    have hp : Lx.pairOk s = false := by unfold Lx.pairOk; rw [hi']; rfl
    have hg := Lx.pair_bad hp
    rw [hg.1, hg.2.1, hg.2.2]
    rw [hi'] at HC
    clear hg hp hi hi'
    generalize Lx.cutA s 61 = ka at HC hks
    generalize Lx.cutB s 61 = kb at HC
    go_enter Tryz.func44, Tryz.ntmps44
    go_wp2_with fail
    refine HC.out.mono ?_
    rintro e w1 ⟨rfl, nq, rfl⟩
    go_wp2_with fail
    go_ret3
    exact ⟨rfl, below_drewN _ _ _⟩

theorem Lx.readIs_par {l : List UInt8} {c : Int} {ok : Bool} (h : Lx.ReadIs l c ok) : (ok = false ∧ Lx.parV l = 0 ∧ Lx.parE l = 10) ∨ (ok = true ∧ c ≤ 68719476736 ∧ Lx.parV l = c ∧ Lx.parE l = 0) ∨ (ok = true ∧ 68719476736 < c ∧ Lx.parV l = 0 ∧ Lx.parE l = 7) := by
  unfold Lx.ReadIs at h
  cases hd : Lx.durS l with
  | none =>
    rw [hd] at h
    obtain ⟨e1, e2⟩ := Lx.none_par hd
    exact .inl ⟨h.2, e1, e2⟩
  | some v =>
    rw [hd] at h
    obtain ⟨⟨h0, h1, h2⟩, hok⟩ := h
    by_cases hv : v ≤ 68719476736
    · obtain ⟨e1, e2⟩ := Lx.in_par hd hv
      have hc := h1 hv
      exact .inr (.inl ⟨hok, by omega, by rw [e1, hc], e2⟩)
    · obtain ⟨e1, e2⟩ := Lx.over_par hd (by omega)
      exact .inr (.inr ⟨hok, h2 (by omega), e1, e2⟩)
theorem parse_any (s : ByteArray) (hs : s.size ≤ 1000000000) (w : World) (env : UEnv w) :
    Calls Tryz.prog 128 #[.string s] w fun e w' => e = .returned (.tuple #[.int .i64 (Lx.parV s.data.toList), .int .i64 (Lx.parE s.data.toList)]) ∧ Below w.heap.size w w' := by
  have HR := Lib.hid (read_any s w hs env)
  go_enter Tryz.func128, Tryz.ntmps128
  go_wp2_with fail
  refine HR.out.mono ?_
  rintro e w1 ⟨c, ok, rfl, hr, hb⟩
  rcases Lx.readIs_par hr with ⟨rfl, p1, p2⟩ | ⟨rfl, hc, p1, p2⟩ | ⟨rfl, hc, p1, p2⟩
  all_goals
    have P1 := Lib.hid p1
    have P2 := Lib.hid p2
    clear p1 p2 hr
    go_wp2_with fail
    go_ret2
    exact ⟨Lx.ret_t2 (Lx.v_int P1.out.symm) (Lx.v_int P2.out.symm), hb⟩
end Go.Proofs.YtdpjcbijddgpgaaGreatDoor
