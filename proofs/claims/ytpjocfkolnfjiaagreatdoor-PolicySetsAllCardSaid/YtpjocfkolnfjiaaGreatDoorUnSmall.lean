/- The walks of units.Int, Pair, Seed, Hex, Parse and of their references (but for the reference of Parse). -/
import Derived.Test.YtpjocfkolnfjiaaGreatDoorUnRead
import Derived.Test.YtpjocfkolnfjiaaGreatDoorUnPu
import Derived.Test.YtpjocfkolnfjiaaGreatDoorUnFu
import Derived.Test.YtpjocfkolnfjiaaGreatDoorUnHexLaw
import Derived.Test.YtpjocfkolnfjiaaGreatDoorCut
import Derived.Test.YtpjocfkolnfjiaaGreatDoorCutLx
import Derived.Test.YtpjocfkolnfjiaaGreatDoorNumberP
import Derived.Test.YtpjocfkolnfjiaaGreatDoorInt
namespace Go.Proofs.YtpjocfkolnfjiaaGreatDoor
open Go.RowKit

theorem Lx.repeat_one (c : UInt8) : ∀ k, Lib.repeatL [c] k = List.replicate k c
  | 0 => rfl
  | k + 1 => by rw [Lib.repeatL, Lx.repeat_one c k]; rfl
theorem pair_any (s : ByteArray) (w : World) (hs : s.size ≤ 1000000000) :
    Calls Tryz.prog 26 #[.string s] w fun e w' => e = .returned (.tuple #[.string (Lx.pairK s), .string (Lx.pairV s), .int .i64 (Lx.pairE s)]) ∧ Below w.heap.size w w' := by
  have hC := cut_any s 61 w (by unfold maxLen; omega)
  have hks := Lx.cutA_size s 61
  have HC := Lib.hid hC
  clear hC
  by_cases hi : Lx.cutIs s 61 = true
  · by_cases he : (Lx.cutA s 61).size = 0
    · have heb := Lx.streq he
      have hp : Lx.pairOk s = false := by
        unfold Lx.pairOk
        rw [Lx.nil_of_size he]; simp
      have hg := Lx.pair_bad hp
      rw [hg.1, hg.2.1, hg.2.2]
      rw [hi] at HC
      clear hg hp hi
      generalize Lx.cutA s 61 = ka at HC heb hks
      generalize Lx.cutB s 61 = kb at HC
      go_enter Tryz.func26, Tryz.ntmps26
      go_wp2_with fail
      refine HC.out.mono ?_
      rintro e w1 ⟨rfl, nq, rfl⟩
      go_wp2_with fail
      go_ret3
      exact ⟨rfl, below_drewN _ _ _⟩
    · have heb := Lx.strne he
      have HT := Lib.hid (fun W => trim_low (Lx.cutA s 61) (by omega) W)
      rw [hi] at HC
      by_cases hall : (Lx.cutA s 61).data.toList.all Lx.isLow = true
      · have hp : Lx.pairOk s = true := by
          unfold Lx.pairOk
          rw [hi, hall]
          cases h : (Lx.cutA s 61).data.toList with
          | nil => exact absurd (by rw [Lib.size_eq, h]; rfl) he
          | cons a t => rfl
        have hg := Lx.pair_good hp
        rw [hg.1, hg.2.1, hg.2.2]
        have ht : Lib.trimS (Lx.cutA s 61).data.toList Lx.lows = [] := Lx.trimS_all (by rw [Lx.low_all]; exact hall)
        rw [ht] at HT
        clear hg hp hi hall ht
        generalize Lx.cutA s 61 = ka at HC HT heb hks he ⊢
        generalize Lx.cutB s 61 = kb at HC ⊢
        go_enter Tryz.func26, Tryz.ntmps26
        go_wp2_with fail
        refine HC.out.mono ?_
        rintro e w1 ⟨rfl, nq, rfl⟩
        go_wp2_with fail
        refine (HT.out _).mono ?_
        rintro e w2 ⟨rfl, hb⟩
        go_wp2_with fail
        go_ret3
        exact ⟨rfl, (below_drewN _ w nq).trans hb⟩
      · have hall' : (Lx.cutA s 61).data.toList.all Lx.isLow = false := by simpa using hall
        have hp : Lx.pairOk s = false := by
          unfold Lx.pairOk
          rw [hall']; simp
        have hg := Lx.pair_bad hp
        rw [hg.1, hg.2.1, hg.2.2]
        obtain ⟨T, hT⟩ : ∃ T : ByteArray, T = ⟨(Lib.trimS (Lx.cutA s 61).data.toList Lx.lows).toArray⟩ := ⟨_, rfl⟩
        have hTb : T.toList.isEmpty = false := by
          refine Lx.strne fun e => ?_
          have := Lx.nil_of_size e
          rw [hT] at this
          exact Lx.trimS_some (by rw [Lx.low_all]; exact hall') this
        rw [← hT] at HT
        clear hg hp hi hall hall' hT
        generalize Lx.cutA s 61 = ka at HC HT heb hks he
        generalize Lx.cutB s 61 = kb at HC
        go_enter Tryz.func26, Tryz.ntmps26
        go_wp2_with fail
        refine HC.out.mono ?_
        rintro e w1 ⟨rfl, nq, rfl⟩
        go_wp2_with fail
        refine (HT.out _).mono ?_
        rintro e w2 ⟨rfl, hb⟩
        go_wp2_with fail
        go_ret3
        exact ⟨rfl, (below_drewN _ w nq).trans hb⟩
  · have hi' : Lx.cutIs s 61 = false := by simpa using hi
    have hp : Lx.pairOk s = false := by unfold Lx.pairOk; rw [hi']; rfl
    have hg := Lx.pair_bad hp
    rw [hg.1, hg.2.1, hg.2.2]
    rw [hi'] at HC
    clear hg hp hi hi'
    generalize Lx.cutA s 61 = ka at HC hks
    generalize Lx.cutB s 61 = kb at HC
    go_enter Tryz.func26, Tryz.ntmps26
    go_wp2_with fail
    refine HC.out.mono ?_
    rintro e w1 ⟨rfl, nq, rfl⟩
    go_wp2_with fail
    go_ret3
    exact ⟨rfl, below_drewN _ _ _⟩

theorem Lx.readIs_par {l : List UInt8} {c : Int} {ok : Bool} (h : Lx.ReadIs l c ok) : (ok = false ∧ Lx.parV l = 0 ∧ Lx.parE l = 10) ∨ (ok = true ∧ c ≤ 68719476736 ∧ Lx.parV l = c ∧ Lx.parE l = 0) ∨ (ok = true ∧ 68719476736 < c ∧ Lx.parV l = 0 ∧ Lx.parE l = 7) := by
  unfold Lx.ReadIs at h
  cases hd : Lx.durS l with
  | none =>
    rw [hd] at h
    obtain ⟨e1, e2⟩ := Lx.none_par hd
    exact .inl ⟨h.2, e1, e2⟩
  | some v =>
    rw [hd] at h
    obtain ⟨⟨h0, h1, h2⟩, hok⟩ := h
    by_cases hv : v ≤ 68719476736
    · obtain ⟨e1, e2⟩ := Lx.in_par hd hv
      have hc := h1 hv
      exact .inr (.inl ⟨hok, by omega, by rw [e1, hc], e2⟩)
    · obtain ⟨e1, e2⟩ := Lx.over_par hd (by omega)
      exact .inr (.inr ⟨hok, h2 (by omega), e1, e2⟩)
theorem parse_any (s : ByteArray) (hs : s.size ≤ 1000000000) (w : World) (env : UEnv w) :
    Calls Tryz.prog 77 #[.string s] w fun e w' => e = .returned (.tuple #[.int .i64 (Lx.parV s.data.toList), .int .i64 (Lx.parE s.data.toList)]) ∧ Below w.heap.size w w' := by
  have HR := Lib.hid (read_any s w hs env)
  go_enter Tryz.func77, Tryz.ntmps77
  go_wp2_with fail
  refine HR.out.mono ?_
  rintro e w1 ⟨c, ok, rfl, hr, hb⟩
  rcases Lx.readIs_par hr with ⟨rfl, p1, p2⟩ | ⟨rfl, hc, p1, p2⟩ | ⟨rfl, hc, p1, p2⟩
  all_goals
    have P1 := Lib.hid p1
    have P2 := Lib.hid p2
    clear p1 p2 hr
    go_wp2_with fail
    go_ret2
    exact ⟨Lx.ret_t2 (Lx.v_int P1.out.symm) (Lx.v_int P2.out.symm), hb⟩
end Go.Proofs.YtpjocfkolnfjiaaGreatDoor
