/- The walks of same and valid. -/
import Derived.Test.YtnnkamfpcodnnaaDoorOpA
namespace Go.Proofs.YtnnkamfpcodnnaaDoor
open Go.RowKit

/-- Two lists of operations are equal. -/
noncomputable def Lx.sameB (L L' : List Lx.OpV) : Bool := @decide (L = L') (Classical.propDecidable _)
theorem Lx.sameB_yes {L L' : List Lx.OpV} (h : L = L') : Lx.sameB L L' = true := @decide_eq_true _ (Classical.propDecidable _) h
theorem Lx.sameB_no {L L' : List Lx.OpV} (h : ¬ L = L') : Lx.sameB L L' = false := @decide_eq_false _ (Classical.propDecidable _) h
theorem Lx.op_eq {o o' : Lx.OpV} (h : (o.k == o'.k && (o.d == o'.d && (o.t == o'.t && (o.r == o'.r && (o.ok == o'.ok && o.job.toList == o'.job.toList))))) = true) : o = o' := by
  obtain ⟨k, d, t, r, ok, job⟩ := o
  obtain ⟨k', d', t', r', ok', job'⟩ := o'
  simp only [Bool.and_eq_true, beq_iff_eq] at h
  obtain ⟨rfl, rfl, rfl, rfl, rfl, h⟩ := h
  rw [Lib.toList_data, Lib.toList_data] at h
  rw [show job = job' from ByteArray.ext (Array.toList_inj.1 h)]
def SameIs (b : Bool) (w : World) (e : Ending) (w' : World) : Prop := e = .returned (.bool b) ∧ Below w.heap.size w w'
set_option maxRecDepth 100000 in
set_option maxHeartbeats 1600000 in
theorem same_any (ad : Option Addr) (n cap : Nat) (L : List Lx.OpV) (ad' : Option Addr) (n' cap' : Nat) (L' : List Lx.OpV) (w : World) (h : Lx.IsOps w ad n L) (h' : Lx.IsOps w ad' n' L') (hn : n ≤ 1000000000) (hn' : n' ≤ 1000000000) :
    Calls Tryd.prog 21 #[.slice ad n cap, .slice ad' n' cap'] w (SameIs (Lx.sameB L L') w) := by
  by_cases hne : n = n'
  · subst hne
    have H := Lib.hid h
    have H' := Lib.hid h'
    have hnb : ((n : Int) != (n : Int)) = false := by simp
    clear h h' hn'
    go_enter Tryd.func21, Tryd.ntmps21
    go_wp2_with fail
    go_loopw [5] (fun i wr => ∃ k nq : Nat, k ≤ n ∧ i = .int .i64 k ∧ L.take k = L'.take k ∧ wr = w.drewN nq) (fun i _ => n - (intOf i).toNat)
    case atStart => exact ⟨0, 0, Nat.zero_le _, rfl, rfl, rfl⟩
    case round =>
      obtain ⟨k, nq, hk, rfl, hall, rfl⟩ := hrel
      have Hall := Lib.hid hall
      clear hall
      by_cases hlt : k < n
      · obtain ⟨o, ho⟩ : ∃ o, L[k]? = some o := ⟨_, List.getElem?_eq_getElem (by rw [H.out.1]; exact hlt)⟩
        obtain ⟨o', ho'⟩ : ∃ o, L'[k]? = some o := ⟨_, List.getElem?_eq_getElem (by rw [H'.out.1]; exact hlt)⟩
        obtain ⟨g, off, rfl, lt, hc⟩ := H.out.2 (by omega)
        obtain ⟨g', off', rfl, lt', hc'⟩ := H'.out.2 (by omega)
        have HO := Lib.hid ho
        have HO' := Lib.hid ho'
        obtain ⟨b, hb⟩ : ∃ b, (o.k == o'.k && (o.d == o'.d && (o.t == o'.t && (o.r == o'.r && (o.ok == o'.ok && o.job.toList == o'.job.toList))))) = b := ⟨_, rfl⟩
        have HB := Lib.hid hb
        have c0 : w.cell? ⟨g, off + k * 6, none⟩ = some (.int .i64 o.k) := hc k o ho 0 _ rfl
        have c1 := hc k o ho 1 _ rfl
        have c2 := hc k o ho 2 _ rfl
        have c3 := hc k o ho 3 _ rfl
        have c4 := hc k o ho 4 _ rfl
        have c5 := hc k o ho 5 _ rfl
        have d0 : w.cell? ⟨g', off' + k * 6, none⟩ = some (.int .i64 o'.k) := hc' k o' ho' 0 _ rfl
        have d1 := hc' k o' ho' 1 _ rfl
        have d2 := hc' k o' ho' 2 _ rfl
        have d3 := hc' k o' ho' 3 _ rfl
        have d4 := hc' k o' ho' 4 _ rfl
        have d5 := hc' k o' ho' 5 _ rfl
        have hki : (k : Int) < (n : Int) := by omega
        have hk0 : (0 : Int) ≤ (k : Int) := by omega
        have heq : ∀ W, (Op.equalIn 10000 23 (.agg #[.int .i64 o.k, .int .i64 o.d, .int .i64 o.t, .int .i64 o.r, .bool o.ok, .string o.job]) (.agg #[.int .i64 o'.k, .int .i64 o'.d, .int .i64 o'.t, .int .i64 o'.r, .bool o'.ok, .string o'.job])).run Tryd.prog W = .ok b W := fun W => (eqOp _ _ _ _ _ _ _ _ _ _ _ _ W).trans (by rw [hb])
        clear hc hc' ho ho' hb hk
        cases b
        · have hd : Lx.sameB L L' = false := by
            refine Lx.sameB_no ?_
            intro e
            have h1 := HO.out
            rw [e, HO'.out] at h1
            obtain rfl := Option.some.inj h1
            have := HB.out
            simp at this
          have HD := Lib.hid hd
          clear hd
          go_wp2_with fail
          go_quiet (fail)
          go_wp2_with fail
          go_ret
          refine ⟨Lx.ret_bool HD.out.symm, ?_⟩
          simp only [World.drewN_drewN]
          exact below_drewN _ _ _
        · have he := Lx.op_eq HB.out
          have htk : L.take (k + 1) = L'.take (k + 1) := by
            obtain ⟨hk1, hv1⟩ := List.getElem?_eq_some_iff.1 HO.out
            obtain ⟨hk2, hv2⟩ := List.getElem?_eq_some_iff.1 HO'.out
            rw [List.take_succ_eq_append_getElem hk1, List.take_succ_eq_append_getElem hk2, hv1, hv2, Hall.out, he]
          have HT := Lib.hid htk
          clear he htk
          go_wp2_with fail
          go_quiet (fail)
          go_wp2_with fail
          go_roundw
          case rel => exact ⟨k + 1, _, by omega, by go_num, HT.out, rfl⟩
          case measure => simp [intOf]; omega
      · obtain rfl : k = n := by omega
        have hd : Lx.sameB L L' = true := by
          refine Lx.sameB_yes ?_
          have := Hall.out
          rw [List.take_of_length_le (by rw [H.out.1]; exact Nat.le_refl _), List.take_of_length_le (by rw [H'.out.1]; exact Nat.le_refl _)] at this
          exact this
        have HD := Lib.hid hd
        clear hd
        go_wp2_with fail
        go_ret
        exact ⟨Lx.ret_bool HD.out.symm, below_drewN _ _ _⟩
  · have hnb : ((n : Int) != (n' : Int)) = true := by rw [bne_iff_ne]; omega
    have hd : Lx.sameB L L' = false := by
      refine Lx.sameB_no ?_
      intro e
      exact hne (by rw [← h.1, ← h'.1, e])
    have HD := Lib.hid hd
    clear hd h h' hne
    go_enter Tryd.func21, Tryd.ntmps21
    go_wp2_with fail
    go_ret
    exact ⟨Lx.ret_bool HD.out.symm, Below.refl _ _⟩
end Go.Proofs.YtnnkamfpcodnnaaDoor
