/- The walk of the reference of PrintLimit. -/
import Derived.Test.YtfcodadmfgpgcaaDoorUnLim2
namespace Go.Proofs.YtfcodadmfgpgcaaDoor
open Go.RowKit

set_option maxRecDepth 100000 in
set_option maxHeartbeats 1600000 in
theorem ref_valid_any (t u : Int) (w : World) :
    Calls Tryd.prog 27 #[.agg #[.int .i64 t, .int .i64 u]] w fun e w' => e = .returned (.bool (Lx.limOk t u)) ∧ Below w.heap.size w w' := by
  have hba : Below w.heap.size w (w.alloc (.cells #[.int .i64 t, .int .i64 u] 33)) := (Below.refl _ _).alloc (Nat.le_refl _) _
  have hk : Lx.limOk t u = decide (0 ≤ t ∧ t ≤ 68719476736 ∧ 0 ≤ u ∧ u ≤ 68719476736 ∧ (0 < t ∨ u = 0)) := rfl
  rcases (show t < 0 ∨ (0 ≤ t ∧ 68719476736 < t) ∨ (0 ≤ t ∧ t ≤ 68719476736 ∧ u < 0) ∨ (0 ≤ t ∧ t ≤ 68719476736 ∧ 0 ≤ u ∧ 68719476736 < u) ∨ (0 < t ∧ t ≤ 68719476736 ∧ 0 ≤ u ∧ u ≤ 68719476736) ∨ (t = 0 ∧ u = 0) ∨ (t = 0 ∧ 0 < u ∧ u ≤ 68719476736) by omega) with h | ⟨h1, h2⟩ | ⟨h1, h2, h3⟩ | ⟨h1, h2, h3, h4⟩ | ⟨h1, h2, h3, h4⟩ | ⟨h1, h2⟩ | ⟨h1, h2, h3⟩
  · have hv : Lx.limOk t u = false := by rw [hk, decide_eq_false_iff_not]; omega
    rw [hv]
    clear hk hv
    go_enter Tryd.func27, Tryd.ntmps27
    go_wp2
    go_ret
    exact ⟨rfl, hba⟩
  · have hv : Lx.limOk t u = false := by rw [hk, decide_eq_false_iff_not]; omega
    rw [hv]
    clear hk hv
    go_enter Tryd.func27, Tryd.ntmps27
    go_wp2
    all_goals first | (exfalso; omega) | (go_ret; exact ⟨rfl, hba⟩)
  · have hv : Lx.limOk t u = false := by rw [hk, decide_eq_false_iff_not]; omega
    rw [hv]
    clear hk hv
    go_enter Tryd.func27, Tryd.ntmps27
    go_wp2
    all_goals first | (exfalso; omega) | (go_ret; exact ⟨rfl, hba⟩)
  · have hv : Lx.limOk t u = false := by rw [hk, decide_eq_false_iff_not]; omega
    rw [hv]
    clear hk hv
    go_enter Tryd.func27, Tryd.ntmps27
    go_wp2
    all_goals first | (exfalso; omega) | (go_ret; exact ⟨rfl, hba⟩)
  · have hv : Lx.limOk t u = true := by rw [hk, decide_eq_true_iff]; omega
    have h5 : 0 ≤ t := by omega
    rw [hv]
    clear hk hv
    go_enter Tryd.func27, Tryd.ntmps27
    go_wp2
    all_goals first | (exfalso; omega) | (go_ret; exact ⟨rfl, hba⟩)
  · subst h1
    subst h2
    have hv : Lx.limOk 0 0 = true := by decide
    rw [hv]
    clear hk hv
    go_enter Tryd.func27, Tryd.ntmps27
    go_wp2
    all_goals first | (exfalso; omega) | (go_ret; exact ⟨rfl, hba⟩)
  · have hv : Lx.limOk t u = false := by rw [hk, decide_eq_false_iff_not]; omega
    subst h1
    have h4 : 0 ≤ u := by omega
    have h5 : (u == 0) = false := by rw [beq_eq_false_iff_ne]; omega
    rw [hv]
    clear hk hv
    go_enter Tryd.func27, Tryd.ntmps27
    go_wp2
    all_goals first | (exfalso; omega) | (go_ret; exact ⟨rfl, hba⟩)

set_option maxRecDepth 100000 in
set_option maxHeartbeats 1600000 in
theorem ref_plimit_any (t u : Int) (w : World) :
    Calls Tryd.prog 12 #[.agg #[.int .i64 t, .int .i64 u]] w fun e w' => e = .returned (.tuple #[.string ⟨(Lx.plimS t u).toArray⟩, .int .i64 (Lx.plimE t u)]) ∧ Below w.heap.size w w' := by
  have hba : Below w.heap.size w (w.alloc (.cells #[.int .i64 t, .int .i64 u] 33)) := (Below.refl _ _).alloc (Nat.le_refl _) _
  have hlt0 : w.heap.size < (w.alloc (.cells #[.int .i64 t, .int .i64 u] 33)).heap.size := by simp
  have HV := Lib.hid (fun W => ref_valid_any t u W)
  by_cases hk : Lx.limOk t u = true
  · by_cases h0 : t = 0
    · have hu : u = 0 := by unfold Lx.limOk at hk; rw [decide_eq_true_iff] at hk; omega
      subst h0
      subst hu
      rw [Lx.plim_zero.1, Lx.plim_zero.2]
      rw [hk] at HV
      clear hk
      go_enter Tryd.func12, Tryd.ntmps12
      go_wp2_with fail
      refine (HV.out _).mono ?_
      rintro e w1 ⟨rfl, hb1⟩
      have hb1' := hba.trans (hb1.mono hba.size)
      have c0 : w1.cell? ⟨w.heap.size, 0, none⟩ = some (.int .i64 0) := (hb1.cell (p := ⟨w.heap.size, 0, none⟩) hlt0).trans (by simp)
      go_wp2_with fail
      go_ret2
      exact ⟨rfl, hb1'⟩
    · have hr : 0 < t ∧ t ≤ 68719476736 ∧ 0 ≤ u ∧ u ≤ 68719476736 := by unfold Lx.limOk at hk; rw [decide_eq_true_iff] at hk; omega
      have hts := Lx.prn_size t.toNat (by omega)
      have hus := Lx.prn_size u.toNat (by omega)
      have h1 := fun W => ref_print_any t W
      have h2 := fun W => ref_print_any u W
      rw [(Lx.prn_in (d := t) (by omega)).1, (Lx.prn_in (d := t) (by omega)).2] at h1
      rw [(Lx.prn_in (d := u) (by omega)).1, (Lx.prn_in (d := u) (by omega)).2] at h2
      obtain ⟨TV, hTV⟩ : ∃ TV : ByteArray, TV = ⟨(Lx.prnS t.toNat).toArray⟩ := ⟨_, rfl⟩
      obtain ⟨UV, hUV⟩ : ∃ UV : ByteArray, UV = ⟨(Lx.prnS u.toNat).toArray⟩ := ⟨_, rfl⟩
      rw [← hTV] at h1
      rw [← hUV] at h2
      have HP1 := Lib.hid h1
      have HP2 := Lib.hid h2
      have hTl : TV.data.toList = Lx.prnS t.toNat := by rw [hTV]
      have hUl : UV.data.toList = Lx.prnS u.toNat := by rw [hUV]
      obtain ⟨e1, e2⟩ := Lx.plim_eq TV UV hk h0 hTl hUl
      have hTs : TV.size ≤ 48 := by rw [Lib.size_eq, hTl]; exact hts
      have hUs : UV.size ≤ 48 := by rw [Lib.size_eq, hUl]; exact hus
      have hfin : (⟨#[49, 47]⟩ ++ TV ++ ⟨#[43]⟩ ++ UV : ByteArray) = ⟨(Lx.plimS t u).toArray⟩ := by rw [e1, Lib.mk_data]
      have Hfin := Lib.hid hfin
      have h0b : (t == 0) = false := by rw [beq_eq_false_iff_ne]; exact h0
      have s1 : (⟨#[49, 47]⟩ : ByteArray).size = 2 := rfl
      have s2 : (⟨#[43]⟩ : ByteArray).size = 1 := rfl
      rw [hk] at HV
      rw [e2]
      clear e1 e2 hk h0 hr hTV hUV hTl hUl hfin hts hus h1 h2
      go_enter Tryd.func12, Tryd.ntmps12
      go_wp2_with fail
      refine (HV.out _).mono ?_
      rintro e w1 ⟨rfl, hb1⟩
      have hb1' := hba.trans (hb1.mono hba.size)
      have c0 : w1.cell? ⟨w.heap.size, 0, none⟩ = some (.int .i64 t) := (hb1.cell (p := ⟨w.heap.size, 0, none⟩) hlt0).trans (by simp)
      have c1 : w1.cell? ⟨w.heap.size, 1, none⟩ = some (.int .i64 u) := (hb1.cell (p := ⟨w.heap.size, 1, none⟩) hlt0).trans (by simp)
      have hl1 := Nat.lt_of_lt_of_le hlt0 hb1.size
      go_wp2_with fail
      refine (HP1.out _).mono ?_
      rintro e w2 ⟨rfl, hb2⟩
      have hb2' := hb1'.trans (hb2.mono hb1'.size)
      have d1 := (hb2.cell (p := ⟨w.heap.size, 1, none⟩) hl1).trans c1
      clear c0 c1
      go_wp2_with fail
      refine (HP2.out _).mono ?_
      rintro e w3 ⟨rfl, hb3⟩
      go_wp2_with fail
      go_ret2
      exact ⟨Lx.ret_t2 (Lx.v_str Hfin.out) rfl, hb2'.trans (hb3.mono hb2'.size)⟩
  · have hk' : Lx.limOk t u = false := by simpa using hk
    obtain ⟨e1, e2⟩ := Lx.plim_bad hk'
    rw [e1, e2]
    rw [hk'] at HV
    clear hk hk' e1 e2
    go_enter Tryd.func12, Tryd.ntmps12
    go_wp2_with fail
    refine (HV.out _).mono ?_
    rintro e w1 ⟨rfl, hb1⟩
    go_wp2_with fail
    go_ret2
    exact ⟨rfl, hba.trans (hb1.mono hba.size)⟩
end Go.Proofs.YtfcodadmfgpgcaaDoor
