/- The walks of units.PrintLimit and of the references of Limit and PrintLimit. -/
import Derived.Test.YtdpjcbijddgpgaaGreatDoorUnLim
import Derived.Test.YtdpjcbijddgpgaaGreatDoorUnRef2
namespace Go.Proofs.YtdpjcbijddgpgaaGreatDoor
open Go.RowKit

theorem Lx.limOk_split (t u : Int) : (¬ (0 ≤ t ∧ t ≤ 68719476736) ∧ Lx.limOk t u = false) ∨ ((0 ≤ t ∧ t ≤ 68719476736) ∧ ¬ (0 ≤ u ∧ u ≤ 68719476736) ∧ Lx.limOk t u = false) ∨ ((0 ≤ t ∧ t ≤ 68719476736) ∧ (0 ≤ u ∧ u ≤ 68719476736) ∧ t = 0 ∧ 0 < u ∧ Lx.limOk t u = false) ∨ (t = 0 ∧ u = 0) ∨ ((0 < t ∧ t ≤ 68719476736) ∧ (0 ≤ u ∧ u ≤ 68719476736) ∧ Lx.limOk t u = true) := by
  unfold Lx.limOk
  rw [decide_eq_false_iff_not, decide_eq_true_iff]
  omega

set_option maxRecDepth 100000 in
set_option maxHeartbeats 1600000 in
theorem plimit_any (t u : Int) (w : World) (env : UEnv w) :
    Calls Tryz.prog 112 #[.agg #[.int .i64 t, .int .i64 u]] w fun e w' => e = .returned (.tuple #[.string ⟨(Lx.plimS t u).toArray⟩, .int .i64 (Lx.plimE t u)]) ∧ Below w.heap.size w w' := by
  have hba : Below w.heap.size w (w.alloc (.cells #[.int .i64 t, .int .i64 u] 23)) := (Below.refl _ _).alloc (Nat.le_refl _) _
  have env0 := env.below hba
  have hlt0 : w.heap.size < (w.alloc (.cells #[.int .i64 t, .int .i64 u] 23)).heap.size := by simp
  have HP1 := Lib.hid (print_any t _ env0)
  have HP2 := Lib.hid (fun W (E : UEnv W) => print_any u W E)
  rcases Lx.limOk_split t u with ⟨ht, hk⟩ | ⟨ht, hu, hk⟩ | ⟨ht, hu, h0, h1, hk⟩ | ⟨h0, h1⟩ | ⟨ht, hu, hk⟩
  · obtain ⟨e1, e2⟩ := Lx.plim_bad hk
    rw [e1, e2]
    rw [(Lx.prn_out ht).1, (Lx.prn_out ht).2] at HP1
    obtain ⟨UV, hUV⟩ : ∃ UV : ByteArray, UV = ⟨(Lx.prnV u).toArray⟩ := ⟨_, rfl⟩
    rw [← hUV] at HP2
    generalize Lx.prnE u = UE at HP2
    clear e1 e2 hk ht hUV
    go_enter Tryz.func112, Tryz.ntmps112
    go_wp2_with fail
    refine HP1.out.mono ?_
    rintro e w1 ⟨rfl, hb1⟩
    have hb1' := hba.trans (hb1.mono hba.size)
    have c1 : w1.cell? ⟨w.heap.size, 1, none⟩ = some (.int .i64 u) := (hb1.cell (p := ⟨w.heap.size, 1, none⟩) hlt0).trans (by simp)
    go_wp2_with fail
    refine (HP2.out _ (env.below hb1')).mono ?_
    rintro e w2 ⟨rfl, hb2⟩
    go_wp2_with fail
    go_ret2
    exact ⟨rfl, hb1'.trans (hb2.mono hb1'.size)⟩
  · obtain ⟨e1, e2⟩ := Lx.plim_bad hk
    rw [e1, e2]
    rw [(Lx.prn_in ht).1, (Lx.prn_in ht).2] at HP1
    rw [(Lx.prn_out hu).1, (Lx.prn_out hu).2] at HP2
    obtain ⟨TV, hTV⟩ : ∃ TV : ByteArray, TV = ⟨(Lx.prnS t.toNat).toArray⟩ := ⟨_, rfl⟩
    rw [← hTV] at HP1
    clear e1 e2 hk ht hu hTV
    go_enter Tryz.func112, Tryz.ntmps112
    go_wp2_with fail
    refine HP1.out.mono ?_
    rintro e w1 ⟨rfl, hb1⟩
    have hb1' := hba.trans (hb1.mono hba.size)
    have c1 : w1.cell? ⟨w.heap.size, 1, none⟩ = some (.int .i64 u) := (hb1.cell (p := ⟨w.heap.size, 1, none⟩) hlt0).trans (by simp)
    go_wp2_with fail
    refine (HP2.out _ (env.below hb1')).mono ?_
    rintro e w2 ⟨rfl, hb2⟩
    go_wp2_with fail
    go_ret2
    exact ⟨rfl, hb1'.trans (hb2.mono hb1'.size)⟩
  · obtain ⟨e1, e2⟩ := Lx.plim_bad hk
    rw [e1, e2]
    rw [(Lx.prn_in ht).1, (Lx.prn_in ht).2] at HP1
    rw [(Lx.prn_in hu).1, (Lx.prn_in hu).2] at HP2
    obtain ⟨TV, hTV⟩ : ∃ TV : ByteArray, TV = ⟨(Lx.prnS t.toNat).toArray⟩ := ⟨_, rfl⟩
    rw [← hTV] at HP1
    obtain ⟨UV, hUV⟩ : ∃ UV : ByteArray, UV = ⟨(Lx.prnS u.toNat).toArray⟩ := ⟨_, rfl⟩
    rw [← hUV] at HP2
    clear e1 e2 hk ht hu hTV hUV
    subst h0
    go_enter Tryz.func112, Tryz.ntmps112
    go_wp2_with fail
    refine HP1.out.mono ?_
    rintro e w1 ⟨rfl, hb1⟩
    have hb1' := hba.trans (hb1.mono hba.size)
    have c1 : w1.cell? ⟨w.heap.size, 1, none⟩ = some (.int .i64 u) := (hb1.cell (p := ⟨w.heap.size, 1, none⟩) hlt0).trans (by simp)
    have c0 : w1.cell? ⟨w.heap.size, 0, none⟩ = some (.int .i64 0) := (hb1.cell (p := ⟨w.heap.size, 0, none⟩) hlt0).trans (by simp)
    have hl1 := Nat.lt_of_lt_of_le hlt0 hb1.size
    go_wp2_with fail
    refine (HP2.out _ (env.below hb1')).mono ?_
    rintro e w2 ⟨rfl, hb2⟩
    have d1 := (hb2.cell (p := ⟨w.heap.size, 1, none⟩) hl1).trans c1
    have d0 := (hb2.cell (p := ⟨w.heap.size, 0, none⟩) hl1).trans c0
    clear c0 c1
    go_wp2_with fail
    go_ret2
    exact ⟨rfl, hb1'.trans (hb2.mono hb1'.size)⟩
  · subst h0
    subst h1
    rw [Lx.plim_zero.1, Lx.plim_zero.2]
    rw [(Lx.prn_in (d := 0) (by omega)).1, (Lx.prn_in (d := 0) (by omega)).2] at HP1
    rw [(Lx.prn_in (d := 0) (by omega)).1, (Lx.prn_in (d := 0) (by omega)).2] at HP2
    obtain ⟨TV, hTV⟩ : ∃ TV : ByteArray, TV = ⟨(Lx.prnS (0 : Int).toNat).toArray⟩ := ⟨_, rfl⟩
    rw [← hTV] at HP1 HP2
    clear hTV
    go_enter Tryz.func112, Tryz.ntmps112
    go_wp2_with fail
    refine HP1.out.mono ?_
    rintro e w1 ⟨rfl, hb1⟩
    have hb1' := hba.trans (hb1.mono hba.size)
    have c1 : w1.cell? ⟨w.heap.size, 1, none⟩ = some (.int .i64 0) := (hb1.cell (p := ⟨w.heap.size, 1, none⟩) hlt0).trans (by simp)
    have c0 : w1.cell? ⟨w.heap.size, 0, none⟩ = some (.int .i64 0) := (hb1.cell (p := ⟨w.heap.size, 0, none⟩) hlt0).trans (by simp)
    have hl1 := Nat.lt_of_lt_of_le hlt0 hb1.size
    go_wp2_with fail
    refine (HP2.out _ (env.below hb1')).mono ?_
    rintro e w2 ⟨rfl, hb2⟩
    have d1 := (hb2.cell (p := ⟨w.heap.size, 1, none⟩) hl1).trans c1
    have d0 := (hb2.cell (p := ⟨w.heap.size, 0, none⟩) hl1).trans c0
    clear c0 c1
    go_wp2_with fail
    go_ret2
    exact ⟨rfl, hb1'.trans (hb2.mono hb1'.size)⟩
  · have ht' : 0 ≤ t ∧ t ≤ 68719476736 := by omega
    have hts := Lx.prn_size t.toNat (by omega)
    have hus := Lx.prn_size u.toNat (by omega)
    rw [(Lx.prn_in ht').1, (Lx.prn_in ht').2] at HP1
    rw [(Lx.prn_in hu).1, (Lx.prn_in hu).2] at HP2
    obtain ⟨TV, hTV⟩ : ∃ TV : ByteArray, TV = ⟨(Lx.prnS t.toNat).toArray⟩ := ⟨_, rfl⟩
    rw [← hTV] at HP1
    obtain ⟨UV, hUV⟩ : ∃ UV : ByteArray, UV = ⟨(Lx.prnS u.toNat).toArray⟩ := ⟨_, rfl⟩
    rw [← hUV] at HP2
    have hTl : TV.data.toList = Lx.prnS t.toNat := by rw [hTV]
    have hUl : UV.data.toList = Lx.prnS u.toNat := by rw [hUV]
    obtain ⟨e1, e2⟩ := Lx.plim_eq TV UV hk (by omega) hTl hUl
    have hTs : TV.size ≤ 48 := by rw [Lib.size_eq, hTl]; exact hts
    have hUs : UV.size ≤ 48 := by rw [Lib.size_eq, hUl]; exact hus
    have hfin : (⟨#[49, 47]⟩ ++ TV ++ ⟨#[43]⟩ ++ UV : ByteArray) = ⟨(Lx.plimS t u).toArray⟩ := by rw [e1, Lib.mk_data]
    have Hfin := Lib.hid hfin
    have h0b : (t == 0) = false := by rw [beq_eq_false_iff_ne]; omega
    have s1 : (⟨#[49, 47]⟩ : ByteArray).size = 2 := rfl
    have s2 : (⟨#[43]⟩ : ByteArray).size = 1 := rfl
    rw [e2]
    clear e1 e2 hk ht ht' hu hTV hUV hTl hUl hfin hts hus
    go_enter Tryz.func112, Tryz.ntmps112
    go_wp2_with fail
    refine HP1.out.mono ?_
    rintro e w1 ⟨rfl, hb1⟩
    have hb1' := hba.trans (hb1.mono hba.size)
    have c1 : w1.cell? ⟨w.heap.size, 1, none⟩ = some (.int .i64 u) := (hb1.cell (p := ⟨w.heap.size, 1, none⟩) hlt0).trans (by simp)
    have c0 : w1.cell? ⟨w.heap.size, 0, none⟩ = some (.int .i64 t) := (hb1.cell (p := ⟨w.heap.size, 0, none⟩) hlt0).trans (by simp)
    have hl1 := Nat.lt_of_lt_of_le hlt0 hb1.size
    go_wp2_with fail
    refine (HP2.out _ (env.below hb1')).mono ?_
    rintro e w2 ⟨rfl, hb2⟩
    have d1 := (hb2.cell (p := ⟨w.heap.size, 1, none⟩) hl1).trans c1
    have d0 := (hb2.cell (p := ⟨w.heap.size, 0, none⟩) hl1).trans c0
    clear c0 c1
    go_wp2_with fail
    go_ret2
    exact ⟨Lx.ret_t2 (Lx.v_str Hfin.out) rfl, hb1'.trans (hb2.mono hb1'.size)⟩
end Go.Proofs.YtdpjcbijddgpgaaGreatDoor
