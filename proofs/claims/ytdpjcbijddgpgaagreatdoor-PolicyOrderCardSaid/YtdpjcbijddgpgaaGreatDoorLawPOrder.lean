/- PolicyOrder: for every policy and every two numbers the law returns true; what the call was given reads as before. Conditions: the eight listed variables lie as the program lays them. -/
import Derived.Test.YtdpjcbijddgpgaaGreatDoorUnFrame
import Derived.Test.YtdpjcbijddgpgaaGreatDoorPoM8
import Derived.Test.YtdpjcbijddgpgaaGreatDoorPoKy
import Derived.Test.YtdpjcbijddgpgaaGreatDoorPoOr
import Derived.SevenTiedAt
namespace Go.Proofs.YtdpjcbijddgpgaaGreatDoor.lawPolicyOrder
open Go.ChangeShapes Go.WideShapes Go.ChangeAt Go.RowKit
def Lx.keyB (k : Nat) : ByteArray := ⟨(Lx.keyW k).toArray⟩
theorem Lx.getS_at {p : Lx.PolV} (h : Lx.polOk p = true) {k : Nat} (hk : k < 8) : Lx.getS p (Lx.keyB k) = Lx.valS k p ∧ Lx.getE p (Lx.keyB k) = 0 := by
  have e : Lx.keyIx (Lx.keyB k).data.toList = k := Lx.keyIx_key hk
  unfold Lx.getS Lx.getE
  rw [e, if_pos ⟨h, hk⟩, if_pos h, if_pos hk]; exact ⟨rfl, rfl⟩
/-- The pairs of the keys in the order σ. -/
def Lx.pairB (p : Lx.PolV) (k : Nat) : ByteArray := ⟨(Lx.pairW k p).toArray⟩
def Lx.prV (p : Lx.PolV) (σ : Nat → Nat) (n : Nat) : List Value := (List.range n).map fun j => .string (Lx.pairB p (σ j))
theorem Lx.prV_succ (p : Lx.PolV) (σ : Nat → Nat) (n : Nat) : Lx.prV p σ (n + 1) = Lx.prV p σ n ++ [.string (Lx.pairB p (σ n))] := by
  unfold Lx.prV; rw [List.range_succ, List.map_append]; rfl
theorem Lx.prV_at (p : Lx.PolV) (σ : Nat → Nat) {n j : Nat} (h : j < n) : (Lx.prV p σ n)[j]? = some (.string (Lx.pairB p (σ j))) := by
  unfold Lx.prV; rw [List.getElem?_map, List.getElem?_range h]; rfl
theorem Lx.prV_swp (p : Lx.PolV) (σ : Nat → Nat) {a b : Nat} (ha : a < 8) (hb : b < 8) : ((Lx.prV p σ 8).set a (.string (Lx.pairB p (σ b)))).set b (.string (Lx.pairB p (σ a))) = Lx.prV p (Lx.swp σ a b) 8 := by
  apply List.ext_getElem?
  intro j
  by_cases hj : j < 8
  · rw [Lx.prV_at p _ hj, List.getElem?_set, List.getElem?_set]
    have hl : (Lx.prV p σ 8).length = 8 := by unfold Lx.prV; simp
    by_cases h1 : b = j
    · subst h1
      rw [if_pos rfl, if_pos (by rw [List.length_set, hl]; exact hb), Lx.swp_snd]
    · rw [if_neg h1]
      by_cases h2 : a = j
      · subst h2
        rw [if_pos rfl, if_pos (by rw [hl]; exact ha), Lx.swp_fst]
      · rw [if_neg h2, Lx.prV_at p _ hj, Lx.swp_other _ (Ne.symm h2) (Ne.symm h1)]
  · have hl : (Lx.prV p σ 8).length = 8 := by unfold Lx.prV; simp
    have hl2 : (Lx.prV p (Lx.swp σ a b) 8).length = 8 := by unfold Lx.prV; simp
    rw [List.getElem?_eq_none (by rw [List.length_set, List.length_set, hl]; omega), List.getElem?_eq_none (by rw [hl2]; omega)]
theorem Lx.prV_swp' (p : Lx.PolV) (σ : Nat → Nat) {a b : Nat} (ha : a < 8) (hb : b < 8) : ((Lx.prV p σ 8).set b (.string (Lx.pairB p (σ a)))).set a (.string (Lx.pairB p (σ b))) = Lx.prV p (Lx.swp σ a b) 8 := by
  rw [← Lx.prV_swp p σ ha hb]
  by_cases h : a = b
  · subst h; rfl
  · rw [List.set_comm _ _ (Ne.symm h)]
theorem Lx.pairB_cat (p : Lx.PolV) (k : Nat) {T : ByteArray} (h : T.data.toList = Lx.valS k p) : Lx.keyB k ++ (⟨#[61]⟩ : ByteArray) ++ T = Lx.pairB p k := by
  apply ByteArray.ext; apply Array.toList_inj.1
  rw [ByteArray.data_append, ByteArray.data_append]
  simp [Lx.keyB, Lx.pairB, Lx.pairW, h]
set_option maxRecDepth 100000 in
set_option maxHeartbeats 6400000 in
theorem walk (p : Lx.PolV) (b0 : Int) (hb0 : (Lit.int .u16 b0).wf = true) (c0 : Int) (hc0 : (Lit.int .u8 c0).wf = true) (w : World) (env : UEnv w) :
    Calls Tryz.prog 12 #[p.val, .int .u16 b0, .int .u8 c0] w fun e w' => e = .returned (.bool true) ∧ Below w.heap.size w w' := by
  obtain ⟨tw, rfl⟩ := Lx.u8_of hc0
  obtain ⟨by0, hby, rfl⟩ : ∃ n : Nat, n ≤ 65535 ∧ b0 = (n : Int) := by
    have := bounds_u16 hb0
    exact ⟨b0.toNat, by omega, by omega⟩
  have HW := Lib.hid (fun W (E : UEnv W) => pworks_any W E)
  have E0 := Lib.hid env
  have hgl := env.env.lt
  obtain ⟨g3, hg3⟩ : ∃ g, g = w.heap.size := ⟨_, rfl⟩
  obtain ⟨W0, hW0⟩ : ∃ W0, W0 = w.alloc (.cells p.cells.toArray 29) := ⟨_, rfl⟩
  have S0 := Lib.hid (show Lx.PSt g3 W0 W0 p from by rw [hg3, hW0]; exact Lx.PSt.new w hgl p)
  have B0 := Lib.hid (show Below w.heap.size w W0 from by rw [hW0]; exact (Below.refl _ w).alloc (Nat.le_refl _) _)
  have HC := fun W => polCheck_any p W
  obtain ⟨i0, hi, hz0, hz1, hz2⟩ := info_parts infoS
  by_cases h : Lx.polOk p = true
  · have hE : Lx.polE p = 0 := by unfold Lx.polE; rw [if_pos h]
    rw [hE] at HC
    have HK := Lib.hid (fun W => polKeys_any W)
    have HOK := Lib.hid h
    have Heq := Lib.hid (fun W => eqPol_self p W)
    have HeqZ := Lib.hid (fun W => eqPol_self Lx.polZ W)
    obtain ⟨P, hP⟩ : ∃ P, P = p := ⟨_, rfl⟩
    rw [← hP] at HC HOK S0
    obtain ⟨cap, pri, spl, dl, mis, keep, lt, lu, bf, bo, bp, rm, rb, rc, rj⟩ := p
    have HP := Lib.hid hP
    have HCp := Lib.hid HC
    unfold Lx.PolV.cells at hW0
    dsimp only at hW0
    clear hE h env HC hP
    show Calls Tryz.prog 12 #[.agg #[.int .i64 cap, .int .i64 pri, .int .i64 spl, .int .i64 dl, .int .i64 mis, .int .i64 keep, .int .i64 lt, .int .i64 lu, .int .i64 bf, .int .i64 bo, .int .i64 bp, .int .i64 rm, .int .i64 rb, .int .i64 rc, .int .i64 rj], .int .u16 by0, .int .u8 tw.toNat] w _
    go_enter Tryz.func12, Tryz.ntmps12
    go_upto_region 1 with (fail)
    rw [show (w.alloc (.cells #[.int .i64 cap, .int .i64 pri, .int .i64 spl, .int .i64 dl, .int .i64 mis, .int .i64 keep, .int .i64 lt, .int .i64 lu, .int .i64 bf, .int .i64 bo, .int .i64 bp, .int .i64 rm, .int .i64 rb, .int .i64 rc, .int .i64 rj] 29)) = W0 from hW0.symm, ← hg3]
    have Hg3 := Lib.hid hg3
    clear hW0 hg3
    go_wp2_with ((with_reducible show wpList _ _ _ _ _ _); refine' Lx.wpList_get _ rfl _ rfl g3 rfl ?_ ?_; any_goals (with_reducible exact S0.out))
    refine (HCp.out _).mono ?_
    rintro e w1 ⟨rfl, c1⟩
    have S1 := Lib.hid (S0.out.low c1)
    have B1 := Lib.hid (B0.out.trans (c1.mono B0.out.size))
    clear c1 S0 B0
    go_wp2_with fail
    refine (HK.out _).mono ?_
    rintro e w2 ⟨A, cc, rfl, hA, hA2, hR, c2⟩
    have S2 := Lib.hid (S1.out.low c2)
    have B2 := Lib.hid (B1.out.trans (c2.mono B1.out.size))
    have HR2 := Lib.hid hR
    have HA2 := Lib.hid hA
    clear c2 S1 B1 hR hA hA2
    go_wp2_with fail
    go_loopw [8, 9] (fun pv iv wr => ∃ k : Nat, k ≤ 8 ∧ iv = .int .i64 k ∧ wr.ownsRow w2.heap.size 9 1 pv k (Lx.prV P id k) ∧ Below w2.heap.size w2 wr) (fun _ i _ => 8 - (intOf i).toNat)
    case atStart => exact ⟨0, Nat.zero_le _, rfl, World.ownsRow_nil _ _ _ _, Below.refl _ _⟩
    case round =>
      obtain ⟨k, hk, rfl, hrow, hb⟩ := hrel
      by_cases hlt : k < 8
      · have hki : (k : Int) < 8 := by omega
        have HB := Lib.hid (B2.out.trans (hb.mono B2.out.size))
        have HS := Lib.hid (S2.out.low hb)
        have Hrow := Lib.hid hrow
        have Hb := Lib.hid hb
        obtain ⟨KB, hKB⟩ : ∃ K, K = Lx.keyB k := ⟨_, rfl⟩
        obtain ⟨T, hT⟩ : ∃ T : ByteArray, T = ⟨(Lx.valS k P).toArray⟩ := ⟨_, rfl⟩
        have HGet := Lib.hid (show ∀ W, UEnv W → Calls Tryz.prog 31 #[.agg #[.int .i64 cap, .int .i64 pri, .int .i64 spl, .int .i64 dl, .int .i64 mis, .int .i64 keep, .int .i64 lt, .int .i64 lu, .int .i64 bf, .int .i64 bo, .int .i64 bp, .int .i64 rm, .int .i64 rb, .int .i64 rc, .int .i64 rj], .string KB] W fun e w' => e = .returned (.tuple #[.string T, .int .i64 0]) ∧ Below W.heap.size W w' from fun W E => by have := polGet_any P (Lx.keyB k) W E; rw [(Lx.getS_at HOK.out hlt).1, (Lx.getS_at HOK.out hlt).2, ← hT, ← hKB, HP.out] at this; exact this)
        have HSS := Lib.hid (show ∀ wx, Below wr.heap.size wr wx → Below wr.heap.size wr wx ∧ wx.cell? ⟨g3, 0, none⟩ = some (.int .i64 cap) ∧ wx.cell? ⟨g3, 1, none⟩ = some (.int .i64 pri) ∧ wx.cell? ⟨g3, 2, none⟩ = some (.int .i64 spl) ∧ wx.cell? ⟨g3, 3, none⟩ = some (.int .i64 dl) ∧ wx.cell? ⟨g3, 4, none⟩ = some (.int .i64 mis) ∧ wx.cell? ⟨g3, 5, none⟩ = some (.int .i64 keep) ∧ wx.cell? ⟨g3, 6, none⟩ = some (.int .i64 lt) ∧ wx.cell? ⟨g3, 7, none⟩ = some (.int .i64 lu) ∧ wx.cell? ⟨g3, 8, none⟩ = some (.int .i64 bf) ∧ wx.cell? ⟨g3, 9, none⟩ = some (.int .i64 bo) ∧ wx.cell? ⟨g3, 10, none⟩ = some (.int .i64 bp) ∧ wx.cell? ⟨g3, 11, none⟩ = some (.int .i64 rm) ∧ wx.cell? ⟨g3, 12, none⟩ = some (.int .i64 rb) ∧ wx.cell? ⟨g3, 13, none⟩ = some (.int .i64 rc) ∧ wx.cell? ⟨g3, 14, none⟩ = some (.int .i64 rj) ∧ wx.cell? ⟨A, k, none⟩ = some (.string KB) from fun wx b => ⟨b, (b.cell (p := ⟨g3, 0, none⟩) HS.out.size).trans (HS.out.cell 0 _ (by rw [HP.out]; rfl)), (b.cell (p := ⟨g3, 1, none⟩) HS.out.size).trans (HS.out.cell 1 _ (by rw [HP.out]; rfl)), (b.cell (p := ⟨g3, 2, none⟩) HS.out.size).trans (HS.out.cell 2 _ (by rw [HP.out]; rfl)), (b.cell (p := ⟨g3, 3, none⟩) HS.out.size).trans (HS.out.cell 3 _ (by rw [HP.out]; rfl)), (b.cell (p := ⟨g3, 4, none⟩) HS.out.size).trans (HS.out.cell 4 _ (by rw [HP.out]; rfl)), (b.cell (p := ⟨g3, 5, none⟩) HS.out.size).trans (HS.out.cell 5 _ (by rw [HP.out]; rfl)), (b.cell (p := ⟨g3, 6, none⟩) HS.out.size).trans (HS.out.cell 6 _ (by rw [HP.out]; rfl)), (b.cell (p := ⟨g3, 7, none⟩) HS.out.size).trans (HS.out.cell 7 _ (by rw [HP.out]; rfl)), (b.cell (p := ⟨g3, 8, none⟩) HS.out.size).trans (HS.out.cell 8 _ (by rw [HP.out]; rfl)), (b.cell (p := ⟨g3, 9, none⟩) HS.out.size).trans (HS.out.cell 9 _ (by rw [HP.out]; rfl)), (b.cell (p := ⟨g3, 10, none⟩) HS.out.size).trans (HS.out.cell 10 _ (by rw [HP.out]; rfl)), (b.cell (p := ⟨g3, 11, none⟩) HS.out.size).trans (HS.out.cell 11 _ (by rw [HP.out]; rfl)), (b.cell (p := ⟨g3, 12, none⟩) HS.out.size).trans (HS.out.cell 12 _ (by rw [HP.out]; rfl)), (b.cell (p := ⟨g3, 13, none⟩) HS.out.size).trans (HS.out.cell 13 _ (by rw [HP.out]; rfl)), (b.cell (p := ⟨g3, 14, none⟩) HS.out.size).trans (HS.out.cell 14 _ (by rw [HP.out]; rfl)), (b.cell (p := ⟨A, k, none⟩) (Nat.lt_of_lt_of_le HA2.out hb.size)).trans ((hb.cell (p := ⟨A, k, none⟩) HA2.out).trans (by rw [hKB]; exact HR2.out k hlt))⟩)
        have hS0 := HSS.out wr.drew (Below.refl _ wr).drew
        have HX := Lib.hid (show KB ++ (⟨#[61]⟩ : ByteArray) ++ T = Lx.pairB P k from by rw [hKB]; exact Lx.pairB_cat P k (by rw [hT]))
        have hKs : KB.size ≤ 8 := by rw [hKB, Lib.size_eq]; exact (Lx.keyW_low hlt).2.2.2
        have hTs : T.size ≤ 400 := by rw [Lib.size_eq, hT]; exact (Lx.val_bytes hlt HOK.out).2
        have k1 : (⟨#[61]⟩ : ByteArray).size = 1 := rfl
        have n1 : ¬ (9223372036854775807 < KB.size + 1) := by omega
        have n2 : ¬ (9223372036854775807 < KB.size + 1 + T.size) := by omega
        clear hKB hT hrow hb
        go_upto_region 10 with (fail)
        refine wp_region_held_drew (S := (fun wx => Below wr.heap.size wr wx ∧ wx.cell? ⟨g3, 0, none⟩ = some (.int .i64 cap) ∧ wx.cell? ⟨g3, 1, none⟩ = some (.int .i64 pri) ∧ wx.cell? ⟨g3, 2, none⟩ = some (.int .i64 spl) ∧ wx.cell? ⟨g3, 3, none⟩ = some (.int .i64 dl) ∧ wx.cell? ⟨g3, 4, none⟩ = some (.int .i64 mis) ∧ wx.cell? ⟨g3, 5, none⟩ = some (.int .i64 keep) ∧ wx.cell? ⟨g3, 6, none⟩ = some (.int .i64 lt) ∧ wx.cell? ⟨g3, 7, none⟩ = some (.int .i64 lu) ∧ wx.cell? ⟨g3, 8, none⟩ = some (.int .i64 bf) ∧ wx.cell? ⟨g3, 9, none⟩ = some (.int .i64 bo) ∧ wx.cell? ⟨g3, 10, none⟩ = some (.int .i64 bp) ∧ wx.cell? ⟨g3, 11, none⟩ = some (.int .i64 rm) ∧ wx.cell? ⟨g3, 12, none⟩ = some (.int .i64 rb) ∧ wx.cell? ⟨g3, 13, none⟩ = some (.int .i64 rc) ∧ wx.cell? ⟨g3, 14, none⟩ = some (.int .i64 rj) ∧ wx.cell? ⟨A, k, none⟩ = some (.string KB))) (by kernel_rfl) ?_ (fun hHeld => ?_)
        · exact hS0
        refine' wpAnyH_take (i := 0) (oi := _) (v := _) ?hi0r1 (by kernel_rfl) (by kernel_rfl) (by kernel_rfl) ?hq0r1 ?hy0r1 (by assumption) ?re0r1
        case hi0r1 => simp only [List.getElem?_toArray, List.getElem?_cons_zero]; rfl
        case hq0r1 => exact fun _ _ _ h => h
        case hy0r1 =>
          refine Or.inl ⟨by rfl, ?_⟩
          intro w hSw; (try dsimp only at hSw); go_simp; try with_reducible rfl
        try simp only [Act.put, List.setIfInBounds_toArray, List.set_cons_zero, List.set_cons_succ]
        refine' wpAnyH_take (i := 1) (oi := _) (v := _) ?hi1r1 (by kernel_rfl) (by kernel_rfl) (by kernel_rfl) ?hq1r1 ?hy1r1 (by assumption) ?re1r1
        case hi1r1 => simp only [List.getElem?_toArray, List.getElem?_cons_succ, List.getElem?_cons_zero]; rfl
        case hq1r1 => exact fun _ _ _ h => h
        case hy1r1 =>
          refine Or.inl ⟨by rfl, ?_⟩
          intro w hSw; (try dsimp only at hSw); go_simp; try with_reducible rfl
        try simp only [Act.put, List.setIfInBounds_toArray, List.set_cons_zero, List.set_cons_succ]
        refine' wpAnyH_take (i := 2) (oi := _) (v := _) ?hi2r1 (by kernel_rfl) (by kernel_rfl) (by kernel_rfl) ?hq2r1 ?hy2r1 (by assumption) ?re2r1
        case hi2r1 => simp only [List.getElem?_toArray, List.getElem?_cons_succ, List.getElem?_cons_zero]; rfl
        case hq2r1 => exact fun _ _ _ h => h
        case hy2r1 =>
          refine Or.inl ⟨by rfl, ?_⟩
          intro w hSw; (try dsimp only at hSw); go_simp; try with_reducible rfl
        try simp only [Act.put, List.setIfInBounds_toArray, List.set_cons_zero, List.set_cons_succ]
        refine' wpAnyH_take (i := 3) (oi := _) (v := _) ?hi3r1 (by kernel_rfl) (by kernel_rfl) (by kernel_rfl) ?hq3r1 ?hy3r1 (by assumption) ?re3r1
        case hi3r1 => simp only [List.getElem?_toArray, List.getElem?_cons_succ, List.getElem?_cons_zero]; rfl
        case hq3r1 => exact fun _ _ _ h => h
        case hy3r1 =>
          refine Or.inl ⟨by rfl, ?_⟩
          intro w hSw; (try dsimp only at hSw); go_simp; try with_reducible rfl
        try simp only [Act.put, List.setIfInBounds_toArray, List.set_cons_zero, List.set_cons_succ]
        refine' wpAnyH_take (i := 4) (oi := _) (v := _) ?hi4r1 (by kernel_rfl) (by kernel_rfl) (by kernel_rfl) ?hq4r1 ?hy4r1 (by assumption) ?re4r1
        case hi4r1 => simp only [List.getElem?_toArray, List.getElem?_cons_succ, List.getElem?_cons_zero]; rfl
        case hq4r1 => exact fun _ _ _ h => h
        case hy4r1 =>
          refine Or.inl ⟨by rfl, ?_⟩
          intro w hSw; (try dsimp only at hSw); go_simp; try with_reducible rfl
        try simp only [Act.put, List.setIfInBounds_toArray, List.set_cons_zero, List.set_cons_succ]
        refine wpAnyH_ready (rs := [5]) (by kernel_rfl) (by simp) ?_
        refine' AllReadyH.cons (o := _) ?hi5r1 (fun K hK => ?st5r1) AllReadyH.nil
        case hi5r1 => simp only [List.getElem?_toArray, List.getElem?_cons_succ, List.getElem?_cons_zero]; rfl
        go_simp
        go_at_call 31; refine (HGet.out _ (E0.out.below (HB.out.trans (hHeld.1.mono HB.out.size)))).mono ?_; rintro e w5 ⟨rfl, c5⟩; have k8 := HSS.out _ (hHeld.1.trans (c5.mono hHeld.1.size)); clear c5
        try go_wp2_with fail
        refine hK.out _ _ ?_ (fun hHeld => ?_)
        · exact k8
        clear hK K
        try simp only [Act.put, List.setIfInBounds_toArray, List.set_cons_zero, List.set_cons_succ]
        refine' wpAnyH_take (i := 6) (oi := _) (v := _) ?hi6r1 (by kernel_rfl) (by kernel_rfl) (by kernel_rfl) ?hq6r1 ?hy6r1 (by assumption) ?re6r1
        case hi6r1 => simp only [List.getElem?_toArray, List.getElem?_cons_succ, List.getElem?_cons_zero]; rfl
        case hq6r1 => exact fun _ _ _ h => h
        case hy6r1 =>
          refine Or.inl ⟨by rfl, ?_⟩
          intro w hSw; (try dsimp only at hSw); go_simp; try with_reducible rfl
        try simp only [Act.put, List.setIfInBounds_toArray, List.set_cons_zero, List.set_cons_succ]
        refine' wpAnyH_take (i := 7) (oi := _) (v := _) ?hi7r1 (by kernel_rfl) (by kernel_rfl) (by kernel_rfl) ?hq7r1 ?hy7r1 (by assumption) ?re7r1
        case hi7r1 => simp only [List.getElem?_toArray, List.getElem?_cons_succ, List.getElem?_cons_zero]; rfl
        case hq7r1 => exact fun _ _ _ h => h
        case hy7r1 =>
          refine Or.inl ⟨by rfl, ?_⟩
          intro w hSw; (try dsimp only at hSw); go_simp; try with_reducible rfl
        try simp only [Act.put, List.setIfInBounds_toArray, List.set_cons_zero, List.set_cons_succ]
        refine' wpAnyH_take (i := 8) (oi := _) (v := _) ?hi8r1 (by kernel_rfl) (by kernel_rfl) (by kernel_rfl) ?hq8r1 ?hy8r1 (by assumption) ?re8r1
        case hi8r1 => simp only [List.getElem?_toArray, List.getElem?_cons_succ, List.getElem?_cons_zero]; rfl
        case hq8r1 => exact fun _ _ _ h => h
        case hy8r1 =>
          refine Or.inl ⟨by rfl, ?_⟩
          intro w hSw; (try dsimp only at hSw); go_simp; try with_reducible rfl
        try simp only [Act.put, List.setIfInBounds_toArray, List.set_cons_zero, List.set_cons_succ]
        refine' wpAnyH_take (i := 9) (oi := _) (v := _) ?hi9r1 (by kernel_rfl) (by kernel_rfl) (by kernel_rfl) ?hq9r1 ?hy9r1 (by assumption) ?re9r1
        case hi9r1 => simp only [List.getElem?_toArray, List.getElem?_cons_succ, List.getElem?_cons_zero]; rfl
        case hq9r1 => exact fun _ _ _ h => h
        case hy9r1 =>
          refine Or.inl ⟨by rfl, ?_⟩
          intro w hSw; (try dsimp only at hSw); go_simp; try with_reducible rfl
        try simp only [Act.put, List.setIfInBounds_toArray, List.set_cons_zero, List.set_cons_succ]
        refine' wpAnyH_take (i := 10) (oi := _) (v := _) ?hi10r1 (by kernel_rfl) (by kernel_rfl) (by kernel_rfl) ?hq10r1 ?hy10r1 (by assumption) ?re10r1
        case hi10r1 => simp only [List.getElem?_toArray, List.getElem?_cons_succ, List.getElem?_cons_zero]; rfl
        case hq10r1 => exact fun _ _ _ h => h
        case hy10r1 =>
          refine Or.inl ⟨by rfl, ?_⟩
          intro w hSw; (try dsimp only at hSw); go_simp; try with_reducible rfl
        try simp only [Act.put, List.setIfInBounds_toArray, List.set_cons_zero, List.set_cons_succ]
        refine wpAnyH_done (by kernel_rfl) ?_ _
        obtain ⟨wo, rfl⟩ : ∃ W, W = w5 := ⟨_, rfl⟩
        have c5 := hHeld.1
        have kc : wo.cell? ⟨A, k, none⟩ = some (.string KB) := by obtain ⟨_, _, _, _, _, _, _, _, _, _, _, _, _, _, _, _, z⟩ := hHeld; exact z
        have Hrow5 := Lib.hid (Hrow.out.kept (Lx.below_gb c5) (Classical.em _))
        have Hb5 := Lib.hid (Hb.out.trans (c5.mono Hb.out.size))
        obtain ⟨ad, cp, rfl⟩ := Lx.ownSlice Hrow5.out
        clear hHeld k8 c5 HSS Hrow Hb HS HB HGet
        go_wp2_with (at_builtin; refine wpList_append_own _ rfl _ _ 47 rfl w2.heap.size 9 i0 _ 1 16 Tryz.underlying47 hi hz0 hz1 hz2 rfl (by decide) _ _ _ rfl (Hrow5.out.alloc _) ⟨wo.heap.size, 0, none⟩ 1 1 [.string (KB ++ (⟨#[61]⟩ : ByteArray) ++ T)] rfl rfl (Lx.cellNew wo (.string (KB ++ (⟨#[61]⟩ : ByteArray) ++ T)) 9) (by simp [Value.oneCell']) (by unfold maxLen; omega) (by omega) ((Hb5.out.alloc Hb5.out.size _).size) ?_)
        intro v' w8 hown8 hgrow _
        have hb8 := Lib.hid ((Hb5.out.alloc Hb5.out.size (.cells #[.string (KB ++ (⟨#[61]⟩ : ByteArray) ++ T)] 9)).grown hgrow (Hb5.out.alloc Hb5.out.size _).size (Lx.ownBase Hrow5.out))
        have Hown := Lib.hid hown8
        clear hgrow hown8
        go_wp2_with fail
        go_roundw
        case rel => exact ⟨k + 1, by omega, by go_num, by rw [Lx.prV_succ, show Lx.pairB P (id k) = _ from HX.out.symm]; exact Hown.out, hb8.out⟩
        case measure => simp [intOf]; omega
      · as_aux_lemma =>
          obtain rfl : k = 8 := by omega
          obtain ⟨g8, c8, rfl, hg8, _, _⟩ := Lx.ownCap hrow (by omega)
          have hge8 := Lx.ownBase hrow g8 rfl
          have Hrow := Lib.hid hrow
          have Hb := Lib.hid hb
          have hli : decide ((8 : Int) < 8) = false := rfl
          have hb65 : (by0 : Int) ≤ 65535 := by omega
          clear hrow hb hk hlt
          go_wp2_with fail
          obtain ⟨wl, rfl⟩ : ∃ W, W = wr := ⟨_, rfl⟩
          go_loopw [12, 13, 14] (fun nv tv lv wr => ∃ (n left : Nat) (tb : ByteArray) (σ : Nat → Nat), left ≤ 8 ∧ n ≤ 65535 ∧ nv = .int .i64 n ∧ tv = .string tb ∧ lv = .int .i64 left ∧ Lx.Turn σ ∧ tb.data.toList = Lx.ordS P (Lx.tkn σ left) ∧ wr.ownsRow w2.heap.size 9 1 (.slice (some ⟨g8, 0, none⟩) (8 : Nat) c8) 8 (Lx.prV P σ 8) ∧ Below w2.heap.size w2 wr) (fun _ _ l _ => (intOf l).toNat)
          case atStart => exact ⟨by0, 8, ⟨#[]⟩, id, Nat.le_refl _, hby, rfl, rfl, rfl, Lx.turn_id, rfl, Hrow.out, Hb.out⟩
          case round =>
            obtain ⟨n, left, tb, σ, hl8, hn, rfl, rfl, rfl, ht, htb, hrow, hb⟩ := hrel
            have hts : tb.size ≤ 3280 := by rw [Lib.size_eq, htb]; exact Lx.ordS_len HOK.out ht left
            by_cases hlt : 0 < left
            · obtain ⟨l, rfl⟩ : ∃ l, left = l + 1 := ⟨left - 1, by omega⟩
              obtain ⟨k, hk⟩ : ∃ k, k = n % (l + 1) := ⟨_, rfl⟩
              obtain ⟨n2, hn2⟩ : ∃ m, m = n / (l + 1) := ⟨_, rfl⟩
              have hkl : k < l + 1 := by rw [hk]; exact Nat.mod_lt _ (by omega)
              have hn2b : n2 ≤ 65535 := by rw [hn2]; exact Nat.le_trans (Nat.div_le_self _ _) hn
              have m1 : (n : Int) % ((l : Int) + 1) = (k : Int) := by rw [hk, Int.natCast_emod]; rfl
              have m2 : (n : Int) / ((l : Int) + 1) = (n2 : Int) := by rw [hn2, Int.natCast_ediv]; rfl
              have m3 : (n : Int) % ((l + 1 : Nat) : Int) = (k : Int) := m1
              have m4 : (n : Int) / ((l + 1 : Nat) : Int) = (n2 : Int) := m2
              have hl1 : (0 : Int) < (l : Int) + 1 := by omega
              have hl2 : (l : Int) + 1 ≤ 8 := by omega
              have hni : (n : Int) ≤ 65535 := by omega
              have hli : (0 : Int) < ((l + 1 : Nat) : Int) := by omega
              have hki : (k : Int) < 8 := by omega
              have hli8 : (l : Int) < 8 := by omega
              have hx1 := hrow.cellAt k (by omega)
              rw [Lx.prV_at P σ (by omega : k < 8)] at hx1
              have hx2 := hrow.cellAt l (by omega)
              rw [Lx.prV_at P σ (by omega : l < 8)] at hx2
              have hf1 := hrow.frozenAt k
              have hf2 := hrow.frozenAt l
              obtain ⟨X, hX⟩ : ∃ X, X = Lx.pairB P (σ k) := ⟨_, rfl⟩
              obtain ⟨Y, hY⟩ : ∃ Y, Y = Lx.pairB P (σ l) := ⟨_, rfl⟩
              rw [← hX] at hx1
              rw [← hY] at hx2
              have hXs : X.size ≤ 409 := by rw [Lib.size_eq, hX]; exact (Lx.pairW_bytes (ht.1 k (by omega)) HOK.out).2.2
              have Ht := Lib.hid (Lx.turn_swp ht (a := k) (b := l) (by omega) (by omega))
              have Htb := Lib.hid (show (tb ++ (⟨#[32]⟩ : ByteArray) ++ X).data.toList = Lx.ordS P (Lx.tkn (Lx.swp σ k l) l) from by rw [Lx.tkn_next (by omega) (by omega), Lx.ordS_snoc, ← htb, hX]; simp [ByteArray.data_append, Lx.pairB])
              have HV1 := Lib.hid (show ((Lx.prV P σ 8).set k (.string Y)).set l (.string X) = Lx.prV P (Lx.swp σ k l) 8 from by rw [hX, hY]; exact Lx.prV_swp P σ (by omega) (by omega))
              have HV2 := Lib.hid (show ((Lx.prV P σ 8).set l (.string X)).set k (.string Y) = Lx.prV P (Lx.swp σ k l) 8 from by rw [hX, hY]; exact Lx.prV_swp' P σ (by omega) (by omega))
              have HO1 := Lib.hid (fun (W : World) (h : W.ownsRow w2.heap.size 9 1 (.slice (some ⟨g8, 0, none⟩) (8 : Nat) c8) 8 (Lx.prV P σ 8)) => ((h.stored k (.string Y)).1.stored l (.string X)).1)
              have HO2 := Lib.hid (fun (W : World) (h : W.ownsRow w2.heap.size 9 1 (.slice (some ⟨g8, 0, none⟩) (8 : Nat) c8) 8 (Lx.prV P σ 8)) => ((h.stored l (.string X)).1.stored k (.string Y)).1)
              have Hrw := Lib.hid hrow
              have Hbb := Lib.hid hb
              have Hg := Lib.hid hge8
              have k1 : (⟨#[32]⟩ : ByteArray).size = 1 := rfl
              have n1 : ¬ (9223372036854775807 < tb.size + 1) := by omega
              have n3 : ¬ (9223372036854775807 < tb.size + 1 + X.size) := by omega
              clear hk hn2 hX hY ht htb hrow hb
              by_cases hkl2 : k = l
              · subst hkl2
                obtain rfl : X = Y := by rw [hx1] at hx2; injection hx2 with h; injection h
                clear hx2 hf2
                go_upto_region 22 with (fail)
                go_region
                all_goals
                  go_wp2_with fail
                  go_roundw
                  case rel => exact ⟨n2, k, _, _, by omega, hn2b, rfl, rfl, by go_num, Ht.out, Htb.out, by first | (rw [← HV1.out]; exact (HO1.out _ Hrw.out).drew) | (rw [← HV2.out]; exact (HO2.out _ Hrw.out).drew), ((Hbb.out.setCell Hg.out _).setCell Hg.out _).drew⟩
                  case measure => simp [intOf]
              · have hlk2 : ¬ l = k := fun c => hkl2 c.symm
                go_upto_region 22 with (fail)
                go_region
                all_goals
                  go_wp2_with fail
                  go_roundw
                  case rel => exact ⟨n2, l, _, _, by omega, hn2b, rfl, rfl, by go_num, Ht.out, Htb.out, by first | (rw [← HV1.out]; exact (HO1.out _ Hrw.out).drew) | (rw [← HV2.out]; exact (HO2.out _ Hrw.out).drew), ((Hbb.out.setCell Hg.out _).setCell Hg.out _).drew⟩
                  case measure => simp [intOf]
            · as_aux_lemma =>
                obtain rfl : left = 0 := by omega
                have hli : decide ((0 : Int) < 0) = false := rfl
                have HPa := Lib.hid (show ∀ W, UEnv W → Calls Tryz.prog 16 #[.string tb] W fun e w' => e = .returned (.tuple #[.agg #[.int .i64 cap, .int .i64 pri, .int .i64 spl, .int .i64 dl, .int .i64 mis, .int .i64 keep, .int .i64 lt, .int .i64 lu, .int .i64 bf, .int .i64 bo, .int .i64 bp, .int .i64 rm, .int .i64 rb, .int .i64 rc, .int .i64 rj], .int .i64 0, .int .i64 0]) ∧ Below W.heap.size W w' from fun W E => by have := polParse_any tb (by omega) W E; rw [Lx.ord_parse HOK.out ht htb, HP.out] at this; exact this)
                obtain ⟨t8, ht8⟩ : ∃ t : Nat, t = tw.toNat % 8 := ⟨_, rfl⟩
                have ht8b : t8 < 8 := by omega
                have hmt : ((tw.toNat : Int) % 8) = (t8 : Int) := by omega
                have htw : (tw.toNat : Int) < 256 := by have := tw.toNat_lt; omega
                have hti : (t8 : Int) < 8 := by omega
                obtain ⟨X, hX⟩ : ∃ X, X = Lx.pairB P (σ t8) := ⟨_, rfl⟩
                have hx1 := hrow.cellAt t8 (by omega)
                rw [Lx.prV_at P σ ht8b, ← hX] at hx1
                have hXs : X.size ≤ 409 := by rw [Lib.size_eq, hX]; exact (Lx.pairW_bytes (ht.1 t8 ht8b) HOK.out).2.2
                have HPb := Lib.hid (show ∀ W, UEnv W → Calls Tryz.prog 16 #[.string (tb ++ (⟨#[32]⟩ : ByteArray) ++ X)] W fun e w' => e = .returned (.tuple #[.agg #[.int .i64 0, .int .i64 0, .int .i64 0, .int .i64 0, .int .i64 0, .int .i64 0, .int .i64 0, .int .i64 0, .int .i64 0, .int .i64 0, .int .i64 0, .int .i64 0, .int .i64 0, .int .i64 0, .int .i64 0], .int .i64 8, .int .i64 6]) ∧ Below W.heap.size W w' from fun W E => by have := polParse_any (tb ++ (⟨#[32]⟩ : ByteArray) ++ X) (by rw [ByteArray.size_append, ByteArray.size_append]; have : (⟨#[32]⟩ : ByteArray).size = 1 := rfl; omega) W E; rw [Lx.ord_twice HOK.out ht (ht.1 t8 ht8b) (by rw [ByteArray.data_append, ByteArray.data_append, Array.toList_append, Array.toList_append, htb, hX]; simp [Lx.pairB])] at this; exact this)
                have k1 : (⟨#[32]⟩ : ByteArray).size = 1 := rfl
                have n1 : ¬ (9223372036854775807 < tb.size + 1) := by omega
                have n3 : ¬ (9223372036854775807 < tb.size + 1 + X.size) := by omega
                have HB := Lib.hid (B2.out.trans (hb.mono B2.out.size))
                have HS := Lib.hid (S2.out.low hb)
                have hg8r : g8 < wr.heap.size := (hrow.lt g8 rfl).2
                clear ht htb hrow hb hX ht8
                go_wp2_with fail
                refine (HPa.out _ (E0.out.below HB.out)).mono ?_
                rintro e w4 ⟨rfl, c4⟩
                obtain ⟨g16, hg16⟩ : ∃ g, g = w4.heap.size := ⟨_, rfl⟩
                obtain ⟨W5, hW5⟩ : ∃ W, W = (w4.alloc (.cells #[.int .i64 cap, .int .i64 pri, .int .i64 spl, .int .i64 dl, .int .i64 mis, .int .i64 keep, .int .i64 lt, .int .i64 lu, .int .i64 bf, .int .i64 bo, .int .i64 bp, .int .i64 rm, .int .i64 rb, .int .i64 rc, .int .i64 rj] 29)) := ⟨_, rfl⟩
                have b4 := HB.out.trans (c4.mono HB.out.size)
                have c5 : Below w4.heap.size w4 W5 := by rw [hW5]; exact (Below.refl _ _).alloc (Nat.le_refl _) _
                have S5 := Lib.hid ((HS.out.low c4).low c5)
                have Q5 := Lib.hid (show Lx.PSt g16 W5 W5 P from by rw [hg16, hW5, HP.out]; exact Lx.PSt.new w4 (Nat.le_trans hgl b4.size) ⟨cap, pri, spl, dl, mis, keep, lt, lu, bf, bo, bp, rm, rb, rc, rj⟩)
                have B5 := Lib.hid (b4.trans (c5.mono b4.size))
                have hx5 := (c5.cell (p := ⟨g8, t8, none⟩) (Nat.lt_of_lt_of_le hg8r c4.size)).trans ((c4.cell (p := ⟨g8, t8, none⟩) hg8r).trans hx1)
                have Hx5 := Lib.hid hx5
                clear c4 c5 b4 HS HB hx1 hx5 hg8r
                go_upto_region 24 with (fail)
                rw [show (w4.alloc (.cells #[.int .i64 cap, .int .i64 pri, .int .i64 spl, .int .i64 dl, .int .i64 mis, .int .i64 keep, .int .i64 lt, .int .i64 lu, .int .i64 bf, .int .i64 bo, .int .i64 bp, .int .i64 rm, .int .i64 rb, .int .i64 rc, .int .i64 rj] 29)) = W5 from hW5.symm, ← hg16]
                clear hW5 hg16
                have heq : (Op.equalIn 10000 29 (.agg #[.int .i64 cap, .int .i64 pri, .int .i64 spl, .int .i64 dl, .int .i64 mis, .int .i64 keep, .int .i64 lt, .int .i64 lu, .int .i64 bf, .int .i64 bo, .int .i64 bp, .int .i64 rm, .int .i64 rb, .int .i64 rc, .int .i64 rj]) (.agg #[.int .i64 cap, .int .i64 pri, .int .i64 spl, .int .i64 dl, .int .i64 mis, .int .i64 keep, .int .i64 lt, .int .i64 lu, .int .i64 bf, .int .i64 bo, .int .i64 bp, .int .i64 rm, .int .i64 rb, .int .i64 rc, .int .i64 rj])).run Tryz.prog W5 = .ok true W5 := Heq.out W5
                have u0 : W5.cell? ⟨g16, 0, none⟩ = some (.int .i64 cap) := Q5.out.cell 0 _ (by rw [HP.out]; rfl)
                have u1 : W5.cell? ⟨g16, 1, none⟩ = some (.int .i64 pri) := Q5.out.cell 1 _ (by rw [HP.out]; rfl)
                have u2 : W5.cell? ⟨g16, 2, none⟩ = some (.int .i64 spl) := Q5.out.cell 2 _ (by rw [HP.out]; rfl)
                have u3 : W5.cell? ⟨g16, 3, none⟩ = some (.int .i64 dl) := Q5.out.cell 3 _ (by rw [HP.out]; rfl)
                have u4 : W5.cell? ⟨g16, 4, none⟩ = some (.int .i64 mis) := Q5.out.cell 4 _ (by rw [HP.out]; rfl)
                have u5 : W5.cell? ⟨g16, 5, none⟩ = some (.int .i64 keep) := Q5.out.cell 5 _ (by rw [HP.out]; rfl)
                have u6 : W5.cell? ⟨g16, 6, none⟩ = some (.int .i64 lt) := Q5.out.cell 6 _ (by rw [HP.out]; rfl)
                have u7 : W5.cell? ⟨g16, 7, none⟩ = some (.int .i64 lu) := Q5.out.cell 7 _ (by rw [HP.out]; rfl)
                have u8 : W5.cell? ⟨g16, 8, none⟩ = some (.int .i64 bf) := Q5.out.cell 8 _ (by rw [HP.out]; rfl)
                have u9 : W5.cell? ⟨g16, 9, none⟩ = some (.int .i64 bo) := Q5.out.cell 9 _ (by rw [HP.out]; rfl)
                have u10 : W5.cell? ⟨g16, 10, none⟩ = some (.int .i64 bp) := Q5.out.cell 10 _ (by rw [HP.out]; rfl)
                have u11 : W5.cell? ⟨g16, 11, none⟩ = some (.int .i64 rm) := Q5.out.cell 11 _ (by rw [HP.out]; rfl)
                have u12 : W5.cell? ⟨g16, 12, none⟩ = some (.int .i64 rb) := Q5.out.cell 12 _ (by rw [HP.out]; rfl)
                have u13 : W5.cell? ⟨g16, 13, none⟩ = some (.int .i64 rc) := Q5.out.cell 13 _ (by rw [HP.out]; rfl)
                have u14 : W5.cell? ⟨g16, 14, none⟩ = some (.int .i64 rj) := Q5.out.cell 14 _ (by rw [HP.out]; rfl)
                have v0 : W5.cell? ⟨g3, 0, none⟩ = some (.int .i64 cap) := S5.out.cell 0 _ (by rw [HP.out]; rfl)
                have v1 : W5.cell? ⟨g3, 1, none⟩ = some (.int .i64 pri) := S5.out.cell 1 _ (by rw [HP.out]; rfl)
                have v2 : W5.cell? ⟨g3, 2, none⟩ = some (.int .i64 spl) := S5.out.cell 2 _ (by rw [HP.out]; rfl)
                have v3 : W5.cell? ⟨g3, 3, none⟩ = some (.int .i64 dl) := S5.out.cell 3 _ (by rw [HP.out]; rfl)
                have v4 : W5.cell? ⟨g3, 4, none⟩ = some (.int .i64 mis) := S5.out.cell 4 _ (by rw [HP.out]; rfl)
                have v5 : W5.cell? ⟨g3, 5, none⟩ = some (.int .i64 keep) := S5.out.cell 5 _ (by rw [HP.out]; rfl)
                have v6 : W5.cell? ⟨g3, 6, none⟩ = some (.int .i64 lt) := S5.out.cell 6 _ (by rw [HP.out]; rfl)
                have v7 : W5.cell? ⟨g3, 7, none⟩ = some (.int .i64 lu) := S5.out.cell 7 _ (by rw [HP.out]; rfl)
                have v8 : W5.cell? ⟨g3, 8, none⟩ = some (.int .i64 bf) := S5.out.cell 8 _ (by rw [HP.out]; rfl)
                have v9 : W5.cell? ⟨g3, 9, none⟩ = some (.int .i64 bo) := S5.out.cell 9 _ (by rw [HP.out]; rfl)
                have v10 : W5.cell? ⟨g3, 10, none⟩ = some (.int .i64 bp) := S5.out.cell 10 _ (by rw [HP.out]; rfl)
                have v11 : W5.cell? ⟨g3, 11, none⟩ = some (.int .i64 rm) := S5.out.cell 11 _ (by rw [HP.out]; rfl)
                have v12 : W5.cell? ⟨g3, 12, none⟩ = some (.int .i64 rb) := S5.out.cell 12 _ (by rw [HP.out]; rfl)
                have v13 : W5.cell? ⟨g3, 13, none⟩ = some (.int .i64 rc) := S5.out.cell 13 _ (by rw [HP.out]; rfl)
                have v14 : W5.cell? ⟨g3, 14, none⟩ = some (.int .i64 rj) := S5.out.cell 14 _ (by rw [HP.out]; rfl)
                have hx5 := Hx5.out
                go_upto_region 26 with (fail)
                clear heq u0 u1 u2 u3 u4 u5 u6 u7 u8 u9 u10 u11 u12 u13 u14 v0 v1 v2 v3 v4 v5 v6 v7 v8 v9 v10 v11 v12 v13 v14
                go_wp2_with fail
                refine (HPb.out _ (E0.out.below B5.out)).mono ?_
                rintro e w6 ⟨rfl, c6⟩
                obtain ⟨g19, hg19⟩ : ∃ g, g = w6.heap.size := ⟨_, rfl⟩
                obtain ⟨W7, hW7⟩ : ∃ W, W = w6.alloc (.cells #[.int .i64 0, .int .i64 0, .int .i64 0, .int .i64 0, .int .i64 0, .int .i64 0, .int .i64 0, .int .i64 0, .int .i64 0, .int .i64 0, .int .i64 0, .int .i64 0, .int .i64 0, .int .i64 0, .int .i64 0] 29) := ⟨_, rfl⟩
                have b6 := B5.out.trans (c6.mono B5.out.size)
                have B7 := Lib.hid (show Below w.heap.size w W7 from by rw [hW7]; exact b6.alloc b6.size _)
                have Q7 := Lib.hid (show Lx.PSt g19 W7 W7 Lx.polZ from by rw [hg19, hW7]; exact Lx.PSt.new w6 (Nat.le_trans hgl b6.size) Lx.polZ)
                clear c6 b6 Hx5 hx5
                go_upto_region 27 with (fail)
                rw [show w6.alloc (.cells #[.int .i64 0, .int .i64 0, .int .i64 0, .int .i64 0, .int .i64 0, .int .i64 0, .int .i64 0, .int .i64 0, .int .i64 0, .int .i64 0, .int .i64 0, .int .i64 0, .int .i64 0, .int .i64 0, .int .i64 0] 29) = W7 from hW7.symm, ← hg19]
                clear hW7 hg19
                have heq : (Op.equalIn 10000 29 (.agg #[.int .i64 0, .int .i64 0, .int .i64 0, .int .i64 0, .int .i64 0, .int .i64 0, .int .i64 0, .int .i64 0, .int .i64 0, .int .i64 0, .int .i64 0, .int .i64 0, .int .i64 0, .int .i64 0, .int .i64 0]) (.agg #[.int .i64 0, .int .i64 0, .int .i64 0, .int .i64 0, .int .i64 0, .int .i64 0, .int .i64 0, .int .i64 0, .int .i64 0, .int .i64 0, .int .i64 0, .int .i64 0, .int .i64 0, .int .i64 0, .int .i64 0])).run Tryz.prog W7 = .ok true W7 := HeqZ.out W7
                have u0 : W7.cell? ⟨g19, 0, none⟩ = some (.int .i64 0) := Q7.out.cell 0 _ rfl
                have u1 : W7.cell? ⟨g19, 1, none⟩ = some (.int .i64 0) := Q7.out.cell 1 _ rfl
                have u2 : W7.cell? ⟨g19, 2, none⟩ = some (.int .i64 0) := Q7.out.cell 2 _ rfl
                have u3 : W7.cell? ⟨g19, 3, none⟩ = some (.int .i64 0) := Q7.out.cell 3 _ rfl
                have u4 : W7.cell? ⟨g19, 4, none⟩ = some (.int .i64 0) := Q7.out.cell 4 _ rfl
                have u5 : W7.cell? ⟨g19, 5, none⟩ = some (.int .i64 0) := Q7.out.cell 5 _ rfl
                have u6 : W7.cell? ⟨g19, 6, none⟩ = some (.int .i64 0) := Q7.out.cell 6 _ rfl
                have u7 : W7.cell? ⟨g19, 7, none⟩ = some (.int .i64 0) := Q7.out.cell 7 _ rfl
                have u8 : W7.cell? ⟨g19, 8, none⟩ = some (.int .i64 0) := Q7.out.cell 8 _ rfl
                have u9 : W7.cell? ⟨g19, 9, none⟩ = some (.int .i64 0) := Q7.out.cell 9 _ rfl
                have u10 : W7.cell? ⟨g19, 10, none⟩ = some (.int .i64 0) := Q7.out.cell 10 _ rfl
                have u11 : W7.cell? ⟨g19, 11, none⟩ = some (.int .i64 0) := Q7.out.cell 11 _ rfl
                have u12 : W7.cell? ⟨g19, 12, none⟩ = some (.int .i64 0) := Q7.out.cell 12 _ rfl
                have u13 : W7.cell? ⟨g19, 13, none⟩ = some (.int .i64 0) := Q7.out.cell 13 _ rfl
                have u14 : W7.cell? ⟨g19, 14, none⟩ = some (.int .i64 0) := Q7.out.cell 14 _ rfl
                go_wp2_with fail
                refine (HW.out _ (E0.out.below B7.out)).mono ?_
                rintro e w9 ⟨rfl, c9⟩
                have B9 := Lib.hid (B7.out.trans (c9.mono B7.out.size))
                go_wp2_with fail
                go_ret
                exact ⟨rfl, B9.out⟩
  · have hE : Lx.polE p = 16 := by unfold Lx.polE; rw [if_neg h]
    rw [hE] at HC
    obtain ⟨P, hP⟩ : ∃ P, P = p := ⟨_, rfl⟩
    rw [← hP] at HC S0
    obtain ⟨cap, pri, spl, dl, mis, keep, lt, lu, bf, bo, bp, rm, rb, rc, rj⟩ := p
    have HCp := Lib.hid HC
    unfold Lx.PolV.cells at hW0
    dsimp only at hW0
    clear hE h env HC hP
    show Calls Tryz.prog 12 #[.agg #[.int .i64 cap, .int .i64 pri, .int .i64 spl, .int .i64 dl, .int .i64 mis, .int .i64 keep, .int .i64 lt, .int .i64 lu, .int .i64 bf, .int .i64 bo, .int .i64 bp, .int .i64 rm, .int .i64 rb, .int .i64 rc, .int .i64 rj], .int .u16 by0, .int .u8 tw.toNat] w _
    go_enter Tryz.func12, Tryz.ntmps12
    go_upto_region 1 with (fail)
    rw [show (w.alloc (.cells #[.int .i64 cap, .int .i64 pri, .int .i64 spl, .int .i64 dl, .int .i64 mis, .int .i64 keep, .int .i64 lt, .int .i64 lu, .int .i64 bf, .int .i64 bo, .int .i64 bp, .int .i64 rm, .int .i64 rb, .int .i64 rc, .int .i64 rj] 29)) = W0 from hW0.symm, ← hg3]
    have Hg3 := Lib.hid hg3
    clear hW0 hg3
    go_wp2_with ((with_reducible show wpList _ _ _ _ _ _); refine' Lx.wpList_get _ rfl _ rfl g3 rfl ?_ ?_; any_goals (with_reducible exact S0.out))
    refine (HCp.out _).mono ?_
    rintro e w1 ⟨rfl, c1⟩
    have B1 := Lib.hid (B0.out.trans (c1.mono B0.out.size))
    clear c1 S0 B0
    go_wp2_with fail
    refine (HW.out _ (E0.out.below B1.out)).mono ?_
    rintro e w9 ⟨rfl, c9⟩
    go_wp2_with fail
    go_ret
    exact ⟨rfl, B1.out.trans (c9.mono B1.out.size)⟩

set_option maxRecDepth 100000 in
/-- What the walk gives, for every argument that can be read. -/
theorem contract (H : Type) (enc : TypeId × Value → H) (W : World) (base : Nat) (args : Array Value) (ds gs : List (DataW H)) (before : List MemPlace)
    (hval : ∀ (j : Nat) t v, Tryz.f12.params[j]? = some t → args[j]? = some v → Value.okWide Tryz.prog W .any base t v)
    (hW : DataW.Whole enc Tryz.prog Tryz.f12.params.toList Rows.policyOrderSpec.vars false W args.toList ds gs before) (hL : laidMetH Tryz.prog Rows.policyOrderRow.laid W) (hsh : W.ShapedOpen Tryz.prog) :
    Calls Tryz.prog 12 args W fun e W' => ∃ v, e = .returned v ∧ Rows.policyOrderSpec.post enc Tryz.prog Tryz.f12 false true false false W args v W' := by
  have hW' := hW
  obtain ⟨p, q, hA0, hV, rfl, hfz, hnd⟩ := hW
  have hA : DataW.TrodAll enc Tryz.prog W 0 (fun _ => true) true Tryz.f12.params.toList args.toList ds p := hA0
  rw [Tryz.params12] at hA hval
  obtain ⟨v0, vs0, d0, ds0, p0, q0, hargs, rfl, rfl, h0, r0⟩ := trodAll_cons hA
  obtain ⟨v1, vs1, d1, ds1, p1, q1, rfl, rfl, rfl, h1, r1⟩ := trodAll_cons r0
  obtain ⟨v2, vs2, d2, ds2, p2, q2, rfl, rfl, rfl, h2, r2⟩ := trodAll_cons r1
  obtain ⟨rfl, rfl, rfl⟩ := trodAll_nil r2
  obtain rfl : args = #[v0, v1, v2] := by cases args; simp_all
  obtain ⟨rfl, rfl⟩ := trodVars_none hV
  have k0 := h0
  have lt0 : ∀ x ∈ p0, x.block < W.heap.size := by obtain ⟨m, hm⟩ := k0; exact DataW.trod_lt m _ _ _ hm
  obtain ⟨o0, rfl⟩ := isPol_of (hval 0 29 v0 rfl rfl) h0
  obtain ⟨s1, rfl, rfl, rfl, w1⟩ := open_int Tryz.underlying53 (hval 1 53 v1 rfl rfl) h1
  obtain ⟨s2, rfl, rfl, rfl, w2⟩ := open_int Tryz.underlying5 (hval 2 5 v2 rfl rfl) h2
  clear hA0
  refine (walk o0 s1 w1 s2 w2 W (env_of hL hsh)).mono fun e W' ⟨he, bel⟩ => ?_
  subst he
  exact ⟨_, rfl, _, _, _, [], _, [], hW', trodAll_mk1 (shut_bool Tryz.underlying4 _), (trodAll_cons_mk (Below.trod laidOut (by kernel_rfl) (of_decide_eq_true (by kernel_rfl)) k0 bel lt0) (trodAll_cons_mk (shut_int Tryz.underlying53 w1) (trodAll_cons_mk (shut_int Tryz.underlying5 w2) trodAll_mk0))), rfl, bel.frame _, fun h => by cases h⟩

set_option maxRecDepth 100000 in
theorem reads (os : Os) {H : Type} (enc : TypeId × Value → H) : ∃ places, DataW.whole enc Tryz.prog ((World.laidAll Tryz.prog os Rows.policySetsRow.laid).forCall (fun _ _ => 0) ⟨#[], #[.agg #[.int .i64 0, .int .i64 0, .int .i64 0, .int .i64 0, .int .i64 0, .int .i64 0, .int .i64 0, .int .i64 0, .int .i64 0, .int .i64 0, .int .i64 0, .int .i64 0, .int .i64 0, .int .i64 0, .int .i64 0], .int .u16 0, .int .u8 0], []⟩).memory Tryz.f12.params.toList Rows.policyOrderSpec.vars false (#[.agg #[.int .i64 0, .int .i64 0, .int .i64 0, .int .i64 0, .int .i64 0, .int .i64 0, .int .i64 0, .int .i64 0, .int .i64 0, .int .i64 0, .int .i64 0, .int .i64 0, .int .i64 0, .int .i64 0, .int .i64 0], .int .u16 0, .int .u8 0] : Array Value).toList 8 = some ([.agg [.lit (.int .i64 0), .lit (.int .i64 0), .lit (.int .i64 0), .lit (.int .i64 0), .lit (.int .i64 0), .lit (.int .i64 0), .agg [.lit (.int .i64 0), .lit (.int .i64 0)], .agg [.lit (.int .i64 0), .lit (.int .i64 0), .lit (.int .i64 0)], .agg [.lit (.int .i64 0), .lit (.int .i64 0), .lit (.int .i64 0), .lit (.int .i64 0)]], .lit (.int .u16 0), .lit (.int .u8 0)], [], places) :=
  ⟨[], by kernel_rfl⟩

set_option maxRecDepth 100000 in
theorem lifted (os : Os) (started : os.Started) (H : Type) (enc : TypeId × Value → H) (F : Stop.Interp) :
    ReturnsInHanded {} Tryz.checked os 12 .any ((OpenSpec.ofChange Rows.policyOrderSpec).preRow enc Tryz.prog Tryz.f12 Rows.policyOrderRow.domain false Rows.policyOrderRow.laid) (((OpenSpec.ofChange Rows.policyOrderSpec).at F).post enc Tryz.prog Tryz.f12 false true false false) := by
  obtain ⟨places, hx⟩ := reads os enc
  refine returnsInHanded_of_row (C := Tryz.checked) (s := OpenSpec.ofChange Rows.policyOrderSpec) own started (by kernel_rfl) Tryz.func12
    (witness_row_atRef (enc := enc) (C := Tryz.checked) false (World.laidAll Tryz.prog os Rows.policySetsRow.laid) #[.agg #[.int .i64 0, .int .i64 0, .int .i64 0, .int .i64 0, .int .i64 0, .int .i64 0, .int .i64 0, .int .i64 0, .int .i64 0, .int .i64 0, .int .i64 0, .int .i64 0, .int .i64 0, .int .i64 0, .int .i64 0], .int .u16 0, .int .u8 0] (World.laidAll_os _ _ _) (door_vars os _) (door_rest os _) (by kernel_rfl)
      (OpenSpec.preRow_of_cond 8 hx (by kernel_rfl) (fun k hk => by cases hk) (by kernel_rfl) (door_laid os _))) ?_
  intro W base args ds gs before hval hW _ _ _ hL hsh _
  exact contract H enc W base args ds gs before hval hW hL hsh

theorem said : Rows.PolicyOrderSaid :=
  OpenClaim.holds_of_cond 12 Tryz.f12 rfl rfl rfl rfl rfl rfl rfl ⟨rfl, rfl, rfl, rfl, rfl⟩ rfl rfl rfl rfl rfl (by kernel_rfl) Tryz.func12 (by kernel_rfl)
    (of_decide_eq_true (by kernel_rfl)) (by unfold Func.isWrapper; first | (rw [if_pos (by decide +kernel)]; kernel_rfl) | (rw [if_neg (by decide +kernel)]; exact ⟨rfl, rfl⟩))
    (fun os started H enc _ F => by rw [OpenClaim.pre_eq_preRow]; exact lifted os started H enc F)

theorem plain (f : FuncId) (fn : Func) (hf : Tryz.pinned.checked.prog.funcNamed "wakeman/wakemanlaw14.PolicyOrder" = some f) (hfn : Tryz.pinned.checked.prog.funcs[f]? = some fn) :
    Rows.policyOrderCard.stood.looks = Tryz.pinned.checked.prog.looks [] ∧ ∀ (j : Nat) t, fn.params[j]? = some t → Tryz.pinned.checked.prog.wantsStandIn t = false := by
  obtain rfl : f = 12 := Option.some.inj ((show Tryz.prog.funcNamed "wakeman/wakemanlaw14.PolicyOrder" = some 12 by kernel_rfl).symm.trans hf) |>.symm
  obtain rfl : fn = Tryz.f12 := (Option.some.inj (Tryz.func12.symm.trans hfn)).symm
  refine ⟨by kernel_rfl, fun j t ht => ?_⟩
  rw [Tryz.params12] at ht
  have hm : t ∈ [29, 53, 5] := by
    have := Array.mem_of_getElem? ht
    simpa using this
  have hall : ([29, 53, 5].all fun u => !Tryz.prog.wantsStandIn u) = true := by kernel_rfl
  exact (show Tryz.prog.wantsStandIn t = false by simpa using List.all_eq_true.1 hall t hm)

/-- The card. -/
theorem card : Rows.PolicyOrderCardSaid :=
  Claim7.holds_tied_plain_at .later [] _ _ _ _ said (fun _ h => by cases h) (by kernel_rfl) (fun _ h => by cases h) policyOrder_row_tie rfl ⟨rfl, rfl⟩ (by kernel_rfl) rfl plain (by kernel_rfl)
end Go.Proofs.YtdpjcbijddgpgaaGreatDoor.lawPolicyOrder
