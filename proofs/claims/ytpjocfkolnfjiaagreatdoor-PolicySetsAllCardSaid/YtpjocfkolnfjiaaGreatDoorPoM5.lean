/- Policies: the values of misfire and of limit as texts. (printed by gen_pg.py) Policies: the value of breaker as a text. (printed by gen_pb.py) Policies: the value of retry as a text. (printed by gen_pr.py) Policies: Get, and the function behind each key that says its value. -/
import Derived.Test.YtpjocfkolnfjiaaGreatDoorPoM3
import Derived.Test.YtpjocfkolnfjiaaGreatDoorPoN1
import Derived.Deep.RegionHeld
import Derived.Deep.CutRange
import Derived.Lib.Strings
import Derived.Test.YtpjocfkolnfjiaaGreatDoorPoM2
import Derived.Test.YtpjocfkolnfjiaaGreatDoorShelf2
import Derived.Test.YtpjocfkolnfjiaaGreatDoorPoM4
import Derived.Test.YtpjocfkolnfjiaaGreatDoorPoM1
namespace Go.Proofs.YtpjocfkolnfjiaaGreatDoor
open Go.RowKit

theorem Lx.itoa_len {k : Int} (h0 : 0 < k) (h1 : k ≤ 1000000) : (Lib.itoa k).length ≤ 11 := by
  rw [Lx.itoa_pos (by omega)]; exact Lx.dd_len _ (by omega)
theorem Lx.prnV_len {d : Int} (h : 0 ≤ d ∧ d ≤ 68719476736) : (Lx.prnV d).length ≤ 100 := by
  rw [(Lx.prn_in h).1]; exact Nat.le_trans (Lx.prn_size _ (by omega)) (by omega)
theorem getLimit_any (p : Lx.PolV) (w : World) (env : UEnv w) :
    Calls Tryz.prog 36 #[p.val] w fun e w' => e = .returned (.string ⟨(Lx.valS 5 p).toArray⟩) ∧ Below w.heap.size w w' := by
  obtain ⟨cap, pri, spl, dl, mis, keep, lt, lu, bf, bo, bp, rm, rb, rc, rj⟩ := p
  unfold Lx.PolV.val Lx.valS
  dsimp only at *
  have hb0 : Below w.heap.size w (w.alloc (.cells #[.int .i64 cap, .int .i64 pri, .int .i64 spl, .int .i64 dl, .int .i64 mis, .int .i64 keep, .int .i64 lt, .int .i64 lu, .int .i64 bf, .int .i64 bo, .int .i64 bp, .int .i64 rm, .int .i64 rb, .int .i64 rc, .int .i64 rj] 29)) := (Below.refl _ w).alloc (Nat.le_refl _) _
  have H := Lib.hid (plimit_any lt lu _ (env.below hb0))
  go_enter Tryz.func36, Tryz.ntmps36
  go_wp2_with fail
  refine H.out.mono ?_
  rintro e w1 ⟨rfl, b⟩
  go_wp2_with fail
  go_ret
  exact ⟨rfl, hb0.trans (b.mono hb0.size)⟩
theorem misfires_any (w : World) : Calls Tryz.prog 58 #[] w fun e w' => e = .returned (.slice (some ⟨w.heap.size, 0, none⟩) 3 3) ∧ w' = w.alloc (.cells #[.string ⟨#[100, 114, 111, 112]⟩, .string ⟨#[108, 97, 115, 116]⟩, .string ⟨#[97, 108, 108]⟩] 9) := by
  go_enter Tryz.func58, Tryz.ntmps58
  go_wp2_with fail
  go_ret
  exact ⟨rfl, rfl⟩
theorem Lx.cellR (w : World) (cs : Array Value) (T : TypeId) (j : Nat) (v : Value) (h : cs[j]? = some v) : (w.alloc (.cells cs T)).cell? ⟨w.heap.size, j, none⟩ = some v := by simpa using h
set_option maxRecDepth 100000 in
theorem getMis0_any (p : Lx.PolV) (hm : p.mis = 0) (w : World) :
    Calls Tryz.prog 34 #[p.val] w fun e w' => e = .returned (.string ⟨#[100, 114, 111, 112]⟩) ∧ Below w.heap.size w w' := by
  obtain ⟨cap, pri, spl, dl, mis, keep, lt, lu, bf, bo, bp, rm, rb, rc, rj⟩ := p
  dsimp only at hm
  subst hm
  unfold Lx.PolV.val
  dsimp only
  go_enter Tryz.func34, Tryz.ntmps34
  go_upto_region 3 with (fail)
  obtain ⟨W0, hW0⟩ : ∃ W0, W0 = (w.alloc (.cells #[.int .i64 cap, .int .i64 pri, .int .i64 spl, .int .i64 dl, .int .i64 0, .int .i64 keep, .int .i64 lt, .int .i64 lu, .int .i64 bf, .int .i64 bo, .int .i64 bp, .int .i64 rm, .int .i64 rb, .int .i64 rc, .int .i64 rj] 29)) := ⟨_, rfl⟩
  rw [← hW0]
  have B0 : Below w.heap.size w W0 := by rw [hW0]; exact (Below.refl _ w).alloc (Nat.le_refl _) _
  have hlt : w.heap.size < W0.heap.size := by rw [hW0]; simp
  have q4 : W0.cell? ⟨w.heap.size, 4, none⟩ = some (.int .i64 0) := by rw [hW0]; simp
  have HSS := Lib.hid (show ∀ wx, Below W0.heap.size W0 wx → Below W0.heap.size W0 wx ∧ wx.cell? ⟨w.heap.size, 4, none⟩ = some (.int .i64 0) from fun wx b => ⟨b, (b.cell (p := ⟨w.heap.size, 4, none⟩) hlt).trans q4⟩)
  have hS0 := HSS.out W0.drew (Below.refl _ W0).drew
  clear hW0 q4
  refine wp_region_held_drew (S := (fun wx => Below W0.heap.size W0 wx ∧ wx.cell? ⟨w.heap.size, 4, none⟩ = some (.int .i64 0))) (by kernel_rfl) ?_ (fun hHeld => ?_)
  · exact hS0
  refine' wpAnyH_take (i := 1) (oi := _) (v := _) ?hi1r1 (by kernel_rfl) (by kernel_rfl) (by kernel_rfl) ?hq1r1 ?hy1r1 (by assumption) ?re1r1
  case hi1r1 => simp only [List.getElem?_toArray, List.getElem?_cons_succ, List.getElem?_cons_zero]; rfl
  case hq1r1 => exact fun _ _ _ h => h
  case hy1r1 =>
    refine Or.inl ⟨by rfl, ?_⟩
    intro w hSw; (try dsimp only at hSw); go_simp; try with_reducible rfl
  try simp only [Act.put, List.setIfInBounds_toArray, List.set_cons_zero, List.set_cons_succ]
  refine' wpAnyH_take (i := 2) (oi := _) (v := _) ?hi2r1 (by kernel_rfl) (by kernel_rfl) (by kernel_rfl) ?hq2r1 ?hy2r1 (by assumption) ?re2r1
  case hi2r1 => simp only [List.getElem?_toArray, List.getElem?_cons_succ, List.getElem?_cons_zero]; rfl
  case hq2r1 => exact fun _ _ _ h => h
  case hy2r1 =>
    refine Or.inl ⟨by rfl, ?_⟩
    intro w hSw; (try dsimp only at hSw); go_simp; try with_reducible rfl
  try simp only [Act.put, List.setIfInBounds_toArray, List.set_cons_zero, List.set_cons_succ]
  refine wpAnyH_ready (rs := [0]) (by kernel_rfl) (by simp) ?_
  refine' AllReadyH.cons (o := _) ?hi0r1 (fun K hK => ?st0r1) AllReadyH.nil
  case hi0r1 => simp only [List.getElem?_toArray, List.getElem?_cons_zero]; rfl
  go_simp
  go_at_call 58; refine (misfires_any _).mono ?_; rintro e w8 ⟨rfl, rfl⟩; have r8 : (W0.drew.alloc (.cells #[.string ⟨#[100, 114, 111, 112]⟩, .string ⟨#[108, 97, 115, 116]⟩, .string ⟨#[97, 108, 108]⟩] 9)).cell? ⟨W0.drew.heap.size, 0, none⟩ = some (.string ⟨#[100, 114, 111, 112]⟩) := Lx.cellR _ _ _ _ _ rfl; have k8 := HSS.out (W0.drew.alloc (.cells #[.string ⟨#[100, 114, 111, 112]⟩, .string ⟨#[108, 97, 115, 116]⟩, .string ⟨#[97, 108, 108]⟩] 9)) ((Below.refl _ W0).drew.alloc (Nat.le_refl _) _)
  try go_wp2_with fail
  refine hK.out _ _ ?_ (fun hHeld => ?_)
  · exact k8
  clear hK K
  try simp only [Act.put, List.setIfInBounds_toArray, List.set_cons_zero, List.set_cons_succ]
  refine' wpAnyH_take (i := 3) (oi := _) (v := _) ?hi3r1 (by kernel_rfl) (by kernel_rfl) (by kernel_rfl) ?hq3r1 ?hy3r1 (by assumption) ?re3r1
  case hi3r1 => simp only [List.getElem?_toArray, List.getElem?_cons_succ, List.getElem?_cons_zero]; rfl
  case hq3r1 => exact fun _ _ _ h => h
  case hy3r1 =>
    refine Or.inl ⟨by rfl, ?_⟩
    intro w hSw; (try dsimp only at hSw); go_simp; try with_reducible rfl
  try simp only [Act.put, List.setIfInBounds_toArray, List.set_cons_zero, List.set_cons_succ]
  refine wpAnyH_ready (rs := [4]) (by kernel_rfl) (by simp) ?_
  refine' AllReadyH.cons (o := _) ?hi4r1 (fun K hK => ?st4r1) AllReadyH.nil
  case hi4r1 => simp only [List.getElem?_toArray, List.getElem?_cons_succ, List.getElem?_cons_zero]; rfl
  go_simp
  have k8 := hHeld
  try go_wp2_with fail
  refine hK.out _ _ ?_ (fun hHeld => ?_)
  · exact k8
  clear hK K
  try simp only [Act.put, List.setIfInBounds_toArray, List.set_cons_zero, List.set_cons_succ]
  refine' wpAnyH_take (i := 5) (oi := _) (v := _) ?hi5r1 (by kernel_rfl) (by kernel_rfl) (by kernel_rfl) ?hq5r1 ?hy5r1 (by assumption) ?re5r1
  case hi5r1 => simp only [List.getElem?_toArray, List.getElem?_cons_succ, List.getElem?_cons_zero]; rfl
  case hq5r1 => exact fun _ _ _ h => h
  case hy5r1 =>
    refine Or.inl ⟨by rfl, ?_⟩
    intro w hSw; (try dsimp only at hSw); go_simp; try with_reducible rfl
  try simp only [Act.put, List.setIfInBounds_toArray, List.set_cons_zero, List.set_cons_succ]
  refine wpAnyH_done (by kernel_rfl) ?_ _
  go_wp2_with fail
  go_ret
  exact ⟨rfl, B0.trans (((Below.refl _ W0).drew.alloc (Nat.le_refl _) _).mono B0.size)⟩
set_option maxRecDepth 100000 in
theorem getMis1_any (p : Lx.PolV) (hm : p.mis = 1) (w : World) :
    Calls Tryz.prog 34 #[p.val] w fun e w' => e = .returned (.string ⟨#[108, 97, 115, 116]⟩) ∧ Below w.heap.size w w' := by
  obtain ⟨cap, pri, spl, dl, mis, keep, lt, lu, bf, bo, bp, rm, rb, rc, rj⟩ := p
  dsimp only at hm
  subst hm
  unfold Lx.PolV.val
  dsimp only
  go_enter Tryz.func34, Tryz.ntmps34
  go_upto_region 3 with (fail)
  obtain ⟨W0, hW0⟩ : ∃ W0, W0 = (w.alloc (.cells #[.int .i64 cap, .int .i64 pri, .int .i64 spl, .int .i64 dl, .int .i64 1, .int .i64 keep, .int .i64 lt, .int .i64 lu, .int .i64 bf, .int .i64 bo, .int .i64 bp, .int .i64 rm, .int .i64 rb, .int .i64 rc, .int .i64 rj] 29)) := ⟨_, rfl⟩
  rw [← hW0]
  have B0 : Below w.heap.size w W0 := by rw [hW0]; exact (Below.refl _ w).alloc (Nat.le_refl _) _
  have hlt : w.heap.size < W0.heap.size := by rw [hW0]; simp
  have q4 : W0.cell? ⟨w.heap.size, 4, none⟩ = some (.int .i64 1) := by rw [hW0]; simp
  have HSS := Lib.hid (show ∀ wx, Below W0.heap.size W0 wx → Below W0.heap.size W0 wx ∧ wx.cell? ⟨w.heap.size, 4, none⟩ = some (.int .i64 1) from fun wx b => ⟨b, (b.cell (p := ⟨w.heap.size, 4, none⟩) hlt).trans q4⟩)
  have hS0 := HSS.out W0.drew (Below.refl _ W0).drew
  clear hW0 q4
  refine wp_region_held_drew (S := (fun wx => Below W0.heap.size W0 wx ∧ wx.cell? ⟨w.heap.size, 4, none⟩ = some (.int .i64 1))) (by kernel_rfl) ?_ (fun hHeld => ?_)
  · exact hS0
  refine' wpAnyH_take (i := 1) (oi := _) (v := _) ?hi1r2 (by kernel_rfl) (by kernel_rfl) (by kernel_rfl) ?hq1r2 ?hy1r2 (by assumption) ?re1r2
  case hi1r2 => simp only [List.getElem?_toArray, List.getElem?_cons_succ, List.getElem?_cons_zero]; rfl
  case hq1r2 => exact fun _ _ _ h => h
  case hy1r2 =>
    refine Or.inl ⟨by rfl, ?_⟩
    intro w hSw; (try dsimp only at hSw); go_simp; try with_reducible rfl
  try simp only [Act.put, List.setIfInBounds_toArray, List.set_cons_zero, List.set_cons_succ]
  refine' wpAnyH_take (i := 2) (oi := _) (v := _) ?hi2r2 (by kernel_rfl) (by kernel_rfl) (by kernel_rfl) ?hq2r2 ?hy2r2 (by assumption) ?re2r2
  case hi2r2 => simp only [List.getElem?_toArray, List.getElem?_cons_succ, List.getElem?_cons_zero]; rfl
  case hq2r2 => exact fun _ _ _ h => h
  case hy2r2 =>
    refine Or.inl ⟨by rfl, ?_⟩
    intro w hSw; (try dsimp only at hSw); go_simp; try with_reducible rfl
  try simp only [Act.put, List.setIfInBounds_toArray, List.set_cons_zero, List.set_cons_succ]
  refine wpAnyH_ready (rs := [0]) (by kernel_rfl) (by simp) ?_
  refine' AllReadyH.cons (o := _) ?hi0r2 (fun K hK => ?st0r2) AllReadyH.nil
  case hi0r2 => simp only [List.getElem?_toArray, List.getElem?_cons_zero]; rfl
  go_simp
  go_at_call 58; refine (misfires_any _).mono ?_; rintro e w8 ⟨rfl, rfl⟩; have r8 : (W0.drew.alloc (.cells #[.string ⟨#[100, 114, 111, 112]⟩, .string ⟨#[108, 97, 115, 116]⟩, .string ⟨#[97, 108, 108]⟩] 9)).cell? ⟨W0.drew.heap.size, 1, none⟩ = some (.string ⟨#[108, 97, 115, 116]⟩) := Lx.cellR _ _ _ _ _ rfl; have k8 := HSS.out (W0.drew.alloc (.cells #[.string ⟨#[100, 114, 111, 112]⟩, .string ⟨#[108, 97, 115, 116]⟩, .string ⟨#[97, 108, 108]⟩] 9)) ((Below.refl _ W0).drew.alloc (Nat.le_refl _) _)
  try go_wp2_with fail
  refine hK.out _ _ ?_ (fun hHeld => ?_)
  · exact k8
  clear hK K
  try simp only [Act.put, List.setIfInBounds_toArray, List.set_cons_zero, List.set_cons_succ]
  refine' wpAnyH_take (i := 3) (oi := _) (v := _) ?hi3r2 (by kernel_rfl) (by kernel_rfl) (by kernel_rfl) ?hq3r2 ?hy3r2 (by assumption) ?re3r2
  case hi3r2 => simp only [List.getElem?_toArray, List.getElem?_cons_succ, List.getElem?_cons_zero]; rfl
  case hq3r2 => exact fun _ _ _ h => h
  case hy3r2 =>
    refine Or.inl ⟨by rfl, ?_⟩
    intro w hSw; (try dsimp only at hSw); go_simp; try with_reducible rfl
  try simp only [Act.put, List.setIfInBounds_toArray, List.set_cons_zero, List.set_cons_succ]
  refine wpAnyH_ready (rs := [4]) (by kernel_rfl) (by simp) ?_
  refine' AllReadyH.cons (o := _) ?hi4r2 (fun K hK => ?st4r2) AllReadyH.nil
  case hi4r2 => simp only [List.getElem?_toArray, List.getElem?_cons_succ, List.getElem?_cons_zero]; rfl
  go_simp
  have k8 := hHeld
  try go_wp2_with fail
  refine hK.out _ _ ?_ (fun hHeld => ?_)
  · exact k8
  clear hK K
  try simp only [Act.put, List.setIfInBounds_toArray, List.set_cons_zero, List.set_cons_succ]
  refine' wpAnyH_take (i := 5) (oi := _) (v := _) ?hi5r2 (by kernel_rfl) (by kernel_rfl) (by kernel_rfl) ?hq5r2 ?hy5r2 (by assumption) ?re5r2
  case hi5r2 => simp only [List.getElem?_toArray, List.getElem?_cons_succ, List.getElem?_cons_zero]; rfl
  case hq5r2 => exact fun _ _ _ h => h
  case hy5r2 =>
    refine Or.inl ⟨by rfl, ?_⟩
    intro w hSw; (try dsimp only at hSw); go_simp; try with_reducible rfl
  try simp only [Act.put, List.setIfInBounds_toArray, List.set_cons_zero, List.set_cons_succ]
  refine wpAnyH_done (by kernel_rfl) ?_ _
  go_wp2_with fail
  go_ret
  exact ⟨rfl, B0.trans (((Below.refl _ W0).drew.alloc (Nat.le_refl _) _).mono B0.size)⟩
set_option maxRecDepth 100000 in
theorem getMis2_any (p : Lx.PolV) (hm : p.mis = 2) (w : World) :
    Calls Tryz.prog 34 #[p.val] w fun e w' => e = .returned (.string ⟨#[97, 108, 108]⟩) ∧ Below w.heap.size w w' := by
  obtain ⟨cap, pri, spl, dl, mis, keep, lt, lu, bf, bo, bp, rm, rb, rc, rj⟩ := p
  dsimp only at hm
  subst hm
  unfold Lx.PolV.val
  dsimp only
  go_enter Tryz.func34, Tryz.ntmps34
  go_upto_region 3 with (fail)
  obtain ⟨W0, hW0⟩ : ∃ W0, W0 = (w.alloc (.cells #[.int .i64 cap, .int .i64 pri, .int .i64 spl, .int .i64 dl, .int .i64 2, .int .i64 keep, .int .i64 lt, .int .i64 lu, .int .i64 bf, .int .i64 bo, .int .i64 bp, .int .i64 rm, .int .i64 rb, .int .i64 rc, .int .i64 rj] 29)) := ⟨_, rfl⟩
  rw [← hW0]
  have B0 : Below w.heap.size w W0 := by rw [hW0]; exact (Below.refl _ w).alloc (Nat.le_refl _) _
  have hlt : w.heap.size < W0.heap.size := by rw [hW0]; simp
  have q4 : W0.cell? ⟨w.heap.size, 4, none⟩ = some (.int .i64 2) := by rw [hW0]; simp
  have HSS := Lib.hid (show ∀ wx, Below W0.heap.size W0 wx → Below W0.heap.size W0 wx ∧ wx.cell? ⟨w.heap.size, 4, none⟩ = some (.int .i64 2) from fun wx b => ⟨b, (b.cell (p := ⟨w.heap.size, 4, none⟩) hlt).trans q4⟩)
  have hS0 := HSS.out W0.drew (Below.refl _ W0).drew
  clear hW0 q4
  refine wp_region_held_drew (S := (fun wx => Below W0.heap.size W0 wx ∧ wx.cell? ⟨w.heap.size, 4, none⟩ = some (.int .i64 2))) (by kernel_rfl) ?_ (fun hHeld => ?_)
  · exact hS0
  refine' wpAnyH_take (i := 1) (oi := _) (v := _) ?hi1r3 (by kernel_rfl) (by kernel_rfl) (by kernel_rfl) ?hq1r3 ?hy1r3 (by assumption) ?re1r3
  case hi1r3 => simp only [List.getElem?_toArray, List.getElem?_cons_succ, List.getElem?_cons_zero]; rfl
  case hq1r3 => exact fun _ _ _ h => h
  case hy1r3 =>
    refine Or.inl ⟨by rfl, ?_⟩
    intro w hSw; (try dsimp only at hSw); go_simp; try with_reducible rfl
  try simp only [Act.put, List.setIfInBounds_toArray, List.set_cons_zero, List.set_cons_succ]
  refine' wpAnyH_take (i := 2) (oi := _) (v := _) ?hi2r3 (by kernel_rfl) (by kernel_rfl) (by kernel_rfl) ?hq2r3 ?hy2r3 (by assumption) ?re2r3
  case hi2r3 => simp only [List.getElem?_toArray, List.getElem?_cons_succ, List.getElem?_cons_zero]; rfl
  case hq2r3 => exact fun _ _ _ h => h
  case hy2r3 =>
    refine Or.inl ⟨by rfl, ?_⟩
    intro w hSw; (try dsimp only at hSw); go_simp; try with_reducible rfl
  try simp only [Act.put, List.setIfInBounds_toArray, List.set_cons_zero, List.set_cons_succ]
  refine wpAnyH_ready (rs := [0]) (by kernel_rfl) (by simp) ?_
  refine' AllReadyH.cons (o := _) ?hi0r3 (fun K hK => ?st0r3) AllReadyH.nil
  case hi0r3 => simp only [List.getElem?_toArray, List.getElem?_cons_zero]; rfl
  go_simp
  go_at_call 58; refine (misfires_any _).mono ?_; rintro e w8 ⟨rfl, rfl⟩; have r8 : (W0.drew.alloc (.cells #[.string ⟨#[100, 114, 111, 112]⟩, .string ⟨#[108, 97, 115, 116]⟩, .string ⟨#[97, 108, 108]⟩] 9)).cell? ⟨W0.drew.heap.size, 2, none⟩ = some (.string ⟨#[97, 108, 108]⟩) := Lx.cellR _ _ _ _ _ rfl; have k8 := HSS.out (W0.drew.alloc (.cells #[.string ⟨#[100, 114, 111, 112]⟩, .string ⟨#[108, 97, 115, 116]⟩, .string ⟨#[97, 108, 108]⟩] 9)) ((Below.refl _ W0).drew.alloc (Nat.le_refl _) _)
  try go_wp2_with fail
  refine hK.out _ _ ?_ (fun hHeld => ?_)
  · exact k8
  clear hK K
  try simp only [Act.put, List.setIfInBounds_toArray, List.set_cons_zero, List.set_cons_succ]
  refine' wpAnyH_take (i := 3) (oi := _) (v := _) ?hi3r3 (by kernel_rfl) (by kernel_rfl) (by kernel_rfl) ?hq3r3 ?hy3r3 (by assumption) ?re3r3
  case hi3r3 => simp only [List.getElem?_toArray, List.getElem?_cons_succ, List.getElem?_cons_zero]; rfl
  case hq3r3 => exact fun _ _ _ h => h
  case hy3r3 =>
    refine Or.inl ⟨by rfl, ?_⟩
    intro w hSw; (try dsimp only at hSw); go_simp; try with_reducible rfl
  try simp only [Act.put, List.setIfInBounds_toArray, List.set_cons_zero, List.set_cons_succ]
  refine wpAnyH_ready (rs := [4]) (by kernel_rfl) (by simp) ?_
  refine' AllReadyH.cons (o := _) ?hi4r3 (fun K hK => ?st4r3) AllReadyH.nil
  case hi4r3 => simp only [List.getElem?_toArray, List.getElem?_cons_succ, List.getElem?_cons_zero]; rfl
  go_simp
  have k8 := hHeld
  try go_wp2_with fail
  refine hK.out _ _ ?_ (fun hHeld => ?_)
  · exact k8
  clear hK K
  try simp only [Act.put, List.setIfInBounds_toArray, List.set_cons_zero, List.set_cons_succ]
  refine' wpAnyH_take (i := 5) (oi := _) (v := _) ?hi5r3 (by kernel_rfl) (by kernel_rfl) (by kernel_rfl) ?hq5r3 ?hy5r3 (by assumption) ?re5r3
  case hi5r3 => simp only [List.getElem?_toArray, List.getElem?_cons_succ, List.getElem?_cons_zero]; rfl
  case hq5r3 => exact fun _ _ _ h => h
  case hy5r3 =>
    refine Or.inl ⟨by rfl, ?_⟩
    intro w hSw; (try dsimp only at hSw); go_simp; try with_reducible rfl
  try simp only [Act.put, List.setIfInBounds_toArray, List.set_cons_zero, List.set_cons_succ]
  refine wpAnyH_done (by kernel_rfl) ?_ _
  go_wp2_with fail
  go_ret
  exact ⟨rfl, B0.trans (((Below.refl _ W0).drew.alloc (Nat.le_refl _) _).mono B0.size)⟩
theorem getMis3_any (p : Lx.PolV) (hm : p.mis = 3) (h0 : 0 < p.keep) (h1 : p.keep ≤ 100) (w : World) (env : UEnv w) :
    Calls Tryz.prog 34 #[p.val] w fun e w' => e = .returned (.string ⟨(Lx.someW ++ Lib.itoa p.keep).toArray⟩) ∧ Below w.heap.size w w' := by
  obtain ⟨cap, pri, spl, dl, mis, keep, lt, lu, bf, bo, bp, rm, rb, rc, rj⟩ := p
  dsimp only at hm h0 h1
  subst hm
  unfold Lx.PolV.val
  dsimp only
  have hb0 : Below w.heap.size w (w.alloc (.cells #[.int .i64 cap, .int .i64 pri, .int .i64 spl, .int .i64 dl, .int .i64 3, .int .i64 keep, .int .i64 lt, .int .i64 lu, .int .i64 bf, .int .i64 bo, .int .i64 bp, .int .i64 rm, .int .i64 rb, .int .i64 rc, .int .i64 rj] 29)) := (Below.refl _ w).alloc (Nat.le_refl _) _
  have H := Lib.hid (itoa_any keep (by omega) (by omega) _ (env.below hb0).env)
  obtain ⟨V, hV⟩ : ∃ V : ByteArray, V = ⟨(Lib.itoa keep).toArray⟩ := ⟨_, rfl⟩
  rw [← hV] at H
  have hVs : V.size ≤ 11 := by rw [Lib.size_eq, hV]; exact Lx.itoa_len h0 (by omega)
  have n1 : ¬ (9223372036854775807 < 5 + V.size) := by omega
  have k5 : (⟨#[115, 111, 109, 101, 58]⟩ : ByteArray).size = 5 := rfl
  have HR := Lib.hid (show (⟨#[115, 111, 109, 101, 58]⟩ : ByteArray) ++ V = ⟨(Lx.someW ++ Lib.itoa keep).toArray⟩ from by
    apply ByteArray.ext; apply Array.toList_inj.1
    rw [ByteArray.data_append, hV]; simp [Lx.someW])
  clear hV hVs
  go_enter Tryz.func34, Tryz.ntmps34
  go_wp2_with fail
  refine H.out.mono ?_
  rintro e w1 ⟨rfl, b⟩
  go_wp2_with fail
  go_ret
  exact ⟨by rw [HR.out]; rfl, hb0.trans (b.mono hb0.size)⟩
end Go.Proofs.YtpjocfkolnfjiaaGreatDoor
namespace Go.Proofs.YtpjocfkolnfjiaaGreatDoor
open Go.RowKit

set_option maxRecDepth 100000 in
set_option maxHeartbeats 1600000 in
theorem getBr_any (p : Lx.PolV) (h : Lx.brOk p.bf p.bo p.bp = true) (w : World) (env : UEnv w) :
    Calls Tryz.prog 38 #[p.val] w fun e w' => e = .returned (.string ⟨(Lx.valS 6 p).toArray⟩) ∧ Below w.heap.size w w' := by
  obtain ⟨cap, pri, spl, dl, mis, keep, lt, lu, bf, bo, bp, rm, rb, rc, rj⟩ := p
  unfold Lx.PolV.val Lx.valS
  dsimp only at *
  have heq := eqBr bf bo bp
  obtain ⟨W0, hW0⟩ : ∃ W0, W0 = (w.alloc (.cells #[.int .i64 cap, .int .i64 pri, .int .i64 spl, .int .i64 dl, .int .i64 mis, .int .i64 keep, .int .i64 lt, .int .i64 lu, .int .i64 bf, .int .i64 bo, .int .i64 bp, .int .i64 rm, .int .i64 rb, .int .i64 rc, .int .i64 rj] 29)) := ⟨_, rfl⟩
  have B0 := Lib.hid (show Below w.heap.size w W0 from by rw [hW0]; exact (Below.refl _ w).alloc (Nat.le_refl _) _)
  have hlt : w.heap.size < W0.heap.size := by rw [hW0]; simp
  have q8 : W0.cell? ⟨w.heap.size, 8, none⟩ = some (.int .i64 bf) := by rw [hW0]; simp
  have q9 : W0.cell? ⟨w.heap.size, 9, none⟩ = some (.int .i64 bo) := by rw [hW0]; simp
  have q10 : W0.cell? ⟨w.heap.size, 10, none⟩ = some (.int .i64 bp) := by rw [hW0]; simp
  cases hz : Lx.brZ bf bo bp
  · have hb : (1 ≤ bf ∧ bf ≤ 100) ∧ (1 ≤ bo ∧ bo ≤ 68719476736) ∧ (1 ≤ bp ∧ bp ≤ 100) := by
      unfold Lx.brOk Lx.inI at h
      rw [hz] at h
      simpa using h
    have hs : Lx.brS bf bo bp = Lib.itoa bf ++ [47] ++ Lx.prnV bo ++ [47] ++ Lib.itoa bp := by unfold Lx.brS; rw [if_neg (by rw [hz]; simp)]
    rw [hz] at heq
    have HF := Lib.hid (fun W (E : Env W) => itoa_any bf (by omega) (by omega) W E)
    have HP := Lib.hid (fun W (E : Env W) => itoa_any bp (by omega) (by omega) W E)
    have HO := Lib.hid (fun W (E : UEnv W) => duration_any bo W E)
    obtain ⟨VF, hVF⟩ : ∃ V : ByteArray, V = ⟨(Lib.itoa bf).toArray⟩ := ⟨_, rfl⟩
    obtain ⟨VP, hVP⟩ : ∃ V : ByteArray, V = ⟨(Lib.itoa bp).toArray⟩ := ⟨_, rfl⟩
    obtain ⟨VO, hVO⟩ : ∃ V : ByteArray, V = ⟨(Lx.prnV bo).toArray⟩ := ⟨_, rfl⟩
    rw [← hVF] at HF
    rw [← hVP] at HP
    rw [← hVO] at HO
    have sF : VF.size ≤ 11 := by rw [Lib.size_eq, hVF]; exact Lx.itoa_len (by omega) (by omega)
    have sP : VP.size ≤ 11 := by rw [Lib.size_eq, hVP]; exact Lx.itoa_len (by omega) (by omega)
    have sO : VO.size ≤ 100 := by rw [Lib.size_eq, hVO]; exact Lx.prnV_len (d := bo) ⟨by omega, by omega⟩
    have k1 : (⟨#[47]⟩ : ByteArray).size = 1 := rfl
    have n1 : ¬ (9223372036854775807 < VF.size + 1) := by omega
    have n2 : ¬ (9223372036854775807 < VF.size + 1 + VO.size) := by omega
    have n3 : ¬ (9223372036854775807 < VF.size + 1 + VO.size + 1) := by omega
    have n4 : ¬ (9223372036854775807 < VF.size + 1 + VO.size + 1 + VP.size) := by omega
    have HR := Lib.hid (show VF ++ ⟨#[47]⟩ ++ VO ++ ⟨#[47]⟩ ++ VP = ⟨(Lx.brS bf bo bp).toArray⟩ from by
      apply ByteArray.ext; apply Array.toList_inj.1
      rw [hs, ByteArray.data_append, ByteArray.data_append, ByteArray.data_append, ByteArray.data_append, hVF, hVP, hVO]; simp)
    have HSS := Lib.hid (show ∀ wx, Below W0.heap.size W0 wx → Below W0.heap.size W0 wx ∧ wx.cell? ⟨w.heap.size, 8, none⟩ = some (.int .i64 bf) ∧ wx.cell? ⟨w.heap.size, 9, none⟩ = some (.int .i64 bo) ∧ wx.cell? ⟨w.heap.size, 10, none⟩ = some (.int .i64 bp) from fun wx b => ⟨b, (b.cell (p := ⟨w.heap.size, 8, none⟩) hlt).trans q8, (b.cell (p := ⟨w.heap.size, 9, none⟩) hlt).trans q9, (b.cell (p := ⟨w.heap.size, 10, none⟩) hlt).trans q10⟩)
    have hS0 := HSS.out W0.drew (Below.refl _ W0).drew
    have env0 := env.below B0.out
    clear hVF hVP hVO hs hz h hb sF sP sO
    go_enter Tryz.func38, Tryz.ntmps38
    go_upto_region 1 with (fail)
    rw [← hW0]
    clear hW0
    go_upto_region 3 with (fail)
    clear q8 q9 q10 heq
    refine wp_region_held_drew (S := (fun wx => Below W0.heap.size W0 wx ∧ wx.cell? ⟨w.heap.size, 8, none⟩ = some (.int .i64 bf) ∧ wx.cell? ⟨w.heap.size, 9, none⟩ = some (.int .i64 bo) ∧ wx.cell? ⟨w.heap.size, 10, none⟩ = some (.int .i64 bp))) (by kernel_rfl) ?_ (fun hHeld => ?_)
    · exact hS0
    refine' wpAnyH_take (i := 0) (oi := _) (v := _) ?hi0r1 (by kernel_rfl) (by kernel_rfl) (by kernel_rfl) ?hq0r1 ?hy0r1 (by assumption) ?re0r1
    case hi0r1 => simp only [List.getElem?_toArray, List.getElem?_cons_zero]; rfl
    case hq0r1 => exact fun _ _ _ h => h
    case hy0r1 =>
      refine Or.inl ⟨by rfl, ?_⟩
      intro w hSw; (try dsimp only at hSw); go_simp; try with_reducible rfl
    try simp only [Act.put, List.setIfInBounds_toArray, List.set_cons_zero, List.set_cons_succ]
    refine' wpAnyH_take (i := 1) (oi := _) (v := _) ?hi1r1 (by kernel_rfl) (by kernel_rfl) (by kernel_rfl) ?hq1r1 ?hy1r1 (by assumption) ?re1r1
    case hi1r1 => simp only [List.getElem?_toArray, List.getElem?_cons_succ, List.getElem?_cons_zero]; rfl
    case hq1r1 => exact fun _ _ _ h => h
    case hy1r1 =>
      refine Or.inl ⟨by rfl, ?_⟩
      intro w hSw; (try dsimp only at hSw); go_simp; try with_reducible rfl
    try simp only [Act.put, List.setIfInBounds_toArray, List.set_cons_zero, List.set_cons_succ]
    refine' wpAnyH_take (i := 2) (oi := _) (v := _) ?hi2r1 (by kernel_rfl) (by kernel_rfl) (by kernel_rfl) ?hq2r1 ?hy2r1 (by assumption) ?re2r1
    case hi2r1 => simp only [List.getElem?_toArray, List.getElem?_cons_succ, List.getElem?_cons_zero]; rfl
    case hq2r1 => exact fun _ _ _ h => h
    case hy2r1 =>
      refine Or.inl ⟨by rfl, ?_⟩
      intro w hSw; (try dsimp only at hSw); go_simp; try with_reducible rfl
    try simp only [Act.put, List.setIfInBounds_toArray, List.set_cons_zero, List.set_cons_succ]
    refine' wpAnyH_take (i := 5) (oi := _) (v := _) ?hi5r1 (by kernel_rfl) (by kernel_rfl) (by kernel_rfl) ?hq5r1 ?hy5r1 (by assumption) ?re5r1
    case hi5r1 => simp only [List.getElem?_toArray, List.getElem?_cons_succ, List.getElem?_cons_zero]; rfl
    case hq5r1 => exact fun _ _ _ h => h
    case hy5r1 =>
      refine Or.inl ⟨by rfl, ?_⟩
      intro w hSw; (try dsimp only at hSw); go_simp; try with_reducible rfl
    try simp only [Act.put, List.setIfInBounds_toArray, List.set_cons_zero, List.set_cons_succ]
    refine' wpAnyH_take (i := 6) (oi := _) (v := _) ?hi6r1 (by kernel_rfl) (by kernel_rfl) (by kernel_rfl) ?hq6r1 ?hy6r1 (by assumption) ?re6r1
    case hi6r1 => simp only [List.getElem?_toArray, List.getElem?_cons_succ, List.getElem?_cons_zero]; rfl
    case hq6r1 => exact fun _ _ _ h => h
    case hy6r1 =>
      refine Or.inl ⟨by rfl, ?_⟩
      intro w hSw; (try dsimp only at hSw); go_simp; try with_reducible rfl
    try simp only [Act.put, List.setIfInBounds_toArray, List.set_cons_zero, List.set_cons_succ]
    refine' wpAnyH_take (i := 7) (oi := _) (v := _) ?hi7r1 (by kernel_rfl) (by kernel_rfl) (by kernel_rfl) ?hq7r1 ?hy7r1 (by assumption) ?re7r1
    case hi7r1 => simp only [List.getElem?_toArray, List.getElem?_cons_succ, List.getElem?_cons_zero]; rfl
    case hq7r1 => exact fun _ _ _ h => h
    case hy7r1 =>
      refine Or.inl ⟨by rfl, ?_⟩
      intro w hSw; (try dsimp only at hSw); go_simp; try with_reducible rfl
    try simp only [Act.put, List.setIfInBounds_toArray, List.set_cons_zero, List.set_cons_succ]
    refine' wpAnyH_take (i := 11) (oi := _) (v := _) ?hi11r1 (by kernel_rfl) (by kernel_rfl) (by kernel_rfl) ?hq11r1 ?hy11r1 (by assumption) ?re11r1
    case hi11r1 => simp only [List.getElem?_toArray, List.getElem?_cons_succ, List.getElem?_cons_zero]; rfl
    case hq11r1 => exact fun _ _ _ h => h
    case hy11r1 =>
      refine Or.inl ⟨by rfl, ?_⟩
      intro w hSw; (try dsimp only at hSw); go_simp; try with_reducible rfl
    try simp only [Act.put, List.setIfInBounds_toArray, List.set_cons_zero, List.set_cons_succ]
    refine' wpAnyH_take (i := 12) (oi := _) (v := _) ?hi12r1 (by kernel_rfl) (by kernel_rfl) (by kernel_rfl) ?hq12r1 ?hy12r1 (by assumption) ?re12r1
    case hi12r1 => simp only [List.getElem?_toArray, List.getElem?_cons_succ, List.getElem?_cons_zero]; rfl
    case hq12r1 => exact fun _ _ _ h => h
    case hy12r1 =>
      refine Or.inl ⟨by rfl, ?_⟩
      intro w hSw; (try dsimp only at hSw); go_simp; try with_reducible rfl
    try simp only [Act.put, List.setIfInBounds_toArray, List.set_cons_zero, List.set_cons_succ]
    refine' wpAnyH_take (i := 13) (oi := _) (v := _) ?hi13r1 (by kernel_rfl) (by kernel_rfl) (by kernel_rfl) ?hq13r1 ?hy13r1 (by assumption) ?re13r1
    case hi13r1 => simp only [List.getElem?_toArray, List.getElem?_cons_succ, List.getElem?_cons_zero]; rfl
    case hq13r1 => exact fun _ _ _ h => h
    case hy13r1 =>
      refine Or.inl ⟨by rfl, ?_⟩
      intro w hSw; (try dsimp only at hSw); go_simp; try with_reducible rfl
    try simp only [Act.put, List.setIfInBounds_toArray, List.set_cons_zero, List.set_cons_succ]
    refine wpAnyH_ready (rs := [3]) (by kernel_rfl) (by simp) ?_
    refine' AllReadyH.cons (o := _) ?hi3r1 (fun K hK => ?st3r1) AllReadyH.nil
    case hi3r1 => simp only [List.getElem?_toArray, List.getElem?_cons_succ, List.getElem?_cons_zero]; rfl
    go_simp
    go_at_call 51; refine (HF.out _ (env0.below hHeld.1).env).mono ?_; rintro e w8 ⟨rfl, c8⟩; have k8 := HSS.out _ (hHeld.1.trans (c8.mono hHeld.1.size)); clear c8
    try go_wp2_with fail
    refine hK.out _ _ ?_ (fun hHeld => ?_)
    · exact k8
    clear hK K
    try simp only [Act.put, List.setIfInBounds_toArray, List.set_cons_zero, List.set_cons_succ]
    refine' wpAnyH_take (i := 4) (oi := _) (v := _) ?hi4r1 (by kernel_rfl) (by kernel_rfl) (by kernel_rfl) ?hq4r1 ?hy4r1 (by assumption) ?re4r1
    case hi4r1 => simp only [List.getElem?_toArray, List.getElem?_cons_succ, List.getElem?_cons_zero]; rfl
    case hq4r1 => exact fun _ _ _ h => h
    case hy4r1 =>
      refine Or.inl ⟨by rfl, ?_⟩
      intro w hSw; (try dsimp only at hSw); go_simp; try with_reducible rfl
    try simp only [Act.put, List.setIfInBounds_toArray, List.set_cons_zero, List.set_cons_succ]
    refine wpAnyH_ready (rs := [8]) (by kernel_rfl) (by simp) ?_
    refine' AllReadyH.cons (o := _) ?hi8r1 (fun K hK => ?st8r1) AllReadyH.nil
    case hi8r1 => simp only [List.getElem?_toArray, List.getElem?_cons_succ, List.getElem?_cons_zero]; rfl
    go_simp
    go_at_call 55; refine (HO.out _ (env0.below hHeld.1)).mono ?_; rintro e w8 ⟨rfl, c8⟩; have k8 := HSS.out _ (hHeld.1.trans (c8.mono hHeld.1.size)); clear c8
    try go_wp2_with fail
    refine hK.out _ _ ?_ (fun hHeld => ?_)
    · exact k8
    clear hK K
    try simp only [Act.put, List.setIfInBounds_toArray, List.set_cons_zero, List.set_cons_succ]
    refine' wpAnyH_take (i := 9) (oi := _) (v := _) ?hi9r1 (by kernel_rfl) (by kernel_rfl) (by kernel_rfl) ?hq9r1 ?hy9r1 (by assumption) ?re9r1
    case hi9r1 => simp only [List.getElem?_toArray, List.getElem?_cons_succ, List.getElem?_cons_zero]; rfl
    case hq9r1 => exact fun _ _ _ h => h
    case hy9r1 =>
      refine Or.inl ⟨by rfl, ?_⟩
      intro w hSw; (try dsimp only at hSw); go_simp; try with_reducible rfl
    try simp only [Act.put, List.setIfInBounds_toArray, List.set_cons_zero, List.set_cons_succ]
    refine' wpAnyH_take (i := 10) (oi := _) (v := _) ?hi10r1 (by kernel_rfl) (by kernel_rfl) (by kernel_rfl) ?hq10r1 ?hy10r1 (by assumption) ?re10r1
    case hi10r1 => simp only [List.getElem?_toArray, List.getElem?_cons_succ, List.getElem?_cons_zero]; rfl
    case hq10r1 => exact fun _ _ _ h => h
    case hy10r1 =>
      refine Or.inl ⟨by rfl, ?_⟩
      intro w hSw; (try dsimp only at hSw); go_simp; try with_reducible rfl
    try simp only [Act.put, List.setIfInBounds_toArray, List.set_cons_zero, List.set_cons_succ]
    refine wpAnyH_ready (rs := [14]) (by kernel_rfl) (by simp) ?_
    refine' AllReadyH.cons (o := _) ?hi14r1 (fun K hK => ?st14r1) AllReadyH.nil
    case hi14r1 => simp only [List.getElem?_toArray, List.getElem?_cons_succ, List.getElem?_cons_zero]; rfl
    go_simp
    go_at_call 51; refine (HP.out _ (env0.below hHeld.1).env).mono ?_; rintro e w8 ⟨rfl, c8⟩; have k8 := HSS.out _ (hHeld.1.trans (c8.mono hHeld.1.size)); clear c8
    try go_wp2_with fail
    refine hK.out _ _ ?_ (fun hHeld => ?_)
    · exact k8
    clear hK K
    try simp only [Act.put, List.setIfInBounds_toArray, List.set_cons_zero, List.set_cons_succ]
    refine' wpAnyH_take (i := 15) (oi := _) (v := _) ?hi15r1 (by kernel_rfl) (by kernel_rfl) (by kernel_rfl) ?hq15r1 ?hy15r1 (by assumption) ?re15r1
    case hi15r1 => simp only [List.getElem?_toArray, List.getElem?_cons_succ, List.getElem?_cons_zero]; rfl
    case hq15r1 => exact fun _ _ _ h => h
    case hy15r1 =>
      refine Or.inl ⟨by rfl, ?_⟩
      intro w hSw; (try dsimp only at hSw); go_simp; try with_reducible rfl
    try simp only [Act.put, List.setIfInBounds_toArray, List.set_cons_zero, List.set_cons_succ]
    refine' wpAnyH_take (i := 16) (oi := _) (v := _) ?hi16r1 (by kernel_rfl) (by kernel_rfl) (by kernel_rfl) ?hq16r1 ?hy16r1 (by assumption) ?re16r1
    case hi16r1 => simp only [List.getElem?_toArray, List.getElem?_cons_succ, List.getElem?_cons_zero]; rfl
    case hq16r1 => exact fun _ _ _ h => h
    case hy16r1 =>
      refine Or.inl ⟨by rfl, ?_⟩
      intro w hSw; (try dsimp only at hSw); go_simp; try with_reducible rfl
    try simp only [Act.put, List.setIfInBounds_toArray, List.set_cons_zero, List.set_cons_succ]
    refine wpAnyH_done (by kernel_rfl) ?_ _
    go_wp2_with fail
    go_ret
    exact ⟨by rw [HR.out]; rfl, B0.out.trans (hHeld.1.mono B0.out.size)⟩
  · have hs : Lx.brS bf bo bp = Lx.noneW := by unfold Lx.brS; rw [if_pos hz]
    rw [hz] at heq
    rw [hs]
    clear hz hs h
    go_enter Tryz.func38, Tryz.ntmps38
    go_upto_region 1 with (fail)
    rw [← hW0]
    clear hW0
    go_wp2_with fail
    go_ret
    exact ⟨rfl, B0.out⟩
end Go.Proofs.YtpjocfkolnfjiaaGreatDoor
namespace Go.Proofs.YtpjocfkolnfjiaaGreatDoor
open Go.RowKit

theorem Lx.joinCells (w : World) (a b c d : ByteArray) (T : TypeId) : ∀ (j : Nat) (x : ByteArray), [a, b, c, d][j]? = some x → (w.alloc (.cells #[.string a, .string b, .string c, .string d] T)).cell? ⟨w.heap.size, 0 + j, none⟩ = some (.string x) := by
  intro j x hj
  rw [Nat.zero_add]
  apply Lx.cellR
  match j, hj with
  | 0, hj => simpa using hj
  | 1, hj => simpa using hj
  | 2, hj => simpa using hj
  | 3, hj => simpa using hj
  | j + 4, hj => simp at hj
set_option maxRecDepth 100000 in
set_option maxHeartbeats 1600000 in
theorem getRe_any (p : Lx.PolV) (h : Lx.reOk p.rm p.rb p.rc p.rj = true) (w : World) (env : UEnv w) :
    Calls Tryz.prog 40 #[p.val] w fun e w' => e = .returned (.string ⟨(Lx.valS 7 p).toArray⟩) ∧ Below w.heap.size w w' := by
  obtain ⟨cap, pri, spl, dl, mis, keep, lt, lu, bf, bo, bp, rm, rb, rc, rj⟩ := p
  unfold Lx.PolV.val Lx.valS
  dsimp only at *
  have heq := eqRe rm rb rc rj
  obtain ⟨W1, hW1⟩ : ∃ W1, W1 = (w.alloc (.cells #[.int .i64 cap, .int .i64 pri, .int .i64 spl, .int .i64 dl, .int .i64 mis, .int .i64 keep, .int .i64 lt, .int .i64 lu, .int .i64 bf, .int .i64 bo, .int .i64 bp, .int .i64 rm, .int .i64 rb, .int .i64 rc, .int .i64 rj] 29)).alloc (.cells #[.int .i64 rm, .int .i64 rb, .int .i64 rc, .int .i64 rj] 27) := ⟨_, rfl⟩
  have B1 := Lib.hid (show Below w.heap.size w W1 from by rw [hW1]; exact ((Below.refl _ w).alloc (Nat.le_refl _) _).alloc (by simp) _)
  obtain ⟨g, hg⟩ : ∃ g, g = w.heap.size + 1 := ⟨_, rfl⟩
  have hlt : g < W1.heap.size := by rw [hW1, hg]; simp
  have hsz : (w.alloc (.cells #[.int .i64 cap, .int .i64 pri, .int .i64 spl, .int .i64 dl, .int .i64 mis, .int .i64 keep, .int .i64 lt, .int .i64 lu, .int .i64 bf, .int .i64 bo, .int .i64 bp, .int .i64 rm, .int .i64 rb, .int .i64 rc, .int .i64 rj] 29)).heap.size = w.heap.size + 1 := by simp
  have q0 : W1.cell? ⟨g, 0, none⟩ = some (.int .i64 rm) := by rw [hW1, hg, ← hsz]; exact Lx.cellR _ _ _ _ _ rfl
  have q1 : W1.cell? ⟨g, 1, none⟩ = some (.int .i64 rb) := by rw [hW1, hg, ← hsz]; exact Lx.cellR _ _ _ _ _ rfl
  have q2 : W1.cell? ⟨g, 2, none⟩ = some (.int .i64 rc) := by rw [hW1, hg, ← hsz]; exact Lx.cellR _ _ _ _ _ rfl
  have q3 : W1.cell? ⟨g, 3, none⟩ = some (.int .i64 rj) := by rw [hW1, hg, ← hsz]; exact Lx.cellR _ _ _ _ _ rfl
  clear hsz
  cases hz : Lx.reZ rm rb rc rj
  · have hb : (1 ≤ rm ∧ rm ≤ 20) ∧ (1 ≤ rb ∧ rb ≤ 68719476736) ∧ (rb ≤ rc ∧ rc ≤ 68719476736) ∧ (0 ≤ rj ∧ rj ≤ 68719476736) := by
      unfold Lx.reOk Lx.inI at h
      rw [hz] at h
      simpa using h
    have hs : Lx.reS rm rb rc rj = Lib.itoa rm ++ [47] ++ Lx.prnV rb ++ [47] ++ Lx.prnV rc ++ [47] ++ Lx.prnV rj := by unfold Lx.reS; rw [if_neg (by rw [hz]; simp)]
    rw [hz] at heq
    have H0 := Lib.hid (fun W (E : Env W) => itoa_any rm (by omega) (by omega) W E)
    have H1 := Lib.hid (fun W (E : UEnv W) => duration_any rb W E)
    have H2 := Lib.hid (fun W (E : UEnv W) => duration_any rc W E)
    have H3 := Lib.hid (fun W (E : UEnv W) => duration_any rj W E)
    obtain ⟨V0, hV0⟩ : ∃ V : ByteArray, V = ⟨(Lib.itoa rm).toArray⟩ := ⟨_, rfl⟩
    obtain ⟨V1, hV1⟩ : ∃ V : ByteArray, V = ⟨(Lx.prnV rb).toArray⟩ := ⟨_, rfl⟩
    obtain ⟨V2, hV2⟩ : ∃ V : ByteArray, V = ⟨(Lx.prnV rc).toArray⟩ := ⟨_, rfl⟩
    obtain ⟨V3, hV3⟩ : ∃ V : ByteArray, V = ⟨(Lx.prnV rj).toArray⟩ := ⟨_, rfl⟩
    rw [← hV0] at H0
    rw [← hV1] at H1
    rw [← hV2] at H2
    rw [← hV3] at H3
    have s0 : (Lib.itoa rm).length ≤ 11 := Lx.itoa_len (by omega) (by omega)
    have s1 : (Lx.prnV rb).length ≤ 100 := Lx.prnV_len (d := rb) ⟨by omega, by omega⟩
    have s2 : (Lx.prnV rc).length ≤ 100 := Lx.prnV_len (d := rc) ⟨by omega, by omega⟩
    have s3 : (Lx.prnV rj).length ≤ 100 := Lx.prnV_len (d := rj) ⟨by omega, by omega⟩
    have hj : Lib.join ([V0, V1, V2, V3].map (·.data.toList)) (⟨#[47]⟩ : ByteArray).data.toList = Lx.reS rm rb rc rj := by
      rw [hs, hV0, hV1, hV2, hV3]; simp [Lib.join]
    have hjl : (Lx.reS rm rb rc rj).length ≤ 400 := by rw [hs]; simp; omega
    have HJ := Lib.hid (show ∀ (b : Nat) (W : World), b < W.heap.size → (∀ (j : Nat) (x : ByteArray), [V0, V1, V2, V3][j]? = some x → W.cell? ⟨b, 0 + j, none⟩ = some (.string x)) →
        Calls Tryz.prog 27 #[.slice (some ⟨b, 0, none⟩) 4 4, .string ⟨#[47]⟩] W fun e w' => e = .returned (.string ⟨(Lx.reS rm rb rc rj).toArray⟩) ∧ Below W.heap.size W w' from by
      intro b W hb hc
      have := Tryz.strings_Join b 0 4 [V0, V1, V2, V3] ⟨#[47]⟩ W hc hb (by simp) (by simp) (by rw [hj]; omega)
      rw [hj] at this
      exact this)
    have HSS := Lib.hid (show ∀ wx, Below W1.heap.size W1 wx → Below W1.heap.size W1 wx ∧ wx.cell? ⟨g, 0, none⟩ = some (.int .i64 rm) ∧ wx.cell? ⟨g, 1, none⟩ = some (.int .i64 rb) ∧ wx.cell? ⟨g, 2, none⟩ = some (.int .i64 rc) ∧ wx.cell? ⟨g, 3, none⟩ = some (.int .i64 rj) from fun wx b => ⟨b, (b.cell (p := ⟨g, 0, none⟩) hlt).trans q0, (b.cell (p := ⟨g, 1, none⟩) hlt).trans q1, (b.cell (p := ⟨g, 2, none⟩) hlt).trans q2, (b.cell (p := ⟨g, 3, none⟩) hlt).trans q3⟩)
    have hS0 := HSS.out W1.drew (Below.refl _ W1).drew
    have env1 := env.below B1.out
    clear hV0 hV1 hV2 hV3 hs hz h hb s0 s1 s2 s3 hj hjl
    go_enter Tryz.func40, Tryz.ntmps40
    go_upto_region 2 with (fail)
    rw [← hW1, ← hg]
    clear hW1 hg
    go_upto_region 4 with (fail)
    clear q0 q1 q2 q3 heq
    refine wp_region_held_drew (S := (fun wx => Below W1.heap.size W1 wx ∧ wx.cell? ⟨g, 0, none⟩ = some (.int .i64 rm) ∧ wx.cell? ⟨g, 1, none⟩ = some (.int .i64 rb) ∧ wx.cell? ⟨g, 2, none⟩ = some (.int .i64 rc) ∧ wx.cell? ⟨g, 3, none⟩ = some (.int .i64 rj))) (by kernel_rfl) ?_ (fun hHeld => ?_)
    · exact hS0
    refine' wpAnyH_take (i := 0) (oi := _) (v := _) ?hi0r1 (by kernel_rfl) (by kernel_rfl) (by kernel_rfl) ?hq0r1 ?hy0r1 (by assumption) ?re0r1
    case hi0r1 => simp only [List.getElem?_toArray, List.getElem?_cons_zero]; rfl
    case hq0r1 => exact fun _ _ _ h => h
    case hy0r1 =>
      refine Or.inl ⟨by rfl, ?_⟩
      intro w hSw; (try dsimp only at hSw); go_simp; try with_reducible rfl
    try simp only [Act.put, List.setIfInBounds_toArray, List.set_cons_zero, List.set_cons_succ]
    refine' wpAnyH_take (i := 1) (oi := _) (v := _) ?hi1r1 (by kernel_rfl) (by kernel_rfl) (by kernel_rfl) ?hq1r1 ?hy1r1 (by assumption) ?re1r1
    case hi1r1 => simp only [List.getElem?_toArray, List.getElem?_cons_succ, List.getElem?_cons_zero]; rfl
    case hq1r1 => exact fun _ _ _ h => h
    case hy1r1 =>
      refine Or.inl ⟨by rfl, ?_⟩
      intro w hSw; (try dsimp only at hSw); go_simp; try with_reducible rfl
    try simp only [Act.put, List.setIfInBounds_toArray, List.set_cons_zero, List.set_cons_succ]
    refine' wpAnyH_take (i := 3) (oi := _) (v := _) ?hi3r1 (by kernel_rfl) (by kernel_rfl) (by kernel_rfl) ?hq3r1 ?hy3r1 (by assumption) ?re3r1
    case hi3r1 => simp only [List.getElem?_toArray, List.getElem?_cons_succ, List.getElem?_cons_zero]; rfl
    case hq3r1 => exact fun _ _ _ h => h
    case hy3r1 =>
      refine Or.inl ⟨by rfl, ?_⟩
      intro w hSw; (try dsimp only at hSw); go_simp; try with_reducible rfl
    try simp only [Act.put, List.setIfInBounds_toArray, List.set_cons_zero, List.set_cons_succ]
    refine' wpAnyH_take (i := 4) (oi := _) (v := _) ?hi4r1 (by kernel_rfl) (by kernel_rfl) (by kernel_rfl) ?hq4r1 ?hy4r1 (by assumption) ?re4r1
    case hi4r1 => simp only [List.getElem?_toArray, List.getElem?_cons_succ, List.getElem?_cons_zero]; rfl
    case hq4r1 => exact fun _ _ _ h => h
    case hy4r1 =>
      refine Or.inl ⟨by rfl, ?_⟩
      intro w hSw; (try dsimp only at hSw); go_simp; try with_reducible rfl
    try simp only [Act.put, List.setIfInBounds_toArray, List.set_cons_zero, List.set_cons_succ]
    refine' wpAnyH_take (i := 6) (oi := _) (v := _) ?hi6r1 (by kernel_rfl) (by kernel_rfl) (by kernel_rfl) ?hq6r1 ?hy6r1 (by assumption) ?re6r1
    case hi6r1 => simp only [List.getElem?_toArray, List.getElem?_cons_succ, List.getElem?_cons_zero]; rfl
    case hq6r1 => exact fun _ _ _ h => h
    case hy6r1 =>
      refine Or.inl ⟨by rfl, ?_⟩
      intro w hSw; (try dsimp only at hSw); go_simp; try with_reducible rfl
    try simp only [Act.put, List.setIfInBounds_toArray, List.set_cons_zero, List.set_cons_succ]
    refine' wpAnyH_take (i := 7) (oi := _) (v := _) ?hi7r1 (by kernel_rfl) (by kernel_rfl) (by kernel_rfl) ?hq7r1 ?hy7r1 (by assumption) ?re7r1
    case hi7r1 => simp only [List.getElem?_toArray, List.getElem?_cons_succ, List.getElem?_cons_zero]; rfl
    case hq7r1 => exact fun _ _ _ h => h
    case hy7r1 =>
      refine Or.inl ⟨by rfl, ?_⟩
      intro w hSw; (try dsimp only at hSw); go_simp; try with_reducible rfl
    try simp only [Act.put, List.setIfInBounds_toArray, List.set_cons_zero, List.set_cons_succ]
    refine' wpAnyH_take (i := 9) (oi := _) (v := _) ?hi9r1 (by kernel_rfl) (by kernel_rfl) (by kernel_rfl) ?hq9r1 ?hy9r1 (by assumption) ?re9r1
    case hi9r1 => simp only [List.getElem?_toArray, List.getElem?_cons_succ, List.getElem?_cons_zero]; rfl
    case hq9r1 => exact fun _ _ _ h => h
    case hy9r1 =>
      refine Or.inl ⟨by rfl, ?_⟩
      intro w hSw; (try dsimp only at hSw); go_simp; try with_reducible rfl
    try simp only [Act.put, List.setIfInBounds_toArray, List.set_cons_zero, List.set_cons_succ]
    refine' wpAnyH_take (i := 10) (oi := _) (v := _) ?hi10r1 (by kernel_rfl) (by kernel_rfl) (by kernel_rfl) ?hq10r1 ?hy10r1 (by assumption) ?re10r1
    case hi10r1 => simp only [List.getElem?_toArray, List.getElem?_cons_succ, List.getElem?_cons_zero]; rfl
    case hq10r1 => exact fun _ _ _ h => h
    case hy10r1 =>
      refine Or.inl ⟨by rfl, ?_⟩
      intro w hSw; (try dsimp only at hSw); go_simp; try with_reducible rfl
    try simp only [Act.put, List.setIfInBounds_toArray, List.set_cons_zero, List.set_cons_succ]
    refine wpAnyH_ready (rs := [2]) (by kernel_rfl) (by simp) ?_
    refine' AllReadyH.cons (o := _) ?hi2r1 (fun K hK => ?st2r1) AllReadyH.nil
    case hi2r1 => simp only [List.getElem?_toArray, List.getElem?_cons_succ, List.getElem?_cons_zero]; rfl
    go_simp
    go_at_call 51; refine (H0.out _ (env1.below hHeld.1).env).mono ?_; rintro e w8 ⟨rfl, c8⟩; have k8 := HSS.out _ (hHeld.1.trans (c8.mono hHeld.1.size)); clear c8
    try go_wp2_with fail
    refine hK.out _ _ ?_ (fun hHeld => ?_)
    · exact k8
    clear hK K
    try simp only [Act.put, List.setIfInBounds_toArray, List.set_cons_zero, List.set_cons_succ]
    refine wpAnyH_ready (rs := [5]) (by kernel_rfl) (by simp) ?_
    refine' AllReadyH.cons (o := _) ?hi5r1 (fun K hK => ?st5r1) AllReadyH.nil
    case hi5r1 => simp only [List.getElem?_toArray, List.getElem?_cons_succ, List.getElem?_cons_zero]; rfl
    go_simp
    go_at_call 55; refine (H1.out _ (env1.below hHeld.1)).mono ?_; rintro e w8 ⟨rfl, c8⟩; have k8 := HSS.out _ (hHeld.1.trans (c8.mono hHeld.1.size)); clear c8
    try go_wp2_with fail
    refine hK.out _ _ ?_ (fun hHeld => ?_)
    · exact k8
    clear hK K
    try simp only [Act.put, List.setIfInBounds_toArray, List.set_cons_zero, List.set_cons_succ]
    refine wpAnyH_ready (rs := [8]) (by kernel_rfl) (by simp) ?_
    refine' AllReadyH.cons (o := _) ?hi8r1 (fun K hK => ?st8r1) AllReadyH.nil
    case hi8r1 => simp only [List.getElem?_toArray, List.getElem?_cons_succ, List.getElem?_cons_zero]; rfl
    go_simp
    go_at_call 55; refine (H2.out _ (env1.below hHeld.1)).mono ?_; rintro e w8 ⟨rfl, c8⟩; have k8 := HSS.out _ (hHeld.1.trans (c8.mono hHeld.1.size)); clear c8
    try go_wp2_with fail
    refine hK.out _ _ ?_ (fun hHeld => ?_)
    · exact k8
    clear hK K
    try simp only [Act.put, List.setIfInBounds_toArray, List.set_cons_zero, List.set_cons_succ]
    refine wpAnyH_ready (rs := [11]) (by kernel_rfl) (by simp) ?_
    refine' AllReadyH.cons (o := _) ?hi11r1 (fun K hK => ?st11r1) AllReadyH.nil
    case hi11r1 => simp only [List.getElem?_toArray, List.getElem?_cons_succ, List.getElem?_cons_zero]; rfl
    go_simp
    go_at_call 55; refine (H3.out _ (env1.below hHeld.1)).mono ?_; rintro e w8 ⟨rfl, c8⟩; have k8 := HSS.out _ (hHeld.1.trans (c8.mono hHeld.1.size)); clear c8
    try go_wp2_with fail
    refine hK.out _ _ ?_ (fun hHeld => ?_)
    · exact k8
    clear hK K
    try simp only [Act.put, List.setIfInBounds_toArray, List.set_cons_zero, List.set_cons_succ]
    refine wpAnyH_ready (rs := [12]) (by kernel_rfl) (by simp) ?_
    refine' AllReadyH.cons (o := _) ?hi12r1 (fun K hK => ?st12r1) AllReadyH.nil
    case hi12r1 => simp only [List.getElem?_toArray, List.getElem?_cons_succ, List.getElem?_cons_zero]; rfl
    go_simp
    have k8 := HSS.out (w8.alloc (.cells #[.string V0, .string V1, .string V2, .string V3] 9)) (hHeld.1.alloc hHeld.1.size _)
    try go_wp2_with fail
    refine hK.out _ _ ?_ (fun hHeld => ?_)
    · exact k8
    clear hK K
    try simp only [Act.put, List.setIfInBounds_toArray, List.set_cons_zero, List.set_cons_succ]
    refine wpAnyH_ready (rs := [13]) (by kernel_rfl) (by simp) ?_
    refine' AllReadyH.cons (o := _) ?hi13r1 (fun K hK => ?st13r1) AllReadyH.nil
    case hi13r1 => simp only [List.getElem?_toArray, List.getElem?_cons_succ, List.getElem?_cons_zero]; rfl
    go_simp
    go_at_call 27; refine (HJ.out w8.heap.size (w8.alloc (.cells #[.string V0, .string V1, .string V2, .string V3] 9)) (by simp) (Lx.joinCells w8 V0 V1 V2 V3 _)).mono ?_; rintro e w9 ⟨rfl, c9⟩; have k8 := HSS.out _ (hHeld.1.trans (c9.mono hHeld.1.size)); clear c9
    try go_wp2_with fail
    refine hK.out _ _ ?_ (fun hHeld => ?_)
    · exact k8
    clear hK K
    try simp only [Act.put, List.setIfInBounds_toArray, List.set_cons_zero, List.set_cons_succ]
    refine' wpAnyH_take (i := 14) (oi := _) (v := _) ?hi14r1 (by kernel_rfl) (by kernel_rfl) (by kernel_rfl) ?hq14r1 ?hy14r1 (by assumption) ?re14r1
    case hi14r1 => simp only [List.getElem?_toArray, List.getElem?_cons_succ, List.getElem?_cons_zero]; rfl
    case hq14r1 => exact fun _ _ _ h => h
    case hy14r1 =>
      refine Or.inl ⟨by rfl, ?_⟩
      intro w hSw; (try dsimp only at hSw); go_simp; try with_reducible rfl
    try simp only [Act.put, List.setIfInBounds_toArray, List.set_cons_zero, List.set_cons_succ]
    refine wpAnyH_done (by kernel_rfl) ?_ _
    go_wp2_with fail
    go_ret
    exact ⟨rfl, B1.out.trans (hHeld.1.mono B1.out.size)⟩
  · have hs : Lx.reS rm rb rc rj = Lx.noneW := by unfold Lx.reS; rw [if_pos hz]
    rw [hz] at heq
    rw [hs]
    clear hz hs h
    go_enter Tryz.func40, Tryz.ntmps40
    go_upto_region 2 with (fail)
    rw [← hW1, ← hg]
    clear hW1 hg
    go_wp2_with fail
    go_ret
    exact ⟨rfl, B1.out⟩
end Go.Proofs.YtpjocfkolnfjiaaGreatDoor
namespace Go.Proofs.YtpjocfkolnfjiaaGreatDoor
open Go.RowKit

/-- Misfire of a valid policy. -/
theorem getMis_any (p : Lx.PolV) (h : p.mis = 3 ∧ 1 ≤ p.keep ∧ p.keep ≤ 100 ∨ (0 ≤ p.mis ∧ p.mis ≤ 2) ∧ p.keep = 0) (w : World) (env : UEnv w) :
    Calls Tryz.prog 34 #[p.val] w fun e w' => e = .returned (.string ⟨(Lx.valS 4 p).toArray⟩) ∧ Below w.heap.size w w' := by
  show Calls Tryz.prog 34 #[p.val] w fun e w' => e = .returned (.string ⟨(Lx.misS p.mis p.keep).toArray⟩) ∧ Below w.heap.size w w'
  unfold Lx.misS Lx.misW
  rcases h with ⟨h3, h0, h1⟩ | ⟨⟨h0, h2⟩, _⟩
  · rw [if_pos h3]; exact getMis3_any p h3 (by omega) h1 w env
  · obtain h | h | h : p.mis = 0 ∨ p.mis = 1 ∨ p.mis = 2 := by omega
    · rw [if_neg (by omega), if_pos h]; exact getMis0_any p h w
    · rw [if_neg (by omega), if_neg (by omega), if_pos h]; exact getMis1_any p h w
    · rw [if_neg (by omega), if_neg (by omega), if_neg (by omega)]; exact getMis2_any p h w
theorem Lx.ok_parts {p : Lx.PolV} (h : Lx.polOk p = true) : Lx.brOk p.bf p.bo p.bp = true ∧ Lx.reOk p.rm p.rb p.rc p.rj = true := by
  unfold Lx.polOk at h
  simp at h
  exact ⟨h.2.2.2.1, h.2.2.2.2⟩
theorem Lx.enterF {P : Program} {f : FuncId} {fn : Func} {c : Code} (hf : P.funcs[f]? = some fn) (hname : (fn.name == "runtime.NumGoroutine") = false) (hb : fn.body = some c) (args : Array Value) (w : World) :
    (callFunc f args).run P w = .ok (.enter f args) w := by
  have h1 : fn.name ≠ "runtime.NumGoroutine" := by simpa using hname
  simp [callFunc, hf, h1, hb]
/-- The function behind a key says the key's value. -/
theorem getFn_any {k b1 b2 b3 b4 B : Nat} (hk : k < 8) (w : World) (env : UEnv w) (KB : Lx.KeyBox w B b1 b2 b3 b4) :
    ∃ (F : FuncId) (C : Array Value), Lx.getF b1 b2 b3 b4 k = .func (.func F) #[] C ∧ (∀ (a : Array Value) (W : World), (callFunc F a).run Tryz.prog W = .ok (.enter F a) W) ∧
      ∀ p : Lx.PolV, Lx.polOk p = true → ∀ W, Below w.heap.size w W → Calls Tryz.prog F (#[p.val] ++ C) W fun e w' => e = .returned (.string ⟨(Lx.valS k p).toArray⟩) ∧ Below W.heap.size W w' := by
  obtain h | h | h | h | h | h | h | h : k = 0 ∨ k = 1 ∨ k = 2 ∨ k = 3 ∨ k = 4 ∨ k = 5 ∨ k = 6 ∨ k = 7 := by omega
  · subst h
    refine ⟨50, _, rfl, fun a W => Lx.enterF Tryz.func50 (by kernel_rfl) rfl a W, fun p h W hb => ?_⟩
    obtain ⟨a1, a2, _, _, hmis, _, _, _⟩ := Lx.pol_parts h
    obtain ⟨hbr, hre⟩ := Lx.ok_parts h
    have E := env.below hb
    have K := KB.below hb
    exact numGet1_any p (by omega) (by omega) (b1 + 2) W E (by have := K.n1; omega) K.a2
  · subst h
    refine ⟨50, _, rfl, fun a W => Lx.enterF Tryz.func50 (by kernel_rfl) rfl a W, fun p h W hb => ?_⟩
    obtain ⟨a1, a2, _, _, hmis, _, _, _⟩ := Lx.pol_parts h
    obtain ⟨hbr, hre⟩ := Lx.ok_parts h
    have E := env.below hb
    have K := KB.below hb
    exact numGet2_any p (by omega) (by omega) (b2 + 2) W E (by have := K.n2; omega) K.p2
  · subst h
    refine ⟨54, _, rfl, fun a W => Lx.enterF Tryz.func54 (by kernel_rfl) rfl a W, fun p h W hb => ?_⟩
    obtain ⟨a1, a2, _, _, hmis, _, _, _⟩ := Lx.pol_parts h
    obtain ⟨hbr, hre⟩ := Lx.ok_parts h
    have E := env.below hb
    have K := KB.below hb
    exact timGet3_any p b3 W E K.n3.2 K.s0
  · subst h
    refine ⟨54, _, rfl, fun a W => Lx.enterF Tryz.func54 (by kernel_rfl) rfl a W, fun p h W hb => ?_⟩
    obtain ⟨a1, a2, _, _, hmis, _, _, _⟩ := Lx.pol_parts h
    obtain ⟨hbr, hre⟩ := Lx.ok_parts h
    have E := env.below hb
    have K := KB.below hb
    exact timGet4_any p b4 W E K.n4.2 K.d0
  · subst h
    refine ⟨34, _, rfl, fun a W => Lx.enterF Tryz.func34 (by kernel_rfl) rfl a W, fun p h W hb => ?_⟩
    obtain ⟨a1, a2, _, _, hmis, _, _, _⟩ := Lx.pol_parts h
    obtain ⟨hbr, hre⟩ := Lx.ok_parts h
    have E := env.below hb
    have K := KB.below hb
    exact getMis_any p hmis W E
  · subst h
    refine ⟨36, _, rfl, fun a W => Lx.enterF Tryz.func36 (by kernel_rfl) rfl a W, fun p h W hb => ?_⟩
    obtain ⟨a1, a2, _, _, hmis, _, _, _⟩ := Lx.pol_parts h
    obtain ⟨hbr, hre⟩ := Lx.ok_parts h
    have E := env.below hb
    have K := KB.below hb
    exact getLimit_any p W E
  · subst h
    refine ⟨38, _, rfl, fun a W => Lx.enterF Tryz.func38 (by kernel_rfl) rfl a W, fun p h W hb => ?_⟩
    obtain ⟨a1, a2, _, _, hmis, _, _, _⟩ := Lx.pol_parts h
    obtain ⟨hbr, hre⟩ := Lx.ok_parts h
    have E := env.below hb
    have K := KB.below hb
    exact getBr_any p hbr W E
  · subst h
    refine ⟨40, _, rfl, fun a W => Lx.enterF Tryz.func40 (by kernel_rfl) rfl a W, fun p h W hb => ?_⟩
    obtain ⟨a1, a2, _, _, hmis, _, _, _⟩ := Lx.pol_parts h
    obtain ⟨hbr, hre⟩ := Lx.ok_parts h
    have E := env.below hb
    have K := KB.below hb
    exact getRe_any p hre W E
/-- What Get says. -/
def Lx.getS (p : Lx.PolV) (s : ByteArray) : List UInt8 := if Lx.polOk p = true ∧ Lx.keyIx s.data.toList < 8 then Lx.valS (Lx.keyIx s.data.toList) p else []
def Lx.getE (p : Lx.PolV) (s : ByteArray) : Int := if Lx.polOk p = true then (if Lx.keyIx s.data.toList < 8 then 0 else 15) else 16
set_option maxRecDepth 100000 in
set_option maxHeartbeats 3200000 in
theorem polGet_any (p : Lx.PolV) (s : ByteArray) (w : World) (env : UEnv w) :
    Calls Tryz.prog 7 #[p.val, .string s] w fun e w' => e = .returned (.tuple #[.string ⟨(Lx.getS p s).toArray⟩, .int .i64 (Lx.getE p s)]) ∧ Below w.heap.size w w' := by
  have HC := Lib.hid (fun W => polCheck_any p W)
  obtain ⟨W0, hW0⟩ : ∃ W0, W0 = w.alloc (.cells p.cells.toArray 29) := ⟨_, rfl⟩
  have B0 := Lib.hid (show Below w.heap.size w W0 from by rw [hW0]; exact (Below.refl _ w).alloc (Nat.le_refl _) _)
  have hlt : w.heap.size < W0.heap.size := by rw [hW0]; simp
  have HQ := Lib.hid (show ∀ (wx : World), Below W0.heap.size W0 wx → ∀ (j : Nat) (v : Value), p.cells[j]? = some v → wx.cell? ⟨w.heap.size, j, none⟩ = some v from fun wx b j v hj => (b.cell (p := ⟨w.heap.size, j, none⟩) hlt).trans (by rw [hW0]; exact Lx.cellR _ _ _ _ _ (by rw [List.getElem?_toArray]; exact hj)))
  have HF := Lib.hid (fun W => find_any s W)
  by_cases h : Lx.polOk p = true
  · have hE : Lx.polE p = 0 := by unfold Lx.polE; rw [if_pos h]
    rw [hE] at HC
    have HOK := Lib.hid h
    have HS := Lib.hid (show ∀ k, k < 8 → Lx.keyIx s.data.toList = k → Lx.getS p s = Lx.valS k p ∧ Lx.getE p s = 0 from fun k hk he => by
      unfold Lx.getS Lx.getE; rw [he, if_pos ⟨h, hk⟩, if_pos h, if_pos hk]; exact ⟨rfl, rfl⟩)
    have HN := Lib.hid (show Lx.keyIx s.data.toList = 8 → Lx.getS p s = [] ∧ Lx.getE p s = 15 from fun he => by
      unfold Lx.getS Lx.getE; rw [he, if_neg (fun c => absurd c.2 (by omega)), if_pos h, if_neg (by omega)]; exact ⟨rfl, rfl⟩)
    obtain ⟨P, hP⟩ : ∃ P, P = p := ⟨_, rfl⟩
    rw [← hP] at HOK HS HN HC ⊢
    clear hE h
    obtain ⟨cap, pri, spl, dl, mis, keep, lt, lu, bf, bo, bp, rm, rb, rc, rj⟩ := p
    unfold Lx.PolV.cells at hW0 HQ
    dsimp only at hW0 HQ
    have hPv : P.val = .agg #[.int .i64 cap, .int .i64 pri, .int .i64 spl, .int .i64 dl, .int .i64 mis, .int .i64 keep, .int .i64 lt, .int .i64 lu, .int .i64 bf, .int .i64 bo, .int .i64 bp, .int .i64 rm, .int .i64 rb, .int .i64 rc, .int .i64 rj] := by rw [hP]; rfl
    rw [hPv] at HC ⊢
    go_enter Tryz.func7, Tryz.ntmps7
    go_upto_region 1 with (fail)
    rw [show (w.alloc (.cells #[.int .i64 cap, .int .i64 pri, .int .i64 spl, .int .i64 dl, .int .i64 mis, .int .i64 keep, .int .i64 lt, .int .i64 lu, .int .i64 bf, .int .i64 bo, .int .i64 bp, .int .i64 rm, .int .i64 rb, .int .i64 rc, .int .i64 rj] 29)) = W0 from hW0.symm]
    clear hW0
    have HQ15 := Lib.hid (show ∀ wx, Below W0.heap.size W0 wx → wx.cell? ⟨w.heap.size, 0, none⟩ = some (.int .i64 cap) ∧ wx.cell? ⟨w.heap.size, 1, none⟩ = some (.int .i64 pri) ∧ wx.cell? ⟨w.heap.size, 2, none⟩ = some (.int .i64 spl) ∧ wx.cell? ⟨w.heap.size, 3, none⟩ = some (.int .i64 dl) ∧ wx.cell? ⟨w.heap.size, 4, none⟩ = some (.int .i64 mis) ∧ wx.cell? ⟨w.heap.size, 5, none⟩ = some (.int .i64 keep) ∧ wx.cell? ⟨w.heap.size, 6, none⟩ = some (.int .i64 lt) ∧ wx.cell? ⟨w.heap.size, 7, none⟩ = some (.int .i64 lu) ∧ wx.cell? ⟨w.heap.size, 8, none⟩ = some (.int .i64 bf) ∧ wx.cell? ⟨w.heap.size, 9, none⟩ = some (.int .i64 bo) ∧ wx.cell? ⟨w.heap.size, 10, none⟩ = some (.int .i64 bp) ∧ wx.cell? ⟨w.heap.size, 11, none⟩ = some (.int .i64 rm) ∧ wx.cell? ⟨w.heap.size, 12, none⟩ = some (.int .i64 rb) ∧ wx.cell? ⟨w.heap.size, 13, none⟩ = some (.int .i64 rc) ∧ wx.cell? ⟨w.heap.size, 14, none⟩ = some (.int .i64 rj) from fun wx b => ⟨HQ.out wx b 0 _ rfl, HQ.out wx b 1 _ rfl, HQ.out wx b 2 _ rfl, HQ.out wx b 3 _ rfl, HQ.out wx b 4 _ rfl, HQ.out wx b 5 _ rfl, HQ.out wx b 6 _ rfl, HQ.out wx b 7 _ rfl, HQ.out wx b 8 _ rfl, HQ.out wx b 9 _ rfl, HQ.out wx b 10 _ rfl, HQ.out wx b 11 _ rfl, HQ.out wx b 12 _ rfl, HQ.out wx b 13 _ rfl, HQ.out wx b 14 _ rfl⟩)
    obtain ⟨q0, q1, q2, q3, q4, q5, q6, q7, q8, q9, q10, q11, q12, q13, q14⟩ := HQ15.out W0 (Below.refl _ _)
    clear hP hlt HQ
    go_wp2_with fail
    refine (HC.out _).mono ?_
    rintro e w1 ⟨rfl, c1⟩
    have C1 := Lib.hid c1
    clear q0 q1 q2 q3 q4 q5 q6 q7 q8 q9 q10 q11 q12 q13 q14 c1
    go_wp2_with fail
    refine (HF.out _).mono ?_
    rintro e w2 (⟨hk, rfl, c2⟩ | ⟨k, b1, b2, b3, b4, hk, hx, rfl, kb, c2⟩)
    · obtain ⟨e1, e2⟩ := HN.out hk
      have G1 := Lib.hid e1
      have G2 := Lib.hid e2
      have C2 := Lib.hid (B0.out.trans ((C1.out.trans (c2.mono C1.out.size)).mono B0.out.size))
      clear hk e1 e2 c2 HS HN HF HC
      have g3 : ∀ (q : Addr) (W : World), (store q .nilFunc).run Tryz.prog W = stored Tryz.prog W q .nilFunc .plain := fun q W => run_store Tryz.prog W q _ _ rfl
      go_wp2_with fail
      go_ret2
      exact ⟨by rw [G1.out, G2.out]; rfl, C2.out.alloc C2.out.size _⟩
    · obtain ⟨e1, e2⟩ := HS.out k hk hx
      have G1 := Lib.hid e1
      have G2 := Lib.hid e2
      have D2 := Lib.hid (C1.out.trans (c2.mono C1.out.size))
      obtain ⟨F, C, hF, heg, hG'⟩ := getFn_any hk w2 (env.below (B0.out.trans (D2.out.mono B0.out.size))) kb
      have hG := hG' P HOK.out
      clear hG'
      obtain ⟨SV, hSV⟩ : ∃ G, G = Lx.setF b1 b2 b3 b4 k := ⟨_, rfl⟩
      have one := (Lx.one_fn (b1 := b1) (b2 := b2) (b3 := b3) (b4 := b4) hk).2
      rw [← hSV] at one
      rw [hF, ← hSV]
      obtain ⟨N, hN⟩ : ∃ N : ByteArray, N = ⟨(Lx.keyW k).toArray⟩ := ⟨_, rfl⟩
      obtain ⟨V, hV⟩ : ∃ V : ByteArray, V = ⟨(Lx.valS k P).toArray⟩ := ⟨_, rfl⟩
      rw [← hN]
      rw [← hV, hPv] at hG
      have HV := Lib.hid hV
      have hst : ∀ (q : Addr) (fn : Fn) (f c : Array Value) (W : World), (store q (.func fn f c)).run Tryz.prog W = stored Tryz.prog W q (.func fn f c) .plain := fun q fn f c W => run_store Tryz.prog W q _ _ rfl
      have g2 : ∀ (q : Addr) (W : World), (store q SV).run Tryz.prog W = stored Tryz.prog W q SV .plain := fun q W => run_store Tryz.prog W q _ _ one
      clear hx e1 e2 c2 HS HN HF HC kb C1 hk hF one hSV hN hV
      go_upto_region 7 with (fail)
      obtain ⟨W3, hW3⟩ : ∃ W3, W3 = w2.alloc (.cells #[.string N, .func (.func F) #[] C, SV] 59) := ⟨_, rfl⟩
      rw [← hW3]
      have C3 : Below w2.heap.size w2 W3 := by rw [hW3]; exact (Below.refl _ _).alloc (Nat.le_refl _) _
      have D3 := Lib.hid (D2.out.trans (C3.mono D2.out.size))
      have HG := Lib.hid (hG W3 C3)
      obtain ⟨q0, q1, q2, q3, q4, q5, q6, q7, q8, q9, q10, q11, q12, q13, q14⟩ := HQ15.out W3 D3.out
      have r1 : W3.cell? ⟨w2.heap.size, 1, none⟩ = some (.func (.func F) #[] C) := by rw [hW3]; exact Lx.cellR _ _ _ _ _ rfl
      clear hW3 C3 hG
      go_wp2_with fail
      refine HG.out.mono ?_
      rintro e w4 ⟨rfl, c4⟩
      go_wp2_with fail
      go_ret2
      exact ⟨by rw [G1.out, G2.out, HV.out]; rfl, B0.out.trans ((D3.out.trans (c4.mono D3.out.size)).mono B0.out.size)⟩
  · have hE : Lx.polE p = 16 := by unfold Lx.polE; rw [if_neg h]
    rw [hE] at HC
    have G1 := Lib.hid (show Lx.getS p s = [] from by unfold Lx.getS; rw [if_neg (fun c => h c.1)])
    have G2 := Lib.hid (show Lx.getE p s = 16 from by unfold Lx.getE; rw [if_neg h])
    obtain ⟨P, hP⟩ : ∃ P, P = p := ⟨_, rfl⟩
    rw [← hP] at G1 G2 HC ⊢
    clear hE h
    obtain ⟨cap, pri, spl, dl, mis, keep, lt, lu, bf, bo, bp, rm, rb, rc, rj⟩ := p
    unfold Lx.PolV.cells at hW0 HQ
    dsimp only at hW0 HQ
    have hPv : P.val = .agg #[.int .i64 cap, .int .i64 pri, .int .i64 spl, .int .i64 dl, .int .i64 mis, .int .i64 keep, .int .i64 lt, .int .i64 lu, .int .i64 bf, .int .i64 bo, .int .i64 bp, .int .i64 rm, .int .i64 rb, .int .i64 rc, .int .i64 rj] := by rw [hP]; rfl
    rw [hPv] at HC ⊢
    go_enter Tryz.func7, Tryz.ntmps7
    go_upto_region 1 with (fail)
    rw [show (w.alloc (.cells #[.int .i64 cap, .int .i64 pri, .int .i64 spl, .int .i64 dl, .int .i64 mis, .int .i64 keep, .int .i64 lt, .int .i64 lu, .int .i64 bf, .int .i64 bo, .int .i64 bp, .int .i64 rm, .int .i64 rb, .int .i64 rc, .int .i64 rj] 29)) = W0 from hW0.symm]
    obtain ⟨q0, q1, q2, q3, q4, q5, q6, q7, q8, q9, q10, q11, q12, q13, q14⟩ : W0.cell? ⟨w.heap.size, 0, none⟩ = some (.int .i64 cap) ∧ W0.cell? ⟨w.heap.size, 1, none⟩ = some (.int .i64 pri) ∧ W0.cell? ⟨w.heap.size, 2, none⟩ = some (.int .i64 spl) ∧ W0.cell? ⟨w.heap.size, 3, none⟩ = some (.int .i64 dl) ∧ W0.cell? ⟨w.heap.size, 4, none⟩ = some (.int .i64 mis) ∧ W0.cell? ⟨w.heap.size, 5, none⟩ = some (.int .i64 keep) ∧ W0.cell? ⟨w.heap.size, 6, none⟩ = some (.int .i64 lt) ∧ W0.cell? ⟨w.heap.size, 7, none⟩ = some (.int .i64 lu) ∧ W0.cell? ⟨w.heap.size, 8, none⟩ = some (.int .i64 bf) ∧ W0.cell? ⟨w.heap.size, 9, none⟩ = some (.int .i64 bo) ∧ W0.cell? ⟨w.heap.size, 10, none⟩ = some (.int .i64 bp) ∧ W0.cell? ⟨w.heap.size, 11, none⟩ = some (.int .i64 rm) ∧ W0.cell? ⟨w.heap.size, 12, none⟩ = some (.int .i64 rb) ∧ W0.cell? ⟨w.heap.size, 13, none⟩ = some (.int .i64 rc) ∧ W0.cell? ⟨w.heap.size, 14, none⟩ = some (.int .i64 rj) := ⟨HQ.out W0 (Below.refl _ _) 0 _ rfl, HQ.out W0 (Below.refl _ _) 1 _ rfl, HQ.out W0 (Below.refl _ _) 2 _ rfl, HQ.out W0 (Below.refl _ _) 3 _ rfl, HQ.out W0 (Below.refl _ _) 4 _ rfl, HQ.out W0 (Below.refl _ _) 5 _ rfl, HQ.out W0 (Below.refl _ _) 6 _ rfl, HQ.out W0 (Below.refl _ _) 7 _ rfl, HQ.out W0 (Below.refl _ _) 8 _ rfl, HQ.out W0 (Below.refl _ _) 9 _ rfl, HQ.out W0 (Below.refl _ _) 10 _ rfl, HQ.out W0 (Below.refl _ _) 11 _ rfl, HQ.out W0 (Below.refl _ _) 12 _ rfl, HQ.out W0 (Below.refl _ _) 13 _ rfl, HQ.out W0 (Below.refl _ _) 14 _ rfl⟩
    clear hW0 hP hlt HQ
    go_wp2_with fail
    refine (HC.out _).mono ?_
    rintro e w1 ⟨rfl, c1⟩
    go_wp2_with fail
    go_ret2
    exact ⟨by rw [G1.out, G2.out]; rfl, B0.out.trans (c1.mono B0.out.size)⟩
end Go.Proofs.YtpjocfkolnfjiaaGreatDoor
