/- strconv.Itoa of any number. Policies: what the keys are made of: fields' addresses, numbers and durations read into cells, values that are numbers. Policies: what the functions of the keys do. (printed by gen_pk.py) -/
import Derived.Test.YtpjocfkolnfjiaaGreatDoorShelf
import Derived.Test.YtpjocfkolnfjiaaGreatDoorEnv
import Derived.Lib.ItoaMem
import Derived.Test.YtpjocfkolnfjiaaGreatDoorPoM2
import Derived.Test.YtpjocfkolnfjiaaGreatDoorInt
import Derived.Test.YtpjocfkolnfjiaaGreatDoorUnPrint
import Derived.Test.YtpjocfkolnfjiaaGreatDoorUnSmall
import Derived.Deep.RegionHeld
import Derived.Deep.CutRange
namespace Go.Proofs.YtpjocfkolnfjiaaGreatDoor
open Go.RowKit

theorem itoa_any (y : Int) (h0 : -9223372036854775808 ≤ y) (h1 : y ≤ 9223372036854775807) (w : World) (env : Env w) :
    Calls Tryz.prog 51 #[.int .i64 y] w fun e w' => e = .returned (.string ⟨(Lib.itoa y).toArray⟩) ∧ Below w.heap.size w w' := by
  have := Tryz.strconv_Itoa y h0 h1 w env.pow
  refine this.mono ?_
  rintro e w' ⟨rfl, k, os, rfl⟩
  exact ⟨rfl, ⟨rfl, rfl, rfl, by simp [Sort.grow, World.drewN], fun j hj => by simp [Sort.grow, World.drewN, Array.getElem?_append, hj]⟩⟩
end Go.Proofs.YtpjocfkolnfjiaaGreatDoor
namespace Go.Proofs.YtpjocfkolnfjiaaGreatDoor
open Go.RowKit

theorem keyF1_any (g : Nat) (w : World) : Calls Tryz.prog 29 #[.pointer (some ⟨g, 0, none⟩)] w fun e w' => e = .returned (.pointer (some ⟨g, 0, none⟩)) ∧ w' = w := by
  go_enter Tryz.func29, Tryz.ntmps29
  go_wp2_with fail
  go_ret
  exact ⟨rfl, rfl⟩
theorem keyF2_any (g : Nat) (w : World) : Calls Tryz.prog 30 #[.pointer (some ⟨g, 0, none⟩)] w fun e w' => e = .returned (.pointer (some ⟨g, 1, none⟩)) ∧ w' = w := by
  go_enter Tryz.func30, Tryz.ntmps30
  go_wp2_with fail
  go_ret
  exact ⟨rfl, rfl⟩
theorem keyF3_any (g : Nat) (w : World) : Calls Tryz.prog 32 #[.pointer (some ⟨g, 0, none⟩)] w fun e w' => e = .returned (.pointer (some ⟨g, 2, none⟩)) ∧ w' = w := by
  go_enter Tryz.func32, Tryz.ntmps32
  go_wp2_with fail
  go_ret
  exact ⟨rfl, rfl⟩
theorem keyF4_any (g : Nat) (w : World) : Calls Tryz.prog 33 #[.pointer (some ⟨g, 0, none⟩)] w fun e w' => e = .returned (.pointer (some ⟨g, 3, none⟩)) ∧ w' = w := by
  go_enter Tryz.func33, Tryz.ntmps33
  go_wp2_with fail
  go_ret
  exact ⟨rfl, rfl⟩
theorem duration_any (d : Int) (w : World) (env : UEnv w) : Calls Tryz.prog 55 #[.int .i64 d] w fun e w' => e = .returned (.string ⟨(Lx.prnV d).toArray⟩) ∧ Below w.heap.size w w' := by
  have H := Lib.hid (print_any d w env)
  go_enter Tryz.func55, Tryz.ntmps55
  go_wp2_with fail
  refine H.out.mono ?_
  rintro e w1 ⟨rfl, b⟩
  go_wp2_with fail
  go_ret
  exact ⟨rfl, b⟩
/-- A number, read into a cell. -/
theorem pnumber_any (s : ByteArray) (hs : s.size ≤ 1000000) (lo hi : Int) (g i : Nat) (x : Int) (w : World) (env : UEnv w) (hg : g < w.heap.size) (hc : w.cell? ⟨g, i, none⟩ = some (.int .i64 x)) (hf : w.frozen? ⟨g, i, none⟩ = false) :
    Calls Tryz.prog 53 #[.string s, .int .i64 lo, .int .i64 hi, .pointer (some ⟨g, i, none⟩)] w fun e w' => e = .returned (.int .i64 (Lx.intE s.data.toList lo hi)) ∧ ∃ w1, Below w.heap.size w w1 ∧ w' = w1.setCell ⟨g, i, none⟩ (.int .i64 (Lx.intV s.data.toList lo hi)) := by
  have H := Lib.hid (int_any s lo hi w (by omega) env.env)
  go_enter Tryz.func53, Tryz.ntmps53
  go_wp2_with fail
  refine H.out.mono ?_
  rintro e w1 ⟨rfl, b⟩
  have c1 := (b.cell (p := ⟨g, i, none⟩) hg).trans hc
  have f1 := (b.frozen (p := ⟨g, i, none⟩) hg).trans hf
  go_wp2_with fail
  go_ret
  exact ⟨rfl, w1, b, rfl⟩
/-- A duration, read into a cell. -/
theorem pspan_any (s : ByteArray) (hs : s.size ≤ 1000000) (g i : Nat) (x : Int) (w : World) (env : UEnv w) (hg : g < w.heap.size) (hc : w.cell? ⟨g, i, none⟩ = some (.int .i64 x)) (hf : w.frozen? ⟨g, i, none⟩ = false) :
    Calls Tryz.prog 57 #[.string s, .pointer (some ⟨g, i, none⟩)] w fun e w' => e = .returned (.int .i64 (Lx.parE s.data.toList)) ∧ ∃ w1, Below w.heap.size w w1 ∧ w' = w1.setCell ⟨g, i, none⟩ (.int .i64 (Lx.parV s.data.toList)) := by
  have H := Lib.hid (parse_any s (by omega) w env)
  go_enter Tryz.func57, Tryz.ntmps57
  go_wp2_with fail
  refine H.out.mono ?_
  rintro e w1 ⟨rfl, b⟩
  have c1 := (b.cell (p := ⟨g, i, none⟩) hg).trans hc
  have f1 := (b.frozen (p := ⟨g, i, none⟩) hg).trans hf
  go_wp2_with fail
  go_ret
  exact ⟨rfl, w1, b, rfl⟩
/-- The value of a key that is a number. -/
theorem numGet1_any (p : Lx.PolV) (h0 : -9223372036854775808 ≤ p.cap) (h1 : p.cap ≤ 9223372036854775807) (c : Nat) (w : World) (env : UEnv w) (hg : c < w.heap.size) (hc : w.cell? ⟨c, 0, none⟩ = some (.func (.func 29) #[] #[])) :
    Calls Tryz.prog 50 #[p.val, .pointer (some ⟨c, 0, none⟩)] w fun e w' => e = .returned (.string ⟨(Lx.valS 0 p).toArray⟩) ∧ Below w.heap.size w w' := by
  obtain ⟨cap, pri, spl, dl, mis, keep, lt, lu, bf, bo, bp, rm, rb, rc, rj⟩ := p
  unfold Lx.PolV.val Lx.valS
  dsimp only at *
  have hb0 : Below w.heap.size w (w.alloc (.cells #[.int .i64 cap, .int .i64 pri, .int .i64 spl, .int .i64 dl, .int .i64 mis, .int .i64 keep, .int .i64 lt, .int .i64 lu, .int .i64 bf, .int .i64 bo, .int .i64 bp, .int .i64 rm, .int .i64 rb, .int .i64 rc, .int .i64 rj] 29)) := (Below.refl _ w).alloc (Nat.le_refl _) _
  have H := Lib.hid (itoa_any cap h0 h1 _ (env.below hb0).env)
  have c1 := (hb0.cell (p := ⟨c, 0, none⟩) hg).trans hc
  go_enter Tryz.func50, Tryz.ntmps50
  go_wp2_with (first | (go_at_call 29; refine (keyF1_any _ _).mono ?_; rintro e w7 ⟨rfl, rfl⟩))
  refine H.out.mono ?_
  rintro e w1 ⟨rfl, b⟩
  go_wp2_with fail
  go_ret
  exact ⟨rfl, hb0.trans (b.mono hb0.size)⟩
end Go.Proofs.YtpjocfkolnfjiaaGreatDoor
namespace Go.Proofs.YtpjocfkolnfjiaaGreatDoor
open Go.RowKit

theorem numGet2_any (p : Lx.PolV) (h0 : -9223372036854775808 ≤ p.pri) (h1 : p.pri ≤ 9223372036854775807) (c : Nat) (w : World) (env : UEnv w) (hg : c < w.heap.size) (hc : w.cell? ⟨c, 0, none⟩ = some (.func (.func 30) #[] #[])) :
    Calls Tryz.prog 50 #[p.val, .pointer (some ⟨c, 0, none⟩)] w fun e w' => e = .returned (.string ⟨(Lx.valS 1 p).toArray⟩) ∧ Below w.heap.size w w' := by
  obtain ⟨cap, pri, spl, dl, mis, keep, lt, lu, bf, bo, bp, rm, rb, rc, rj⟩ := p
  unfold Lx.PolV.val Lx.valS
  dsimp only at *
  have hb0 : Below w.heap.size w (w.alloc (.cells #[.int .i64 cap, .int .i64 pri, .int .i64 spl, .int .i64 dl, .int .i64 mis, .int .i64 keep, .int .i64 lt, .int .i64 lu, .int .i64 bf, .int .i64 bo, .int .i64 bp, .int .i64 rm, .int .i64 rb, .int .i64 rc, .int .i64 rj] 29)) := (Below.refl _ w).alloc (Nat.le_refl _) _
  have H := Lib.hid (itoa_any pri h0 h1 _ (env.below hb0).env)
  have c1 := (hb0.cell (p := ⟨c, 0, none⟩) hg).trans hc
  go_enter Tryz.func50, Tryz.ntmps50
  go_wp2_with (first | (go_at_call 30; refine (keyF2_any _ _).mono ?_; rintro e w7 ⟨rfl, rfl⟩))
  refine H.out.mono ?_
  rintro e w1 ⟨rfl, b⟩
  go_wp2_with fail
  go_ret
  exact ⟨rfl, hb0.trans (b.mono hb0.size)⟩
theorem timGet3_any (p : Lx.PolV) (c : Nat) (w : World) (env : UEnv w) (hg : c < w.heap.size) (hc : w.cell? ⟨c, 0, none⟩ = some (.func (.func 32) #[] #[])) :
    Calls Tryz.prog 54 #[p.val, .pointer (some ⟨c, 0, none⟩)] w fun e w' => e = .returned (.string ⟨(Lx.valS 2 p).toArray⟩) ∧ Below w.heap.size w w' := by
  obtain ⟨cap, pri, spl, dl, mis, keep, lt, lu, bf, bo, bp, rm, rb, rc, rj⟩ := p
  unfold Lx.PolV.val Lx.valS
  dsimp only at *
  have hb0 : Below w.heap.size w (w.alloc (.cells #[.int .i64 cap, .int .i64 pri, .int .i64 spl, .int .i64 dl, .int .i64 mis, .int .i64 keep, .int .i64 lt, .int .i64 lu, .int .i64 bf, .int .i64 bo, .int .i64 bp, .int .i64 rm, .int .i64 rb, .int .i64 rc, .int .i64 rj] 29)) := (Below.refl _ w).alloc (Nat.le_refl _) _
  have H := Lib.hid (duration_any spl _ (env.below hb0))
  have c1 := (hb0.cell (p := ⟨c, 0, none⟩) hg).trans hc
  go_enter Tryz.func54, Tryz.ntmps54
  go_wp2_with (first | (go_at_call 32; refine (keyF3_any _ _).mono ?_; rintro e w7 ⟨rfl, rfl⟩))
  refine H.out.mono ?_
  rintro e w1 ⟨rfl, b⟩
  go_wp2_with fail
  go_ret
  exact ⟨rfl, hb0.trans (b.mono hb0.size)⟩
theorem timGet4_any (p : Lx.PolV) (c : Nat) (w : World) (env : UEnv w) (hg : c < w.heap.size) (hc : w.cell? ⟨c, 0, none⟩ = some (.func (.func 33) #[] #[])) :
    Calls Tryz.prog 54 #[p.val, .pointer (some ⟨c, 0, none⟩)] w fun e w' => e = .returned (.string ⟨(Lx.valS 3 p).toArray⟩) ∧ Below w.heap.size w w' := by
  obtain ⟨cap, pri, spl, dl, mis, keep, lt, lu, bf, bo, bp, rm, rb, rc, rj⟩ := p
  unfold Lx.PolV.val Lx.valS
  dsimp only at *
  have hb0 : Below w.heap.size w (w.alloc (.cells #[.int .i64 cap, .int .i64 pri, .int .i64 spl, .int .i64 dl, .int .i64 mis, .int .i64 keep, .int .i64 lt, .int .i64 lu, .int .i64 bf, .int .i64 bo, .int .i64 bp, .int .i64 rm, .int .i64 rb, .int .i64 rc, .int .i64 rj] 29)) := (Below.refl _ w).alloc (Nat.le_refl _) _
  have H := Lib.hid (duration_any dl _ (env.below hb0))
  have c1 := (hb0.cell (p := ⟨c, 0, none⟩) hg).trans hc
  go_enter Tryz.func54, Tryz.ntmps54
  go_wp2_with (first | (go_at_call 33; refine (keyF4_any _ _).mono ?_; rintro e w7 ⟨rfl, rfl⟩))
  refine H.out.mono ?_
  rintro e w1 ⟨rfl, b⟩
  go_wp2_with fail
  go_ret
  exact ⟨rfl, hb0.trans (b.mono hb0.size)⟩
theorem timSet3_any (g c : Nat) (x : Int) (s : ByteArray) (hs : s.size ≤ 1000000) (w : World) (env : UEnv w) (hg : g < w.heap.size) (hx : w.cell? ⟨g, 2, none⟩ = some (.int .i64 x)) (hf : w.frozen? ⟨g, 2, none⟩ = false)
    (hc : w.cell? ⟨c, 0, none⟩ = some (.func (.func 32) #[] #[])) :
    Calls Tryz.prog 56 #[.pointer (some ⟨g, 0, none⟩), .string s, .pointer (some ⟨c, 0, none⟩)] w fun e w' => e = .returned (.int .i64 (Lx.parE s.data.toList)) ∧ ∃ w1, Below w.heap.size w w1 ∧ w' = w1.setCell ⟨g, 2, none⟩ (.int .i64 (Lx.parV s.data.toList)) := by
  have H := Lib.hid (pspan_any s hs g 2 x w env hg hx hf)
  go_enter Tryz.func56, Tryz.ntmps56
  go_wp2_with (first | (go_at_call 32; refine (keyF3_any _ _).mono ?_; rintro e w7 ⟨rfl, rfl⟩))
  refine H.out.mono ?_
  rintro e w1 ⟨rfl, w2, b, rfl⟩
  go_wp2_with fail
  go_ret
  exact ⟨rfl, w2, b, rfl⟩
theorem timSet4_any (g c : Nat) (x : Int) (s : ByteArray) (hs : s.size ≤ 1000000) (w : World) (env : UEnv w) (hg : g < w.heap.size) (hx : w.cell? ⟨g, 3, none⟩ = some (.int .i64 x)) (hf : w.frozen? ⟨g, 3, none⟩ = false)
    (hc : w.cell? ⟨c, 0, none⟩ = some (.func (.func 33) #[] #[])) :
    Calls Tryz.prog 56 #[.pointer (some ⟨g, 0, none⟩), .string s, .pointer (some ⟨c, 0, none⟩)] w fun e w' => e = .returned (.int .i64 (Lx.parE s.data.toList)) ∧ ∃ w1, Below w.heap.size w w1 ∧ w' = w1.setCell ⟨g, 3, none⟩ (.int .i64 (Lx.parV s.data.toList)) := by
  have H := Lib.hid (pspan_any s hs g 3 x w env hg hx hf)
  go_enter Tryz.func56, Tryz.ntmps56
  go_wp2_with (first | (go_at_call 33; refine (keyF4_any _ _).mono ?_; rintro e w7 ⟨rfl, rfl⟩))
  refine H.out.mono ?_
  rintro e w1 ⟨rfl, w2, b, rfl⟩
  go_wp2_with fail
  go_ret
  exact ⟨rfl, w2, b, rfl⟩
theorem numSet1_any (g b5 b6 b7 : Nat) (lo hi x : Int) (s : ByteArray) (hs : s.size ≤ 1000000) (w : World) (env : UEnv w) (hg : g < w.heap.size) (hx : w.cell? ⟨g, 0, none⟩ = some (.int .i64 x)) (hf : w.frozen? ⟨g, 0, none⟩ = false)
    (l5 : w.cell? ⟨b5, 0, none⟩ = some (.int .i64 lo)) (l6 : w.cell? ⟨b6, 0, none⟩ = some (.int .i64 hi)) (l7 : w.cell? ⟨b7, 0, none⟩ = some (.func (.func 29) #[] #[])) (h5 : b5 < w.heap.size ∧ b5 ≠ g) (h6 : b6 < w.heap.size ∧ b6 ≠ g) (h7 : b7 < w.heap.size ∧ b7 ≠ g) :
    Calls Tryz.prog 52 #[.pointer (some ⟨g, 0, none⟩), .string s, .pointer (some ⟨b5, 0, none⟩), .pointer (some ⟨b6, 0, none⟩), .pointer (some ⟨b7, 0, none⟩)] w fun e w' => e = .returned (.int .i64 (Lx.intE s.data.toList lo hi)) ∧ ∃ w1, Below w.heap.size w w1 ∧ w' = w1.setCell ⟨g, 0, none⟩ (.int .i64 (Lx.intV s.data.toList lo hi)) := by
  have HS := Lib.hid (show ∀ w9, Below w.heap.size w w9 → (w9.setCell ⟨g, 0, none⟩ (.int .i64 (Lx.intV s.data.toList lo hi))).cell? ⟨b5, 0, none⟩ = some (.int .i64 lo) ∧ (w9.setCell ⟨g, 0, none⟩ (.int .i64 (Lx.intV s.data.toList lo hi))).cell? ⟨b6, 0, none⟩ = some (.int .i64 hi) ∧ (w9.setCell ⟨g, 0, none⟩ (.int .i64 (Lx.intV s.data.toList lo hi))).cell? ⟨b7, 0, none⟩ = some (.func (.func 29) #[] #[]) from fun w9 b9 => by
    have e : ∀ b, b < w.heap.size ∧ b ≠ g → (w9.setCell ⟨g, 0, none⟩ (.int .i64 (Lx.intV s.data.toList lo hi))).cell? ⟨b, 0, none⟩ = w.cell? ⟨b, 0, none⟩ := fun b hb => by
      rw [World.cell?_setCell_other _ _ _ _ (by intro c; injection c with c1 _ _; first | exact hb.2 c1 | exact hb.2 c1.symm)]
      exact b9.cell (p := ⟨b, 0, none⟩) hb.1
    exact ⟨(e b5 h5).trans l5, (e b6 h6).trans l6, (e b7 h7).trans l7⟩)
  go_enter Tryz.func52, Tryz.ntmps52
  go_upto_region 1 with (fail)
  refine wp_region_held_drew (S := (fun wx => wx.cell? ⟨b5, 0, none⟩ = some (.int .i64 lo) ∧ wx.cell? ⟨b6, 0, none⟩ = some (.int .i64 hi) ∧ wx.cell? ⟨b7, 0, none⟩ = some (.func (.func 29) #[] #[]))) (by kernel_rfl) ?_ (fun hHeld => ?_)
  · exact ⟨l5, l6, l7⟩
  refine' wpAnyH_take (i := 0) (oi := _) (v := _) ?hi0r1 (by kernel_rfl) (by kernel_rfl) (by kernel_rfl) ?hq0r1 ?hy0r1 (by assumption) ?re0r1
  case hi0r1 => simp only [List.getElem?_toArray, List.getElem?_cons_zero]; rfl
  case hq0r1 => exact fun _ _ _ h => h
  case hy0r1 =>
    refine Or.inl ⟨by rfl, ?_⟩
    intro w hSw; (try dsimp only at hSw); go_simp; try with_reducible rfl
  try simp only [Act.put, List.setIfInBounds_toArray, List.set_cons_zero, List.set_cons_succ]
  refine' wpAnyH_take (i := 1) (oi := _) (v := _) ?hi1r1 (by kernel_rfl) (by kernel_rfl) (by kernel_rfl) ?hq1r1 ?hy1r1 (by assumption) ?re1r1
  case hi1r1 => simp only [List.getElem?_toArray, List.getElem?_cons_succ, List.getElem?_cons_zero]; rfl
  case hq1r1 => exact fun _ _ _ h => h
  case hy1r1 =>
    refine Or.inl ⟨by rfl, ?_⟩
    intro w hSw; (try dsimp only at hSw); go_simp; try with_reducible rfl
  try simp only [Act.put, List.setIfInBounds_toArray, List.set_cons_zero, List.set_cons_succ]
  refine' wpAnyH_take (i := 2) (oi := _) (v := _) ?hi2r1 (by kernel_rfl) (by kernel_rfl) (by kernel_rfl) ?hq2r1 ?hy2r1 (by assumption) ?re2r1
  case hi2r1 => simp only [List.getElem?_toArray, List.getElem?_cons_succ, List.getElem?_cons_zero]; rfl
  case hq2r1 => exact fun _ _ _ h => h
  case hy2r1 =>
    refine Or.inl ⟨by rfl, ?_⟩
    intro w hSw; (try dsimp only at hSw); go_simp; try with_reducible rfl
  try simp only [Act.put, List.setIfInBounds_toArray, List.set_cons_zero, List.set_cons_succ]
  refine' wpAnyH_take (i := 3) (oi := _) (v := _) ?hi3r1 (by kernel_rfl) (by kernel_rfl) (by kernel_rfl) ?hq3r1 ?hy3r1 (by assumption) ?re3r1
  case hi3r1 => simp only [List.getElem?_toArray, List.getElem?_cons_succ, List.getElem?_cons_zero]; rfl
  case hq3r1 => exact fun _ _ _ h => h
  case hy3r1 =>
    refine Or.inl ⟨by rfl, ?_⟩
    intro w hSw; (try dsimp only at hSw); go_simp; try with_reducible rfl
  try simp only [Act.put, List.setIfInBounds_toArray, List.set_cons_zero, List.set_cons_succ]
  refine' wpAnyH_take (i := 4) (oi := _) (v := _) ?hi4r1 (by kernel_rfl) (by kernel_rfl) (by kernel_rfl) ?hq4r1 ?hy4r1 (by assumption) ?re4r1
  case hi4r1 => simp only [List.getElem?_toArray, List.getElem?_cons_succ, List.getElem?_cons_zero]; rfl
  case hq4r1 => exact fun _ _ _ h => h
  case hy4r1 =>
    refine Or.inl ⟨by rfl, ?_⟩
    intro w hSw; (try dsimp only at hSw); go_simp; try with_reducible rfl
  try simp only [Act.put, List.setIfInBounds_toArray, List.set_cons_zero, List.set_cons_succ]
  refine wpAnyH_ready (rs := [5]) (by kernel_rfl) (by simp) ?_
  refine' AllReadyH.cons (o := _) ?hi5r1 (fun K hK => ?st5r1) AllReadyH.nil
  case hi5r1 => simp only [List.getElem?_toArray, List.getElem?_cons_succ, List.getElem?_cons_zero]; rfl
  go_simp
  go_at_call 29; refine (keyF1_any _ _).mono ?_; rintro e w8 ⟨rfl, rfl⟩; have k8 := hHeld
  try go_wp2_with fail
  refine hK.out _ _ ?_ (fun hHeld => ?_)
  · exact k8
  clear hK K
  try simp only [Act.put, List.setIfInBounds_toArray, List.set_cons_zero, List.set_cons_succ]
  refine wpAnyH_ready (rs := [6]) (by kernel_rfl) (by simp) ?_
  refine' AllReadyH.cons (o := _) ?hi6r1 (fun K hK => ?st6r1) AllReadyH.nil
  case hi6r1 => simp only [List.getElem?_toArray, List.getElem?_cons_succ, List.getElem?_cons_zero]; rfl
  go_simp
  go_at_call 53; refine (pnumber_any s hs lo hi g 0 x _ (env.below ((Below.refl _ w).drew)) hg hx hf).mono ?_; rintro e w8 ⟨rfl, w9, b9', rfl⟩; have b9 : Below w.heap.size w w9 := (Below.refl _ w).drew.trans b9'; have k8 := HS.out w9 b9
  try go_wp2_with fail
  refine hK.out _ _ ?_ (fun hHeld => ?_)
  · exact k8
  clear hK K
  try simp only [Act.put, List.setIfInBounds_toArray, List.set_cons_zero, List.set_cons_succ]
  refine' wpAnyH_take (i := 7) (oi := _) (v := _) ?hi7r1 (by kernel_rfl) (by kernel_rfl) (by kernel_rfl) ?hq7r1 ?hy7r1 (by assumption) ?re7r1
  case hi7r1 => simp only [List.getElem?_toArray, List.getElem?_cons_succ, List.getElem?_cons_zero]; rfl
  case hq7r1 => exact fun _ _ _ h => h
  case hy7r1 =>
    refine Or.inl ⟨by rfl, ?_⟩
    intro w hSw; (try dsimp only at hSw); go_simp; try with_reducible rfl
  try simp only [Act.put, List.setIfInBounds_toArray, List.set_cons_zero, List.set_cons_succ]
  refine wpAnyH_done (by kernel_rfl) ?_ _
  go_wp2_with fail
  go_ret
  exact ⟨rfl, w9, b9, rfl⟩
theorem numSet2_any (g b5 b6 b7 : Nat) (lo hi x : Int) (s : ByteArray) (hs : s.size ≤ 1000000) (w : World) (env : UEnv w) (hg : g < w.heap.size) (hx : w.cell? ⟨g, 1, none⟩ = some (.int .i64 x)) (hf : w.frozen? ⟨g, 1, none⟩ = false)
    (l5 : w.cell? ⟨b5, 0, none⟩ = some (.int .i64 lo)) (l6 : w.cell? ⟨b6, 0, none⟩ = some (.int .i64 hi)) (l7 : w.cell? ⟨b7, 0, none⟩ = some (.func (.func 30) #[] #[])) (h5 : b5 < w.heap.size ∧ b5 ≠ g) (h6 : b6 < w.heap.size ∧ b6 ≠ g) (h7 : b7 < w.heap.size ∧ b7 ≠ g) :
    Calls Tryz.prog 52 #[.pointer (some ⟨g, 0, none⟩), .string s, .pointer (some ⟨b5, 0, none⟩), .pointer (some ⟨b6, 0, none⟩), .pointer (some ⟨b7, 0, none⟩)] w fun e w' => e = .returned (.int .i64 (Lx.intE s.data.toList lo hi)) ∧ ∃ w1, Below w.heap.size w w1 ∧ w' = w1.setCell ⟨g, 1, none⟩ (.int .i64 (Lx.intV s.data.toList lo hi)) := by
  have HS := Lib.hid (show ∀ w9, Below w.heap.size w w9 → (w9.setCell ⟨g, 1, none⟩ (.int .i64 (Lx.intV s.data.toList lo hi))).cell? ⟨b5, 0, none⟩ = some (.int .i64 lo) ∧ (w9.setCell ⟨g, 1, none⟩ (.int .i64 (Lx.intV s.data.toList lo hi))).cell? ⟨b6, 0, none⟩ = some (.int .i64 hi) ∧ (w9.setCell ⟨g, 1, none⟩ (.int .i64 (Lx.intV s.data.toList lo hi))).cell? ⟨b7, 0, none⟩ = some (.func (.func 30) #[] #[]) from fun w9 b9 => by
    have e : ∀ b, b < w.heap.size ∧ b ≠ g → (w9.setCell ⟨g, 1, none⟩ (.int .i64 (Lx.intV s.data.toList lo hi))).cell? ⟨b, 0, none⟩ = w.cell? ⟨b, 0, none⟩ := fun b hb => by
      rw [World.cell?_setCell_other _ _ _ _ (by intro c; injection c with c1 _ _; first | exact hb.2 c1 | exact hb.2 c1.symm)]
      exact b9.cell (p := ⟨b, 0, none⟩) hb.1
    exact ⟨(e b5 h5).trans l5, (e b6 h6).trans l6, (e b7 h7).trans l7⟩)
  go_enter Tryz.func52, Tryz.ntmps52
  go_upto_region 1 with (fail)
  refine wp_region_held_drew (S := (fun wx => wx.cell? ⟨b5, 0, none⟩ = some (.int .i64 lo) ∧ wx.cell? ⟨b6, 0, none⟩ = some (.int .i64 hi) ∧ wx.cell? ⟨b7, 0, none⟩ = some (.func (.func 30) #[] #[]))) (by kernel_rfl) ?_ (fun hHeld => ?_)
  · exact ⟨l5, l6, l7⟩
  refine' wpAnyH_take (i := 0) (oi := _) (v := _) ?hi0r2 (by kernel_rfl) (by kernel_rfl) (by kernel_rfl) ?hq0r2 ?hy0r2 (by assumption) ?re0r2
  case hi0r2 => simp only [List.getElem?_toArray, List.getElem?_cons_zero]; rfl
  case hq0r2 => exact fun _ _ _ h => h
  case hy0r2 =>
    refine Or.inl ⟨by rfl, ?_⟩
    intro w hSw; (try dsimp only at hSw); go_simp; try with_reducible rfl
  try simp only [Act.put, List.setIfInBounds_toArray, List.set_cons_zero, List.set_cons_succ]
  refine' wpAnyH_take (i := 1) (oi := _) (v := _) ?hi1r2 (by kernel_rfl) (by kernel_rfl) (by kernel_rfl) ?hq1r2 ?hy1r2 (by assumption) ?re1r2
  case hi1r2 => simp only [List.getElem?_toArray, List.getElem?_cons_succ, List.getElem?_cons_zero]; rfl
  case hq1r2 => exact fun _ _ _ h => h
  case hy1r2 =>
    refine Or.inl ⟨by rfl, ?_⟩
    intro w hSw; (try dsimp only at hSw); go_simp; try with_reducible rfl
  try simp only [Act.put, List.setIfInBounds_toArray, List.set_cons_zero, List.set_cons_succ]
  refine' wpAnyH_take (i := 2) (oi := _) (v := _) ?hi2r2 (by kernel_rfl) (by kernel_rfl) (by kernel_rfl) ?hq2r2 ?hy2r2 (by assumption) ?re2r2
  case hi2r2 => simp only [List.getElem?_toArray, List.getElem?_cons_succ, List.getElem?_cons_zero]; rfl
  case hq2r2 => exact fun _ _ _ h => h
  case hy2r2 =>
    refine Or.inl ⟨by rfl, ?_⟩
    intro w hSw; (try dsimp only at hSw); go_simp; try with_reducible rfl
  try simp only [Act.put, List.setIfInBounds_toArray, List.set_cons_zero, List.set_cons_succ]
  refine' wpAnyH_take (i := 3) (oi := _) (v := _) ?hi3r2 (by kernel_rfl) (by kernel_rfl) (by kernel_rfl) ?hq3r2 ?hy3r2 (by assumption) ?re3r2
  case hi3r2 => simp only [List.getElem?_toArray, List.getElem?_cons_succ, List.getElem?_cons_zero]; rfl
  case hq3r2 => exact fun _ _ _ h => h
  case hy3r2 =>
    refine Or.inl ⟨by rfl, ?_⟩
    intro w hSw; (try dsimp only at hSw); go_simp; try with_reducible rfl
  try simp only [Act.put, List.setIfInBounds_toArray, List.set_cons_zero, List.set_cons_succ]
  refine' wpAnyH_take (i := 4) (oi := _) (v := _) ?hi4r2 (by kernel_rfl) (by kernel_rfl) (by kernel_rfl) ?hq4r2 ?hy4r2 (by assumption) ?re4r2
  case hi4r2 => simp only [List.getElem?_toArray, List.getElem?_cons_succ, List.getElem?_cons_zero]; rfl
  case hq4r2 => exact fun _ _ _ h => h
  case hy4r2 =>
    refine Or.inl ⟨by rfl, ?_⟩
    intro w hSw; (try dsimp only at hSw); go_simp; try with_reducible rfl
  try simp only [Act.put, List.setIfInBounds_toArray, List.set_cons_zero, List.set_cons_succ]
  refine wpAnyH_ready (rs := [5]) (by kernel_rfl) (by simp) ?_
  refine' AllReadyH.cons (o := _) ?hi5r2 (fun K hK => ?st5r2) AllReadyH.nil
  case hi5r2 => simp only [List.getElem?_toArray, List.getElem?_cons_succ, List.getElem?_cons_zero]; rfl
  go_simp
  go_at_call 30; refine (keyF2_any _ _).mono ?_; rintro e w8 ⟨rfl, rfl⟩; have k8 := hHeld
  try go_wp2_with fail
  refine hK.out _ _ ?_ (fun hHeld => ?_)
  · exact k8
  clear hK K
  try simp only [Act.put, List.setIfInBounds_toArray, List.set_cons_zero, List.set_cons_succ]
  refine wpAnyH_ready (rs := [6]) (by kernel_rfl) (by simp) ?_
  refine' AllReadyH.cons (o := _) ?hi6r2 (fun K hK => ?st6r2) AllReadyH.nil
  case hi6r2 => simp only [List.getElem?_toArray, List.getElem?_cons_succ, List.getElem?_cons_zero]; rfl
  go_simp
  go_at_call 53; refine (pnumber_any s hs lo hi g 1 x _ (env.below ((Below.refl _ w).drew)) hg hx hf).mono ?_; rintro e w8 ⟨rfl, w9, b9', rfl⟩; have b9 : Below w.heap.size w w9 := (Below.refl _ w).drew.trans b9'; have k8 := HS.out w9 b9
  try go_wp2_with fail
  refine hK.out _ _ ?_ (fun hHeld => ?_)
  · exact k8
  clear hK K
  try simp only [Act.put, List.setIfInBounds_toArray, List.set_cons_zero, List.set_cons_succ]
  refine' wpAnyH_take (i := 7) (oi := _) (v := _) ?hi7r2 (by kernel_rfl) (by kernel_rfl) (by kernel_rfl) ?hq7r2 ?hy7r2 (by assumption) ?re7r2
  case hi7r2 => simp only [List.getElem?_toArray, List.getElem?_cons_succ, List.getElem?_cons_zero]; rfl
  case hq7r2 => exact fun _ _ _ h => h
  case hy7r2 =>
    refine Or.inl ⟨by rfl, ?_⟩
    intro w hSw; (try dsimp only at hSw); go_simp; try with_reducible rfl
  try simp only [Act.put, List.setIfInBounds_toArray, List.set_cons_zero, List.set_cons_succ]
  refine wpAnyH_done (by kernel_rfl) ?_ _
  go_wp2_with fail
  go_ret
  exact ⟨rfl, w9, b9, rfl⟩
theorem Lx.cellN (w : World) (v : Value) (T : TypeId) (b : Nat) (h : b = w.heap.size) : (w.alloc (.cells #[v] T)).cell? ⟨b, 0, none⟩ = some v := by subst h; simp
theorem numeric_any (nm : ByteArray) (lo hi : Int) (f : FuncId) (w : World) :
    Calls Tryz.prog 28 #[.string nm, .int .i64 lo, .int .i64 hi, .func (.func f) #[] #[]] w fun e w' => ∃ b, e = .returned (.agg #[.string nm, .func (.func 50) #[] #[.pointer (some ⟨b + 2, 0, none⟩)], .func (.func 52) #[] #[.pointer (some ⟨b, 0, none⟩), .pointer (some ⟨b + 1, 0, none⟩), .pointer (some ⟨b + 2, 0, none⟩)]]) ∧
      w.heap.size ≤ b ∧ b + 2 < w'.heap.size ∧ w'.cell? ⟨b, 0, none⟩ = some (.int .i64 lo) ∧ w'.cell? ⟨b + 1, 0, none⟩ = some (.int .i64 hi) ∧ w'.cell? ⟨b + 2, 0, none⟩ = some (.func (.func f) #[] #[]) ∧ Below w.heap.size w w' := by
  have hst : ∀ (q : Addr) (fn : Fn) (f c : Array Value) (W : World), (store q (.func fn f c)).run Tryz.prog W = stored Tryz.prog W q (.func fn f c) .plain := fun q fn f c W => run_store Tryz.prog W q _ _ rfl
  go_enter Tryz.func28, Tryz.ntmps28
  go_wp2_with fail
  refine bodyPost_ret (v := .agg #[.string nm, .func (.func 50) #[] #[.pointer (some ⟨w.heap.size + 1 + 1, 0, none⟩)], .func (.func 52) #[] #[.pointer (some ⟨w.heap.size, 0, none⟩), .pointer (some ⟨w.heap.size + 1, 0, none⟩), .pointer (some ⟨w.heap.size + 1 + 1, 0, none⟩)]]) (by simp [results, Tryz.results28, go_sem]) rfl ⟨w.heap.size, rfl, Nat.le_refl _, ?_, ?_, ?_, ?_, ?_⟩
  · simp <;> omega
  · rw [World.cell?_alloc_past _ _ _ (by simp <;> omega)]
    rw [World.cell?_alloc_past _ _ _ (by simp <;> omega)]
    rw [World.cell?_alloc_past _ _ _ (by simp <;> omega)]
    exact Lx.cellN _ _ _ _ (by simp)
  · rw [World.cell?_alloc_past _ _ _ (by simp <;> omega)]
    rw [World.cell?_alloc_past _ _ _ (by simp <;> omega)]
    exact Lx.cellN _ _ _ _ (by simp)
  · rw [World.cell?_alloc_past _ _ _ (by simp <;> omega)]
    exact Lx.cellN _ _ _ _ (by simp)
  refine ((((Below.refl _ w).alloc ?_ _).alloc ?_ _).alloc ?_ _).alloc ?_ _ <;> (simp <;> omega)
theorem timed_any (nm : ByteArray) (f : FuncId) (w : World) :
    Calls Tryz.prog 31 #[.string nm, .func (.func f) #[] #[]] w fun e w' => ∃ b, e = .returned (.agg #[.string nm, .func (.func 54) #[] #[.pointer (some ⟨b, 0, none⟩)], .func (.func 56) #[] #[.pointer (some ⟨b, 0, none⟩)]]) ∧
      w.heap.size ≤ b ∧ b < w'.heap.size ∧ w'.cell? ⟨b, 0, none⟩ = some (.func (.func f) #[] #[]) ∧ Below w.heap.size w w' := by
  have hst : ∀ (q : Addr) (fn : Fn) (f c : Array Value) (W : World), (store q (.func fn f c)).run Tryz.prog W = stored Tryz.prog W q (.func fn f c) .plain := fun q fn f c W => run_store Tryz.prog W q _ _ rfl
  go_enter Tryz.func31, Tryz.ntmps31
  go_wp2_with fail
  refine bodyPost_ret (v := .agg #[.string nm, .func (.func 54) #[] #[.pointer (some ⟨w.heap.size, 0, none⟩)], .func (.func 56) #[] #[.pointer (some ⟨w.heap.size, 0, none⟩)]]) (by simp [results, Tryz.results31, go_sem]) rfl ⟨w.heap.size, rfl, Nat.le_refl _, ?_, ?_, ?_⟩
  · simp <;> omega
  · rw [World.cell?_alloc_past _ _ _ (by simp <;> omega)]
    exact Lx.cellN _ _ _ _ (by simp)
  refine ((Below.refl _ w).alloc ?_ _).alloc ?_ _ <;> (simp <;> omega)
end Go.Proofs.YtpjocfkolnfjiaaGreatDoor
