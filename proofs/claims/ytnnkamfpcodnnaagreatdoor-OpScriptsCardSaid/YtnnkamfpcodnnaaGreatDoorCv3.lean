/- The walks of civil.two and civil.Text. -/
import Derived.Test.YtnnkamfpcodnnaaGreatDoorCv2
import Derived.Test.YtnnkamfpcodnnaaGreatDoorShelf
import Derived.Test.YtnnkamfpcodnnaaGreatDoorConv
import Derived.Deep.RegionHeld3
namespace Go.Proofs.YtnnkamfpcodnnaaGreatDoor
open Go.RowKit

theorem conv_three (w : World) (x y z : Int) (a b c : UInt8) (hx : x = (a.toNat : Int)) (hy : y = (b.toNat : Int)) (hz : z = (c.toNat : Int)) :
    (convert 51 9 (.slice (some ⟨w.heap.size, 0, none⟩) 3 3)).run Tryz.prog (w.alloc (.cells #[.int .u8 x, .int .u8 y, .int .u8 z] 5)) = .ok (.string ⟨#[a, b, c]⟩) (w.alloc (.cells #[.int .u8 x, .int .u8 y, .int .u8 z] 5)) := by
  have := run_convert_bytes_back (P := Tryz.prog) (w.alloc (.cells #[.int .u8 x, .int .u8 y, .int .u8 z] 5)) 51 9 5 ⟨w.heap.size, 0, none⟩ 3 [a, b, c] Tryz.underlying51 Tryz.underlying5 Tryz.underlying9 (by
    intro j hj
    have : j = 0 ∨ j = 1 ∨ j = 2 := by have : j < 3 := hj; omega
    rcases this with rfl | rfl | rfl <;> simp [Addr.add, hx, hy, hz])
  exact this
def twoS (c : UInt8) (n : Int) : ByteArray := ⟨#[c, Lx.dg (n / 10), Lx.dg (n % 10)]⟩
theorem cv_two (c : UInt8) (x : Int) (hx : x = (c.toNat : Int)) (n : Int) (w : World) (h0 : 0 ≤ n) (h1 : n ≤ 99) :
    Calls Tryz.prog 71 #[.int .u8 x, .int .i64 n] w fun e w' => e = .returned (.string (twoS c n)) ∧ Below w.heap.size w w' := by
  subst hx
  have e1 := Lx.dg_toNat (n := n / 10) (by omega) (by omega)
  have e2 := Lx.dg_toNat (n := n % 10) (by omega) (by omega)
  have hcv := conv_three w (c.toNat : Int) (48 + n / 10) (48 + n % 10) c (Lx.dg (n / 10)) (Lx.dg (n % 10)) rfl e1.symm e2.symm
  clear e1 e2
  go_enter Tryz.func71, Tryz.ntmps71
  go_wp2
  go_ret
  exact ⟨rfl, (Below.refl _ w).alloc (Nat.le_refl _) _⟩
theorem Lx.keep6 {w : World} {b : Nat} {v0 v1 v2 v3 v4 v5 : Value} {wx w' : World}
    (h : Below w.heap.size w wx ∧ b < wx.heap.size ∧ wx.cell? ⟨b, 0, none⟩ = some v0 ∧ wx.cell? ⟨b, 1, none⟩ = some v1 ∧ wx.cell? ⟨b, 2, none⟩ = some v2 ∧ wx.cell? ⟨b, 3, none⟩ = some v3 ∧ wx.cell? ⟨b, 4, none⟩ = some v4 ∧ wx.cell? ⟨b, 5, none⟩ = some v5)
    (hb : Below wx.heap.size wx w') :
    Below w.heap.size w w' ∧ b < w'.heap.size ∧ w'.cell? ⟨b, 0, none⟩ = some v0 ∧ w'.cell? ⟨b, 1, none⟩ = some v1 ∧ w'.cell? ⟨b, 2, none⟩ = some v2 ∧ w'.cell? ⟨b, 3, none⟩ = some v3 ∧ w'.cell? ⟨b, 4, none⟩ = some v4 ∧ w'.cell? ⟨b, 5, none⟩ = some v5 := by
  obtain ⟨h1, h2, a0, a1, a2, a3, a4, a5⟩ := h
  have hc : ∀ k, w'.cell? ⟨b, k, none⟩ = wx.cell? ⟨b, k, none⟩ := fun k => hb.cell (p := ⟨b, k, none⟩) h2
  exact ⟨h1.trans (hb.mono h1.size), Nat.lt_of_lt_of_le h2 hb.size, (hc 0).trans a0, (hc 1).trans a1, (hc 2).trans a2, (hc 3).trans a3, (hc 4).trans a4, (hc 5).trans a5⟩
theorem cv_itoa (y : Int) (w : World) (env : Env w) (h0 : 1000 ≤ y) (h1 : y ≤ 9999) :
    Calls Tryz.prog 70 #[.int .i64 y] w fun e w' => e = .returned (.string ⟨(Lx.d4 y).toArray⟩) ∧ Below w.heap.size w w' := by
  have := Tryz.strconv_Itoa y (by omega) (by omega) w env.pow
  rw [Lx.d4_itoa h0 h1] at this
  refine this.mono ?_
  rintro e w' ⟨rfl, k, os, rfl⟩
  exact ⟨rfl, ⟨rfl, rfl, rfl, by simp [Sort.grow, World.drewN], fun j hj => by simp [Sort.grow, World.drewN, Array.getElem?_append, hj]⟩⟩
set_option maxRecDepth 100000 in
set_option maxHeartbeats 1600000 in
theorem cv_text_ok (t : Int) (w : World) (env : Env w) (h0 : 0 ≤ t) (h1 : t ≤ 253402300799) :
    Calls Tryz.prog 59 #[.int .i64 t] w fun e w' => e = .returned (.tuple #[.string ⟨(Lx.tmText t).toArray⟩, .int .i64 0]) ∧ Below w.heap.size w w' := by
  have HO := Lib.hid (fun W => cv_of_ok t W h0 h1)
  obtain ⟨H, _⟩ := Lx.tm_ok h0 h1
  have htx : Lx.tmText t = Lx.civText (Cv.dY (t / 86400)) (Cv.dM (t / 86400)) (Cv.dD (t / 86400)) (t % 86400 / 3600) (t % 86400 % 3600 / 60) (t % 86400 % 60) := rfl
  unfold tmV at HO
  generalize Cv.dY (t / 86400) = y at *
  generalize Cv.dM (t / 86400) = m at *
  generalize Cv.dD (t / 86400) = d at *
  generalize t % 86400 / 3600 = h at *
  generalize t % 86400 % 3600 / 60 = i at *
  generalize t % 86400 % 60 = s at *
  have hv := Lx.valid_bd H.1
  obtain ⟨⟨y0, y1, m0, m1, d0, _⟩, a1, a2, a3, a4, a5, a6⟩ := H
  obtain ⟨_, _, _, _, _, d1⟩ := hv
  have HS1 := Lib.hid (fun W => cv_two 45 45 rfl m W (by omega) (by omega))
  have HS2 := Lib.hid (fun W => cv_two 45 45 rfl d W (by omega) (by omega))
  have HS3 := Lib.hid (fun W => cv_two 32 32 rfl h W (by omega) (by omega))
  have HS4 := Lib.hid (fun W => cv_two 58 58 rfl i W (by omega) (by omega))
  have HS5 := Lib.hid (fun W => cv_two 58 58 rfl s W (by omega) (by omega))
  obtain ⟨S1, q1⟩ : ∃ S, S = twoS 45 m := ⟨_, rfl⟩
  rw [← q1] at HS1
  obtain ⟨S2, q2⟩ : ∃ S, S = twoS 45 d := ⟨_, rfl⟩
  rw [← q2] at HS2
  obtain ⟨S3, q3⟩ : ∃ S, S = twoS 32 h := ⟨_, rfl⟩
  rw [← q3] at HS3
  obtain ⟨S4, q4⟩ : ∃ S, S = twoS 58 i := ⟨_, rfl⟩
  rw [← q4] at HS4
  obtain ⟨S5, q5⟩ : ∃ S, S = twoS 58 s := ⟨_, rfl⟩
  rw [← q5] at HS5
  have HI := Lib.hid (fun W (E : Env W) => cv_itoa y W E (by omega) y1)
  obtain ⟨Ys, qy⟩ : ∃ S : ByteArray, S = ⟨(Lx.d4 y).toArray⟩ := ⟨_, rfl⟩
  rw [← qy] at HI
  have zy : Ys.size = 4 := by rw [qy]; rfl
  have z1 : S1.size = 3 := by rw [q1]; rfl
  have z2 : S2.size = 3 := by rw [q2]; rfl
  have z3 : S3.size = 3 := by rw [q3]; rfl
  have z4 : S4.size = 3 := by rw [q4]; rfl
  have z5 : S5.size = 3 := by rw [q5]; rfl
  have f1 : ¬ (9223372036854775807 < Ys.size + S1.size) := by omega
  have f2 : ¬ (9223372036854775807 < Ys.size + S1.size + S2.size) := by omega
  have f3 : ¬ (9223372036854775807 < Ys.size + S1.size + S2.size + S3.size) := by omega
  have f4 : ¬ (9223372036854775807 < Ys.size + S1.size + S2.size + S3.size + S4.size) := by omega
  have f5 : ¬ (9223372036854775807 < Ys.size + S1.size + S2.size + S3.size + S4.size + S5.size) := by omega
  have hfin : Ys ++ S1 ++ S2 ++ S3 ++ S4 ++ S5 = ⟨(Lx.tmText t).toArray⟩ := by
    rw [htx, qy, q1, q2, q3, q4, q5]; rfl
  have Hfin := Lib.hid hfin
  clear hfin htx qy q1 q2 q3 q4 q5 zy z1 z2 z3 z4 z5
  go_enter Tryz.func59, Tryz.ntmps59
  go_wp2_with fail
  refine (HO.out _).mono ?_
  rintro e w1 ⟨rfl, hb1⟩
  have hS0 : Below w.heap.size w ((w1.alloc (.cells #[.int .i64 y, .int .i64 m, .int .i64 d, .int .i64 h, .int .i64 i, .int .i64 s] 88)).drew) ∧ w1.heap.size < ((w1.alloc (.cells #[.int .i64 y, .int .i64 m, .int .i64 d, .int .i64 h, .int .i64 i, .int .i64 s] 88)).drew).heap.size ∧ ((w1.alloc (.cells #[.int .i64 y, .int .i64 m, .int .i64 d, .int .i64 h, .int .i64 i, .int .i64 s] 88)).drew).cell? ⟨w1.heap.size, 0, none⟩ = some (.int .i64 y) ∧ ((w1.alloc (.cells #[.int .i64 y, .int .i64 m, .int .i64 d, .int .i64 h, .int .i64 i, .int .i64 s] 88)).drew).cell? ⟨w1.heap.size, 1, none⟩ = some (.int .i64 m) ∧ ((w1.alloc (.cells #[.int .i64 y, .int .i64 m, .int .i64 d, .int .i64 h, .int .i64 i, .int .i64 s] 88)).drew).cell? ⟨w1.heap.size, 2, none⟩ = some (.int .i64 d) ∧ ((w1.alloc (.cells #[.int .i64 y, .int .i64 m, .int .i64 d, .int .i64 h, .int .i64 i, .int .i64 s] 88)).drew).cell? ⟨w1.heap.size, 3, none⟩ = some (.int .i64 h) ∧ ((w1.alloc (.cells #[.int .i64 y, .int .i64 m, .int .i64 d, .int .i64 h, .int .i64 i, .int .i64 s] 88)).drew).cell? ⟨w1.heap.size, 4, none⟩ = some (.int .i64 i) ∧ ((w1.alloc (.cells #[.int .i64 y, .int .i64 m, .int .i64 d, .int .i64 h, .int .i64 i, .int .i64 s] 88)).drew).cell? ⟨w1.heap.size, 5, none⟩ = some (.int .i64 s) :=
    ⟨(hb1.alloc hb1.size _).trans ((below_drewN _ _ 1)), by rw [show ((w1.alloc (.cells #[.int .i64 y, .int .i64 m, .int .i64 d, .int .i64 h, .int .i64 i, .int .i64 s] 88)).drew).heap.size = w1.heap.size + 1 from World.size_alloc _ _]; omega, by simp, by simp, by simp, by simp, by simp, by simp⟩
  go_wp2_with fail
  go_region_held3 (fun wx => Below w.heap.size w wx ∧ w1.heap.size < wx.heap.size ∧ wx.cell? ⟨w1.heap.size, 0, none⟩ = some (.int .i64 y) ∧ wx.cell? ⟨w1.heap.size, 1, none⟩ = some (.int .i64 m) ∧ wx.cell? ⟨w1.heap.size, 2, none⟩ = some (.int .i64 d) ∧ wx.cell? ⟨w1.heap.size, 3, none⟩ = some (.int .i64 h) ∧ wx.cell? ⟨w1.heap.size, 4, none⟩ = some (.int .i64 i) ∧ wx.cell? ⟨w1.heap.size, 5, none⟩ = some (.int .i64 s)) (first | assumption | go_keep)
    (first
      | (go_at_call 70; refine (HI.out _ (by exact env.below (And.left (by assumption)))).mono ?_; rintro e w2 ⟨rfl, c2⟩; have k2 := Lx.keep6 (by assumption) c2)
      | (go_at_call_of 71 m; refine (HS1.out _).mono ?_; rintro e w3 ⟨rfl, c3⟩; have k3 := Lx.keep6 (by assumption) c3)
      | (go_at_call_of 71 d; refine (HS2.out _).mono ?_; rintro e w4 ⟨rfl, c4⟩; have k4 := Lx.keep6 (by assumption) c4)
      | (go_at_call_of 71 h; refine (HS3.out _).mono ?_; rintro e w5 ⟨rfl, c5⟩; have k5 := Lx.keep6 (by assumption) c5)
      | (go_at_call_of 71 i; refine (HS4.out _).mono ?_; rintro e w6 ⟨rfl, c6⟩; have k6 := Lx.keep6 (by assumption) c6)
      | (go_at_call_of 71 s; refine (HS5.out _).mono ?_; rintro e w7 ⟨rfl, c7⟩; have k7 := Lx.keep6 (by assumption) c7))
  go_wp2_with fail
  go_ret2
  exact ⟨by rw [Hfin.out]; rfl, And.left (by assumption)⟩
end Go.Proofs.YtnnkamfpcodnnaaGreatDoor
