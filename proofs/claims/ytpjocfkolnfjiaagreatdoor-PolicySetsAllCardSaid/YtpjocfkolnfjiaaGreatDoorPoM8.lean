/- A parameter that is a policy: what the walks are told of it. Policies: the examples of chapter 14 hold. Policies: what the laws' walks share: a new box, equality of policies. -/
import Derived.Test.YtpjocfkolnfjiaaGreatDoorPoM1
import Derived.Test.YtpjocfkolnfjiaaGreatDoorProg
import Derived.SliceStrings
import Derived.OpenShut
import Derived.Deep.Slices
import Derived.Deep.Fields
import Derived.ChangeSame
import Derived.Lib.SmallJoins
import Derived.SizedLaws
import Derived.WalkKit
import Derived.Test.YtpjocfkolnfjiaaGreatDoorPoM9
import Derived.Test.YtpjocfkolnfjiaaGreatDoorPoM0
namespace Go.Proofs.YtpjocfkolnfjiaaGreatDoor
open Go.Joins Go.ChangeShapes Go.WideShapes Go.RowKit Go.Deep

theorem cI : Tryz.prog.cellsOf 3 = 1 := by kernel_rfl
theorem cI64 : Tryz.prog.cellsOf 2 = 1 := by kernel_rfl
theorem cLim : Tryz.prog.cellsOf 23 = 2 := by kernel_rfl
theorem cBr : Tryz.prog.cellsOf 25 = 3 := by kernel_rfl
theorem cRe : Tryz.prog.cellsOf 27 = 4 := by kernel_rfl
theorem cPol : Tryz.prog.cellsOf 29 = 15 := by kernel_rfl
set_option maxRecDepth 100000 in
theorem isPol_of {H : Type} {enc : TypeId × Value → H} {W : World} {r : Reach} {b0 : Nat} {v : Value} {d : DataW H} {p : List MemPlace} {sp : Nat → Bool} {held : Bool}
    (hv : Value.okWide Tryz.prog W r b0 29 v) (h : DataW.Trod enc Tryz.prog W 0 sp held 29 v d p) : ∃ q : Lx.PolV, v = q.val := by
  obtain ⟨cs, rfl, hsz⟩ := okWide_struct Tryz.underlying29 hv
  obtain ⟨l⟩ := cs
  match l, hsz.trans cPol with
  | [c0, c1, c2, c3, c4, c5, c6, c7, c8, c9, c10, c11, c12, c13, c14], _ =>
    obtain ⟨fuel, hf⟩ := h
    obtain ⟨xs, n, _, hx, _, hlen, hg⟩ := DataW.trod_struct Tryz.underlying29 hf
    have hl : xs.length = 9 := hlen
    match xs, hl with
    | [y0, y1, y2, y3, y4, y5, y6, y7, y8], _ =>
      have h0 := hg 0 _ rfl
      have h1 := hg 1 _ rfl
      have h2 := hg 2 _ rfl
      have h3 := hg 3 _ rfl
      have h4 := hg 4 _ rfl
      have h5 := hg 5 _ rfl
      have h6 := hg 6 _ rfl
      have h7 := hg 7 _ rfl
      have h8 := hg 8 _ rfl
      simp [Value.cells, cI, cI64, cLim, cBr, cRe] at h0 h1 h2 h3 h4 h5 h6 h7 h8
      obtain ⟨x0, e0, _, _⟩ := DataW.trod_int Tryz.underlying3 h0
      obtain ⟨x1, e1, _, _⟩ := DataW.trod_int Tryz.underlying3 h1
      obtain ⟨x2, e2, _, _⟩ := DataW.trod_int Tryz.underlying2 h2
      obtain ⟨x3, e3, _, _⟩ := DataW.trod_int Tryz.underlying2 h3
      obtain ⟨x4, e4, _, _⟩ := DataW.trod_int Tryz.underlying3 h4
      obtain ⟨x5, e5, _, _⟩ := DataW.trod_int Tryz.underlying3 h5
      obtain ⟨zs6, n6, _, _, _, hz6, g6⟩ := DataW.trod_struct Tryz.underlying23 h6
      have hl6 : zs6.length = 2 := hz6
      match zs6, hl6 with
      | [z6, z7], _ =>
        have k6 := g6 0 _ rfl
        have k7 := g6 1 _ rfl
        simp [cI64] at k6 k7
        obtain ⟨x6, e6, _, _⟩ := DataW.trod_int Tryz.underlying2 k6
        obtain ⟨x7, e7, _, _⟩ := DataW.trod_int Tryz.underlying2 k7
        obtain ⟨zs8, n8, _, _, _, hz8, g8⟩ := DataW.trod_struct Tryz.underlying25 h7
        have hl8 : zs8.length = 3 := hz8
        match zs8, hl8 with
        | [z8, z9, z10], _ =>
          have k8 := g8 0 _ rfl
          have k9 := g8 1 _ rfl
          have k10 := g8 2 _ rfl
          simp [cI, cI64] at k8 k9 k10
          obtain ⟨x8, e8, _, _⟩ := DataW.trod_int Tryz.underlying3 k8
          obtain ⟨x9, e9, _, _⟩ := DataW.trod_int Tryz.underlying2 k9
          obtain ⟨x10, e10, _, _⟩ := DataW.trod_int Tryz.underlying3 k10
          obtain ⟨zs11, n11, _, _, _, hz11, g11⟩ := DataW.trod_struct Tryz.underlying27 h8
          have hl11 : zs11.length = 4 := hz11
          match zs11, hl11 with
          | [z11, z12, z13, z14], _ =>
            have k11 := g11 0 _ rfl
            have k12 := g11 1 _ rfl
            have k13 := g11 2 _ rfl
            have k14 := g11 3 _ rfl
            simp [cI, cI64] at k11 k12 k13 k14
            obtain ⟨x11, e11, _, _⟩ := DataW.trod_int Tryz.underlying3 k11
            obtain ⟨x12, e12, _, _⟩ := DataW.trod_int Tryz.underlying2 k12
            obtain ⟨x13, e13, _, _⟩ := DataW.trod_int Tryz.underlying2 k13
            obtain ⟨x14, e14, _, _⟩ := DataW.trod_int Tryz.underlying2 k14
            simp at e0 e1 e2 e3 e4 e5 e6 e7 e8 e9 e10 e11 e12 e13 e14
            subst e0 e1 e2 e3 e4 e5 e6 e7 e8 e9 e10 e11 e12 e13 e14
            exact ⟨⟨x0, x1, x2, x3, x4, x5, x6, x7, x8, x9, x10, x11, x12, x13, x14⟩, rfl⟩
end Go.Proofs.YtpjocfkolnfjiaaGreatDoor
namespace Go.Proofs.YtpjocfkolnfjiaaGreatDoor
open Go.RowKit

theorem ex_parse1 : Lx.parP ⟨#[114, 101, 116, 114, 121, 61, 53, 47, 49, 48, 115, 47, 49, 109, 47, 53, 115, 32, 99, 97, 112, 61, 50]⟩ = ((⟨2, 50, 0, 3600, 0, 0, 0, 0, 0, 0, 0, 5, 10, 60, 5⟩ : Lx.PolV), 0, 0) := by kernel_rfl
theorem ex_print1 : Lx.prS (⟨2, 50, 0, 3600, 0, 0, 0, 0, 0, 0, 0, 5, 10, 60, 5⟩ : Lx.PolV) = [99, 97, 112, 61, 50, 32, 114, 101, 116, 114, 121, 61, 53, 47, 49, 48, 115, 47, 49, 109, 47, 53, 115] ∧ Lx.polE (⟨2, 50, 0, 3600, 0, 0, 0, 0, 0, 0, 0, 5, 10, 60, 5⟩ : Lx.PolV) = 0 := ⟨by kernel_rfl, by kernel_rfl⟩
theorem ex_parse2 : Lx.parP ⟨#[99, 97, 112, 61, 50, 32, 108, 105, 109, 105, 116, 61, 49, 47, 53, 115, 43, 49, 48, 115, 32, 99, 97, 112, 61, 51]⟩ = (Lx.polZ, 2, 6) := by kernel_rfl
theorem ex_set : Lx.setPol Lx.polD ⟨#[109, 105, 115, 102, 105, 114, 101]⟩ ⟨#[115, 111, 109, 101, 58, 51]⟩ = ((⟨1, 50, 0, 3600, 3, 3, 0, 0, 0, 0, 0, 0, 0, 0, 0⟩ : Lx.PolV), 0) := by kernel_rfl
theorem ex_span : Lx.spanV Lx.polD = 3601 ∧ Lx.polE Lx.polD = 0 := ⟨by kernel_rfl, by kernel_rfl⟩
theorem ex_retry (w : World) : (Op.equalIn 10000 27 (.agg #[.int .i64 5, .int .i64 10, .int .i64 60, .int .i64 5]) (.agg #[.int .i64 5, .int .i64 10, .int .i64 60, .int .i64 5])).run Tryz.prog w = .ok true w := by kernel_rfl
set_option maxRecDepth 100000 in
set_option maxHeartbeats 1600000 in
theorem pworks_any (w : World) (env : UEnv w) : Calls Tryz.prog 5 #[] w fun e w' => e = .returned (.bool true) ∧ Below w.heap.size w w' := by
  have H1 := Lib.hid (show ∀ W, UEnv W → Calls Tryz.prog 17 #[.string ⟨#[114, 101, 116, 114, 121, 61, 53, 47, 49, 48, 115, 47, 49, 109, 47, 53, 115, 32, 99, 97, 112, 61, 50]⟩] W fun e w' => e = .returned (.tuple #[.agg #[.int .i64 2, .int .i64 50, .int .i64 0, .int .i64 3600, .int .i64 0, .int .i64 0, .int .i64 0, .int .i64 0, .int .i64 0, .int .i64 0, .int .i64 0, .int .i64 5, .int .i64 10, .int .i64 60, .int .i64 5], .int .i64 0, .int .i64 0]) ∧ Below W.heap.size W w' from fun W E => by
    have := polParse_any ⟨#[114, 101, 116, 114, 121, 61, 53, 47, 49, 48, 115, 47, 49, 109, 47, 53, 115, 32, 99, 97, 112, 61, 50]⟩ (by decide) W E
    rw [ex_parse1] at this; exact this)
  have H2 := Lib.hid (show ∀ W, UEnv W → Calls Tryz.prog 18 #[.agg #[.int .i64 2, .int .i64 50, .int .i64 0, .int .i64 3600, .int .i64 0, .int .i64 0, .int .i64 0, .int .i64 0, .int .i64 0, .int .i64 0, .int .i64 0, .int .i64 5, .int .i64 10, .int .i64 60, .int .i64 5]] W fun e w' => e = .returned (.tuple #[.string ⟨#[99, 97, 112, 61, 50, 32, 114, 101, 116, 114, 121, 61, 53, 47, 49, 48, 115, 47, 49, 109, 47, 53, 115]⟩, .int .i64 0]) ∧ Below W.heap.size W w' from fun W E => by
    have := polPrint_any (⟨2, 50, 0, 3600, 0, 0, 0, 0, 0, 0, 0, 5, 10, 60, 5⟩ : Lx.PolV) W E
    rw [ex_print1.1, ex_print1.2] at this; exact this)
  have H3 := Lib.hid (show ∀ W, UEnv W → Calls Tryz.prog 17 #[.string ⟨#[99, 97, 112, 61, 50, 32, 108, 105, 109, 105, 116, 61, 49, 47, 53, 115, 43, 49, 48, 115, 32, 99, 97, 112, 61, 51]⟩] W fun e w' => e = .returned (.tuple #[.agg #[.int .i64 0, .int .i64 0, .int .i64 0, .int .i64 0, .int .i64 0, .int .i64 0, .int .i64 0, .int .i64 0, .int .i64 0, .int .i64 0, .int .i64 0, .int .i64 0, .int .i64 0, .int .i64 0, .int .i64 0], .int .i64 2, .int .i64 6]) ∧ Below W.heap.size W w' from fun W E => by
    have := polParse_any ⟨#[99, 97, 112, 61, 50, 32, 108, 105, 109, 105, 116, 61, 49, 47, 53, 115, 43, 49, 48, 115, 32, 99, 97, 112, 61, 51]⟩ (by decide) W E
    rw [ex_parse2] at this; exact this)
  have HD := Lib.hid (show ∀ W, Calls Tryz.prog 19 #[] W fun e w' => e = .returned (.agg #[.int .i64 1, .int .i64 50, .int .i64 0, .int .i64 3600, .int .i64 0, .int .i64 0, .int .i64 0, .int .i64 0, .int .i64 0, .int .i64 0, .int .i64 0, .int .i64 0, .int .i64 0, .int .i64 0, .int .i64 0]) ∧ Below W.heap.size W w' from fun W => default_any W)
  have H4 := Lib.hid (show ∀ W, UEnv W → Calls Tryz.prog 8 #[.agg #[.int .i64 1, .int .i64 50, .int .i64 0, .int .i64 3600, .int .i64 0, .int .i64 0, .int .i64 0, .int .i64 0, .int .i64 0, .int .i64 0, .int .i64 0, .int .i64 0, .int .i64 0, .int .i64 0, .int .i64 0], .string ⟨#[109, 105, 115, 102, 105, 114, 101]⟩, .string ⟨#[115, 111, 109, 101, 58, 51]⟩] W fun e w' => e = .returned (.tuple #[.agg #[.int .i64 1, .int .i64 50, .int .i64 0, .int .i64 3600, .int .i64 3, .int .i64 3, .int .i64 0, .int .i64 0, .int .i64 0, .int .i64 0, .int .i64 0, .int .i64 0, .int .i64 0, .int .i64 0, .int .i64 0], .int .i64 0]) ∧ Below W.heap.size W w' from fun W E => by
    have := polSet_any Lx.polD ⟨#[109, 105, 115, 102, 105, 114, 101]⟩ ⟨#[115, 111, 109, 101, 58, 51]⟩ (by decide) W E
    rw [ex_set] at this; exact this)
  have H5 := Lib.hid (show ∀ W, Calls Tryz.prog 20 #[.agg #[.int .i64 1, .int .i64 50, .int .i64 0, .int .i64 3600, .int .i64 0, .int .i64 0, .int .i64 0, .int .i64 0, .int .i64 0, .int .i64 0, .int .i64 0, .int .i64 0, .int .i64 0, .int .i64 0, .int .i64 0]] W fun e w' => e = .returned (.tuple #[.int .i64 3601, .int .i64 0]) ∧ Below W.heap.size W w' from fun W => by
    have := span_any Lx.polD W
    rw [ex_span.1, ex_span.2] at this; exact this)
  have E0 := Lib.hid env
  clear env
  go_enter Tryz.func5, Tryz.ntmps5
  go_wp2_with fail
  refine (H1.out _ E0.out).mono ?_
  rintro e w1 ⟨rfl, c1⟩
  obtain ⟨W1, hW1⟩ : ∃ W1, W1 = w1.alloc (.cells #[.int .i64 2, .int .i64 50, .int .i64 0, .int .i64 3600, .int .i64 0, .int .i64 0, .int .i64 0, .int .i64 0, .int .i64 0, .int .i64 0, .int .i64 0, .int .i64 5, .int .i64 10, .int .i64 60, .int .i64 5] 29) := ⟨_, rfl⟩
  have a0 : W1.cell? ⟨w1.heap.size, 0, none⟩ = some (.int .i64 2) := by rw [hW1]; exact Lx.cellR _ _ _ _ _ rfl
  have a1 : W1.cell? ⟨w1.heap.size, 1, none⟩ = some (.int .i64 50) := by rw [hW1]; exact Lx.cellR _ _ _ _ _ rfl
  have a2 : W1.cell? ⟨w1.heap.size, 2, none⟩ = some (.int .i64 0) := by rw [hW1]; exact Lx.cellR _ _ _ _ _ rfl
  have a3 : W1.cell? ⟨w1.heap.size, 3, none⟩ = some (.int .i64 3600) := by rw [hW1]; exact Lx.cellR _ _ _ _ _ rfl
  have a4 : W1.cell? ⟨w1.heap.size, 4, none⟩ = some (.int .i64 0) := by rw [hW1]; exact Lx.cellR _ _ _ _ _ rfl
  have a5 : W1.cell? ⟨w1.heap.size, 5, none⟩ = some (.int .i64 0) := by rw [hW1]; exact Lx.cellR _ _ _ _ _ rfl
  have a6 : W1.cell? ⟨w1.heap.size, 6, none⟩ = some (.int .i64 0) := by rw [hW1]; exact Lx.cellR _ _ _ _ _ rfl
  have a7 : W1.cell? ⟨w1.heap.size, 7, none⟩ = some (.int .i64 0) := by rw [hW1]; exact Lx.cellR _ _ _ _ _ rfl
  have a8 : W1.cell? ⟨w1.heap.size, 8, none⟩ = some (.int .i64 0) := by rw [hW1]; exact Lx.cellR _ _ _ _ _ rfl
  have a9 : W1.cell? ⟨w1.heap.size, 9, none⟩ = some (.int .i64 0) := by rw [hW1]; exact Lx.cellR _ _ _ _ _ rfl
  have a10 : W1.cell? ⟨w1.heap.size, 10, none⟩ = some (.int .i64 0) := by rw [hW1]; exact Lx.cellR _ _ _ _ _ rfl
  have a11 : W1.cell? ⟨w1.heap.size, 11, none⟩ = some (.int .i64 5) := by rw [hW1]; exact Lx.cellR _ _ _ _ _ rfl
  have a12 : W1.cell? ⟨w1.heap.size, 12, none⟩ = some (.int .i64 10) := by rw [hW1]; exact Lx.cellR _ _ _ _ _ rfl
  have a13 : W1.cell? ⟨w1.heap.size, 13, none⟩ = some (.int .i64 60) := by rw [hW1]; exact Lx.cellR _ _ _ _ _ rfl
  have a14 : W1.cell? ⟨w1.heap.size, 14, none⟩ = some (.int .i64 5) := by rw [hW1]; exact Lx.cellR _ _ _ _ _ rfl
  have hl1 : w1.heap.size < W1.heap.size := by rw [hW1]; simp
  have B1 := Lib.hid (show Below w.heap.size w W1 from by rw [hW1]; exact c1.alloc c1.size _)
  go_upto_region 2 with (fail)
  rw [show w1.alloc (.cells #[.int .i64 2, .int .i64 50, .int .i64 0, .int .i64 3600, .int .i64 0, .int .i64 0, .int .i64 0, .int .i64 0, .int .i64 0, .int .i64 0, .int .i64 0, .int .i64 5, .int .i64 10, .int .i64 60, .int .i64 5] 29) = W1 from hW1.symm]
  have HC1 := Lib.hid (show ∀ wx, Below W1.heap.size W1 wx → wx.cell? ⟨w1.heap.size, 0, none⟩ = some (.int .i64 2) ∧ wx.cell? ⟨w1.heap.size, 11, none⟩ = some (.int .i64 5) ∧ wx.cell? ⟨w1.heap.size, 12, none⟩ = some (.int .i64 10) ∧ wx.cell? ⟨w1.heap.size, 13, none⟩ = some (.int .i64 60) ∧ wx.cell? ⟨w1.heap.size, 14, none⟩ = some (.int .i64 5) from fun wx b => ⟨(b.cell (p := ⟨w1.heap.size, 0, none⟩) hl1).trans a0, (b.cell (p := ⟨w1.heap.size, 11, none⟩) hl1).trans a11, (b.cell (p := ⟨w1.heap.size, 12, none⟩) hl1).trans a12, (b.cell (p := ⟨w1.heap.size, 13, none⟩) hl1).trans a13, (b.cell (p := ⟨w1.heap.size, 14, none⟩) hl1).trans a14⟩)
  clear hW1 hl1
  go_wp2_with fail
  clear a0 a1 a2 a3 a4 a5 a6 a7 a8 a9 a10 a11 a12 a13 a14
  refine (H2.out _ (E0.out.below B1.out)).mono ?_
  rintro e w2 ⟨rfl, c2⟩
  have B2 := Lib.hid (B1.out.trans (c2.mono B1.out.size))
  have C2 := Lib.hid c2
  clear c2
  go_wp2_with fail
  refine (H3.out _ (E0.out.below B2.out)).mono ?_
  rintro e w3 ⟨rfl, c3⟩
  have C3 := Lib.hid ((C2.out.trans (c3.mono C2.out.size)).alloc (C2.out.trans (c3.mono C2.out.size)).size (.cells #[.int .i64 0, .int .i64 0, .int .i64 0, .int .i64 0, .int .i64 0, .int .i64 0, .int .i64 0, .int .i64 0, .int .i64 0, .int .i64 0, .int .i64 0, .int .i64 0, .int .i64 0, .int .i64 0, .int .i64 0] 29))
  have B3 := Lib.hid (B1.out.trans (C3.out.mono B1.out.size))
  clear c3
  go_wp2_with fail
  refine (HD.out _).mono ?_
  rintro e w4 ⟨rfl, c4⟩
  have C4 := Lib.hid (C3.out.trans (c4.mono C3.out.size))
  have B4 := Lib.hid (B1.out.trans (C4.out.mono B1.out.size))
  clear c4
  go_wp2_with fail
  refine (H4.out _ (E0.out.below B4.out)).mono ?_
  rintro e w5 ⟨rfl, c5⟩
  have C5 := Lib.hid (C4.out.trans (c5.mono C4.out.size))
  clear c5
  obtain ⟨W6, hW6⟩ : ∃ W6, W6 = w5.alloc (.cells #[.int .i64 1, .int .i64 50, .int .i64 0, .int .i64 3600, .int .i64 3, .int .i64 3, .int .i64 0, .int .i64 0, .int .i64 0, .int .i64 0, .int .i64 0, .int .i64 0, .int .i64 0, .int .i64 0, .int .i64 0] 29) := ⟨_, rfl⟩
  have m4 : W6.cell? ⟨w5.heap.size, 4, none⟩ = some (.int .i64 3) := by rw [hW6]; exact Lx.cellR _ _ _ _ _ rfl
  have m5 : W6.cell? ⟨w5.heap.size, 5, none⟩ = some (.int .i64 3) := by rw [hW6]; exact Lx.cellR _ _ _ _ _ rfl
  have hl6 : w5.heap.size < W6.heap.size := by rw [hW6]; simp
  have C6 := Lib.hid (show Below W1.heap.size W1 W6 from by rw [hW6]; exact C5.out.alloc C5.out.size _)
  go_upto_region 5 with (fail)
  rw [show w5.alloc (.cells #[.int .i64 1, .int .i64 50, .int .i64 0, .int .i64 3600, .int .i64 3, .int .i64 3, .int .i64 0, .int .i64 0, .int .i64 0, .int .i64 0, .int .i64 0, .int .i64 0, .int .i64 0, .int .i64 0, .int .i64 0] 29) = W6 from hW6.symm]
  clear hW6
  go_wp2_with fail
  refine (HD.out _).mono ?_
  rintro e w7 ⟨rfl, c7⟩
  go_wp2_with fail
  refine (H5.out _).mono ?_
  rintro e w8 ⟨rfl, c8⟩
  have c78 := c7.trans (c8.mono c7.size)
  have C8 := Lib.hid (C6.out.trans (c78.mono C6.out.size))
  have B8 := Lib.hid (B1.out.trans (C8.out.mono B1.out.size))
  have n4 := (c78.cell (p := ⟨w5.heap.size, 4, none⟩) hl6).trans m4
  have n5 := (c78.cell (p := ⟨w5.heap.size, 5, none⟩) hl6).trans m5
  obtain ⟨a0, a11, a12, a13, a14⟩ := HC1.out _ C8.out
  have heq := ex_retry w8
  clear c7 c8 c78 m4 m5 hl6
  go_wp2_with fail
  go_ret
  exact ⟨rfl, B8.out⟩
end Go.Proofs.YtpjocfkolnfjiaaGreatDoor
namespace Go.Proofs.YtpjocfkolnfjiaaGreatDoor
open Go.RowKit

namespace Lx
theorem PSt.new (w : World) (h : Tryz.prog.globals.size ≤ w.heap.size) (p : PolV) : PSt w.heap.size (w.alloc (.cells p.cells.toArray 29)) (w.alloc (.cells p.cells.toArray 29)) p :=
  ⟨by simp, h, World.grownBy.refl _ _, fun j v hj => cellR _ _ _ _ _ (by rw [List.getElem?_toArray]; exact hj), fun j _ => by simp⟩
theorem PSt.low {g : Nat} {w wx w' : World} {q : PolV} (h : PSt g w wx q) (hb : Below wx.heap.size wx w') : PSt g w' w' q := by
  have k := h.below hb
  exact ⟨k.size, k.gl, World.grownBy.refl _ _, k.cell, k.fz⟩
end Lx
set_option maxRecDepth 100000 in
theorem eqPol_self (p : Lx.PolV) (w : World) : (Op.equalIn 10000 29 p.val p.val).run Tryz.prog w = .ok true w := by
  have u3 := Tryz.underlying3
  have a3 := Tryz.isAgg3
  have z3 := Tryz.sizeOf3
  have u2 := Tryz.underlying2
  have a2 := Tryz.isAgg2
  have z2 := Tryz.sizeOf2
  have uL := Tryz.underlying23
  have aL := Tryz.isAgg23
  have zL := Tryz.sizeOf23
  have uB := Tryz.underlying25
  have aB := Tryz.isAgg25
  have zB := Tryz.sizeOf25
  have uR := Tryz.underlying27
  have aR := Tryz.isAgg27
  have zR := Tryz.sizeOf27
  have hS : Tryz.prog.underlying 29 = some (.struct (Tryz.prog.fieldsOf 29)) := by kernel_rfl
  have hL : Tryz.prog.underlying 23 = some (.struct (Tryz.prog.fieldsOf 23)) := by kernel_rfl
  have hB : Tryz.prog.underlying 25 = some (.struct (Tryz.prog.fieldsOf 25)) := by kernel_rfl
  have hR : Tryz.prog.underlying 27 = some (.struct (Tryz.prog.fieldsOf 27)) := by kernel_rfl
  unfold Lx.PolV.val
  rw [show (10000 : Nat) = 9999 + 1 from rfl, run_equalIn_agg w 9999 29 _ _ hS (by kernel_rfl)]
  simp only [Program.fieldsOf, Tryz.underlying29]
  go_simp
end Go.Proofs.YtpjocfkolnfjiaaGreatDoor
