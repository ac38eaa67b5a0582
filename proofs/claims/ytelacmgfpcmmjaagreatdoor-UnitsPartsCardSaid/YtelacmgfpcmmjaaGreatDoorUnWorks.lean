/- The walk of works of chapter 13, the examples that every law of it runs: true. -/
import Derived.Test.YtelacmgfpcmmjaaGreatDoorUnLim
namespace Go.Proofs.YtelacmgfpcmmjaaGreatDoor
open Go.RowKit

namespace Lx
theorem exu1 : parV [49, 100, 50, 104, 51, 109, 52, 115] = 93784 := by decide +kernel
theorem exu2 : parE [49, 100, 50, 104, 51, 109, 52, 115] = 0 := by decide +kernel
theorem exu3 : prnV 93784 = [49, 100, 50, 104, 51, 109, 52, 115] := by decide +kernel
theorem exu4 : prnE 93784 = 0 := by decide +kernel
theorem exu5 : seedV [48, 48, 48, 48, 48, 48, 48, 48, 48, 48, 48, 48, 48, 48, 102, 102] = 255 := by decide +kernel
theorem exu6 : seedE [48, 48, 48, 48, 48, 48, 48, 48, 48, 48, 48, 48, 48, 48, 102, 102] = 0 := by decide +kernel
theorem exu7 : intV [49, 48] 1 9 = 0 := by decide +kernel
theorem exu8 : intE [49, 48] 1 9 = 3 := by decide +kernel
theorem exu9 : pairK ⟨#[99, 97, 112, 61, 51]⟩ = ⟨#[99, 97, 112]⟩ := by decide +kernel
theorem exu10 : pairV ⟨#[99, 97, 112, 61, 51]⟩ = ⟨#[51]⟩ := by decide +kernel
theorem exu11 : pairE ⟨#[99, 97, 112, 61, 51]⟩ = 0 := by decide +kernel
theorem exu12 : limT ⟨#[49, 47, 53, 115, 43, 49, 48, 115]⟩ = 5 := by decide +kernel
theorem exu13 : limU ⟨#[49, 47, 53, 115, 43, 49, 48, 115]⟩ = 10 := by decide +kernel
theorem exu14 : limE ⟨#[49, 47, 53, 115, 43, 49, 48, 115]⟩ = 0 := by decide +kernel
theorem exu15 : parV [48, 104] = 0 := by decide +kernel
theorem exu16 : parE [48, 104] = 10 := by decide +kernel
theorem exu17 : hexTo 255 16 = [48, 48, 48, 48, 48, 48, 48, 48, 48, 48, 48, 48, 48, 48, 102, 102] := by decide +kernel
end Lx

set_option maxRecDepth 100000 in
set_option maxHeartbeats 1600000 in
theorem uworks_any (w : World) (env : UEnv w) :
    Calls Tryz.prog 6 #[] w fun e w' => e = .returned (.bool true) ∧ Below w.heap.size w w' := by
  have h1 := Lib.hid (parse_any ⟨#[49, 100, 50, 104, 51, 109, 52, 115]⟩ (by decide) w env)
  rw [show (⟨#[49, 100, 50, 104, 51, 109, 52, 115]⟩ : ByteArray).data.toList = [49, 100, 50, 104, 51, 109, 52, 115] from rfl, Lx.exu1, Lx.exu2] at h1
  have h2 := Lib.hid (fun W (E : UEnv W) => print_any 93784 W E)
  rw [Lx.exu3, Lx.exu4] at h2
  have h3 := Lib.hid (fun W => seed_any ⟨#[48, 48, 48, 48, 48, 48, 48, 48, 48, 48, 48, 48, 48, 48, 102, 102]⟩ (by decide) W)
  rw [show (⟨#[48, 48, 48, 48, 48, 48, 48, 48, 48, 48, 48, 48, 48, 48, 102, 102]⟩ : ByteArray).data.toList = [48, 48, 48, 48, 48, 48, 48, 48, 48, 48, 48, 48, 48, 48, 102, 102] from rfl, Lx.exu5, Lx.exu6] at h3
  have h4 := Lib.hid (fun W (E : UEnv W) => int_any ⟨#[49, 48]⟩ 1 9 W (by decide) E.env)
  rw [show (⟨#[49, 48]⟩ : ByteArray).data.toList = [49, 48] from rfl, Lx.exu7, Lx.exu8] at h4
  have h5 := Lib.hid (fun W => pair_any ⟨#[99, 97, 112, 61, 51]⟩ W (by decide))
  rw [Lx.exu9, Lx.exu10, Lx.exu11] at h5
  have h6 := Lib.hid (fun W (E : UEnv W) => limit_any ⟨#[49, 47, 53, 115, 43, 49, 48, 115]⟩ (by decide) W E)
  rw [Lx.exu12, Lx.exu13, Lx.exu14] at h6
  have h7 := Lib.hid (fun W (E : UEnv W) => parse_any ⟨#[48, 104]⟩ (by decide) W E)
  rw [show (⟨#[48, 104]⟩ : ByteArray).data.toList = [48, 104] from rfl, Lx.exu15, Lx.exu16] at h7
  have h8 := Lib.hid (fun W (E : UEnv W) => hex_any 255 (by decide) W E)
  rw [Lx.exu17] at h8
  go_enter Tryz.func6, Tryz.ntmps6
  go_wp2_with fail
  refine h1.out.mono ?_
  rintro e w1 ⟨rfl, b1⟩
  have e1 := env.below b1
  go_wp2_with fail
  refine (h2.out _ e1).mono ?_
  rintro e w2 ⟨rfl, c2⟩
  have b2 := b1.trans (c2.mono b1.size)
  have e2 := env.below b2
  clear c2 e1 b1
  go_wp2_with fail
  refine (h3.out _).mono ?_
  rintro e w3 ⟨rfl, c3⟩
  have b3 := b2.trans (c3.mono b2.size)
  have e3 := env.below b3
  clear c3 e2 b2
  go_wp2_with fail
  refine (h4.out _ e3).mono ?_
  rintro e w4 ⟨rfl, c4⟩
  have b4 := b3.trans (c4.mono b3.size)
  have e4 := env.below b4
  clear c4 e3 b3
  go_wp2_with fail
  refine (h5.out _).mono ?_
  rintro e w5 ⟨rfl, c5⟩
  have b5 := b4.trans (c5.mono b4.size)
  have e5 := env.below b5
  clear c5 e4 b4
  go_wp2_with fail
  refine (h6.out _ e5).mono ?_
  rintro e w6 ⟨rfl, c6⟩
  have b6 := b5.trans (c6.mono b5.size)
  have ca : Below w6.heap.size w6 (w6.alloc (.cells #[.int .i64 5, .int .i64 10] 44)) := (Below.refl _ _).alloc (Nat.le_refl _) _
  have b7 := b6.trans (ca.mono b6.size)
  have e7 := env.below b7
  have lt7 : w6.heap.size < (w6.alloc (.cells #[.int .i64 5, .int .i64 10] 44)).heap.size := by simp
  clear c6 e5 b5
  go_wp2_with fail
  refine (h7.out _ e7).mono ?_
  rintro e w8 ⟨rfl, c8⟩
  have b8 := b7.trans (c8.mono b7.size)
  have e8 := env.below b8
  have d0 : w8.cell? ⟨w6.heap.size, 0, none⟩ = some (.int .i64 5) := (c8.cell (p := ⟨w6.heap.size, 0, none⟩) lt7).trans (by simp)
  have d1 : w8.cell? ⟨w6.heap.size, 1, none⟩ = some (.int .i64 10) := (c8.cell (p := ⟨w6.heap.size, 1, none⟩) lt7).trans (by simp)
  have lt8 := Nat.lt_of_lt_of_le lt7 c8.size
  clear c8 e7 b7 lt7 ca b6
  go_wp2_with fail
  refine (h8.out _ e8).mono ?_
  rintro e w9 ⟨rfl, c9⟩
  have b9 := b8.trans (c9.mono b8.size)
  have g0 := (c9.cell (p := ⟨w6.heap.size, 0, none⟩) lt8).trans d0
  have g1 := (c9.cell (p := ⟨w6.heap.size, 1, none⟩) lt8).trans d1
  clear c9 d0 d1 e8 b8
  go_wp2_with fail
  go_ret
  exact ⟨rfl, b9⟩
end Go.Proofs.YtelacmgfpcmmjaaGreatDoor
