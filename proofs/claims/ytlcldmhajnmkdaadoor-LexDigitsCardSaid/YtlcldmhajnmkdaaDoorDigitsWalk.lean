/- The walk of LexDigits. -/
import Derived.Test.YtlcldmhajnmkdaaDoorProg
import Derived.Test.YtlcldmhajnmkdaaDoorShelf
import Derived.Test.YtlcldmhajnmkdaaDoorShelf2
import Derived.Test.YtlcldmhajnmkdaaDoorDigitsLx
import Derived.Test.YtlcldmhajnmkdaaDoorNumber
import Derived.Test.YtlcldmhajnmkdaaDoorNumberP
import Derived.Test.YtlcldmhajnmkdaaDoorDigits
import Derived.Test.YtlcldmhajnmkdaaDoorWorks
import Derived.WalkKit
import Derived.WalkSpells
import Derived.WalkLawsBesides
import Derived.BigGuardPart
import Derived.Lib.Hide
import Derived.Lib.Strings
namespace Go.Proofs.YtlcldmhajnmkdaaDoor
open Go.RowKit

namespace Lx
/-- The six texts that are no numbers. -/
def sixOf (t : ByteArray) : List ByteArray := [⟨#[48]⟩ ++ t, ⟨#[43]⟩ ++ t, t ++ ⟨#[32]⟩, ⟨#[32]⟩ ++ t, ⟨#[45, 45]⟩ ++ t, t ++ ⟨#[46]⟩]
theorem app_data (a b : ByteArray) : (a ++ b).data.toList = a.data.toList ++ b.data.toList := by rw [ByteArray.data_append]; simp
theorem six_bad (n : Int) (t : ByteArray) (ht : t.data.toList = Lib.itoa n) : ∀ x ∈ sixOf t, numRes x.data.toList = 0 ∧ numErr x.data.toList = 10 ∧ x.size ≤ t.size + 2 := by
  have hs : ∀ a b : ByteArray, (a ++ b).size = a.size + b.size := fun a b => by rw [Lib.size_eq, app_data, List.length_append, ← Lib.size_eq, ← Lib.size_eq]
  have s1 : ∀ c : UInt8, (⟨#[c]⟩ : ByteArray).size = 1 := fun _ => rfl
  have s2 : ∀ c d : UInt8, (⟨#[c, d]⟩ : ByteArray).size = 2 := fun _ _ => rfl
  intro x hx
  simp only [sixOf, List.mem_cons, List.not_mem_nil, or_false] at hx
  rcases hx with rfl | rfl | rfl | rfl | rfl | rfl <;> rw [app_data, ht, hs]
  · exact ⟨(bad_zero n).1, (bad_zero n).2, by rw [s1]; omega⟩
  · exact ⟨(bad_first 43 (by decide) (by decide) n).1, (bad_first 43 (by decide) (by decide) n).2, by rw [s1]; omega⟩
  · exact ⟨(bad_last 32 (by decide) n).1, (bad_last 32 (by decide) n).2, by rw [s1]; omega⟩
  · exact ⟨(bad_first 32 (by decide) (by decide) n).1, (bad_first 32 (by decide) (by decide) n).2, by rw [s1]; omega⟩
  · exact ⟨(bad_minus n).1, (bad_minus n).2, by rw [s2]; omega⟩
  · exact ⟨(bad_last 46 (by decide) n).1, (bad_last 46 (by decide) n).2, by rw [s1]; omega⟩
theorem six_cell (w : World) (t : ByteArray) (e : TypeId) (k : Nat) (x : ByteArray) (h : (sixOf t)[k]? = some x) :
    (w.alloc (.cells #[.string (⟨#[48]⟩ ++ t), .string (⟨#[43]⟩ ++ t), .string (t ++ ⟨#[32]⟩), .string (⟨#[32]⟩ ++ t), .string (⟨#[45, 45]⟩ ++ t), .string (t ++ ⟨#[46]⟩)] e)).cell? ⟨w.heap.size, k, none⟩ = some (.string x) := by
  match k, h with
  | 0, h => simp [sixOf] at h; subst h; simp
  | 1, h => simp [sixOf] at h; subst h; simp
  | 2, h => simp [sixOf] at h; subst h; simp
  | 3, h => simp [sixOf] at h; subst h; simp
  | 4, h => simp [sixOf] at h; subst h; simp
  | 5, h => simp [sixOf] at h; subst h; simp
theorem it_size (n : Int) (h0 : -9223372036854775808 ≤ n) (h1 : n ≤ 9223372036854775807) : (Lib.itoa n).length ≤ 21 := by
  have hl : (Lib.decDigits n.natAbs).length ≤ 20 := by rw [Lib.decDigits_length]; exact nDigits_le 19 _ (by omega)
  by_cases h : n < 0
  · rw [itoa_neg h, List.length_cons]; omega
  · rw [itoa_pos (by omega)]; omega
end Lx

/-- lex.Number at a text whose answer is known. -/
theorem number_at (s : ByteArray) (r e : Int) (hr : Lx.numRes s.data.toList = r) (he : Lx.numErr s.data.toList = e) (hs : s.size ≤ 1000000000) (w : World) (env : Env w) :
    Calls Tryd.prog 22 #[.string s] w fun x w' => x = .returned (.tuple #[.int .i64 r, .int .i64 e]) ∧ Below w.heap.size w w' := by
  subst hr he; exact number_any s w hs env

set_option maxRecDepth 100000 in
set_option maxHeartbeats 1600000 in
theorem digits_main (n : Int) (h0 : -9223372036854775808 ≤ n) (h1 : n ≤ 9223372036854775807) (s : ByteArray) (hs : s.size ≤ maxLen) (w : World) (env : Env w) :
    Calls Tryd.prog 12 #[.int .i64 n, .string s] w fun e w' => e = .returned (.bool true) ∧ Below w.heap.size w w' := by
  unfold maxLen at hs
  have hD := digits_any n w h0 h1 env
  obtain ⟨t, ht⟩ : ∃ t : ByteArray, t = ⟨(Lib.itoa n).toArray⟩ := ⟨_, rfl⟩
  rw [← ht] at hD
  have htl : t.data.toList = Lib.itoa n := by rw [ht]
  have hts : t.size ≤ 21 := by rw [Lib.size_eq, htl]; exact Lx.it_size n h0 h1
  have hit := Lx.it_num n h0 h1
  rw [← htl] at hit
  have HN := Lib.hid (fun W (E : Env W) => number_at t n 0 hit.1 hit.2 (by omega) W E)
  have Hsix := Lib.hid (Lx.six_bad n t htl)
  have Htl := Lib.hid htl
  clear ht htl hit
  go_enter Tryd.func12, Tryd.ntmps12
  by_cases hbig : 300 < s.size
  · have hbig' : (300 : Int) < (s.size : Int) := by omega
    go_wp2_with fail
    refine hD.mono ?_
    rintro e w1 ⟨rfl, hb1⟩
    have env1 := env.below hb1
    go_wp2_with fail
    refine (HN.out _ env1).mono ?_
    rintro e w2 ⟨rfl, hb2⟩
    have hb2' := hb1.trans (hb2.mono hb1.size)
    have env2 := env.below hb2'
    go_wp2_with fail
    refine (works_any _ env2).mono ?_
    rintro e w4 ⟨rfl, hb4⟩
    go_wp2_with fail
    go_ret
    exact ⟨rfl, hb2'.trans (hb4.mono hb2'.size)⟩
  · have hsm : (s.size : Int) ≤ 300 := by omega
    go_wp2_with fail
    refine hD.mono ?_
    rintro e w1 ⟨rfl, hb1⟩
    have env1 := env.below hb1
    go_wp2_with fail
    refine (HN.out _ env1).mono ?_
    rintro e w2 ⟨rfl, hb2⟩
    have hb2' := hb1.trans (hb2.mono hb1.size)
    have env2 := env.below hb2'
    go_wp2_with fail
    have hcell := Lx.six_cell w2 t 9
    have hbW : Below w.heap.size w (w2.alloc (.cells #[.string (⟨#[48]⟩ ++ t), .string (⟨#[43]⟩ ++ t), .string (t ++ ⟨#[32]⟩), .string (⟨#[32]⟩ ++ t), .string (⟨#[45, 45]⟩ ++ t), .string (t ++ ⟨#[46]⟩)] 9)) := hb2'.alloc hb2'.size _
    have hlt3 : w2.heap.size < (w2.alloc (.cells #[.string (⟨#[48]⟩ ++ t), .string (⟨#[43]⟩ ++ t), .string (t ++ ⟨#[32]⟩), .string (⟨#[32]⟩ ++ t), .string (⟨#[45, 45]⟩ ++ t), .string (t ++ ⟨#[46]⟩)] 9)).heap.size := by rw [World.size_alloc]; omega
    generalize w2.alloc (.cells #[.string (⟨#[48]⟩ ++ t), .string (⟨#[43]⟩ ++ t), .string (t ++ ⟨#[32]⟩), .string (⟨#[32]⟩ ++ t), .string (⟨#[45, 45]⟩ ++ t), .string (t ++ ⟨#[46]⟩)] 9) = w3 at hcell hbW hlt3 ⊢
    generalize w2.heap.size = B at hcell hlt3 ⊢
    have Hcell := Lib.hid hcell
    clear hcell hb2' hb2 hb1 env1 env2
    go_loopw [64] (fun i wr => ∃ k : Nat, k ≤ 6 ∧ i = .int .i64 k ∧ Below w3.heap.size w3 wr) (fun i _ => 6 - (intOf i).toNat)
    case atStart => exact ⟨0, Nat.zero_le _, rfl, Below.refl _ _⟩
    case round =>
      obtain ⟨k, hk, rfl, hbel⟩ := hrel
      have hbr := hbW.trans (hbel.mono hbW.size)
      have envr := env.below hbr
      by_cases hlt : k < 6
      · obtain ⟨x, hx⟩ : ∃ x, (Lx.sixOf t)[k]? = some x := ⟨_, List.getElem?_eq_getElem (show k < (Lx.sixOf t).length from hlt)⟩
        have r0 := (hbel.cell (p := ⟨B, k, none⟩) hlt3).trans (Hcell.out k x hx)
        obtain ⟨y1, y2, y3⟩ := Hsix.out x (List.mem_of_getElem? hx)
        have HX := Lib.hid (number_at x 0 10 y1 y2 (by omega) wr envr)
        have hki : (k : Int) < 6 := by omega
        clear hx y1 y2
        go_wp2_with fail
        refine HX.out.mono ?_
        rintro e w4 ⟨rfl, hb4⟩
        go_wp2_with fail
        go_roundw
        case rel => exact ⟨k + 1, by omega, by go_num, hbel.trans (hb4.mono hbel.size)⟩
        case measure => simp [intOf]; omega
      · obtain rfl : k = 6 := by omega
        have HR := Lib.hid (Tryd.strings_Repeat ⟨#[48]⟩ 19 wr (by decide) (by decide))
        obtain ⟨R, hR⟩ : ∃ R : ByteArray, R = ⟨(Lib.repeatL (⟨#[48]⟩ : ByteArray).data.toList 19).toArray⟩ := ⟨_, rfl⟩
        have hRl : R.data.toList = Lib.repeatL [48] 19 := by rw [hR]
        rw [← hR] at HR
        have hRs : R.size = 19 := by rw [Lib.size_eq, hRl]; decide
        have HT := Lib.hid (fun W => Tryd.strings_TrimPrefix t ⟨#[45]⟩ W)
        obtain ⟨T, hT⟩ : ∃ T : ByteArray, T = ⟨(Lib.trimPrefix t.data.toList (⟨#[45]⟩ : ByteArray).data.toList).toArray⟩ := ⟨_, rfl⟩
        have hTl : T.data.toList = Lib.decDigits n.natAbs := by
          rw [hT]
          show Lib.trimPrefix t.data.toList [45] = _
          rw [Lx.trim_minus, Htl.out, Lx.it_body]
        rw [← hT] at HT
        have hTs : T.size ≤ 21 := by
          rw [Lib.size_eq, hTl, ← Lx.it_body]
          have := Lx.body_le (Lib.itoa n)
          have := Lx.it_size n h0 h1
          omega
        have hall : (⟨#[49]⟩ ++ R ++ T : ByteArray).data.toList = 49 :: (Lib.repeatL [48] 19 ++ Lib.decDigits n.natAbs) := by
          rw [Lx.app_data, Lx.app_data, hRl, hTl]; rfl
        have hov := Lx.over_long n
        rw [← hall] at hov
        have hos : (⟨#[49]⟩ ++ R ++ T : ByteArray).size ≤ 1000 := by
          rw [Lib.size_eq, Lx.app_data, Lx.app_data, List.length_append, List.length_append, ← Lib.size_eq, ← Lib.size_eq, ← Lib.size_eq, hRs]
          have : (⟨#[49]⟩ : ByteArray).size = 1 := rfl
          omega
        have HO := Lib.hid (fun W (E : Env W) => number_at (⟨#[49]⟩ ++ R ++ T) 0 7 hov.1 hov.2 (by omega) W E)
        have h49 : (⟨#[49]⟩ : ByteArray).size = 1 := rfl
        clear hR hRl hT hTl hall hov
        go_wp2_with fail
        refine HR.out.mono ?_
        rintro e w4 ⟨rfl, hb4⟩
        have hb4' := hbr.trans (hb4.mono hbr.size)
        go_wp2_with fail
        refine (HT.out _).mono ?_
        rintro e w5 ⟨rfl, rfl⟩
        go_wp2_with fail
        refine (HO.out _ (env.below hb4')).mono ?_
        rintro e w6 ⟨rfl, hb6⟩
        have hb6' := hb4'.trans (hb6.mono hb4'.size)
        have env6 := env.below hb6'
        go_wp2_with fail
        by_cases he : Lx.numErr s.data.toList = 0
        · have hrb := Lx.read_back he
          have hbd : -9223372036854775808 ≤ Lx.numRes s.data.toList ∧ Lx.numRes s.data.toList ≤ 9223372036854775807 := by
            unfold Lx.numRes
            split
            · rename_i h; rw [Bool.and_eq_true] at h
              have := h.2; unfold Lx.numIn at this; exact of_decide_eq_true this
            · omega
          have HS := Lib.hid (number_at s _ 0 rfl he (by omega) w6 env6)
          have HD := Lib.hid (fun W (E : Env W) => digits_any (Lx.numRes s.data.toList) W hbd.1 hbd.2 E)
          rw [hrb] at HD
          obtain ⟨r, hr⟩ : ∃ r, r = Lx.numRes s.data.toList := ⟨_, rfl⟩
          rw [← hr] at HS HD
          clear hr hrb hbd he
          refine HS.out.mono ?_
          rintro e w7 ⟨rfl, hb7⟩
          have hb7' := hb6'.trans (hb7.mono hb6'.size)
          have env7 := env.below hb7'
          go_wp2_with fail
          refine (HD.out _ env7).mono ?_
          rintro e w8 ⟨rfl, hb8⟩
          have hb8' := hb7'.trans (hb8.mono hb7'.size)
          have env8 := env.below hb8'
          go_wp2_with fail
          refine (works_any _ env8).mono ?_
          rintro e w9 ⟨rfl, hb9⟩
          go_wp2_with fail
          go_ret
          exact ⟨rfl, hb8'.trans (hb9.mono hb8'.size)⟩
        · obtain ⟨b1, b2⟩ := Lx.read_bad he
          rw [← Lib.size_eq] at b2
          rcases b2 with b2 | ⟨b2, b3⟩
          · refine (number_at s 0 10 b1 b2 (by omega) w6 env6).mono ?_
            clear b1 b2 he
            rintro e w7 ⟨rfl, hb7⟩
            have hb7' := hb6'.trans (hb7.mono hb6'.size)
            have env7 := env.below hb7'
            go_wp2_with fail
            refine (works_any _ env7).mono ?_
            rintro e w9 ⟨rfl, hb9⟩
            go_wp2_with fail
            go_ret
            exact ⟨rfl, hb7'.trans (hb9.mono hb7'.size)⟩
          · refine (number_at s 0 7 b1 b2 (by omega) w6 env6).mono ?_
            have b3' : (18 : Int) < (s.size : Int) := by omega
            clear b1 b2 he
            rintro e w7 ⟨rfl, hb7⟩
            have hb7' := hb6'.trans (hb7.mono hb6'.size)
            have env7 := env.below hb7'
            go_wp2_with fail
            refine (works_any _ env7).mono ?_
            rintro e w9 ⟨rfl, hb9⟩
            go_wp2_with fail
            go_ret
            exact ⟨rfl, hb7'.trans (hb9.mono hb7'.size)⟩
end Go.Proofs.YtlcldmhajnmkdaaDoor
