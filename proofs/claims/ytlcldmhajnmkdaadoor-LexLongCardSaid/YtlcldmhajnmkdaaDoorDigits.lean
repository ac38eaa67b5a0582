/- The walks of lex.Digits and of its reference: both write a number's decimal digits. -/
import Derived.Test.YtlcldmhajnmkdaaDoorProg
import Derived.Test.YtlcldmhajnmkdaaDoorLx
import Derived.Test.YtlcldmhajnmkdaaDoorNum
import Derived.Test.YtlcldmhajnmkdaaDoorShelf
import Derived.Test.YtlcldmhajnmkdaaDoorEnv
import Derived.WalkKit
import Derived.WalkSpells
import Derived.WalkLawsBesides
import Derived.BigQuiet
import Derived.BigGuardPart
import Derived.Lib.Hide
import Derived.Lib.Strings
namespace Go.Proofs.YtlcldmhajnmkdaaDoor
open Go.RowKit

namespace Lx
/-- Between two rounds of the reference: k is what is left, sb what has been written. -/
def DgRel (u : Nat) (sb : ByteArray) (k : Nat) : Prop :=
  (k ≠ 0 ∨ sb.size = 0 → Lib.decDigits u = Lib.decDigits k ++ sb.data.toList) ∧ (k = 0 ∧ sb.size ≠ 0 → Lib.decDigits u = sb.data.toList)
theorem dg_start (u : Nat) : DgRel u ⟨#[]⟩ u := by
  refine ⟨fun _ => by simp, fun h => ?_⟩
  exact absurd rfl h.2
def one (c : UInt8) : ByteArray := ⟨#[c]⟩
theorem one_add (c : UInt8) (sb : ByteArray) : (one c ++ sb).data.toList = c :: sb.data.toList := by
  rw [ByteArray.data_append]; simp [one]
theorem one_size (c : UInt8) (sb : ByteArray) : (one c ++ sb).size = sb.size + 1 := by
  rw [Lib.size_eq, one_add, Lib.size_eq]; rfl
theorem dg_step {u : Nat} {sb : ByteArray} {k : Nat} (h : DgRel u sb k) (hk : k ≠ 0 ∨ sb.size = 0) : DgRel u (one (UInt8.ofNat (48 + k % 10)) ++ sb) (k / 10) := by
  have h1 := h.1 hk
  refine ⟨fun h2 => ?_, fun h2 => ?_⟩
  · rw [one_add]
    have hk10 : ¬ k < 10 := by
      rw [one_size] at h2
      omega
    rw [h1, Lib.decDigits, dif_neg hk10]; simp
  · rw [one_add]
    have hk10 : k < 10 := by omega
    rw [h1, Lib.decDigits, dif_pos hk10, Nat.mod_eq_of_lt hk10]; rfl
theorem dg_end {u : Nat} {sb : ByteArray} (h : DgRel u sb 0) (hk : sb.size ≠ 0) : sb = ⟨(Lib.decDigits u).toArray⟩ := by
  rw [h.2 ⟨rfl, hk⟩, Lib.mk_data]
theorem nDigits_le : ∀ (n u : Nat), u < 10 ^ (n + 1) → Lib.nDigits u ≤ n + 1
  | 0, u, h => by rw [Lib.nDigits_small (by omega)]; omega
  | n + 1, u, h => by
    by_cases hu : u < 10
    · rw [Lib.nDigits_small hu]; omega
    · rw [Lib.nDigits, dif_neg hu]
      have := nDigits_le n (u / 10) (by rw [Nat.div_lt_iff_lt_mul (by omega)]; rw [Nat.pow_succ] at h; exact h)
      omega
theorem dg_size {u : Nat} {sb : ByteArray} {k : Nat} (h : DgRel u sb k) (hu : u ≤ 9223372036854775808) : sb.size ≤ 20 := by
  have hl : (Lib.decDigits u).length ≤ 20 := by rw [Lib.decDigits_length]; exact nDigits_le 19 u (by omega)
  by_cases hk : k ≠ 0 ∨ sb.size = 0
  · rw [h.1 hk, List.length_append, ← Lib.size_eq] at hl; omega
  · rw [h.2 (by omega), ← Lib.size_eq] at hl; omega
def emptyV : Value → Nat
  | .string s => if s.size = 0 then 1 else 0
  | _ => 0
theorem itoa_pos {n : Int} (h : 0 ≤ n) : Lib.itoa n = Lib.decDigits n.natAbs := by
  unfold Lib.itoa; rw [if_neg (by omega)]; congr 1; omega
theorem itoa_neg {n : Int} (h : n < 0) : Lib.itoa n = 45 :: Lib.decDigits n.natAbs := by
  unfold Lib.itoa; rw [if_pos h]
theorem tdiv_abs (k : Int) : (k.tdiv 10).natAbs = k.natAbs / 10 := by rw [Int.natAbs_tdiv]; rfl
theorem tmod_neg {k : Int} (h : k < 0) : k.tmod 10 = -((k.natAbs % 10 : Nat) : Int) := by
  have e : k = -(k.natAbs : Int) := by omega
  rw [e, Int.neg_tmod, Int.natAbs_neg, Int.natAbs_natCast]; rfl
theorem strne {s : ByteArray} (h : s.size ≠ 0) : s.toList.isEmpty = false := by
  rw [Lib.toList_data]
  cases h2 : s.data.toList with
  | nil => exact absurd (by rw [Lib.size_eq, h2]; rfl) h
  | cons a l => rfl
theorem streq {s : ByteArray} (h : s.size = 0) : s.toList.isEmpty = true := by
  rw [Lib.toList_data, nil_of_size h]; rfl
theorem tdiv_bd {k : Int} (h : k < 0) : k ≤ k.tdiv 10 ∧ k.tdiv 10 ≤ 0 := by
  have e : k = -(k.natAbs : Int) := by omega
  generalize k.natAbs = m at e
  subst e
  rw [Int.neg_tdiv, Int.tdiv_eq_ediv_of_nonneg (by omega)]
  omega
theorem emptyV_add (c : UInt8) (sb : ByteArray) : emptyV (.string (one c ++ sb)) = 0 := by
  show (if (one c ++ sb).size = 0 then 1 else 0) = 0
  rw [one_size]; simp
theorem emptyV_nil {sb : ByteArray} (h : sb.size = 0) : emptyV (.string sb) = 1 := by
  show (if sb.size = 0 then 1 else 0) = 1
  rw [if_pos h]
theorem minus_add (l : List UInt8) : (⟨#[45]⟩ : ByteArray) ++ ⟨l.toArray⟩ = ⟨(45 :: l).toArray⟩ := by
  rw [← Lib.mk_data ((⟨#[45]⟩ : ByteArray) ++ ⟨l.toArray⟩)]
  congr 2
end Lx

/-- 'string([]byte{x})' of a byte just laid. -/
theorem conv_one (w : World) (x : Int) (c : UInt8) (hx : x = (c.toNat : Int)) :
    (convert 52 9 (.slice (some ⟨w.heap.size, 0, none⟩) 1 1)).run Tryd.prog (w.alloc (.cells #[.int .u8 x] 5)) = .ok (.string (Lx.one c)) (w.alloc (.cells #[.int .u8 x] 5)) := by
  have := run_convert_bytes_back (P := Tryd.prog) (w.alloc (.cells #[.int .u8 x] 5)) 52 9 5 ⟨w.heap.size, 0, none⟩ 1 [c] Tryd.underlying52 Tryd.underlying5 Tryd.underlying9 (by
    intro j hj
    have : j = 0 := by simpa using hj
    subst this
    simp [Addr.add, hx])
  exact this

theorem digits_any (n : Int) (w : World) (h0 : -9223372036854775808 ≤ n) (h1 : n ≤ 9223372036854775807) (env : Env w) :
    Calls Tryd.prog 24 #[.int .i64 n] w fun e w' => e = .returned (.string ⟨(Lib.itoa n).toArray⟩) ∧ Below w.heap.size w w' := by
  have hf := Tryd.strconv_FormatInt_10 n h0 h1 w env.pow
  go_enter Tryd.func24, Tryd.ntmps24
  go_wp2_with (go_at_call 45; refine hf.mono ?_; rintro e w' ⟨rfl, k, os, rfl⟩)
  go_ret
  exact ⟨rfl, ⟨rfl, rfl, rfl, by simp [Sort.grow, World.drewN], fun j hj => by simp [Sort.grow, World.drewN, Array.getElem?_append, hj]⟩⟩

set_option maxRecDepth 100000 in
set_option maxHeartbeats 1600000 in
theorem ref_digits_any (n : Int) (w : World) (h0 : -9223372036854775808 ≤ n) (h1 : n ≤ 9223372036854775807) :
    Calls Tryd.prog 25 #[.int .i64 n] w fun e w' => e = .returned (.string ⟨(Lib.itoa n).toArray⟩) ∧ Below w.heap.size w w' := by
  go_enter Tryd.func25, Tryd.ntmps25
  go_wp2
  go_loopw [3, 4] (fun s k wr => ∃ (sb : ByteArray) (kk : Int), s = .string sb ∧ k = .int .i64 kk ∧ -9223372036854775808 ≤ kk ∧ kk ≤ 9223372036854775807 ∧ Lx.DgRel n.natAbs sb kk.natAbs ∧ Below w.heap.size w wr) (fun s k _ => 2 * (intOf k).natAbs + Lx.emptyV s)
  case atStart => exact ⟨⟨#[]⟩, n, rfl, rfl, h0, h1, Lx.dg_start _, Below.refl _ _⟩
  case round =>
    obtain ⟨sb, kk, rfl, rfl, k0, k1, hrel, hbel⟩ := hrel
    have hsb := Lx.dg_size hrel (by omega)
    have Hrel := Lib.hid hrel
    clear hrel
    obtain ⟨c, hc⟩ : ∃ c, c = UInt8.ofNat (48 + kk.natAbs % 10) := ⟨_, rfl⟩
    have hcn : (c.toNat : Int) = 48 + ((kk.natAbs % 10 : Nat) : Int) := by rw [hc, UInt8.toNat_ofNat']; omega
    have hosz : (Lx.one c).size = 1 := rfl
    have Hc := Lib.hid hc
    clear hc
    by_cases hk : 0 < kk
    · have hkb : (kk != 0) = true := by rw [bne_iff_ne]; omega
      have hcv := conv_one wr (48 + kk % 10) c (by omega)
      have Hcn := Lib.hid hcn
      clear hcn
      go_wp2
      go_roundw
      case rel =>
        refine ⟨_, kk / 10, rfl, rfl, by omega, by omega, ?_, hbel.alloc hbel.size _⟩
        have := Lx.dg_step Hrel.out (.inl (by omega))
        rw [show (kk / 10).natAbs = kk.natAbs / 10 by omega, Hc.out]
        exact this
      case measure => rw [Lx.emptyV_add]; simp only [intOf]; omega
    · by_cases hk2 : kk < 0
      · have hkb : (kk != 0) = true := by rw [bne_iff_ne]; omega
        have hm := Lx.tmod_neg hk2
        have ht := Lx.tdiv_abs kk
        have htb := Lx.tdiv_bd hk2
        obtain ⟨r, hr⟩ : ∃ r, kk.tmod 10 = r := ⟨_, rfl⟩
        obtain ⟨q, hq⟩ : ∃ q, kk.tdiv 10 = q := ⟨_, rfl⟩
        rw [hr] at hm
        rw [hq] at ht htb
        have Ht := Lib.hid ht
        clear ht
        have hr9 : -9 ≤ r := by omega
        by_cases hr0 : r < 0
        · have hcv := conv_one wr (48 + -r) c (by omega)
          have Hcn := Lib.hid hcn
          have Hm := Lib.hid hm
          clear hcn hm
          go_wp2
          go_roundw
          case rel =>
            refine ⟨_, q, rfl, rfl, by omega, by omega, ?_, hbel.alloc hbel.size _⟩
            have := Lx.dg_step Hrel.out (.inl (by omega))
            rw [Ht.out, Hc.out]
            exact this
          case measure => rw [Lx.emptyV_add]; simp only [intOf]; have := Ht.out; omega
        · have hr1 : r = 0 := by omega
          subst hr1
          have hcv := conv_one wr 48 c (by omega)
          have Hcn := Lib.hid hcn
          have Hm := Lib.hid hm
          clear hcn hm
          go_wp2
          go_roundw
          case rel =>
            refine ⟨_, q, rfl, rfl, by omega, by omega, ?_, hbel.alloc hbel.size _⟩
            have := Lx.dg_step Hrel.out (.inl (by omega))
            rw [Ht.out, Hc.out]
            exact this
          case measure => rw [Lx.emptyV_add]; simp only [intOf]; have := Ht.out; omega
      · obtain rfl : kk = 0 := by omega
        by_cases he : sb.size = 0
        · have heb := Lx.streq he
          have hcv := conv_one wr 48 c (by omega)
          have Hcn := Lib.hid hcn
          clear hcn
          go_wp2
          go_roundw
          case rel =>
            refine ⟨_, 0, rfl, rfl, by omega, by omega, ?_, hbel.alloc hbel.size _⟩
            have := Lx.dg_step Hrel.out (.inr he)
            rw [Hc.out]
            exact this
          case measure => rw [Lx.emptyV_add, Lx.emptyV_nil he]; simp only [intOf]; omega
        · have heb := Lx.strne he
          have hfin := Lx.dg_end Hrel.out he
          have Hfin := Lib.hid hfin
          clear hfin hcn
          by_cases hn : n < 0
          · have hi := Lx.itoa_neg hn
            have Hi := Lib.hid hi
            clear hi
            go_wp2
            go_ret
            exact ⟨Lx.ret_str (by rw [Hi.out, Hfin.out]; exact Lx.minus_add _), hbel⟩
          · have hi := Lx.itoa_pos (n := n) (by omega)
            have Hi := Lib.hid hi
            clear hi
            go_wp2
            go_ret
            exact ⟨Lx.ret_str (by rw [Hi.out]; exact Hfin.out), hbel⟩
end Go.Proofs.YtlcldmhajnmkdaaDoor
