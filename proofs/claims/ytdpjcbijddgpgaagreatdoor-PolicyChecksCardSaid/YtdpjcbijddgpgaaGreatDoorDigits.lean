/- The walks of lex.Digits and of its reference: both write a number's decimal digits. -/
import Derived.Test.YtdpjcbijddgpgaaGreatDoorProg
import Derived.Test.YtdpjcbijddgpgaaGreatDoorLx
import Derived.Test.YtdpjcbijddgpgaaGreatDoorNum
import Derived.Test.YtdpjcbijddgpgaaGreatDoorDigitsP
import Derived.Test.YtdpjcbijddgpgaaGreatDoorConv
import Derived.Test.YtdpjcbijddgpgaaGreatDoorShelf
import Derived.Test.YtdpjcbijddgpgaaGreatDoorEnv
import Derived.WalkKit
import Derived.WalkSpells
import Derived.WalkLawsBesides
import Derived.BigQuiet
import Derived.BigGuardPart
import Derived.Lib.Hide
import Derived.Lib.Strings
namespace Go.Proofs.YtdpjcbijddgpgaaGreatDoor
open Go.RowKit


theorem digits_any (n : Int) (w : World) (h0 : -9223372036854775808 ≤ n) (h1 : n ≤ 9223372036854775807) (env : Env w) :
    Calls Tryz.prog 141 #[.int .i64 n] w fun e w' => e = .returned (.string ⟨(Lib.itoa n).toArray⟩) ∧ Below w.heap.size w w' := by
  have hf := Tryz.strconv_FormatInt_10 n h0 h1 w env.pow
  go_enter Tryz.func141, Tryz.ntmps141
  go_wp2_with (go_at_call 159; refine hf.mono ?_; rintro e w' ⟨rfl, k, os, rfl⟩)
  go_ret
  exact ⟨rfl, ⟨rfl, rfl, rfl, by simp [Sort.grow, World.drewN], fun j hj => by simp [Sort.grow, World.drewN, Array.getElem?_append, hj]⟩⟩

set_option maxRecDepth 100000 in
set_option maxHeartbeats 1600000 in
theorem ref_digits_any (n : Int) (w : World) (h0 : -9223372036854775808 ≤ n) (h1 : n ≤ 9223372036854775807) :
    Calls Tryz.prog 134 #[.int .i64 n] w fun e w' => e = .returned (.string ⟨(Lib.itoa n).toArray⟩) ∧ Below w.heap.size w w' := by
  go_enter Tryz.func134, Tryz.ntmps134
  go_wp2
  go_loopw [3, 4] (fun s k wr => ∃ (sb : ByteArray) (kk : Int), s = .string sb ∧ k = .int .i64 kk ∧ -9223372036854775808 ≤ kk ∧ kk ≤ 9223372036854775807 ∧ Lx.DgRel n.natAbs sb kk.natAbs ∧ Below w.heap.size w wr) (fun s k _ => 2 * (intOf k).natAbs + Lx.emptyV s)
  case atStart => exact ⟨⟨#[]⟩, n, rfl, rfl, h0, h1, Lx.dg_start _, Below.refl _ _⟩
  case round =>
    obtain ⟨sb, kk, rfl, rfl, k0, k1, hrel, hbel⟩ := hrel
    have hsb := Lx.dg_size hrel (by omega)
    have Hrel := Lib.hid hrel
    clear hrel
    obtain ⟨c, hc⟩ : ∃ c, c = UInt8.ofNat (48 + kk.natAbs % 10) := ⟨_, rfl⟩
    have hcn : (c.toNat : Int) = 48 + ((kk.natAbs % 10 : Nat) : Int) := by rw [hc, UInt8.toNat_ofNat']; omega
    have hosz : (Lx.one c).size = 1 := rfl
    have Hc := Lib.hid hc
    clear hc
    by_cases hk : 0 < kk
    · have hkb : (kk != 0) = true := by rw [bne_iff_ne]; omega
      have hcv := conv_one wr (48 + kk % 10) c (by omega)
      have Hcn := Lib.hid hcn
      clear hcn
      go_wp2
      go_roundw
      case rel =>
        refine ⟨_, kk / 10, rfl, rfl, by omega, by omega, ?_, hbel.alloc hbel.size _⟩
        have := Lx.dg_step Hrel.out (.inl (by omega))
        rw [show (kk / 10).natAbs = kk.natAbs / 10 by omega, Hc.out]
        exact this
      case measure => rw [Lx.emptyV_add]; simp only [intOf]; omega
    · by_cases hk2 : kk < 0
      · have hkb : (kk != 0) = true := by rw [bne_iff_ne]; omega
        have hm := Lx.tmod_neg hk2
        have ht := Lx.tdiv_abs kk
        have htb := Lx.tdiv_bd hk2
        obtain ⟨r, hr⟩ : ∃ r, kk.tmod 10 = r := ⟨_, rfl⟩
        obtain ⟨q, hq⟩ : ∃ q, kk.tdiv 10 = q := ⟨_, rfl⟩
        rw [hr] at hm
        rw [hq] at ht htb
        have Ht := Lib.hid ht
        clear ht
        have hr9 : -9 ≤ r := by omega
        by_cases hr0 : r < 0
        · have hcv := conv_one wr (48 + -r) c (by omega)
          have Hcn := Lib.hid hcn
          have Hm := Lib.hid hm
          clear hcn hm
          go_wp2
          go_roundw
          case rel =>
            refine ⟨_, q, rfl, rfl, by omega, by omega, ?_, hbel.alloc hbel.size _⟩
            have := Lx.dg_step Hrel.out (.inl (by omega))
            rw [Ht.out, Hc.out]
            exact this
          case measure => rw [Lx.emptyV_add]; simp only [intOf]; have := Ht.out; omega
        · have hr1 : r = 0 := by omega
          subst hr1
          have hcv := conv_one wr 48 c (by omega)
          have Hcn := Lib.hid hcn
          have Hm := Lib.hid hm
          clear hcn hm
          go_wp2
          go_roundw
          case rel =>
            refine ⟨_, q, rfl, rfl, by omega, by omega, ?_, hbel.alloc hbel.size _⟩
            have := Lx.dg_step Hrel.out (.inl (by omega))
            rw [Ht.out, Hc.out]
            exact this
          case measure => rw [Lx.emptyV_add]; simp only [intOf]; have := Ht.out; omega
      · obtain rfl : kk = 0 := by omega
        by_cases he : sb.size = 0
        · have heb := Lx.streq he
          have hcv := conv_one wr 48 c (by omega)
          have Hcn := Lib.hid hcn
          clear hcn
          go_wp2
          go_roundw
          case rel =>
            refine ⟨_, 0, rfl, rfl, by omega, by omega, ?_, hbel.alloc hbel.size _⟩
            have := Lx.dg_step Hrel.out (.inr he)
            rw [Hc.out]
            exact this
          case measure => rw [Lx.emptyV_add, Lx.emptyV_nil he]; simp only [intOf]; omega
        · have heb := Lx.strne he
          have hfin := Lx.dg_end Hrel.out he
          have Hfin := Lib.hid hfin
          clear hfin hcn
          by_cases hn : n < 0
          · have hi := Lx.itoa_neg hn
            have Hi := Lib.hid hi
            clear hi
            go_wp2
            go_ret
            exact ⟨Lx.ret_str (by rw [Hi.out, Hfin.out]; exact Lx.minus_add _), hbel⟩
          · have hi := Lx.itoa_pos (n := n) (by omega)
            have Hi := Lib.hid hi
            clear hi
            go_wp2
            go_ret
            exact ⟨Lx.ret_str (by rw [Hi.out]; exact Hfin.out), hbel⟩
end Go.Proofs.YtdpjcbijddgpgaaGreatDoor
