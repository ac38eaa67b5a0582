/- The walk of the reference of units.Hex. -/
import Derived.Test.YtnjfnckodecofaaDoorUnRef
import Derived.Test.YtnjfnckodecofaaDoorConv
namespace Go.Proofs.YtnjfnckodecofaaDoor
open Go.RowKit

theorem Lx.hexs_get (r : Nat) (h : r < (⟨#[48, 49, 50, 51, 52, 53, 54, 55, 56, 57, 97, 98, 99, 100, 101, 102]⟩ : ByteArray).size) : (⟨#[48, 49, 50, 51, 52, 53, 54, 55, 56, 57, 97, 98, 99, 100, 101, 102]⟩ : ByteArray)[r] = Lx.hexD r := by
  have h16 : r < 16 := h
  have key : ∀ r : Fin 16, (⟨#[48, 49, 50, 51, 52, 53, 54, 55, 56, 57, 97, 98, 99, 100, 101, 102]⟩ : ByteArray)[r.val]'r.isLt = Lx.hexD r.val := by decide
  exact key ⟨r, h16⟩

set_option maxRecDepth 100000 in
set_option maxHeartbeats 800000 in
theorem ref_hex_any (n : Nat) (w : World) (hn : (n : Int) ≤ 18446744073709551615) :
    Calls Tryd.prog 18 #[.int .u64 n] w fun e w' => e = .returned (.string ⟨(Lx.hexTo n 16).toArray⟩) ∧ Below w.heap.size w w' := by
  go_enter Tryd.func18, Tryd.ntmps18
  go_wp2
  go_loopw [0, 3, 4] (fun m s i wr => ∃ (k mm : Nat) (sb : ByteArray), k ≤ 16 ∧ i = .int .i64 k ∧ m = .int .u64 mm ∧ (mm : Int) ≤ 18446744073709551615 ∧ s = .string sb ∧ sb.size = k ∧ Lx.hexTo n 16 = Lx.hexTo mm (16 - k) ++ sb.data.toList ∧ Below w.heap.size w wr) (fun _ _ i _ => 16 - (intOf i).toNat)
  case atStart => exact ⟨0, n, ⟨#[]⟩, Nat.zero_le _, rfl, rfl, hn, rfl, rfl, by simp, Below.refl _ _⟩
  case round =>
    obtain ⟨k, mm, sb, hk, rfl, rfl, hmm, rfl, hsb, hrel, hbel⟩ := hrel
    by_cases hlt : k < 16
    · have hstep : Lx.hexTo n 16 = Lx.hexTo (mm / 16) (16 - (k + 1)) ++ (Lx.one (Lx.hexD (mm % 16)) ++ sb).data.toList := by
        rw [hrel, Lx.one_add, show 16 - k = (16 - (k + 1)) + 1 by omega, Lx.hexTo]; simp
      have h16 : mm % 16 < (⟨#[48, 49, 50, 51, 52, 53, 54, 55, 56, 57, 97, 98, 99, 100, 101, 102]⟩ : ByteArray).size := by show mm % 16 < 16; omega
      have hcv := conv_one wr ((⟨#[48, 49, 50, 51, 52, 53, 54, 55, 56, 57, 97, 98, 99, 100, 101, 102]⟩ : ByteArray)[mm % 16].toNat : Int) (Lx.hexD (mm % 16)) (by rw [Lx.hexs_get _ h16])
      have hosz := Lx.one_size (Lx.hexD (mm % 16)) sb
      have hos1 : (Lx.one (Lx.hexD (mm % 16))).size = 1 := rfl
      have Hstep := Lib.hid hstep
      have Hosz := Lib.hid hosz
      have Hsb := Lib.hid hsb
      have hsb2 : sb.size ≤ 16 := by omega
      clear hstep hrel hosz hsb
      have hki : (k : Int) < 16 := by omega
      go_wp2
      go_roundw
      case rel => exact ⟨k + 1, mm / 16, _, by omega, by go_num, by go_num, by omega, rfl, by rw [Hosz.out, Hsb.out], Hstep.out, hbel.alloc hbel.size _⟩
      case measure => simp [intOf]; omega
    · obtain rfl : k = 16 := by omega
      have hf : sb = ⟨(Lx.hexTo n 16).toArray⟩ := by rw [hrel, Nat.sub_self, Lx.hexTo, List.nil_append, Lib.mk_data]
      have Hf := Lib.hid hf
      clear hf hrel hsb
      go_wp2
      go_ret
      exact ⟨Lx.ret_str Hf.out, hbel⟩
end Go.Proofs.YtnjfnckodecofaaDoor
