/- The library's contracts that units.read takes, at this dump: TrimLeft at digits, IndexFunc at the units. -/
import Derived.Test.YtpjocfkolnfjiaaGreatDoorProg
import Derived.Test.YtpjocfkolnfjiaaGreatDoorShelf
import Derived.Test.YtpjocfkolnfjiaaGreatDoorUnSpec
import Derived.Test.YtpjocfkolnfjiaaGreatDoorUnEnv
import Derived.Shelf.Strings.SlTrimAscii
import Derived.Shelf.SlicesQ.IndexFunc
import Derived.WalkSpells
import Derived.WalkLawsBesides
import Derived.Deep.QuietTactic
import Derived.BigQuiet
import Derived.Lib.Hide
namespace Go.Proofs.YtpjocfkolnfjiaaGreatDoor
open Go.Shelf Go.RowKit

theorem trim_left (s : ByteArray) (w : World) :
    Calls Tryz.prog 93 #[.string s, .string ⟨#[48, 49, 50, 51, 52, 53, 54, 55, 56, 57]⟩] w fun e w' => e = .returned (.string ⟨(Lx.rests s.data.toList).toArray⟩) ∧ Below w.heap.size w w' := by
  have h := Any.strings_TrimLeft_laid Tryz.lays161 (by kernel_rfl) s ⟨#[48, 49, 50, 51, 52, 53, 54, 55, 56, 57]⟩ w (by decide) (ascii_of_all (by decide))
  refine h.mono ?_
  rintro e w' ⟨rfl, hb⟩
  refine ⟨?_, hb⟩
  rw [← Lx.dig_left]; rfl
theorem trim_hex (s : ByteArray) (hs : s.size ≤ 1000000000) (w : World) :
    Calls Tryz.prog 46 #[.string s, .string ⟨#[48, 49, 50, 51, 52, 53, 54, 55, 56, 57, 97, 98, 99, 100, 101, 102]⟩] w fun e w' => e = .returned (.string ⟨(Lib.trimS s.data.toList Lx.hexs).toArray⟩) ∧ Below w.heap.size w w' :=
  Any.strings_Trim_laid Tryz.lays160 (by kernel_rfl) s ⟨#[48, 49, 50, 51, 52, 53, 54, 55, 56, 57, 97, 98, 99, 100, 101, 102]⟩ w (by omega) (by decide) (ascii_of_all (by decide))
theorem trim_low (s : ByteArray) (hs : s.size ≤ 1000000000) (w : World) :
    Calls Tryz.prog 46 #[.string s, .string ⟨#[97, 98, 99, 100, 101, 102, 103, 104, 105, 106, 107, 108, 109, 110, 111, 112, 113, 114, 115, 116, 117, 118, 119, 120, 121, 122]⟩] w fun e w' => e = .returned (.string ⟨(Lib.trimS s.data.toList Lx.lows).toArray⟩) ∧ Below w.heap.size w w' :=
  Any.strings_Trim_laid Tryz.lays160 (by kernel_rfl) s ⟨#[97, 98, 99, 100, 101, 102, 103, 104, 105, 106, 107, 108, 109, 110, 111, 112, 113, 114, 115, 116, 117, 118, 119, 120, 121, 122]⟩ w (by omega) (by decide) (ascii_of_all (by decide))

def ixRen : Go.Shelf.Ren := ⟨fun | 6 => 94 | n => n, fun | 0 => 0 | 3 => 3 | 4 => 4 | 22 => 138 | 23 => 134 | 25 => 140 | n => n, fun | n => n⟩
theorem ix6 : Go.Proofs.SlLaysH0.n6 Tryz.prog ixRen := {
  mixed := by kernel_rfl
  f6 := ⟨"slices.IndexFunc[[]wakeman/units.unit,wakeman/units.unit]", by decide, Tryz.func94.trans (congrArg some (by kernel_rfl))⟩
  t0 := Tryz.underlying0
  a0 := Tryz.isAgg0
  z0 := Tryz.sizeOf0
  v0 := Tryz.zeroValue0
  t3 := Tryz.underlying3
  a3 := Tryz.isAgg3
  z3 := Tryz.sizeOf3
  v3 := Tryz.zeroValue3
  t4 := Tryz.underlying4
  a4 := Tryz.isAgg4
  z4 := Tryz.sizeOf4
  v4 := Tryz.zeroValue4
  t22 := Tryz.underlying138
  a22 := Tryz.isAgg138
  z22 := Tryz.sizeOf138
  v22 := Tryz.zeroValue138
  t25 := Tryz.underlying140
  a25 := Tryz.isAgg140
  z25 := Tryz.sizeOf140
  v25 := Tryz.zeroValue140 }
namespace Lx
def encU (x : UInt8 × Int) : List Value := [.int .u8 x.1.toNat, .int .i64 x.2]
def unitsL : List (UInt8 × Int) := [(100, 86400), (104, 3600), (109, 60), (115, 1)]
theorem ix_table : ∀ (u : Fin 5) (c : Fin 256), Lib.idxBy (fun _ y => decide (y.1 = UInt8.ofNat c.val)) ((unitsL.drop u.val).take (4 - u.val)) default = if unitIx (UInt8.ofNat c.val) = 4 ∨ unitIx (UInt8.ofNat c.val) < u.val then -1 else ((unitIx (UInt8.ofNat c.val) - u.val : Nat) : Int) := by decide +kernel
theorem ix_unit (u : Nat) (c : UInt8) (h : u ≤ 4) : Lib.idxBy (fun _ y => decide (y.1 = c)) ((unitsL.drop u).take (4 - u)) default = if unitIx c = 4 ∨ unitIx c < u then -1 else ((unitIx c - u : Nat) : Int) := by
  have := ix_table ⟨u, by omega⟩ ⟨c.toNat, c.toNat_lt⟩
  simp only [UInt8.ofNat_toNat] at this
  exact this
end Lx
theorem pred_unit (b : ByteArray) (hb0 : 0 < b.size) (B : Nat) (w : World) (hB : B < w.heap.size) (hcell : w.cell? ⟨B, 0, none⟩ = some (.string b)) :
    PredBelow Tryz.prog 95 #[.pointer (some ⟨B, 0, none⟩)] (fun x => .agg (Lx.encU x).toArray) (fun x => decide (x.1 = b[0])) w := fun W x hb => by
  have hc : W.cell? ⟨B, 0, none⟩ = some (.string b) := (hb.cell (p := ⟨B, 0, none⟩) hB).trans hcell
  have hBW : B < W.heap.size := Nat.lt_of_lt_of_le hB hb.size
  have hne : B ≠ W.heap.size := by omega
  have hbi : (0 : Int) < (b.size : Int) := by omega
  have hres : ((x.1.toNat : Int) == (b[0].toNat : Int)) = decide (x.1 = b[0]) := by
    by_cases h : x.1 = b[0]
    · rw [h]; simp
    · rw [decide_eq_false h, beq_eq_false_iff_ne]; intro e; exact h (UInt8.toNat_inj.1 (by omega))
  have Hres := Lib.hid hres
  clear hcell hres
  show Calls Tryz.prog 95 #[.agg #[.int .u8 x.1.toNat, .int .i64 x.2], .pointer (some ⟨B, 0, none⟩)] W _
  go_enter Tryz.func95, Tryz.ntmps95
  go_wp2
  go_quiet (fail)
  go_wp2
  go_ret
  exact ⟨Lx.ret_bool Hres.out, (hb.alloc hb.size _).trans ⟨rfl, rfl, rfl, Nat.le_refl _, fun _ _ => rfl⟩⟩
theorem index_unit (b : ByteArray) (hb0 : 0 < b.size) (u off : Nat) (hu : u ≤ 4) (ho : u < 4 → off = 2 * u) (B : Nat) (w : World) (hB : B < w.heap.size) (hcell : w.cell? ⟨B, 0, none⟩ = some (.string b)) (env : UEnv w) :
    Calls Tryz.prog 94 #[.slice (some ⟨0, off, none⟩) (4 - u) (4 - u), .func (.func 95) #[] #[.pointer (some ⟨B, 0, none⟩)]] w fun e w' =>
      e = .returned (.int .i64 (if Lx.unitIx b[0] = 4 ∨ Lx.unitIx b[0] < u then -1 else ((Lx.unitIx b[0] - u : Nat) : Int))) ∧ Below w.heap.size w w' := by
  have eg : ∀ args w, (callFunc 95 args).run Tryz.prog w = .ok (.enter 95 args) w := enters_of Tryz.func95 (by kernel_rfl) rfl
  have hlen : (Lx.unitsL.drop u).length = 4 - u := by rw [List.length_drop]; rfl
  have hcon := AnyQ.slices_IndexFunc ix6 2 Tryz.isAgg134 Tryz.sizeOf134 Lx.encU (fun _ => rfl) (fun x => decide (x.1 = b[0])) 95 #[.pointer (some ⟨B, 0, none⟩)] eg 0 off (4 - u) (4 - u) (Lx.unitsL.drop u) w
    (pred_unit b hb0 B w hB hcell) (by omega) (by omega) env.gun (fun j hj i v hi => by
      have hu4 : u < 4 := by omega
      have hoff := ho hu4
      refine env.un (off + j * 2 + i) v ?_
      have hi2 : i < 2 := by
        rcases Nat.lt_or_ge i 2 with h | h
        · exact h
        · rw [List.getElem?_eq_none (by exact h)] at hi; cases hi
      subst hoff
      have key : ∀ (u : Fin 4) (j : Fin 4) (i : Fin 2), u.val + j.val < 4 → (Lx.encU (Lx.unitsL.drop u.val)[j.val]!)[i.val]? = unitCells[2 * u.val + j.val * 2 + i.val]? := by
        intro u j i h
        match u, j, i, h with
        | ⟨0, _⟩, ⟨0, _⟩, ⟨0, _⟩, _ => rfl
        | ⟨0, _⟩, ⟨0, _⟩, ⟨1, _⟩, _ => rfl
        | ⟨0, _⟩, ⟨1, _⟩, ⟨0, _⟩, _ => rfl
        | ⟨0, _⟩, ⟨1, _⟩, ⟨1, _⟩, _ => rfl
        | ⟨0, _⟩, ⟨2, _⟩, ⟨0, _⟩, _ => rfl
        | ⟨0, _⟩, ⟨2, _⟩, ⟨1, _⟩, _ => rfl
        | ⟨0, _⟩, ⟨3, _⟩, ⟨0, _⟩, _ => rfl
        | ⟨0, _⟩, ⟨3, _⟩, ⟨1, _⟩, _ => rfl
        | ⟨1, _⟩, ⟨0, _⟩, ⟨0, _⟩, _ => rfl
        | ⟨1, _⟩, ⟨0, _⟩, ⟨1, _⟩, _ => rfl
        | ⟨1, _⟩, ⟨1, _⟩, ⟨0, _⟩, _ => rfl
        | ⟨1, _⟩, ⟨1, _⟩, ⟨1, _⟩, _ => rfl
        | ⟨1, _⟩, ⟨2, _⟩, ⟨0, _⟩, _ => rfl
        | ⟨1, _⟩, ⟨2, _⟩, ⟨1, _⟩, _ => rfl
        | ⟨2, _⟩, ⟨0, _⟩, ⟨0, _⟩, _ => rfl
        | ⟨2, _⟩, ⟨0, _⟩, ⟨1, _⟩, _ => rfl
        | ⟨2, _⟩, ⟨1, _⟩, ⟨0, _⟩, _ => rfl
        | ⟨2, _⟩, ⟨1, _⟩, ⟨1, _⟩, _ => rfl
        | ⟨3, _⟩, ⟨0, _⟩, ⟨0, _⟩, _ => rfl
        | ⟨3, _⟩, ⟨0, _⟩, ⟨1, _⟩, _ => rfl
        | ⟨1, _⟩, ⟨3, _⟩, _, h => exact absurd h (by simp)
        | ⟨2, _⟩, ⟨2, _⟩, _, h => exact absurd h (by simp)
        | ⟨2, _⟩, ⟨3, _⟩, _, h => exact absurd h (by simp)
        | ⟨3, _⟩, ⟨1, _⟩, _, h => exact absurd h (by simp)
        | ⟨3, _⟩, ⟨2, _⟩, _, h => exact absurd h (by simp)
        | ⟨3, _⟩, ⟨3, _⟩, _, h => exact absurd h (by simp)
      have := key ⟨u, hu4⟩ ⟨j, by omega⟩ ⟨i, hi2⟩ (by show u + j < 4; omega)
      simp only at this
      rw [← this]; exact hi)
  rw [Lx.ix_unit u b[0] hu] at hcon
  exact hcon
end Go.Proofs.YtpjocfkolnfjiaaGreatDoor
