/- UnitsHex: for every number and every two bytes the law returns true; what the call was given reads as before. Conditions: the eight listed variables lie as the program lays them. -/
import Derived.Test.YtfcodadmfgpgcaaDoorUnFrame
import Derived.Test.YtfcodadmfgpgcaaDoorUnWorks
import Derived.Test.YtfcodadmfgpgcaaDoorUnHexLaw
import Derived.SevenTiedAt
namespace Go.Proofs.YtfcodadmfgpgcaaDoor.lawUnitsHex
open Go.ChangeShapes Go.WideShapes Go.ChangeAt Go.RowKit

namespace Lx
open Go.Proofs.YtfcodadmfgpgcaaDoor.Lx
/-- The texts of UnitsHex that are no seeds. -/
def fourOf (S : ByteArray) : List ByteArray := [S ++ ⟨#[48]⟩, S.extract 1 16, ⟨#[]⟩, ⟨#[48, 120]⟩ ++ S.extract 2 16]
theorem four_bad (S : ByteArray) (h : S.data.toList.length = 16) : ∀ x ∈ fourOf S, seedV x.data.toList = 0 ∧ seedE x.data.toList = 10 ∧ x.size ≤ 20 := by
  have hS : S.size = 16 := by rw [Lib.size_eq]; exact h
  have s1 : (⟨#[48]⟩ : ByteArray).size = 1 := rfl
  have s2 : (⟨#[48, 120]⟩ : ByteArray).size = 2 := rfl
  have hx1 : (S.extract 1 16).size = 15 := by rw [ByteArray.size_extract]; omega
  have hx2 : (S.extract 2 16).size = 14 := by rw [ByteArray.size_extract]; omega
  intro x hx
  simp only [fourOf, List.mem_cons, List.not_mem_nil, or_false] at hx
  rcases hx with rfl | rfl | rfl | rfl
  · have hz : (S ++ ⟨#[48]⟩ : ByteArray).size = 17 := by rw [ByteArray.size_append]; omega
    have := seed_bad (l := (S ++ ⟨#[48]⟩ : ByteArray).data.toList) (.inl (by rw [← Lib.size_eq]; omega))
    exact ⟨this.1, this.2, by omega⟩
  · have := seed_bad (l := (S.extract 1 16).data.toList) (.inl (by rw [← Lib.size_eq]; omega))
    exact ⟨this.1, this.2, by omega⟩
  · exact ⟨by decide, by decide, by decide⟩
  · have hz : (⟨#[48, 120]⟩ ++ S.extract 2 16 : ByteArray).size = 16 := by rw [ByteArray.size_append]; omega
    have := seed_bad (l := (⟨#[48, 120]⟩ ++ S.extract 2 16 : ByteArray).data.toList) (.inr (by
      rw [ByteArray.data_append, Array.toList_append, List.all_append, show (⟨#[48, 120]⟩ : ByteArray).data.toList.all isHex = false from by decide, Bool.false_and]))
    exact ⟨this.1, this.2, by omega⟩
theorem four_cell (w : World) (S : ByteArray) (e : TypeId) (k : Nat) (x : ByteArray) (h : (fourOf S)[k]? = some x) :
    (w.alloc (.cells #[.string (S ++ ⟨#[48]⟩), .string (S.extract 1 16), .string ⟨#[]⟩, .string (⟨#[48, 120]⟩ ++ S.extract 2 16)] e)).cell? ⟨w.heap.size, k, none⟩ = some (.string x) := by
  match k, h with
  | 0, h => simp [fourOf] at h; subst h; simp
  | 1, h => simp [fourOf] at h; subst h; simp
  | 2, h => simp [fourOf] at h; subst h; simp
  | 3, h => simp [fourOf] at h; subst h; simp
/-- The bits of the law's own sum. -/
theorem hex_bits (n g s : Nat) (hs : s ≤ 60) (hg : g < 16) (hn : n < 18446744073709551616) :
    bits .or .u64 (bits .andNot .u64 (n : Int) (IntKind.u64.wrap (15 * 2 ^ s))) (IntKind.u64.wrap ((g : Int) * 2 ^ s)) = ((2 ^ s * (2 ^ 4 * (n / 2 ^ (s + 4)) + g) + n % 2 ^ s : Nat) : Int) := by
  have hp : 2 ^ s ≤ 2 ^ 60 := Nat.pow_le_pow_right (by omega) hs
  have h60 : (2 : Nat) ^ 60 = 1152921504606846976 := by decide
  have hn2 : n < 2 ^ 64 := hn
  have h15 : IntKind.u64.wrap (15 * 2 ^ s) = ((15 * 2 ^ s : Nat) : Int) := by
    rw [IntKind.wrap_u64, show (15 : Int) * 2 ^ s = ((15 * 2 ^ s : Nat) : Int) by rw [Int.natCast_mul, Int.natCast_pow]; rfl]
    omega
  have hgs : IntKind.u64.wrap ((g : Int) * 2 ^ s) = ((g * 2 ^ s : Nat) : Int) := by
    have hle : g * 2 ^ s ≤ 15 * 2 ^ s := Nat.mul_le_mul_right _ (by omega)
    rw [IntKind.wrap_u64, show (g : Int) * 2 ^ s = ((g * 2 ^ s : Nat) : Int) by rw [Int.natCast_mul, Int.natCast_pow]; rfl]
    omega
  rw [h15, hgs, ← bit_set n s g hs hg hn2]
  have key : ∀ x : Nat, (BitVec.ofInt 64 (x : Int)) = BitVec.ofNat 64 x := fun x => BitVec.ofInt_natCast 64 x
  have w1 : ∀ v : BitVec 64, IntKind.u64.wrap (v.toNat : Int) = (v.toNat : Int) := by
    intro v; rw [IntKind.wrap_u64]; have := v.isLt; omega
  have e1 : bits .andNot .u64 (n : Int) ((15 * 2 ^ s : Nat) : Int) = ((BitVec.ofNat 64 n &&& ~~~ BitVec.ofNat 64 (15 * 2 ^ s)).toNat : Int) := by
    show IntKind.u64.wrap ((BitVec.ofInt 64 (n : Int) &&& ~~~ BitVec.ofInt 64 ((15 * 2 ^ s : Nat) : Int)).toNat : Int) = _
    rw [key, key, w1]
  rw [e1]
  show IntKind.u64.wrap ((BitVec.ofInt 64 (((BitVec.ofNat 64 n &&& ~~~ BitVec.ofNat 64 (15 * 2 ^ s)).toNat : Nat) : Int) ||| BitVec.ofInt 64 ((g * 2 ^ s : Nat) : Int)).toNat : Int) = _
  rw [key, key, w1, BitVec.ofNat_toNat, BitVec.setWidth_eq]
end Lx

set_option maxRecDepth 100000 in
set_option maxHeartbeats 1600000 in
theorem walk (n0 : Int) (hn0 : (Lit.int .u64 n0).wf = true) (c0 : Int) (hc0 : (Lit.int .u8 c0).wf = true) (a0 : Int) (ha0 : (Lit.int .u8 a0).wf = true) (w : World) (env : UEnv w) :
    Calls Tryd.prog 3 #[.int .u64 n0, .int .u8 c0, .int .u8 a0] w fun e w' => e = .returned (.bool true) ∧ Below w.heap.size w w' := by
  obtain ⟨c, rfl⟩ := Lx.u8_of hc0
  obtain ⟨a, rfl⟩ := Lx.u8_of ha0
  have hnb := bounds_u64 hn0
  obtain ⟨n, rfl⟩ := Int.eq_ofNat_of_zero_le hnb.1
  have hn : n < 18446744073709551616 := by omega
  have hni : (n : Int) ≤ 18446744073709551615 := by omega
  clear hn0 hc0 ha0 hnb
  obtain ⟨S, hS⟩ : ∃ S : ByteArray, S = ⟨(Lx.hexTo n 16).toArray⟩ := ⟨_, rfl⟩
  have hSl : S.data.toList = Lx.hexTo n 16 := by rw [hS]
  have hSs : S.size = 16 := by rw [Lib.size_eq, hSl, Lx.hexTo_len]
  have H1 := Lib.hid (hex_any n hni w env)
  rw [← hS] at H1
  have H2 := Lib.hid (fun W => seed_any S (by omega) W)
  rw [hSl, (Lx.seed_back n hn).1, (Lx.seed_back n hn).2] at H2
  obtain ⟨k, hk⟩ : ∃ k : Nat, k = a.toNat % 16 := ⟨_, rfl⟩
  have hk16 : k < 16 := by omega
  have hki : (a.toNat : Int) % 16 = (k : Int) := by omega
  obtain ⟨T, hT⟩ : ∃ T : ByteArray, T = ⟨((Lx.hexTo n 16).set k c).toArray⟩ := ⟨_, rfl⟩
  have hTl : T.data.toList = (Lx.hexTo n 16).set k c := by rw [hT]
  have hTs : T.size ≤ 100 := by rw [Lib.size_eq, hTl, List.length_set, Lx.hexTo_len]; omega
  have H3 := Lib.hid (fun W => seed_any T (by omega) W)
  rw [hTl] at H3
  have H4 := Lib.hid (fun (W : World) => Tryd.strings_IndexByte ⟨#[48, 49, 50, 51, 52, 53, 54, 55, 56, 57, 97, 98, 99, 100, 101, 102]⟩ c.toNat W)
  have hix : ∀ W : World, Calls Tryd.prog 7 #[.string ⟨#[48, 49, 50, 51, 52, 53, 54, 55, 56, 57, 97, 98, 99, 100, 101, 102]⟩, .int .u8 c.toNat] W fun e w' => e = .returned (.int .i64 (if Lx.isHex c = true then (Lx.hexV c : Int) else -1)) ∧ w' = W := by
    intro W
    refine (H4.out W).mono ?_
    rintro e w' ⟨rfl, rfl⟩
    refine ⟨?_, rfl⟩
    rw [← Lx.hexs_ix c]; simp [Lx.hexs]
  have HS := Lib.hid hSl
  have HT := Lib.hid hT
  have Hk := Lib.hid hk
  clear H4 hS hSl hT hTl hk
  go_enter Tryd.func3, Tryd.ntmps3
  go_wp2_with fail
  refine H1.out.mono ?_
  rintro e w1 ⟨rfl, b1⟩
  go_wp2_with fail
  refine (H2.out _).mono ?_
  rintro e w2 ⟨rfl, c2⟩
  have b2 := b1.trans (c2.mono b1.size)
  clear b1 c2
  have hcv := run_bytes_of_string (P := Tryd.prog) w2 9 27 5 S Tryd.underlying9 Tryd.underlying27 Tryd.underlying5
  rw [hSs] at hcv
  generalize hC : grownCap w2 16 0 5 = cp at hcv
  have hcap : 16 ≤ cp := by rw [← hC]; exact grownCap_ge _ _ _ _
  have hsz : (bytesRow S cp).size = cp := by unfold bytesRow; rw [Array.size_append, Array.size_map, Array.size_replicate]; show S.size + _ = _; omega
  have hat : ∀ j (hj : j < 16), (bytesRow S cp)[j]? = some (.int .u8 ((Lx.hexTo n 16)[j]'(by rw [Lx.hexTo_len]; exact hj)).toNat) := by
    intro j hj
    unfold bytesRow
    rw [Array.getElem?_append_left (by rw [Array.size_map]; show j < S.size; omega), Array.getElem?_map]
    have : S.data[j]? = some ((Lx.hexTo n 16)[j]'(by rw [Lx.hexTo_len]; exact hj)) := by
      rw [← Array.getElem?_toList, HS.out, List.getElem?_eq_getElem]
    rw [this]; rfl
  rw [hsz] at hcv
  obtain ⟨W1, hW1⟩ : ∃ W1, W1 = w2.drew.alloc (.cells (bytesRow S cp) 5 (cp, cp + 1)) := ⟨_, rfl⟩
  have hblk : W1.heap[w2.heap.size]? = some (.cells (bytesRow S cp) 5 (cp, cp + 1)) := by rw [hW1]; exact heap_alloc_new w2.drew _
  have hfz : W1.frozen? ⟨w2.heap.size, k, none⟩ = false := by
    unfold World.frozen?; rw [hblk]; simp; omega
  have hcl : ∀ j (hj : j < 16), W1.cell? ⟨w2.heap.size, j, none⟩ = some (.int .u8 ((Lx.hexTo n 16)[j]'(by rw [Lx.hexTo_len]; exact hj)).toNat) := by
    intro j hj
    unfold World.cell?; simp [hblk]; exact hat j hj
  have hcp := hcl k hk16
  have hbW : Below w.heap.size w W1 := by rw [hW1]; exact (b2.trans ((below_drewN _ w2 1).mono b2.size)).alloc b2.size _
  have hcv' : (convert 9 27 (.string S)).run Tryd.prog w2 = .ok (.slice (some ⟨w2.heap.size, 0, none⟩) 16 cp) W1 := by
    rw [hcv, hW1]
  have hBB : w2.heap.size < W1.heap.size := by rw [hW1, World.size_alloc]; exact Nat.lt_succ_self _
  have hwB := b2.size
  clear hcv hblk hW1 hat hsz
  generalize w2.heap.size = B at hcv' hfz hcl hcp hBB hwB
  have hcv2 : (convert 27 9 (.slice (some ⟨B, 0, none⟩) 16 cp)).run Tryd.prog (W1.setCell ⟨B, k, none⟩ (.int .u8 c.toNat)) = .ok (.string T) (W1.setCell ⟨B, k, none⟩ (.int .u8 c.toNat)) := by
    have hlen : ((Lx.hexTo n 16).set k c).length = 16 := by rw [List.length_set, Lx.hexTo_len]
    have := run_convert_bytes_back (P := Tryd.prog) (W1.setCell ⟨B, k, none⟩ (.int .u8 c.toNat)) 27 9 5 ⟨B, 0, none⟩ cp ((Lx.hexTo n 16).set k c) Tryd.underlying27 Tryd.underlying5 Tryd.underlying9 (fun j hj => by
      have hj16 : j < 16 := by rw [hlen] at hj; exact hj
      have hadd : (⟨B, 0, none⟩ : Addr).add j = ⟨B, j, none⟩ := by simp [Addr.add]; intro h; exact h.symm
      rw [hadd]
      by_cases h : j = k
      · subst h
        rw [List.getElem_set_self]
        apply World.cell?_setCell_same; exact hcp
      · rw [List.getElem_set_ne (Ne.symm h)]
        refine Eq.trans ?_ (hcl j hj16)
        apply World.cell?_setCell_other
        intro e; injection e with e1 e2; exact h e2.symm)
    rw [hlen, ← HT.out] at this
    exact this
  have hbS : Below w.heap.size w (W1.setCell ⟨B, k, none⟩ (.int .u8 c.toNat)) := hbW.setCell hwB _
  have hneg : (0 : Int) ≤ (k : Int) := by omega
  have hkc : (k : Int) < 16 := by omega
  have Hfour := Lib.hid (Lx.four_bad S (by rw [HS.out]; exact Lx.hexTo_len n 16))
  clear hcl hC
  by_cases hx : Lx.isHex c = true
  case' pos =>
    obtain ⟨q1, q2⟩ := Lx.hex_set n k c hn hk16 hx
    obtain ⟨p1, p2⟩ := Lx.seed_good (l := (Lx.hexTo n 16).set k c) (by rw [List.length_set, Lx.hexTo_len]) q1
    rw [p1, p2, q2] at H3
    rw [if_pos hx] at hix
    have hg := Lx.hexV_lt c hx
    obtain ⟨s, hs⟩ : ∃ s : Nat, s = 60 - 4 * k := ⟨_, rfl⟩
    have hbits := Lx.hex_bits n (Lx.hexV c) s (by omega) hg hn
    rw [← hs] at H3
    generalize 2 ^ s * (2 ^ 4 * (n / 2 ^ (s + 4)) + Lx.hexV c) + n % 2 ^ s = M at H3 hbits
    generalize Lx.hexV c = g at hix hg hbits
    have hs60 : s ≤ 60 := by omega
    have e4 : IntKind.i64.wrap (4 * (k : Int)) = 4 * (k : Int) := by rw [IntKind.wrap_i64]; omega
    have e60 : IntKind.i64.wrap (60 - 4 * (k : Int)) = (s : Int) := by rw [IntKind.wrap_i64]; omega
    have eg : IntKind.u64.wrap (g : Int) = (g : Int) := by rw [IntKind.wrap_u64]; omega
    have emin : min s 64 = s := by omega
    have hg0 : (0 : Int) ≤ (g : Int) := by omega
    have Hix := Lib.hid hix
    clear hix p1 p2 q1 q2 hx hs hg HT Hk HS
    go_wp2_with fail
    refine (H3.out _).mono ?_
    rintro e w3 ⟨rfl, c3⟩
    have b3 := hbS.trans (c3.mono hbS.size)
    clear c3
    go_wp2_with fail
    refine (Hix.out _).mono ?_
    rintro e w4 ⟨rfl, rfl⟩
    go_wp2_with fail
    go_quiet (fail)
    rename_i nq
    have b4 := b3.trans ((below_drewN w4.heap.size w4 nq).mono b3.size)
    clear e4 e60 eg emin hbits hg0 b3
    obtain ⟨w5, hw5⟩ : ∃ w5, w5 = w4.drewN nq := ⟨_, rfl⟩
    rw [← hw5] at b4 ⊢
    clear hw5
    go_wp2_with fail
  case' neg =>
    have hx' : Lx.isHex c = false := by simpa using hx
    obtain ⟨p1, p2⟩ := Lx.seed_set_bad n k c hk16 hx'
    rw [p1, p2] at H3
    rw [if_neg hx] at hix
    have Hix := Lib.hid hix
    clear hix p1 p2 hx hx' HT Hk HS
    go_wp2_with fail
    refine (H3.out _).mono ?_
    rintro e w3 ⟨rfl, c3⟩
    have b4 := hbS.trans (c3.mono hbS.size)
    clear c3
    go_wp2_with fail
    refine (Hix.out _).mono ?_
    rintro e w5 ⟨rfl, rfl⟩
    go_wp2_with fail
  all_goals
    clear hfz hcp hcv' hcv2 hbS hbW hBB hwB hki
    have hcell := Lx.four_cell w5 S 9
    have hb6a := b4.alloc b4.size (.cells #[.string (S ++ ⟨#[48]⟩), .string (S.extract 1 16), .string ⟨#[]⟩, .string (⟨#[48, 120]⟩ ++ S.extract 2 16)] 9)
    have hb6 : Below w.heap.size w (w5.alloc (.cells #[.string (S ++ ⟨#[48]⟩), .string (S.extract 1 16), .string ⟨#[]⟩, .string (⟨#[48, 120]⟩ ++ S.extract 2 16)] 9)).drew := hb6a.trans ((below_drewN (w5.alloc (.cells #[.string (S ++ ⟨#[48]⟩), .string (S.extract 1 16), .string ⟨#[]⟩, .string (⟨#[48, 120]⟩ ++ S.extract 2 16)] 9)).heap.size (w5.alloc (.cells #[.string (S ++ ⟨#[48]⟩), .string (S.extract 1 16), .string ⟨#[]⟩, .string (⟨#[48, 120]⟩ ++ S.extract 2 16)] 9)) 1).mono hb6a.size)
    clear hb6a
    have hlt6 : w5.heap.size < (w5.alloc (.cells #[.string (S ++ ⟨#[48]⟩), .string (S.extract 1 16), .string ⟨#[]⟩, .string (⟨#[48, 120]⟩ ++ S.extract 2 16)] 9)).drew.heap.size := by show _ < (w5.alloc (.cells #[.string (S ++ ⟨#[48]⟩), .string (S.extract 1 16), .string ⟨#[]⟩, .string (⟨#[48, 120]⟩ ++ S.extract 2 16)] 9)).heap.size; rw [World.size_alloc]; omega
    have hcell6 : ∀ k x, (Lx.fourOf S)[k]? = some x → (w5.alloc (.cells #[.string (S ++ ⟨#[48]⟩), .string (S.extract 1 16), .string ⟨#[]⟩, .string (⟨#[48, 120]⟩ ++ S.extract 2 16)] 9)).drew.cell? ⟨w5.heap.size, k, none⟩ = some (.string x) := hcell
    have Hc6 := Lib.hid hcell6
    clear hcell hcell6
    go_region
    go_wp2_with fail
    generalize (w5.alloc (.cells #[.string (S ++ ⟨#[48]⟩), .string (S.extract 1 16), .string ⟨#[]⟩, .string (⟨#[48, 120]⟩ ++ S.extract 2 16)] 9)).drew = w6 at hb6 hlt6 Hc6 ⊢
    generalize w5.heap.size = B6 at hlt6 Hc6 ⊢
    go_loopw [89] (fun i wr => ∃ k : Nat, k ≤ 4 ∧ i = .int .i64 k ∧ Below w6.heap.size w6 wr) (fun i _ => 4 - (intOf i).toNat)
    case atStart => exact ⟨0, Nat.zero_le _, rfl, Below.refl _ _⟩
    case round =>
      obtain ⟨k, hk, rfl, hbel⟩ := hrel
      have hbr := hb6.trans (hbel.mono hb6.size)
      have envr := env.below hbr
      by_cases hlt : k < 4
      · obtain ⟨x, hx⟩ : ∃ x, (Lx.fourOf S)[k]? = some x := ⟨_, List.getElem?_eq_getElem (show k < (Lx.fourOf S).length from hlt)⟩
        have r0 := (hbel.cell (p := ⟨B6, k, none⟩) hlt6).trans (Hc6.out k x hx)
        obtain ⟨y1, y2, y3⟩ := Hfour.out x (List.mem_of_getElem? hx)
        have HX := seed_any x (by omega) wr
        rw [y1, y2] at HX
        have HXX := Lib.hid HX
        have hki : (k : Int) < 4 := by omega
        clear hx y1 y2 HX
        go_wp2_with fail
        refine HXX.out.mono ?_
        rintro e w7 ⟨rfl, hb7⟩
        go_wp2_with fail
        go_roundw
        case rel => exact ⟨k + 1, by omega, by go_num, hbel.trans (hb7.mono hbel.size)⟩
        case measure => simp [intOf]; omega
      · obtain rfl : k = 4 := by omega
        have HW := Lib.hid (uworks_any wr envr)
        go_wp2_with fail
        refine HW.out.mono ?_
        rintro e w7 ⟨rfl, hb7⟩
        go_wp2_with fail
        go_ret
        exact ⟨rfl, hbr.trans (hb7.mono hbr.size)⟩

set_option maxRecDepth 100000 in
/-- What the walk gives, for every argument that can be read. -/
theorem contract (H : Type) (enc : TypeId × Value → H) (W : World) (base : Nat) (args : Array Value) (ds gs : List (DataW H)) (before : List MemPlace)
    (hval : ∀ (j : Nat) t v, Tryd.f3.params[j]? = some t → args[j]? = some v → Value.okWide Tryd.prog W .any base t v)
    (hW : DataW.Whole enc Tryd.prog Tryd.f3.params.toList Rows.unitsHexSpec.vars false W args.toList ds gs before) (hL : laidMetH Tryd.prog Rows.unitsHexRow.laid W) (hsh : W.ShapedOpen Tryd.prog) :
    Calls Tryd.prog 3 args W fun e W' => ∃ v, e = .returned v ∧ Rows.unitsHexSpec.post enc Tryd.prog Tryd.f3 false true false false W args v W' := by
  have hW' := hW
  obtain ⟨p, q, hA0, hV, rfl, hfz, hnd⟩ := hW
  have hA : DataW.TrodAll enc Tryd.prog W 0 (fun _ => true) true Tryd.f3.params.toList args.toList ds p := hA0
  rw [Tryd.params3] at hA hval
  obtain ⟨v0, vs0, d0, ds0, p0, q0, hargs, rfl, rfl, h0, r0⟩ := trodAll_cons hA
  obtain ⟨v1, vs1, d1, ds1, p1, q1, rfl, rfl, rfl, h1, r1⟩ := trodAll_cons r0
  obtain ⟨v2, vs2, d2, ds2, p2, q2, rfl, rfl, rfl, h2, r2⟩ := trodAll_cons r1
  obtain ⟨rfl, rfl, rfl⟩ := trodAll_nil r2
  obtain rfl : args = #[v0, v1, v2] := by cases args; simp_all
  obtain ⟨rfl, rfl⟩ := trodVars_none hV
  obtain ⟨s0, rfl, rfl, rfl, w0⟩ := open_int Tryd.underlying22 (hval 0 22 v0 rfl rfl) h0
  obtain ⟨s1, rfl, rfl, rfl, w1⟩ := open_int Tryd.underlying5 (hval 1 5 v1 rfl rfl) h1
  obtain ⟨s2, rfl, rfl, rfl, w2⟩ := open_int Tryd.underlying5 (hval 2 5 v2 rfl rfl) h2
  clear hA0
  refine (walk s0 w0 s1 w1 s2 w2 W (env_of hL hsh)).mono fun e W' ⟨he, bel⟩ => ?_
  subst he
  exact ⟨_, rfl, _, _, _, [], _, [], hW', trodAll_mk1 (shut_bool Tryd.underlying4 _), (trodAll_cons_mk (shut_int Tryd.underlying22 w0) (trodAll_cons_mk (shut_int Tryd.underlying5 w1) (trodAll_cons_mk (shut_int Tryd.underlying5 w2) trodAll_mk0))), rfl, bel.frame _, fun h => by cases h⟩

set_option maxRecDepth 100000 in
theorem reads (os : Os) {H : Type} (enc : TypeId × Value → H) : ∃ places, DataW.whole enc Tryd.prog ((World.laidAll Tryd.prog os Rows.unitsHexRow.laid).forCall (fun _ _ => 0) ⟨#[], #[.int .u64 0, .int .u8 0, .int .u8 0], []⟩).memory Tryd.f3.params.toList Rows.unitsHexSpec.vars false (#[.int .u64 0, .int .u8 0, .int .u8 0] : Array Value).toList 8 = some ([.lit (.int .u64 0), .lit (.int .u8 0), .lit (.int .u8 0)], [], places) :=
  ⟨[], by kernel_rfl⟩

set_option maxRecDepth 100000 in
theorem lifted (os : Os) (started : os.Started) (H : Type) (enc : TypeId × Value → H) (F : Stop.Interp) :
    ReturnsInHanded {} Tryd.checked os 3 .any ((OpenSpec.ofChange Rows.unitsHexSpec).preRow enc Tryd.prog Tryd.f3 Rows.unitsHexRow.domain false Rows.unitsHexRow.laid) (((OpenSpec.ofChange Rows.unitsHexSpec).at F).post enc Tryd.prog Tryd.f3 false true false false) := by
  obtain ⟨places, hx⟩ := reads os enc
  refine returnsInHanded_of_row (C := Tryd.checked) (s := OpenSpec.ofChange Rows.unitsHexSpec) own started (by kernel_rfl) Tryd.func3
    (witness_row_atRef (enc := enc) (C := Tryd.checked) false (World.laidAll Tryd.prog os Rows.unitsHexRow.laid) #[.int .u64 0, .int .u8 0, .int .u8 0] (World.laidAll_os _ _ _) (door_vars os _) (door_rest os _) (by kernel_rfl)
      (OpenSpec.preRow_of_cond 8 hx (by kernel_rfl) (fun k hk => by cases hk) (by kernel_rfl) (door_laid os _))) ?_
  intro W base args ds gs before hval hW _ _ _ hL hsh _
  exact contract H enc W base args ds gs before hval hW hL hsh

theorem said : Rows.UnitsHexSaid :=
  OpenClaim.holds_of_cond 3 Tryd.f3 rfl rfl rfl rfl rfl rfl rfl ⟨rfl, rfl, rfl, rfl, rfl⟩ rfl rfl rfl rfl rfl (by kernel_rfl) Tryd.func3 (by kernel_rfl)
    (of_decide_eq_true (by kernel_rfl)) (by unfold Func.isWrapper; first | (rw [if_pos (by decide +kernel)]; kernel_rfl) | (rw [if_neg (by decide +kernel)]; exact ⟨rfl, rfl⟩))
    (fun os started H enc _ F => by rw [OpenClaim.pre_eq_preRow]; exact lifted os started H enc F)

theorem plain (f : FuncId) (fn : Func) (hf : Tryd.pinned.checked.prog.funcNamed "wakeman/wakemanlaw13.UnitsHex" = some f) (hfn : Tryd.pinned.checked.prog.funcs[f]? = some fn) :
    Rows.unitsHexCard.stood.looks = Tryd.pinned.checked.prog.looks [] ∧ ∀ (j : Nat) t, fn.params[j]? = some t → Tryd.pinned.checked.prog.wantsStandIn t = false := by
  obtain rfl : f = 3 := Option.some.inj ((show Tryd.prog.funcNamed "wakeman/wakemanlaw13.UnitsHex" = some 3 by kernel_rfl).symm.trans hf) |>.symm
  obtain rfl : fn = Tryd.f3 := (Option.some.inj (Tryd.func3.symm.trans hfn)).symm
  refine ⟨by kernel_rfl, fun j t ht => ?_⟩
  rw [Tryd.params3] at ht
  have hm : t ∈ [22, 5] := by
    have := Array.mem_of_getElem? ht
    simpa using this
  have hall : ([22, 5].all fun u => !Tryd.prog.wantsStandIn u) = true := by kernel_rfl
  exact (show Tryd.prog.wantsStandIn t = false by simpa using List.all_eq_true.1 hall t hm)

/-- The card. -/
theorem card : Rows.UnitsHexCardSaid :=
  Claim7.holds_tied_plain_at .later [] _ _ _ _ said (fun _ h => by cases h) (by kernel_rfl) (fun _ h => by cases h) unitsHex_row_tie rfl ⟨rfl, rfl⟩ (by kernel_rfl) rfl plain (by kernel_rfl)
end Go.Proofs.YtfcodadmfgpgcaaDoor.lawUnitsHex
