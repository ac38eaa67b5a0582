/- The walk of LexLong. -/
import Derived.Test.YtlcldmhajnmkdaaDoorProg
import Derived.Test.YtlcldmhajnmkdaaDoorShelf
import Derived.Test.YtlcldmhajnmkdaaDoorShelf2
import Derived.Test.YtlcldmhajnmkdaaDoorBackLx
import Derived.Test.YtlcldmhajnmkdaaDoorName
import Derived.Test.YtlcldmhajnmkdaaDoorLines
import Derived.Test.YtlcldmhajnmkdaaDoorJoin
import Derived.Test.YtlcldmhajnmkdaaDoorWorks
import Derived.Test.YtlcldmhajnmkdaaDoorRead
import Derived.Test.YtlcldmhajnmkdaaDoorJoinsWalk
import Derived.Laws.IdiomStrings
import Derived.WalkKit
import Derived.WalkSpells
import Derived.WalkLawsBesides
import Derived.BigGuardPart
import Derived.Lib.Hide
import Derived.Lib.Strings
import Derived.Lib.Repeat
namespace Go.Proofs.YtlcldmhajnmkdaaDoor
open Go.RowKit

namespace Lx
theorem rep_get (c : UInt8) : ∀ (n j : Nat), j < n → (Lib.repeatL [c] n)[j]? = some c
  | 0, _, h => absurd h (by omega)
  | n + 1, 0, _ => rfl
  | n + 1, j + 1, h => by rw [Lib.repeatL, List.singleton_append, List.getElem?_cons_succ]; exact rep_get c n j (by omega)
theorem rep_count : ∀ n, (Lib.repeatL [120] n).count (10 : UInt8) = 0
  | 0 => rfl
  | n + 1 => by rw [Lib.repeatL, List.count_append, rep_count n]; rfl
/-- The text: n bytes, of which the one at p is a line feed. -/
def longL (n p : Nat) : List UInt8 := Lib.repeatL [120] p ++ 10 :: Lib.repeatL [120] (n - 1 - p)
theorem rep_len (c : UInt8) (n : Nat) : (Lib.repeatL [c] n).length = n := by rw [Lib.repeatL_length]; simp
theorem longL_len (n p : Nat) (h : p < n) : (longL n p).length = n := by
  unfold longL; rw [List.length_append, List.length_cons, rep_len, rep_len]; omega
theorem longL_get (n p : Nat) (h : p < n) (j : Nat) (hj : j < n) : (longL n p)[j]? = some (if j = p then 10 else 120) := by
  unfold longL
  rcases Nat.lt_trichotomy j p with h1 | h1 | h1
  · rw [List.getElem?_append_left (by rw [rep_len]; exact h1), rep_get 120 p j h1, if_neg (by omega)]
  · rw [List.getElem?_append_right (by rw [rep_len]; omega), rep_len, h1, Nat.sub_self, List.getElem?_cons_zero, if_pos rfl]
  · rw [List.getElem?_append_right (by rw [rep_len]; omega), rep_len, show j - p = (j - p - 1) + 1 by omega, List.getElem?_cons_succ, rep_get 120 _ _ (by omega), if_neg (by omega)]
theorem longL_count (n p : Nat) : (longL n p).count 10 = 1 := by
  unfold longL; rw [List.count_append, rep_count, List.count_cons, rep_count]; rfl
theorem longL_ends (n p : Nat) (h : p < n) : Lib.hasSuffix (longL n p) [10] = decide (p + 1 = n) := by
  by_cases hl : p + 1 = n
  · rw [decide_eq_true hl]
    unfold Lib.hasSuffix
    rw [List.isSuffixOf_iff_suffix]
    refine ⟨Lib.repeatL [120] p, ?_⟩
    unfold longL
    rw [show n - 1 - p = 0 by omega]; rfl
  · rw [decide_eq_false hl]
    cases hc : Lib.hasSuffix (longL n p) [10] with
    | false => rfl
    | true =>
      exfalso
      unfold Lib.hasSuffix at hc
      rw [List.isSuffixOf_iff_suffix] at hc
      obtain ⟨t, ht⟩ := hc
      have hlen := congrArg List.length ht
      rw [List.length_append, longL_len n p h] at hlen
      have hg := longL_get n p h (n - 1) (by omega)
      rw [← ht, List.getElem?_append_right (by simp at hlen; omega), if_neg (by omega)] at hg
      have e : n - 1 - t.length = 0 := by simp at hlen; omega
      rw [e] at hg
      simp at hg
theorem lines_len (s : ByteArray) (h0 : 0 < s.size) : (linesOf s.size (pieces s isLF)).length = s.data.toList.count 10 + (if endsLF s = true then 0 else 1) := by
  obtain ⟨i1, i2, i3, i4, i5, i6, i7, i8⟩ := inv s s.size (Nat.le_refl _)
  have hle := fromAt_le s isLF s.size
  have hall : s.data.toList.take s.size = s.data.toList := List.take_of_length_le (by rw [← Lib.size_eq]; exact Nat.le_refl _)
  unfold lineAt at i7
  rw [hall] at i7
  have hg := (lines_good s).2
  rw [← refTo_out] at hg ⊢
  by_cases h : fromAt s isLF s.size < s.size
  · have he : ¬ endsLF s = true := by
      intro he
      rw [if_pos (.inr he), refTo_last s h, refTo_in s _ (Nat.le_refl _), bytesOf_snoc, i3, ← List.append_assoc, take_ext s _ s.size hle, hall] at hg
      have := congrArg List.length hg
      rw [List.length_append] at this; simp at this
    rw [if_neg he, refTo_last s h, refTo_in s _ (Nat.le_refl _), List.length_append, List.length_singleton]
    omega
  · have e : fromAt s isLF s.size = s.size := by omega
    have he : endsLF s = true := by
      rw [e] at i8
      rcases i8 with h1 | h1
      · omega
      · rw [hall] at h1
        unfold endsLF Lib.hasSuffix; rw [List.isSuffixOf_iff_suffix]; exact h1
    rw [if_pos he, refTo_none s h, refTo_in s _ (Nat.le_refl _)]
    omega
theorem two_cells (w : World) (x y : ByteArray) (e : TypeId) : ∀ k z, [x, y][k]? = some z → (w.alloc (.cells #[.string x, .string y] e)).cell? ⟨w.heap.size, 0 + k, none⟩ = some (.string z) := by
  intro k z h
  match k, h with
  | 0, h => simp at h; subst h; simp
  | 1, h => simp at h; subst h; simp
theorem app_d (a b : ByteArray) : (a ++ b).data.toList = a.data.toList ++ b.data.toList := by rw [ByteArray.data_append]; simp
theorem app_size (a b : ByteArray) : (a ++ b).size = a.size + b.size := by rw [Lib.size_eq, app_d, List.length_append, ← Lib.size_eq, ← Lib.size_eq]
theorem join_two (x y : ByteArray) (h : x.size + y.size = 65536) : joinS [x, y] ⟨#[]⟩ = x ++ y ∧ joinE [x, y] ⟨#[]⟩ = 0 := by
  have e : joinAll [x, y] ⟨#[]⟩ = x.data.toList ++ y.data.toList := by
    rw [joinAll, joinTo_nosep]; simp
  have hl : (x.data.toList ++ y.data.toList).length ≤ 65536 := by rw [List.length_append, ← Lib.size_eq, ← Lib.size_eq]; omega
  unfold joinS joinE
  rw [e, if_pos hl, if_pos hl]
  refine ⟨?_, rfl⟩
  apply ByteArray.ext; apply Array.toList_inj.1
  rw [app_d]
theorem join_two_over (x y : ByteArray) (h : x.size + y.size = 65536) : joinS [x, y] ⟨#[122]⟩ = ⟨#[]⟩ ∧ joinE [x, y] ⟨#[122]⟩ = 11 := by
  have e : (joinAll [x, y] ⟨#[122]⟩).length = 65537 := by
    show (joinTo [x, y] ⟨#[122]⟩ 2).length = 65537
    rw [joinTo_more [x, y] ⟨#[122]⟩ 1 y (by omega) rfl, joinTo_one [x, y] ⟨#[122]⟩ x rfl, List.nil_append, List.length_append, List.length_append, ← Lib.size_eq, ← Lib.size_eq, ← Lib.size_eq]
    have : (⟨#[122]⟩ : ByteArray).size = 1 := rfl
    omega
  unfold joinS joinE
  rw [if_neg (by omega), if_neg (by omega)]; exact ⟨rfl, rfl⟩
end Lx

set_option maxRecDepth 100000 in
set_option maxHeartbeats 1600000 in
theorem long_main (a b : Nat) (ha : a ≤ 255) (hb : b ≤ 65535) (w : World) (env : Env w) :
    Calls Tryd.prog 13 #[.int .u8 a, .int .u16 b] w fun e w' => e = .returned (.bool true) ∧ Below w.heap.size w w' := by
  obtain ⟨n, hn⟩ : ∃ n : Nat, n = 65536 - a % 4 := ⟨_, rfl⟩
  have hn0 : 65533 ≤ n ∧ n ≤ 65536 := by omega
  have hni : (65536 : Int) - (a : Int) % 4 = (n : Int) := by omega
  obtain ⟨p, hp⟩ : ∃ p : Nat, p = b % n := ⟨_, rfl⟩
  have hpn : p < n := by rw [hp]; exact Nat.mod_lt _ (by omega)
  have hpi : (b : Int) % (n : Int) = (p : Int) := by rw [hp]; simp
  have hnz : ((n : Int) == 0) = false := by rw [beq_eq_false_iff_ne]; omega
  clear hn hp
  obtain ⟨X, hX⟩ : ∃ X : ByteArray, X = ⟨(Lib.repeatL (⟨#[120]⟩ : ByteArray).data.toList n).toArray⟩ := ⟨_, rfl⟩
  have HR := Lib.hid (Tryd.strings_Repeat ⟨#[120]⟩ n w (by omega) (by show 1 * n ≤ _; omega))
  rw [← hX] at HR
  have hXs : X.size = n := by rw [Lib.size_eq, hX, List.toList_toArray, Lib.repeatL_length]; simp
  have HX := Lib.hid hX
  clear hX
  go_enter Tryd.func13, Tryd.ntmps13
  go_wp2_with fail
  refine HR.out.mono ?_
  rintro e w1 ⟨rfl, hb1⟩
  have hcv := run_bytes_of_string (P := Tryd.prog) w1 9 52 5 X Tryd.underlying9 Tryd.underlying52 Tryd.underlying5
  rw [hXs] at hcv
  generalize hC : grownCap w1 n 0 5 = cp at hcv
  have hcap : n ≤ cp := by rw [← hC]; exact grownCap_ge _ _ _ _
  have hsz : (bytesRow X cp).size = cp := by unfold bytesRow; rw [Array.size_append, Array.size_map, Array.size_replicate]; show X.size + _ = _; omega
  have hat : ∀ j, j < n → (bytesRow X cp)[j]? = some (.int .u8 120) := by
    intro j hj
    unfold bytesRow
    rw [Array.getElem?_append_left (by rw [Array.size_map]; show j < X.size; omega), Array.getElem?_map]
    have : X.data[j]? = some 120 := by
      rw [← Array.getElem?_toList, HX.out, List.toList_toArray]
      exact Lx.rep_get 120 n j hj
    rw [this]; rfl
  rw [hsz] at hcv
  obtain ⟨W1, hW1⟩ : ∃ W1, W1 = w1.drew.alloc (.cells (bytesRow X cp) 5 (cp, cp + 1)) := ⟨_, rfl⟩
  have hblk : W1.heap[w1.heap.size]? = some (.cells (bytesRow X cp) 5 (cp, cp + 1)) := by rw [hW1]; exact heap_alloc_new w1.drew _
  have hfz : W1.frozen? ⟨w1.heap.size, p, none⟩ = false := by
    unfold World.frozen?; rw [hblk]; simp; omega
  have hcl : ∀ j, j < n → W1.cell? ⟨w1.heap.size, j, none⟩ = some (.int .u8 120) := by
    intro j hj
    unfold World.cell?; simp [hblk]; exact hat j hj
  have hcp := hcl p hpn
  have hbW : Below w.heap.size w W1 := by rw [hW1]; exact (hb1.trans ((below_drewN _ w1 1).mono hb1.size)).alloc hb1.size _
  have hcv' : (convert 9 52 (.string X)).run Tryd.prog w1 = .ok (.slice (some ⟨w1.heap.size, 0, none⟩) n cp) W1 := by
    rw [hcv, hW1]
  have hBB : w1.heap.size < W1.heap.size := by rw [hW1, World.size_alloc]; exact Nat.lt_succ_self _
  clear hcv hblk hW1 hat hsz
  have hwB := hb1.size
  generalize w1.heap.size = B at hcv' hfz hcl hcp hBB hwB
  have Hcl := Lib.hid hcl
  clear hcl hC
  obtain ⟨S, hS⟩ : ∃ S : ByteArray, S = ⟨(Lx.longL n p).toArray⟩ := ⟨_, rfl⟩
  have hSl : S.data.toList = Lx.longL n p := by rw [hS]
  have hSs : S.size = n := by rw [Lib.size_eq, hSl, Lx.longL_len n p hpn]
  have hcv2 : (convert 52 9 (.slice (some ⟨B, 0, none⟩) n cp)).run Tryd.prog (W1.setCell ⟨B, p, none⟩ (.int .u8 10)) = .ok (.string S) (W1.setCell ⟨B, p, none⟩ (.int .u8 10)) := by
    have := run_convert_bytes_back (P := Tryd.prog) (W1.setCell ⟨B, p, none⟩ (.int .u8 10)) 52 9 5 ⟨B, 0, none⟩ cp (Lx.longL n p) Tryd.underlying52 Tryd.underlying5 Tryd.underlying9 (fun j hj => by
      rw [Lx.longL_len n p hpn] at hj
      rw [Lx.add_eq, Nat.zero_add]
      have hg := Lx.longL_get n p hpn j hj
      rw [List.getElem?_eq_getElem (by rw [Lx.longL_len n p hpn]; exact hj)] at hg
      rw [Option.some.inj hg]
      by_cases h : j = p
      · subst h
        rw [if_pos rfl]
        apply World.cell?_setCell_same; exact hcp
      · rw [if_neg h]
        refine Eq.trans ?_ (Hcl.out j hj)
        apply World.cell?_setCell_other
        intro e; injection e with e1 e2; exact h e2.symm)
    rw [Lx.longL_len n p hpn, ← hS] at this
    exact this
  have hbS : Below w.heap.size w (W1.setCell ⟨B, p, none⟩ (.int .u8 10)) := hbW.setCell hwB _
  have hends : Lx.endsLF S = decide (p + 1 = n) := by unfold Lx.endsLF; rw [hSl]; exact Lx.longL_ends n p hpn
  have hlines := Lx.lines_len S (by omega)
  rw [hSl, Lx.longL_count, hends] at hlines
  obtain ⟨q, hq⟩ : ∃ q, (Lx.linesOf S.size (Lx.pieces S isLF)).length = q := ⟨_, rfl⟩
  rw [hq] at hlines
  have HL := fun W => lines_any S W (by omega)
  rw [hq] at HL
  have hHL : ∀ W, Calls Tryd.prog 16 #[.string S] W fun e W' => ∃ A c, e = .returned (.tuple #[.slice A q c, .int .i64 0]) ∧ Below W.heap.size W W' := by
    intro W
    refine (HL W).mono ?_
    rintro e W' ⟨v, rfl, hrow, hb⟩
    obtain ⟨A, c, rfl⟩ := Lx.slice_of_row hrow
    exact ⟨A, c, rfl, hb⟩
  have HHL := Lib.hid hHL
  clear hHL HL hq
  obtain ⟨k, hk⟩ : ∃ k : Nat, k = 65537 - n := ⟨_, rfl⟩
  have hki : (65537 : Int) - (n : Int) = (k : Int) := by omega
  obtain ⟨M, hM⟩ : ∃ M : ByteArray, M = ⟨(Lib.repeatL (⟨#[121]⟩ : ByteArray).data.toList k).toArray⟩ := ⟨_, rfl⟩
  have HRM := Lib.hid (fun W => Tryd.strings_Repeat ⟨#[121]⟩ k W (by omega) (by show 1 * k ≤ _; omega))
  rw [← hM] at HRM
  have hMs : M.size = k := by rw [Lib.size_eq, hM, List.toList_toArray, Lib.repeatL_length]; simp
  have hMM : (M.extract 1 M.size).size = k - 1 := by rw [Lx.ext_size M 1 M.size (by omega) (Nat.le_refl _)]; omega
  rw [hMs] at hMM
  have HLL := Lib.hid (fun W => lines_long (S ++ M) W (by rw [Lx.app_size]; omega))
  have hj1 := Lx.join_two S (M.extract 1 k) (by omega)
  have hj2 := Lx.join_two_over S (M.extract 1 k) (by omega)
  have HJ1 := Lib.hid (fun (W : World) => join_any [S, M.extract 1 k] ⟨#[]⟩ W.heap.size 0 2 2 (W.alloc (.cells #[.string S, .string (M.extract 1 k)] 9)) rfl (by omega) (by omega) (by rw [World.size_alloc]; omega) (Lx.two_cells W S (M.extract 1 k) 9) (by intro x hx; simp at hx; rcases hx with rfl | rfl <;> omega) (by decide))
  have HJ2 := Lib.hid (fun (W : World) => join_any [S, M.extract 1 k] ⟨#[122]⟩ W.heap.size 0 2 2 (W.alloc (.cells #[.string S, .string (M.extract 1 k)] 9)) rfl (by omega) (by omega) (by rw [World.size_alloc]; omega) (Lx.two_cells W S (M.extract 1 k) 9) (by intro x hx; simp at hx; rcases hx with rfl | rfl <;> omega) (by decide))
  rw [hj1.1, hj1.2] at HJ1
  rw [hj2.1, hj2.2] at HJ2
  obtain ⟨N, hN⟩ : ∃ N : ByteArray, N = ⟨(Lib.repeatL (⟨#[110]⟩ : ByteArray).data.toList 24).toArray⟩ := ⟨_, rfl⟩
  have HRN := Lib.hid (fun W => Tryd.strings_Repeat ⟨#[110]⟩ 24 W (by omega) (by decide))
  rw [← hN] at HRN
  have hNs : N.size = 24 := by rw [hN]; decide
  have hn1 : Lx.isName N = true := by rw [hN]; decide
  have hn2 : Lx.isName (N ++ ⟨#[110]⟩) = false := by rw [hN]; decide
  have hn3 : Lx.isName ⟨#[]⟩ = false := by decide
  have hn4 : Lx.isName (N.extract 1 24 ++ ⟨#[10]⟩) = false := by rw [hN]; decide
  have s1 : (⟨#[110]⟩ : ByteArray).size = 1 := rfl
  have s2 : (⟨#[10]⟩ : ByteArray).size = 1 := rfl
  have HN1 := Lib.hid (fun W => name_any N W (by unfold maxLen; omega))
  have HN2 := Lib.hid (fun W => name_any (N ++ ⟨#[110]⟩) W (by unfold maxLen; rw [Lx.app_size]; omega))
  have HN3 := Lib.hid (fun W => name_any ⟨#[]⟩ W (by decide))
  have HN4 := Lib.hid (fun W => name_any (N.extract 1 24 ++ ⟨#[10]⟩) W (by unfold maxLen; rw [Lx.app_size, Lx.ext_size N 1 24 (by omega) (by omega)]; omega))
  rw [hn1] at HN1
  rw [hn2] at HN2
  rw [hn3] at HN3
  rw [hn4] at HN4
  clear hS hSl hends hk hM hj1 hj2 hN hn1 hn2 hn3 hn4
  by_cases hlast : p + 1 = n
  · rw [decide_eq_true hlast] at hlines
    simp at hlines
    subst hlines
    have hb1' : ((p : Int) == (n : Int) - 1) = true := by rw [beq_iff_eq]; omega
    have hb2' : ((b : Int) % (n : Int) == (n : Int) - 1) = true := by rw [beq_iff_eq, hpi]; omega
    go_wp2_with fail
    refine (HHL.out _).mono ?_
    rintro e w2 ⟨A, c, rfl, g2⟩
    have f2 := hbS.trans (g2.mono hbS.size)
    clear g2
    go_wp2_with fail
    refine (HRM.out _).mono ?_
    rintro e w3 ⟨rfl, g3⟩
    have f3 := f2.trans (g3.mono f2.size)
    clear g3
    go_wp2_with fail
    refine (HLL.out _).mono ?_
    rintro e w4 ⟨rfl, g4⟩
    have f4 := f3.trans (g4.mono f3.size)
    have f4' := f4.alloc f4.size (.cells #[.string S, .string (M.extract 1 k)] 9)
    clear g4
    go_wp2_with fail
    refine (HJ1.out w4).mono ?_
    rintro e w5 ⟨rfl, g5⟩
    have f5 := f4'.trans (g5.mono f4'.size)
    have f5' := f5.alloc f5.size (.cells #[.string S, .string (M.extract 1 k)] 9)
    clear g5
    go_wp2_with fail
    refine (HJ2.out w5).mono ?_
    rintro e w6 ⟨rfl, g6⟩
    have f6 := f5'.trans (g6.mono f5'.size)
    clear g6
    go_wp2_with fail
    refine (HRN.out _).mono ?_
    rintro e w7 ⟨rfl, g7⟩
    have f7 := f6.trans (g7.mono f6.size)
    have env7 := env.below f7
    clear g7
    go_wp2_with fail
    refine (HN1.out _).mono ?_
    rintro e w8 ⟨rfl, rfl⟩
    go_wp2_with fail
    refine (HN2.out _).mono ?_
    rintro e w8 ⟨rfl, rfl⟩
    go_wp2_with fail
    refine (HN3.out _).mono ?_
    rintro e w8 ⟨rfl, rfl⟩
    go_wp2_with fail
    refine (HN4.out _).mono ?_
    rintro e w8 ⟨rfl, rfl⟩
    go_wp2_with fail
    refine (works_any _ env7).mono ?_
    rintro e w9 ⟨rfl, hb9⟩
    go_wp2_with fail
    go_ret
    exact ⟨rfl, f7.trans (hb9.mono f7.size)⟩
  · rw [decide_eq_false hlast] at hlines
    simp at hlines
    subst hlines
    have hb1' : ((p : Int) == (n : Int) - 1) = false := by rw [beq_eq_false_iff_ne]; omega
    have hb2' : ((b : Int) % (n : Int) == (n : Int) - 1) = false := by rw [beq_eq_false_iff_ne, hpi]; omega
    go_wp2_with fail
    refine (HHL.out _).mono ?_
    rintro e w2 ⟨A, c, rfl, g2⟩
    have f2 := hbS.trans (g2.mono hbS.size)
    clear g2
    go_wp2_with fail
    refine (HRM.out _).mono ?_
    rintro e w3 ⟨rfl, g3⟩
    have f3 := f2.trans (g3.mono f2.size)
    clear g3
    go_wp2_with fail
    refine (HLL.out _).mono ?_
    rintro e w4 ⟨rfl, g4⟩
    have f4 := f3.trans (g4.mono f3.size)
    have f4' := f4.alloc f4.size (.cells #[.string S, .string (M.extract 1 k)] 9)
    clear g4
    go_wp2_with fail
    refine (HJ1.out w4).mono ?_
    rintro e w5 ⟨rfl, g5⟩
    have f5 := f4'.trans (g5.mono f4'.size)
    have f5' := f5.alloc f5.size (.cells #[.string S, .string (M.extract 1 k)] 9)
    clear g5
    go_wp2_with fail
    refine (HJ2.out w5).mono ?_
    rintro e w6 ⟨rfl, g6⟩
    have f6 := f5'.trans (g6.mono f5'.size)
    clear g6
    go_wp2_with fail
    refine (HRN.out _).mono ?_
    rintro e w7 ⟨rfl, g7⟩
    have f7 := f6.trans (g7.mono f6.size)
    have env7 := env.below f7
    clear g7
    go_wp2_with fail
    refine (HN1.out _).mono ?_
    rintro e w8 ⟨rfl, rfl⟩
    go_wp2_with fail
    refine (HN2.out _).mono ?_
    rintro e w8 ⟨rfl, rfl⟩
    go_wp2_with fail
    refine (HN3.out _).mono ?_
    rintro e w8 ⟨rfl, rfl⟩
    go_wp2_with fail
    refine (HN4.out _).mono ?_
    rintro e w8 ⟨rfl, rfl⟩
    go_wp2_with fail
    refine (works_any _ env7).mono ?_
    rintro e w9 ⟨rfl, hb9⟩
    go_wp2_with fail
    go_ret
    exact ⟨rfl, f7.trans (hb9.mono f7.size)⟩
end Go.Proofs.YtlcldmhajnmkdaaDoor
