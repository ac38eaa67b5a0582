/- Facts that UnitsParts takes: texts of parts, the texts that are none; the walk of part. -/
import Derived.Test.YtelacmgfpcmmjaaGreatDoorUnPrint
import Derived.Test.YtelacmgfpcmmjaaGreatDoorUnFacts2
import Derived.Test.YtelacmgfpcmmjaaGreatDoorRow
namespace Go.Proofs.YtelacmgfpcmmjaaGreatDoor
open Go.RowKit

namespace Lx
theorem pc_len (n u : Nat) (h : n ≤ 68719476736) : (pc n u).length ≤ 12 := by
  unfold pc
  split
  · exact Nat.zero_le _
  · have := dd_len n h
    rw [List.length_append, List.length_singleton]; omega
def BadT (x : ByteArray) : Prop := parV x.data.toList = 0 ∧ parE x.data.toList = 10 ∧ x.size ≤ 200
theorem badT {x : ByteArray} (h : durS x.data.toList = none) (hs : x.size ≤ 200) : BadT x := ⟨(none_par h).1, (none_par h).2, hs⟩
def bads (T U : ByteArray) : List ByteArray := [T ++ T, ⟨#[48]⟩ ++ T, T ++ ⟨#[49]⟩, T ++ ⟨#[48, 115]⟩, ⟨#[32]⟩ ++ T, T ++ ⟨#[32]⟩, T.extract 0 (T.size - 1), U, ⟨#[45]⟩ ++ T, ⟨#[48, 115]⟩ ++ T]
theorem appT (a b : ByteArray) : (a ++ b).data.toList = a.data.toList ++ b.data.toList := by rw [ByteArray.data_append, Array.toList_append]
theorem extT (s : ByteArray) (k : Nat) : (s.extract 0 k).data.toList = s.data.toList.take k := by
  rw [ByteArray.data_extract, Array.toList_extract]; simp
theorem bads_no (T U : ByteArray) (a b c d : Nat) (h : T.data.toList = pcs a b c d) (hne : pcs a b c d ≠ []) (hU : U.data.toList = Lib.toUpperA (pcs a b c d)) (hs : T.size ≤ 48) : ∀ x ∈ bads T U, BadT x := by
  have s1 : ∀ c : UInt8, (⟨#[c]⟩ : ByteArray).size = 1 := fun _ => rfl
  have s2 : (⟨#[48, 115]⟩ : ByteArray).size = 2 := rfl
  have hUs : U.size = T.size := by rw [Lib.size_eq, hU, Lib.size_eq, h]; unfold Lib.toUpperA; rw [List.length_map]
  intro x hx
  simp only [bads, List.mem_cons, List.not_mem_nil, or_false] at hx
  rcases hx with rfl | rfl | rfl | rfl | rfl | rfl | rfl | rfl | rfl | rfl
  · exact badT (by rw [appT, h]; exact pcs_twice hne) (by rw [ByteArray.size_append]; omega)
  · exact badT (by rw [appT, h]; exact pcs_zero_ahead hne) (by rw [ByteArray.size_append, s1]; omega)
  · exact badT (by rw [appT, h]; exact pcs_tail hne (fun k => rd_alldig k (by decide) (by decide))) (by rw [ByteArray.size_append, s1]; omega)
  · exact badT (by rw [appT, h]; exact pcs_tail hne (fun k => rd_zero _ k)) (by rw [ByteArray.size_append, s2]; omega)
  · exact badT (by rw [appT, h]; exact pcs_ahead 32 (by decide)) (by rw [ByteArray.size_append, s1]; omega)
  · exact badT (by rw [appT, h]; exact pcs_tail hne (fun k => nodig_all k 32 [] (by decide))) (by rw [ByteArray.size_append, s1]; omega)
  · refine badT ?_ (by rw [ByteArray.size_extract]; omega)
    rw [extT, h, Lib.size_eq, h, ← List.dropLast_eq_take]; exact pcs_cut hne
  · exact badT (by rw [hU]; exact pcs_upper hne) (by omega)
  · exact badT (by rw [appT, h]; exact pcs_ahead 45 (by decide)) (by rw [ByteArray.size_append, s1]; omega)
  · exact badT (by rw [appT, h]; exact pcs_0s_ahead hne) (by rw [ByteArray.size_append, s2]; omega)
theorem pcs_sum0 {a b c d : Nat} (h : pcs a b c d ≠ []) : a * 86400 + b * 3600 + c * 60 + d ≠ 0 := by
  intro e
  have ha : a = 0 := by omega
  have hb : b = 0 := by omega
  have hc : c = 0 := by omega
  have hd : d = 0 := by omega
  subst ha; subst hb; subst hc; subst hd
  exact h rfl
theorem pcs_ascii (a b c d : Nat) : ∀ (j : Nat) (x : UInt8), (pcs a b c d)[j]? = some x → x.toNat < 128 := by
  have hp : ∀ (N u : Nat) (x : UInt8), x ∈ pc N u → x.toNat < 128 := by
    intro N u x hx
    rcases pc_mem hx with h | h
    · unfold isDig at h; rw [decide_eq_true_iff] at h; omega
    · rcases letr_cases u with e | e | e | e <;> rw [e] at h <;> subst h <;> decide
  intro j x h
  have hm := List.mem_of_getElem? h
  unfold pcs at hm
  simp only [List.mem_append] at hm
  rcases hm with h | h | h | h <;> exact hp _ _ _ h
theorem pcs_len (a b c d : Nat) (ha : a ≤ 68719476736) (hb : b ≤ 68719476736) (hc : c ≤ 68719476736) (hd : d ≤ 68719476736) : (pcs a b c d).length ≤ 48 := by
  have h1 := pc_len a 0 ha
  have h2 := pc_len b 1 hb
  have h3 := pc_len c 2 hc
  have h4 := pc_len d 3 hd
  unfold pcs
  simp only [List.length_append]; omega
/-- What the slice of wrong texts is, as it grows. -/
def BadRow (B : Nat) (w0 : World) (m : Nat) (v : Value) (wx : World) : Prop := ∃ xs : List ByteArray, wx.ownsRow B 9 1 v xs.length (xs.map Value.string) ∧ (∀ x ∈ xs, BadT x) ∧ xs.length ≤ m ∧ Below B w0 wx
end Lx

/-- part: a number with a unit, or nothing for 0. -/
theorem part_any (n : Nat) (hn : n ≤ 65535) (u : Nat) (x : UInt8) (hx : x = Lx.letr u) (w : World) (env : UEnv w) :
    Calls Tryz.prog 4 #[.int .u16 n, .string ⟨#[x]⟩] w fun e w' => e = .returned (.string ⟨(Lx.pc n u).toArray⟩) ∧ Below w.heap.size w w' := by
  by_cases h0 : n = 0
  · subst h0
    rw [Lx.pc_zero]
    clear hx
    go_enter Tryz.func4, Tryz.ntmps4
    go_wp2
    go_ret
    exact ⟨rfl, Below.refl _ _⟩
  · have hz : ((n : Int) == 0) = false := by rw [beq_eq_false_iff_ne]; omega
    have hd := digits_any (n : Int) w (by omega) (by omega) env.env
    rw [Lx.itoa_pos (by omega), Int.natAbs_natCast] at hd
    have hl := Lx.dd_len n (by omega)
    obtain ⟨D, hD⟩ : ∃ D : ByteArray, D = ⟨(Lib.decDigits n).toArray⟩ := ⟨_, rfl⟩
    rw [← hD] at hd
    have hDs : D.size ≤ 11 := by rw [Lib.size_eq, hD]; exact hl
    have hfin : (D ++ ⟨#[x]⟩ : ByteArray) = ⟨(Lx.pc n u).toArray⟩ := by
      rw [Lx.pc_pos u h0]
      apply ByteArray.ext
      apply Array.toList_inj.1
      rw [Lx.appT, hD, hx]
    have hi : (n : Int) ≤ 65535 := by omega
    have hs1 : (⟨#[x]⟩ : ByteArray).size = 1 := rfl
    have HD := Lib.hid hd
    have Hfin := Lib.hid hfin
    clear hd hD hfin h0 hl hx
    go_enter Tryz.func4, Tryz.ntmps4
    go_wp2_with fail
    refine HD.out.mono ?_
    rintro e w1 ⟨rfl, b1⟩
    go_wp2_with fail
    go_ret
    exact ⟨Lx.ret_str Hfin.out, b1⟩
end Go.Proofs.YtelacmgfpcmmjaaGreatDoor
