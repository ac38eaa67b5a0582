/- Plain facts that UnitsHex takes: a digit of sixteen is exchanged. No program in sight. -/
import Derived.Test.YtpjocfkolnfjiaaGreatDoorUnSpec
import Derived.Laws.Bits64b
namespace Go.Proofs.YtpjocfkolnfjiaaGreatDoor.Lx
open Go Go.RowKit

theorem hval_app (a b : List UInt8) (acc : Nat) : hval acc (a ++ b) = hval (hval acc a) b := by simp [hval]
theorem hval_acc : ∀ (l : List UInt8) (acc : Nat), hval acc l = acc * 16 ^ l.length + hval 0 l
  | [], acc => by simp [hval]
  | c :: l, acc => by
    have e : ∀ a, hval a (c :: l) = hval (16 * a + hexV c) l := fun a => by unfold hval; rw [List.foldl_cons]
    rw [e, e, hval_acc l (16 * acc + hexV c), hval_acc l (16 * 0 + hexV c), List.length_cons, Nat.pow_succ]
    have h1 : (16 * acc + hexV c) * 16 ^ l.length = acc * (16 ^ l.length * 16) + hexV c * 16 ^ l.length := by
      rw [Nat.add_mul, Nat.mul_comm 16 acc, Nat.mul_assoc, Nat.mul_comm 16]
    have h2 : (16 * 0 + hexV c) * 16 ^ l.length = hexV c * 16 ^ l.length := by rw [Nat.mul_zero, Nat.zero_add]
    omega
theorem hval_mid (a b : List UInt8) (x : UInt8) : hval 0 (a ++ x :: b) = (16 * hval 0 a + hexV x) * 16 ^ b.length + hval 0 b := by
  rw [hval_app]
  have e : hval (hval 0 a) (x :: b) = hval (16 * hval 0 a + hexV x) b := by unfold hval; rw [List.foldl_cons]
  rw [e, hval_acc]
theorem hval_lt0 (l : List UInt8) (h : l.all isHex = true) : hval 0 l < 16 ^ l.length := by
  have := hval_lt l h 0
  omega
/-- One digit exchanged, in numbers. -/
theorem hex_set (n k : Nat) (c : UInt8) (hn : n < 18446744073709551616) (hk : k < 16) (hc : isHex c = true) :
    ((hexTo n 16).set k c).all isHex = true ∧ hval 0 ((hexTo n 16).set k c) = 2 ^ (60 - 4 * k) * (2 ^ 4 * (n / 2 ^ (60 - 4 * k + 4)) + hexV c) + n % 2 ^ (60 - 4 * k) := by
  have hlen := hexTo_len n 16
  have hall := hexTo_all n 16
  have hnv := hexTo_val 16 n (by simpa using hn)
  have hkl : k < (hexTo n 16).length := by omega
  obtain ⟨a, x, b, e, ha⟩ : ∃ a x b, hexTo n 16 = a ++ x :: b ∧ a.length = k := by
    refine ⟨(hexTo n 16).take k, (hexTo n 16)[k], (hexTo n 16).drop (k + 1), ?_, by rw [List.length_take]; omega⟩
    rw [← List.drop_eq_getElem_cons hkl, List.take_append_drop]
  have hs : (hexTo n 16).set k c = a ++ c :: b := by
    rw [e, List.set_append_right _ _ (by omega), ha, Nat.sub_self]; rfl
  have hb : b.length = 15 - k := by
    rw [e, List.length_append, List.length_cons] at hlen; omega
  rw [e, List.all_append, List.all_cons, Bool.and_eq_true, Bool.and_eq_true] at hall
  refine ⟨?_, ?_⟩
  · rw [hs, List.all_append, List.all_cons, hall.1, hc, hall.2.2]; rfl
  · rw [hs, hval_mid]
    rw [e, hval_mid] at hnv
    have hB := hval_lt0 b hall.2.2
    have hx := hexV_lt x hall.2.1
    have hp : (16 : Nat) ^ b.length = 2 ^ (60 - 4 * k) := by
      rw [hb, show 60 - 4 * k = 4 * (15 - k) by omega, Nat.pow_mul, show (2 : Nat) ^ 4 = 16 from rfl]
    rw [hp] at hnv hB ⊢
    have hpos : 0 < 2 ^ (60 - 4 * k) := Nat.two_pow_pos _
    generalize hval 0 a = A at hnv ⊢
    generalize hval 0 b = B at hnv hB ⊢
    generalize hexV x = X at hnv hx
    have hq : 2 ^ (60 - 4 * k + 4) = 2 ^ (60 - 4 * k) * 16 := by rw [Nat.pow_add]
    rw [hq]
    generalize 2 ^ (60 - 4 * k) = P at hnv hB hpos ⊢
    subst hnv
    have h1 : ((16 * A + X) * P + B) / P = 16 * A + X := by
      rw [Nat.mul_comm, Nat.mul_add_div hpos, Nat.div_eq_of_lt hB, Nat.add_zero]
    have h2 : ((16 * A + X) * P + B) % P = B := by
      rw [Nat.mul_comm, Nat.mul_add_mod, Nat.mod_eq_of_lt hB]
    rw [← Nat.div_div_eq_div_mul, h1, h2]
    have h3 : (16 * A + X) / 16 = A := by omega
    rw [h3]
    rw [Nat.mul_comm]
/-- One digit exchanged, in bits. -/
theorem bit_set (n s g : Nat) (hs : s ≤ 60) (hg : g < 16) (hn : n < 2 ^ 64) :
    ((BitVec.ofNat 64 n &&& ~~~ BitVec.ofNat 64 (15 * 2 ^ s)) ||| BitVec.ofNat 64 (g * 2 ^ s)).toNat = 2 ^ s * (2 ^ 4 * (n / 2 ^ (s + 4)) + g) + n % 2 ^ s := by
  have hp : 2 ^ s ≤ 2 ^ 60 := Nat.pow_le_pow_right (by omega) hs
  have hpos : 0 < 2 ^ s := Nat.two_pow_pos s
  have h15 : 15 * 2 ^ s < 2 ^ 64 := by
    have : (2 : Nat) ^ 64 = 16 * 2 ^ 60 := by decide
    omega
  have hgs : g * 2 ^ s < 2 ^ 64 := by
    have : (2 : Nat) ^ 64 = 16 * 2 ^ 60 := by decide
    have : g * 2 ^ s ≤ 15 * 2 ^ s := Nat.mul_le_mul_right _ (by omega)
    omega
  apply Nat.eq_of_testBit_eq
  intro j
  rw [Nat.testBit_two_pow_mul_add _ (Nat.mod_lt _ hpos)]
  rw [BitVec.toNat_or, BitVec.toNat_and, BitVec.toNat_not, BitVec.toNat_ofNat, BitVec.toNat_ofNat, BitVec.toNat_ofNat, Nat.mod_eq_of_lt hn, Nat.mod_eq_of_lt h15, Nat.mod_eq_of_lt hgs]
  rw [Nat.testBit_or, Nat.testBit_and]
  have e1 : (g * 2 ^ s).testBit j = (decide (s ≤ j) && g.testBit (j - s)) := by
    rw [← Nat.shiftLeft_eq, Nat.testBit_shiftLeft]
  have e2 : (15 * 2 ^ s).testBit j = (decide (s ≤ j) && decide (j - s < 4)) := by
    rw [← Nat.shiftLeft_eq, Nat.testBit_shiftLeft, show (15 : Nat) = 2 ^ 4 - 1 from rfl, Nat.testBit_two_pow_sub_one]
  have e3 : (2 ^ 64 - 1 - 15 * 2 ^ s).testBit j = (decide (j < 64) && !(15 * 2 ^ s).testBit j) := by
    have := Nat.testBit_two_pow_sub_succ h15 j
    rw [← this]; congr 1; omega
  rw [e1, e3, e2]
  by_cases hj : j < s
  · rw [if_pos hj, Nat.testBit_mod_two_pow]
    have h1 : decide (s ≤ j) = false := decide_eq_false (by omega)
    have h2 : decide (j < 64) = true := decide_eq_true (by omega)
    have h3 : decide (j < s) = true := decide_eq_true hj
    rw [h1, h2, h3]; simp
  · rw [if_neg hj]
    have h1 : decide (s ≤ j) = true := decide_eq_true (by omega)
    rw [h1, Nat.testBit_two_pow_mul_add _ (show g < 2 ^ 4 from hg)]
    by_cases h4 : j - s < 4
    · rw [if_pos h4]
      have h5 : decide (j - s < 4) = true := decide_eq_true h4
      rw [h5]; simp
    · rw [if_neg h4]
      have h5 : decide (j - s < 4) = false := decide_eq_false h4
      have h6 : g.testBit (j - s) = false := Nat.testBit_lt_two_pow (Nat.lt_of_lt_of_le (show g < 2 ^ 4 from hg) (Nat.pow_le_pow_right (by omega) (by omega)))
      rw [h5, h6, Nat.testBit_div_two_pow]
      have h7 : s + 4 + (j - s - 4) = j := by omega
      have h7' : j - s - 4 + (s + 4) = j := by omega
      first | rw [h7] | rw [h7']
      by_cases hj64 : j < 64
      · rw [decide_eq_true hj64]; simp
      · have : n.testBit j = false := Nat.testBit_lt_two_pow (Nat.lt_of_lt_of_le hn (Nat.pow_le_pow_right (by omega) (by omega)))
        rw [this]; simp
theorem hexs_index : ∀ n : Fin 256, Lib.indexByte hexs (UInt8.ofNat n.val) = if isHex (UInt8.ofNat n.val) = true then (hexV (UInt8.ofNat n.val) : Int) else -1 := by decide +kernel
theorem hexs_ix (c : UInt8) : Lib.indexByte hexs c = if isHex c = true then (hexV c : Int) else -1 := by
  have := hexs_index ⟨c.toNat, c.toNat_lt⟩
  rwa [UInt8.ofNat_toNat] at this
theorem seed_good {l : List UInt8} (h : l.length = 16) (h2 : l.all isHex = true) : seedV l = hval 0 l ∧ seedE l = 0 := by
  have hok : seedOk l = true := by unfold seedOk; rw [h2, decide_eq_true h]; rfl
  unfold seedV seedE; rw [hok]; exact ⟨rfl, rfl⟩
theorem seed_bad {l : List UInt8} (h : l.length ≠ 16 ∨ l.all isHex = false) : seedV l = 0 ∧ seedE l = 10 := by
  have hok : seedOk l = false := by
    unfold seedOk
    rcases h with h | h
    · rw [decide_eq_false h]; rfl
    · rw [h]; simp
  unfold seedV seedE; rw [hok]; exact ⟨rfl, rfl⟩
theorem seed_set_bad (n k : Nat) (c : UInt8) (hk : k < 16) (hc : isHex c = false) : seedV ((hexTo n 16).set k c) = 0 ∧ seedE ((hexTo n 16).set k c) = 10 := by
  refine seed_bad (.inr ?_)
  have hl : k < ((hexTo n 16).set k c).length := by rw [List.length_set, hexTo_len]; exact hk
  have hm := List.getElem_mem hl
  rw [List.getElem_set_self] at hm
  rw [List.all_eq_false]
  exact ⟨c, hm, by rw [hc]; decide⟩
end Go.Proofs.YtpjocfkolnfjiaaGreatDoor.Lx
