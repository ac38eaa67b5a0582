/- Where two lists of events differ; the walk of event.Same. -/
import Derived.Test.YtmpcekpdnikghaaDoorEvO
import Derived.Deep.QuietTactic
import Derived.BigQuiet
namespace Go.Proofs.YtmpcekpdnikghaaDoor
open Go.RowKit

namespace Lx
/-- Where two lists begin to differ, and whether they do. -/
def DifIs (L M : List EvV) (i : Int) (b : Bool) : Prop :=
  (b = true ∧ ∃ k : Nat, i = k ∧ k ≤ L.length ∧ k ≤ M.length ∧ L.take k = M.take k ∧ L[k]? ≠ M[k]?) ∨ (b = false ∧ i = 0 ∧ L = M)
theorem take_get {L M : List EvV} {k j : Nat} (h : L.take k = M.take k) (hj : j < k) : L[j]? = M[j]? := by
  have := congrArg (fun l : List EvV => l[j]?) h
  simpa [List.getElem?_take, hj] using this
theorem difIs_one {L M : List EvV} {i i' : Int} {b b' : Bool} (h : DifIs L M i b) (h' : DifIs L M i' b') : i = i' ∧ b = b' := by
  rcases h with ⟨rfl, k, rfl, h1, h2, h3, h4⟩ | ⟨rfl, rfl, h1⟩ <;> rcases h' with ⟨rfl, k', rfl, h1', h2', h3', h4'⟩ | ⟨rfl, rfl, h1'⟩
  · rcases Nat.lt_trichotomy k k' with c | c | c
    · exact absurd (take_get h3' c) h4
    · subst c; exact ⟨rfl, rfl⟩
    · exact absurd (take_get h3 c) h4'
  · subst h1'; exact absurd rfl h4
  · subst h1; exact absurd rfl h4'
  · exact ⟨rfl, rfl⟩
theorem difIs_symm {L M : List EvV} {i : Int} {b : Bool} (h : DifIs L M i b) : DifIs M L i b := by
  rcases h with ⟨rfl, k, rfl, h1, h2, h3, h4⟩ | ⟨rfl, rfl, h1⟩
  · exact .inl ⟨rfl, k, rfl, h2, h1, h3.symm, fun e => h4 e.symm⟩
  · exact .inr ⟨rfl, rfl, h1.symm⟩
theorem difIs_self (L : List EvV) : DifIs L L 0 false := .inr ⟨rfl, rfl, rfl⟩
theorem take_succ_eq {L M : List EvV} {k : Nat} {a b : EvV} (h : L.take k = M.take k) (ha : L[k]? = some a) (hb : M[k]? = some b) (e : a = b) : L.take (k + 1) = M.take (k + 1) := by
  rw [List.take_add_one, List.take_add_one, h, ha, hb, e]
end Lx
def SameIsE (L M : List Lx.EvV) (w : World) (e : Ending) (w' : World) : Prop := ∃ i b, e = .returned (.tuple #[.int .i64 i, .bool b]) ∧ Lx.DifIs L M i b ∧ Below w.heap.size w w'
set_option maxRecDepth 100000 in
set_option maxHeartbeats 1600000 in
theorem evsame_any (ad : Option Addr) (n cap : Nat) (L : List Lx.EvV) (ad' : Option Addr) (m cap' : Nat) (M : List Lx.EvV) (w : World) (h : Lx.IsEvs w ad n L) (h' : Lx.IsEvs w ad' m M) (hn : n ≤ 1000000000) (hm : m ≤ 1000000000) :
    Calls Tryd.prog 18 #[.slice ad n cap, .slice ad' m cap'] w (SameIsE L M w) := by
  have hL := h.1
  have hM := h'.1
  have H := Lib.hid h
  have H' := Lib.hid h'
  have HL := Lib.hid hL
  have HM := Lib.hid hM
  obtain ⟨x, hx⟩ : ∃ x : Nat, max n m = x := ⟨_, rfl⟩
  have hmx : max (n : Int) (m : Int) = (x : Int) := by rw [← hx]; omega
  have hxn : n ≤ x ∧ m ≤ x ∧ (x = n ∨ x = m) := by omega
  have HX := Lib.hid hxn
  clear h h' hL hM hx hxn
  go_enter Tryd.func18, Tryd.ntmps18
  go_wp2_with fail
  go_loopw [12] (fun i wr => ∃ k : Nat, k ≤ n ∧ k ≤ m ∧ i = .int .i64 k ∧ L.take k = M.take k ∧ Below w.heap.size w wr) (fun i _ => x - (intOf i).toNat)
  case atStart => exact ⟨0, Nat.zero_le _, Nat.zero_le _, rfl, rfl, Below.refl _ _⟩
  case round =>
    obtain ⟨k, hkn, hkm, rfl, htk, hb⟩ := hrel
    have Htk := Lib.hid htk
    have Hb := Lib.hid hb
    clear htk hb
    by_cases hkx : k < x
    · have hki : (k : Int) < (x : Int) := by omega
      by_cases h1 : k < n
      · have hn0 : decide ((n : Int) ≤ (k : Int)) = false := decide_eq_false (by omega)
        have hn1 : (k : Int) < (n : Int) := by omega
        by_cases h2 : k < m
        · have hm0 : decide ((m : Int) ≤ (k : Int)) = false := decide_eq_false (by omega)
          have hm1 : (k : Int) < (m : Int) := by omega
          obtain ⟨a, ha⟩ : ∃ a, L[k]? = some a := ⟨_, List.getElem?_eq_getElem (by rw [HL.out]; exact h1)⟩
          obtain ⟨b, hbb⟩ : ∃ b, M[k]? = some b := ⟨_, List.getElem?_eq_getElem (by rw [HM.out]; exact h2)⟩
          obtain ⟨g, off, rfl, lt, hc⟩ := (H.out.below Hb.out).2 (by omega)
          obtain ⟨g', off', rfl, lt', hc'⟩ := (H'.out.below Hb.out).2 (by omega)
          have HA := Lib.hid ha
          have HBB := Lib.hid hbb
          have heq := fun W => eqEv a b W
          have HE := Lib.hid (Lx.evEq_iff a b)
          obtain ⟨B, hB⟩ : ∃ B, Lx.evEq a b = B := ⟨_, rfl⟩
          rw [hB] at heq HE
          obtain ⟨ak, at', aj, ad1, aa, ar, ay, an⟩ := a
          obtain ⟨bk, bt, bj, bd, ba, br, by', bn⟩ := b
          have p0 : wr.cell? ⟨g, off + k * 8, none⟩ = some (.int .i64 ak) := hc k _ ha 0 _ rfl
          have p1 : wr.cell? ⟨g, off + k * 8 + 1, none⟩ = some (.int .i64 at') := hc k _ ha 1 _ rfl
          have p2 : wr.cell? ⟨g, off + k * 8 + 2, none⟩ = some (.int .i64 aj) := hc k _ ha 2 _ rfl
          have p3 : wr.cell? ⟨g, off + k * 8 + 3, none⟩ = some (.int .i64 ad1) := hc k _ ha 3 _ rfl
          have p4 : wr.cell? ⟨g, off + k * 8 + 4, none⟩ = some (.int .i64 aa) := hc k _ ha 4 _ rfl
          have p5 : wr.cell? ⟨g, off + k * 8 + 5, none⟩ = some (.int .i64 ar) := hc k _ ha 5 _ rfl
          have p6 : wr.cell? ⟨g, off + k * 8 + 6, none⟩ = some (.int .i64 ay) := hc k _ ha 6 _ rfl
          have p7 : wr.cell? ⟨g, off + k * 8 + 7, none⟩ = some (.int .i64 an) := hc k _ ha 7 _ rfl
          have q0 : wr.cell? ⟨g', off' + k * 8, none⟩ = some (.int .i64 bk) := hc' k _ hbb 0 _ rfl
          have q1 : wr.cell? ⟨g', off' + k * 8 + 1, none⟩ = some (.int .i64 bt) := hc' k _ hbb 1 _ rfl
          have q2 : wr.cell? ⟨g', off' + k * 8 + 2, none⟩ = some (.int .i64 bj) := hc' k _ hbb 2 _ rfl
          have q3 : wr.cell? ⟨g', off' + k * 8 + 3, none⟩ = some (.int .i64 bd) := hc' k _ hbb 3 _ rfl
          have q4 : wr.cell? ⟨g', off' + k * 8 + 4, none⟩ = some (.int .i64 ba) := hc' k _ hbb 4 _ rfl
          have q5 : wr.cell? ⟨g', off' + k * 8 + 5, none⟩ = some (.int .i64 br) := hc' k _ hbb 5 _ rfl
          have q6 : wr.cell? ⟨g', off' + k * 8 + 6, none⟩ = some (.int .i64 by') := hc' k _ hbb 6 _ rfl
          have q7 : wr.cell? ⟨g', off' + k * 8 + 7, none⟩ = some (.int .i64 bn) := hc' k _ hbb 7 _ rfl
          unfold Lx.EvV.val at heq
          dsimp only at heq
          clear hc hc' ha hbb hB
          cases B
          · have hne : (⟨ak, at', aj, ad1, aa, ar, ay, an⟩ : Lx.EvV) ≠ ⟨bk, bt, bj, bd, ba, br, by', bn⟩ := fun e => by have := HE.out.2 e; cases this
            have HNE := Lib.hid hne
            clear hne
            go_wp2_with fail
            go_quiet (fail)
            go_wp2_with fail
            go_ret2
            exact ⟨_, _, rfl, .inl ⟨rfl, k, rfl, by rw [HL.out]; omega, by rw [HM.out]; omega, Htk.out, by rw [HA.out, HBB.out]; exact fun e => HNE.out (Option.some.inj e)⟩, Hb.out.trans (below_drewN _ _ _)⟩
          · have HS := Lib.hid (Lx.take_succ_eq Htk.out HA.out HBB.out (HE.out.1 rfl))
            go_wp2_with fail
            go_quiet (fail)
            go_wp2_with fail
            go_roundw
            case rel => exact ⟨k + 1, by omega, by omega, by go_num, HS.out, Hb.out.trans (below_drewN _ _ _)⟩
            case measure => simp [intOf]; omega
        · have hm0 : decide ((m : Int) ≤ (k : Int)) = true := decide_eq_true (by omega)
          have HR := Lib.hid (show L[k]? ≠ M[k]? from by rw [List.getElem?_eq_getElem (by rw [HL.out]; exact h1), List.getElem?_eq_none (l := M) (by rw [HM.out]; omega)]; exact fun c => by cases c)
          go_wp2_with fail
          go_quiet (fail)
          go_wp2_with fail
          go_ret2
          exact ⟨_, _, rfl, .inl ⟨rfl, k, rfl, by rw [HL.out]; omega, by rw [HM.out]; omega, Htk.out, HR.out⟩, Hb.out.trans (below_drewN _ _ _)⟩
      · have hn0 : decide ((n : Int) ≤ (k : Int)) = true := decide_eq_true (by omega)
        have hn1 : n ≤ k := by omega
        have h2 : k < m := by have := HX.out; omega
        have HR := Lib.hid (show L[k]? ≠ M[k]? from by rw [List.getElem?_eq_none (l := L) (by rw [HL.out]; omega), List.getElem?_eq_getElem (by rw [HM.out]; exact h2)]; exact fun c => by cases c)
        go_wp2_with fail
        go_quiet (fail)
        go_wp2_with fail
        go_ret2
        exact ⟨_, _, rfl, .inl ⟨rfl, k, rfl, by rw [HL.out]; omega, by rw [HM.out]; omega, Htk.out, HR.out⟩, Hb.out.trans (below_drewN _ _ _)⟩
    · have hkx0 : decide ((k : Int) < (x : Int)) = false := decide_eq_false (by omega)
      have HEQ := Lib.hid (show L = M from by
        have h1 := Htk.out
        rw [List.take_of_length_le (by rw [HL.out]; have := HX.out; omega), List.take_of_length_le (by rw [HM.out]; have := HX.out; omega)] at h1
        exact h1)
      go_wp2_with fail
      go_ret2
      exact ⟨_, _, rfl, .inr ⟨rfl, rfl, HEQ.out⟩, Hb.out⟩
end Go.Proofs.YtmpcekpdnikghaaDoor
