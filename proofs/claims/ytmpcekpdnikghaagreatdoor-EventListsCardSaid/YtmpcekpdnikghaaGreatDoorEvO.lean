/- What '==' says of events; the contracts at known texts; the walk of works, the examples of the chapter that every law of it runs: true. -/
import Derived.Test.YtmpcekpdnikghaaGreatDoorEvM
import Derived.Test.YtmpcekpdnikghaaGreatDoorEvP
import Derived.Laws.StructEq
import Derived.Laws.Tables
import Derived.Laws.Cover2
import Derived.KernelRfl
namespace Go.Proofs.YtmpcekpdnikghaaGreatDoor
open Go.RowKit

namespace Lx
/-- Equality of events, field by field. -/
def evEq (o p : EvV) : Bool := (o.k == p.k) && ((o.t == p.t) && ((o.j == p.j) && ((o.d == p.d) && ((o.a == p.a) && ((o.r == p.r) && ((o.y == p.y) && (o.n == p.n)))))))
theorem evEq_iff (o p : EvV) : evEq o p = true ↔ o = p := by
  obtain ⟨k, t, j, d, a, r, y, n⟩ := o
  obtain ⟨k', t', j', d', a', r', y', n'⟩ := p
  unfold evEq
  simp
theorem evEq_self (o : EvV) : evEq o o = true := (evEq_iff o o).2 rfl
theorem evEq_no {o p : EvV} (h : o ≠ p) : evEq o p = false := by
  cases hb : evEq o p
  · rfl
  · exact absurd ((evEq_iff o p).1 hb) h
end Lx
theorem eqEv (o p : Lx.EvV) (w : World) : (Op.equalIn 10000 26 o.val p.val).run Tryz.prog w = .ok (Lx.evEq o p) w := by
  obtain ⟨k, t, j, d, a, r, y, n⟩ := o
  obtain ⟨k', t', j', d', a', r', y', n'⟩ := p
  unfold Lx.EvV.val Lx.evEq
  simp only
  have u3 := Tryz.underlying3
  have a3 := Tryz.isAgg3
  have z3 := Tryz.sizeOf3
  have u2 := Tryz.underlying2
  have a2 := Tryz.isAgg2
  have z2 := Tryz.sizeOf2
  have hS : Tryz.prog.underlying 26 = some (.struct (Tryz.prog.fieldsOf 26)) := by kernel_rfl
  rw [show (10000 : Nat) = 9999 + 1 from rfl, run_equalIn_agg w 9999 26 _ _ hS (by kernel_rfl)]
  simp only [Program.fieldsOf, Tryz.underlying26]
  go_simp
  by_cases h1 : k = k' <;> by_cases h2 : t = t' <;> by_cases h3 : j = j' <;> by_cases h4 : d = d' <;> by_cases h5 : a = a' <;> by_cases h6 : r = r' <;> by_cases h7 : y = y' <;> by_cases h8 : n = n' <;> simp [h1, h2, h3, h4, h5, h6, h7, h8]
theorem evparse_at (s : ByteArray) (o : Lx.EvV) (x : Int) (ad : Option Addr) (m cap : Nat) (NS : List ByteArray) (w : World) (env : EEnv w) (h : Lx.IsNames w ad m NS) (hz : ∀ x ∈ NS, x.size ≤ maxLen) (hm : m ≤ maxLen) (hp : Lx.ParseEv NS s o x) :
    Calls Tryz.prog 7 #[.string s, .slice ad m cap] w fun e w' => e = .returned (.tuple #[o.val, .int .i64 x]) ∧ Below w.heap.size w w' := by
  refine (evparse_any s ad m cap NS w env h hz hm).mono ?_
  rintro e w' ⟨o', x', rfl, hp', hb⟩
  obtain ⟨rfl, rfl⟩ := Lx.parseEv_one hp hp'
  exact ⟨rfl, hb⟩
theorem evparseAll_at (s : ByteArray) (out : List Lx.EvV) (n x : Int) (ad : Option Addr) (m cap : Nat) (NS : List ByteArray) (w : World) (env : EEnv w) (h : Lx.IsNames w ad m NS) (hz : ∀ x ∈ NS, x.size ≤ maxLen) (hm : m ≤ maxLen) (hp : Lx.ParseAllEv NS s out n x) :
    Calls Tryz.prog 9 #[.string s, .slice ad m cap] w fun e w' => ∃ A c, e = .returned (.tuple #[.slice A out.length c, .int .i64 n, .int .i64 x]) ∧ Lx.IsEvs w' A out.length out ∧ (A = none → c = 0) ∧ Below w.heap.size w w' := by
  refine (evparseAll_any s ad m cap NS w env h hz hm).mono ?_
  rintro e w' ⟨v, o', n', x', rfl, hp', hown, hb⟩
  obtain ⟨rfl, rfl, rfl⟩ := Lx.parseAllEv_one hp hp'
  obtain ⟨A, c, rfl⟩ := Lx.ownSlice hown
  refine ⟨A, c, rfl, Lx.row_isEvs hown rfl, fun hA => ?_, hb⟩
  rcases hown.2 with ⟨h0, _⟩ | ⟨g, cap', cur, h0, _⟩
  · simpa using (congrArg (fun v => match v with | Value.slice _ _ c => c | _ => 0) h0)
  · rw [hA] at h0; simp at h0
namespace Lx
def nmAB : List ByteArray := [⟨#[97]⟩, ⟨#[98]⟩]
theorem nmAB_ok : nmErr nmAB = 0 := by decide +kernel
theorem xe1 : prE nmAB ⟨1, 120, 1, 110, 1, 7, 0, 0⟩ = 0 ∧ prS nmAB ⟨1, 120, 1, 110, 1, 7, 0, 0⟩ = [49, 50, 48, 32, 108, 97, 117, 110, 99, 104, 32, 98, 32, 49, 49, 48, 32, 49, 32, 55] := by decide +kernel
theorem xe2 : ParseEv nmAB ⟨#[57, 32, 111, 112, 101, 110, 32, 98, 32, 110, 101, 118, 101, 114]⟩ ⟨7, 9, 1, 0, 0, 0, 0, 4611686018427387904⟩ 0 :=
  .inr (.inr ⟨nmAB_ok, by decide, .inl ⟨rfl, ⟨by unfold Good; simp, by intro _; decide, by kernel_rfl⟩⟩⟩)
theorem xe3l : txL ⟨#[55, 32, 114, 101, 106, 101, 99, 116, 32, 53, 10, 53, 32, 100, 114, 111, 112, 32, 97, 32, 53, 32, 49, 32, 109, 105, 115, 102, 105, 114, 101, 10]⟩ = [⟨#[55, 32, 114, 101, 106, 101, 99, 116, 32, 53]⟩, ⟨#[53, 32, 100, 114, 111, 112, 32, 97, 32, 53, 32, 49, 32, 109, 105, 115, 102, 105, 114, 101]⟩] := by kernel_rfl
theorem xe3 : ParseAllEv nmAB ⟨#[55, 32, 114, 101, 106, 101, 99, 116, 32, 53, 10, 53, 32, 100, 114, 111, 112, 32, 97, 32, 53, 32, 49, 32, 109, 105, 115, 102, 105, 114, 101, 10]⟩ [⟨6, 7, 0, 0, 0, 0, 5, 0⟩, ⟨5, 5, 0, 5, 1, 0, 6, 0⟩] 0 0 := by
  refine .inr (.inr ⟨nmAB_ok, by decide, .inl ⟨rfl, rfl, ?_⟩⟩)
  rw [xe3l]
  exact ⟨_, _, .inl ⟨rfl, ⟨by unfold Good; simp, by intro h; exact absurd rfl h, by kernel_rfl⟩⟩, rfl, _, _, .inl ⟨rfl, ⟨by unfold Good; simp, by intro _; decide, by kernel_rfl⟩⟩, rfl, rfl⟩
theorem isNames_lit (w : World) (cs : Array Value) (T : TypeId) (n : Nat) (L : List ByteArray) (hL : L.length = n) (hc : cs.toList = L.map Value.string) : IsNames (w.alloc (.cells cs T)) (some ⟨w.heap.size, 0, none⟩) n L := by
  refine ⟨hL, fun _ => ⟨_, 0, rfl, by simp, fun i x hx => ?_⟩⟩
  have : cs[i]? = some (.string x) := by
    rw [← Array.getElem?_toList, hc, List.getElem?_map, hx]; rfl
  rw [Nat.zero_add]
  simpa using this
end Lx
set_option maxRecDepth 100000 in
set_option maxHeartbeats 1600000 in
theorem evworks_any (w : World) (env : EEnv w) :
    Calls Tryz.prog 6 #[] w fun e w' => e = .returned (.bool true) ∧ Below w.heap.size w w' := by
  have hz : ∀ x ∈ Lx.nmAB, x.size ≤ maxLen := by unfold maxLen; decide
  have hm : 2 ≤ maxLen := by unfold maxLen; omega
  have H1 := Lib.hid (fun W (E : EEnv W) (h : Lx.IsNames W (some ⟨w.heap.size, 0, none⟩) 2 Lx.nmAB) => evprint_any ⟨1, 120, 1, 110, 1, 7, 0, 0⟩ _ 2 2 Lx.nmAB W E h hz hm)
  rw [Lx.xe1.1, Lx.xe1.2] at H1
  unfold Lx.EvV.val WriteIs at H1
  have H2 := Lib.hid (fun W (E : EEnv W) (h : Lx.IsNames W (some ⟨w.heap.size, 0, none⟩) 2 Lx.nmAB) => evparse_at _ _ _ _ 2 2 Lx.nmAB W E h hz hm Lx.xe2)
  unfold Lx.EvV.val at H2
  have H3 := Lib.hid (fun W (E : EEnv W) (h : Lx.IsNames W (some ⟨w.heap.size, 0, none⟩) 2 Lx.nmAB) => evparseAll_at _ _ _ _ _ 2 2 Lx.nmAB W E h hz hm Lx.xe3)
  dsimp only at H1 H2
  have ba : Below w.heap.size w (w.alloc (.cells #[.string ⟨#[97]⟩, .string ⟨#[98]⟩] 9)) := (Below.refl _ w).alloc (Nat.le_refl _) _
  have N0 := Lib.hid (Lx.isNames_lit w #[.string ⟨#[97]⟩, .string ⟨#[98]⟩] 9 2 Lx.nmAB rfl rfl)
  have B0 := Lib.hid ba
  clear ba hz hm
  go_enter Tryz.func6, Tryz.ntmps6
  go_wp2_with fail
  refine (H1.out _ (env.below B0.out) N0.out).mono ?_
  rintro e w1 ⟨rfl, c1⟩
  have N1 := Lib.hid (N0.out.below c1)
  have B1 := Lib.hid (B0.out.trans (c1.mono B0.out.size))
  clear N0 B0 c1
  go_wp2_with fail
  refine (H2.out _ (env.below B1.out) N1.out).mono ?_
  rintro e w2 ⟨rfl, c2⟩
  have ba := (Below.refl w2.heap.size w2).alloc (Nat.le_refl _) (.cells #[.int .i64 7, .int .i64 9, .int .i64 1, .int .i64 0, .int .i64 0, .int .i64 0, .int .i64 0, .int .i64 4611686018427387904] 26)
  have N2 := Lib.hid ((N1.out.below c2).below ba)
  have B2 := Lib.hid ((B1.out.trans (c2.mono B1.out.size)).trans (ba.mono (B1.out.trans (c2.mono B1.out.size)).size))
  have BO := Lib.hid (Lx.EvBox.new w2 7 9 1 0 0 0 0 4611686018427387904 26)
  clear N1 B1 c2 ba
  go_wp2_with fail
  refine (H3.out _ (env.below B2.out) N2.out).mono ?_
  rintro e w3 ⟨A, c, rfl, hl, -, c3⟩
  have B3 := Lib.hid (B2.out.trans (c3.mono B2.out.size))
  obtain ⟨q0, q1, q2, q3, q4, q5, q6, q7⟩ := (BO.out.below c3).eight
  obtain ⟨g, off, rfl, lt, hc⟩ := hl.2 (by decide)
  have cy : w3.cell? ⟨g, off + 14, none⟩ = some (.int .i64 6) := hc 1 _ rfl 6 _ rfl
  have heq := fun W => eqEv ⟨7, 9, 1, 0, 0, 0, 0, 4611686018427387904⟩ ⟨7, 9, 1, 0, 0, 0, 0, 4611686018427387904⟩ W
  unfold Lx.EvV.val at heq
  rw [Lx.evEq_self] at heq
  dsimp only at heq
  clear hc hl c3 N2 B2 BO
  go_wp2_with fail
  go_ret
  exact ⟨rfl, B3.out⟩
end Go.Proofs.YtmpcekpdnikghaaGreatDoor
