/- Plain facts: lines of events' texts, whole and with a line that is none; lists of events, cut. No program in sight (but for where slices lie). -/
import Derived.Test.YtmpcekpdnikghaaDoorEvPA
namespace Go.Proofs.YtmpcekpdnikghaaDoor.Lx
open Go Go.RowKit

/-- Lines without a line feed: what they come to says which they are. -/
theorem lines_one : ∀ {A B : List (List UInt8)}, (∀ x ∈ A, (10 : UInt8) ∉ x) → (∀ x ∈ B, (10 : UInt8) ∉ x) → (A.flatMap fun x => x ++ [10]) = (B.flatMap fun x => x ++ [10]) → A = B
  | [], [], _, _, _ => rfl
  | [], b :: B, _, _, e => by
    have := congrArg List.length e
    simp at this
  | a :: A, [], _, _, e => by
    have := congrArg List.length e
    simp at this
  | a :: A, b :: B, ha, hb, e => by
    rw [List.flatMap_cons, List.flatMap_cons, List.append_assoc, List.append_assoc, List.singleton_append, List.singleton_append] at e
    obtain ⟨e1, e2⟩ := split_at (ha a List.mem_cons_self) (hb b List.mem_cons_self) e
    rw [e1, lines_one (fun x hx => ha x (List.mem_cons_of_mem _ hx)) (fun x hx => hb x (List.mem_cons_of_mem _ hx)) e2]
where
  split_at {c : UInt8} : ∀ {a b a' b' : List UInt8}, c ∉ a → c ∉ a' → a ++ c :: b = a' ++ c :: b' → a = a' ∧ b = b'
    | [], b, [], b', _, _, e => ⟨rfl, (List.cons.inj e).2⟩
    | [], b, x :: a', b', _, h', e => absurd (by rw [List.nil_append, List.cons_append] at e; rw [(List.cons.inj e).1]; exact List.mem_cons_self) h'
    | x :: a, b, [], b', h, _, e => absurd (by rw [List.nil_append, List.cons_append] at e; rw [← (List.cons.inj e).1]; exact List.mem_cons_self) h
    | x :: a, b, y :: a', b', h, h', e => by
      rw [List.cons_append, List.cons_append] at e
      obtain ⟨e1, e2⟩ := List.cons.inj e
      obtain ⟨r1, r2⟩ := split_at (fun m => h (List.mem_cons_of_mem _ m)) (fun m => h' (List.mem_cons_of_mem _ m)) e2
      exact ⟨by rw [e1, r1], r2⟩
theorem txL_of {s : ByteArray} {A : List ByteArray} (hA : ∀ x ∈ A, (10 : UInt8) ∉ x.data.toList) (h : s.data.toList = A.flatMap fun x => x.data.toList ++ [10]) : txL s = A := by
  have hg := lines_good s
  unfold txL
  generalize linesOf s.size (pieces s isLF) = l at hg
  obtain ⟨g, hb⟩ := hg
  have hcond : s.size = 0 ∨ endsLF s = true := by
    rcases List.eq_nil_or_concat A with rfl | ⟨B, x, rfl⟩
    · left; rw [Lib.size_eq, h]; rfl
    · right
      unfold endsLF Lib.hasSuffix
      rw [List.isSuffixOf_iff_suffix, h, List.concat_eq_append, List.flatMap_append]
      exact ⟨(B.flatMap fun x => x.data.toList ++ [10]) ++ x.data.toList, by simp⟩
  rw [if_pos hcond, h] at hb
  have e : (l.map (·.2)).map (fun x : ByteArray => x.data.toList) = A.map (fun x : ByteArray => x.data.toList) := by
    refine lines_one ?_ ?_ ?_
    · intro y hy
      obtain ⟨z, hz, rfl⟩ := List.mem_map.1 hy
      obtain ⟨x, hx, rfl⟩ := List.mem_map.1 hz
      obtain ⟨j, hj⟩ := List.mem_iff_getElem?.1 hx
      exact (g j x hj).2.1
    · intro y hy
      obtain ⟨z, hz, rfl⟩ := List.mem_map.1 hy
      exact hA z hz
    · rw [List.flatMap_map, List.flatMap_map, List.flatMap_map]; exact hb
  exact (List.map_inj_right (fun a b h => ByteArray.ext (Array.toList_inj.1 h))).1 e

/-- Every one of a list's events has a text. -/
def FineE (NS : List ByteArray) (L : List EvV) : Prop := ∀ o ∈ L, wrE NS o = 0
theorem fineE_take {NS : List ByteArray} {L : List EvV} (h : FineE NS L) (k : Nat) : FineE NS (L.take k) := fun o ho => h o (List.mem_of_mem_take ho)
theorem fineE_drop {NS : List ByteArray} {L : List EvV} (h : FineE NS L) (k : Nat) : FineE NS (L.drop k) := fun o ho => h o (List.mem_of_mem_drop ho)
theorem wr_eps {NS : List ByteArray} (hN : NOk NS) {o : EvV} (h : wrE NS o = 0) : EvPs NS (wrS NS o) o := by
  have e : prE NS o = 0 := by unfold prE; rw [if_neg (fun c => c ((nmErr_ok NS).2 hN))]; exact h
  have := pr_eps e
  unfold prS at this
  rw [if_pos e] at this
  unfold wrS
  rw [if_pos h]
  exact this
theorem nameLF : nameByte 10 = false := by decide
theorem joinSp_no {c : UInt8} (hc : c ≠ 32) : ∀ {P : List (List UInt8)}, (∀ p ∈ P, c ∉ p) → c ∉ joinSp P
  | [], _, h => by cases h
  | [a], hp, h => hp a (by simp) h
  | a :: b :: t, hp, h => by
    rw [joinSp_cons a (by simp), List.mem_append, List.mem_cons] at h
    rcases h with h | h | h
    · exact hp a (by simp) h
    · exact hc h
    · exact joinSp_no hc (fun p h' => hp p (List.mem_cons_of_mem _ h')) h
theorem word_noLF (k : Int) : (10 : UInt8) ∉ evWord k := by unfold evWord; (repeat' split) <;> decide
theorem reason_noLF (y : Int) : (10 : UInt8) ∉ reasonW y := by unfold reasonW; (repeat' split) <;> decide
theorem it_noLF (n : Int) : (10 : UInt8) ∉ Lib.itoa n := it_no n 10 (by decide) (by decide)
theorem until_noLF (n : Int) : (10 : UInt8) ∉ untilW n := by unfold untilW; split; decide; exact it_noLF n
theorem nmAt_noLF {NS : List ByteArray} (h : ∀ x ∈ NS, isName x = true) (j : Int) : (10 : UInt8) ∉ nmAt NS j := by
  unfold nmAt
  cases hx : NS[j.toNat]? with
  | none => simp
  | some x => exact name_no (h x (List.mem_of_getElem? hx)) 10 nameLF
theorem parts_noLF {NS : List ByteArray} (h : ∀ x ∈ NS, isName x = true) (o : EvV) : ∀ p ∈ evParts o (nmAt NS o.j), (10 : UInt8) ∉ p := by
  intro p hp
  have h1 := it_noLF o.t
  have h2 := word_noLF o.k
  have h3 := nmAt_noLF h o.j
  have h4 := it_noLF o.d
  have h5 := it_noLF o.a
  have h6 := it_noLF o.r
  have h7 := until_noLF o.n
  have h8 := reason_noLF o.y
  have h9 := it_noLF o.y
  have h10 := it_noLF o.n
  unfold evParts at hp
  (repeat' split at hp) <;> simp at hp <;> (repeat' (rcases hp with hp | hp)) <;> (try subst hp) <;> (try assumption) <;> simp_all
theorem wr_noLF {NS : List ByteArray} (hN : NOk NS) (o : EvV) : (10 : UInt8) ∉ wrS NS o := by
  unfold wrS
  split
  · exact joinSp_no (by decide) (parts_noLF hN.2.1 o)
  · simp
def txE (NS : List ByteArray) (o : EvV) : ByteArray := ⟨(wrS NS o).toArray⟩
theorem txE_data (NS : List ByteArray) (o : EvV) : (txE NS o).data.toList = wrS NS o := rfl
theorem allTx_lines (NS : List ByteArray) (L : List EvV) : allTx NS L = (L.map (txE NS)).flatMap fun x => x.data.toList ++ [10] := by
  unfold allTx; rw [List.flatMap_map]; rfl
theorem linesEv_txt {NS : List ByteArray} (hN : NOk NS) : ∀ {L : List EvV}, FineE NS L → LinesEv NS (L.map (txE NS)) L
  | [], _ => rfl
  | o :: t, h => ⟨o, t, .inl ⟨rfl, wr_eps hN (h o (List.mem_cons_self ..))⟩, rfl, linesEv_txt hN (fun p hp => h p (List.mem_cons_of_mem _ hp))⟩
/-- The texts of events, one in a line, are read as them. -/
theorem all_fine {NS : List ByteArray} (hN : NOk NS) {L : List EvV} (h : FineE NS L) {s : ByteArray} (hs : s.data.toList = allTx NS L) (hz : s.size ≤ 65536) : ParseAllEv NS s L 0 0 := by
  refine .inr (.inr ⟨(nmErr_ok NS).2 hN, hz, .inl ⟨rfl, rfl, ?_⟩⟩)
  rw [txL_of (A := L.map (txE NS)) (by intro x hx; obtain ⟨o, _, rfl⟩ := List.mem_map.1 hx; exact wr_noLF hN o) (by rw [hs, allTx_lines])]
  exact linesEv_txt hN h
/-- With a line that is none, the line's number is told. -/
theorem all_wrong {NS : List ByteArray} (hN : NOk NS) {X Y : List EvV} (hX : FineE NS X) {line s : ByteArray} (hl : (10 : UInt8) ∉ line.data.toList) (hr : ReadsEv NS line.data.toList evZ 10)
    (hs : s.data.toList = allTx NS X ++ (line.data.toList ++ [10]) ++ allTx NS Y) (hz : s.size ≤ 65536) : ParseAllEv NS s [] ((X.length : Int) + 1) 10 := by
  refine .inr (.inr ⟨(nmErr_ok NS).2 hN, hz, .inr ⟨rfl, rfl, ?_⟩⟩)
  rw [txL_of (A := X.map (txE NS) ++ line :: Y.map (txE NS)) ?_ ?_]
  · refine ⟨X.length, line, X, ?_, rfl, hr, ?_⟩
    · rw [List.getElem?_append_right (by simp)]; simp
    · rw [List.take_left' (by simp)]; exact linesEv_txt hN hX
  · intro x hx
    rcases List.mem_append.1 hx with hx | hx
    · obtain ⟨o, _, rfl⟩ := List.mem_map.1 hx; exact wr_noLF hN o
    · rcases List.mem_cons.1 hx with rfl | hx
      · exact hl
      · obtain ⟨o, _, rfl⟩ := List.mem_map.1 hx; exact wr_noLF hN o
  · rw [hs, List.flatMap_append, List.flatMap_cons, allTx_lines, allTx_lines, List.append_assoc]
theorem wrong_05 {NS : List ByteArray} (hN : NOk NS) : ReadsEv NS [55, 32, 114, 101, 106, 101, 99, 116, 32, 48, 53] evZ 10 := by
  refine rd_no hN (P := [[55], [114, 101, 106, 101, 99, 116], [48, 53]]) ⟨by simp, by decide, by decide⟩ fun h => ?_
  have h1 := h.1
  unfold rdOk at h1
  have e : kindOf (pAt [[55], [114, 101, 106, 101, 99, 116], [48, 53]] 1) = 6 := by decide
  rw [e] at h1
  have h2 := h1.2.2
  revert h2
  decide
theorem isEvs_take {w : World} {A : Option Addr} {n : Nat} {L : List EvV} (h : IsEvs w A n L) {k : Nat} (hk : k ≤ n) : IsEvs w A k (L.take k) := by
  refine ⟨by rw [List.length_take, h.1]; omega, fun h0 => ?_⟩
  obtain ⟨g, off, e, lt, hc⟩ := h.2 (by omega)
  refine ⟨g, off, e, lt, fun i o hi j v hv => ?_⟩
  rw [List.getElem?_take] at hi
  split at hi
  · exact hc i o hi j v hv
  · cases hi
theorem isEvs_drop {w : World} {g off n : Nat} {L : List EvV} (h : IsEvs w (some ⟨g, off, none⟩) n L) {k : Nat} (hk : k ≤ n) : IsEvs w (some ⟨g, off + k * 8, none⟩) (n - k) (L.drop k) := by
  refine ⟨by rw [List.length_drop, h.1], fun h0 => ?_⟩
  obtain ⟨g', off', e, lt, hc⟩ := h.2 (by omega)
  injection e with e; injection e with e1 e2
  subst e1 e2
  refine ⟨g, off + k * 8, rfl, lt, fun i o hi j v hv => ?_⟩
  rw [List.getElem?_drop] at hi
  have := hc (k + i) o hi j v hv
  rwa [show off + (k + i) * 8 + j = off + k * 8 + i * 8 + j by omega] at this
theorem isEvs_empty {w : World} {A : Option Addr} {L : List EvV} (h : L = []) : IsEvs w A 0 L := ⟨by rw [h]; rfl, fun h0 => absurd h0 (by omega)⟩
end Go.Proofs.YtmpcekpdnikghaaDoor.Lx
