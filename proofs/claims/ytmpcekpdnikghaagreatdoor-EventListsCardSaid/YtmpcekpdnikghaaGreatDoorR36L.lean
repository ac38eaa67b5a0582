/- Where two lists of events differ; the walk of event.Same. Appends of a whole slice to a row of one's own. How many events of a kind there are, and the events of an occurrence: the walks of event.Count and event.Of. The walk of event.PrintAll. The reference of chapter 36: Same, Count, Of. (printed by gen_r36b.py) The reference of chapter 36: PrintAll. -/
import Derived.Test.YtmpcekpdnikghaaGreatDoorEvO
import Derived.Deep.QuietTactic
import Derived.BigQuiet
import Derived.Test.YtmpcekpdnikghaaGreatDoorEvM
import Derived.Laws.AppendOwnNone
import Derived.Laws.AppendOwn
import Derived.Test.YtmpcekpdnikghaaGreatDoorEvI
import Derived.Test.YtmpcekpdnikghaaGreatDoorBld
import Derived.Test.YtmpcekpdnikghaaGreatDoorJoin
import Derived.Test.YtmpcekpdnikghaaGreatDoorR36M
namespace Go.Proofs.YtmpcekpdnikghaaGreatDoor
open Go.RowKit

namespace Lx
/-- Where two lists begin to differ, and whether they do. -/
def DifIs (L M : List EvV) (i : Int) (b : Bool) : Prop :=
  (b = true ∧ ∃ k : Nat, i = k ∧ k ≤ L.length ∧ k ≤ M.length ∧ L.take k = M.take k ∧ L[k]? ≠ M[k]?) ∨ (b = false ∧ i = 0 ∧ L = M)
theorem take_get {L M : List EvV} {k j : Nat} (h : L.take k = M.take k) (hj : j < k) : L[j]? = M[j]? := by
  have := congrArg (fun l : List EvV => l[j]?) h
  simpa [List.getElem?_take, hj] using this
theorem difIs_one {L M : List EvV} {i i' : Int} {b b' : Bool} (h : DifIs L M i b) (h' : DifIs L M i' b') : i = i' ∧ b = b' := by
  rcases h with ⟨rfl, k, rfl, h1, h2, h3, h4⟩ | ⟨rfl, rfl, h1⟩ <;> rcases h' with ⟨rfl, k', rfl, h1', h2', h3', h4'⟩ | ⟨rfl, rfl, h1'⟩
  · rcases Nat.lt_trichotomy k k' with c | c | c
    · exact absurd (take_get h3' c) h4
    · subst c; exact ⟨rfl, rfl⟩
    · exact absurd (take_get h3 c) h4'
  · subst h1'; exact absurd rfl h4
  · subst h1; exact absurd rfl h4'
  · exact ⟨rfl, rfl⟩
theorem difIs_symm {L M : List EvV} {i : Int} {b : Bool} (h : DifIs L M i b) : DifIs M L i b := by
  rcases h with ⟨rfl, k, rfl, h1, h2, h3, h4⟩ | ⟨rfl, rfl, h1⟩
  · exact .inl ⟨rfl, k, rfl, h2, h1, h3.symm, fun e => h4 e.symm⟩
  · exact .inr ⟨rfl, rfl, h1.symm⟩
theorem difIs_self (L : List EvV) : DifIs L L 0 false := .inr ⟨rfl, rfl, rfl⟩
theorem take_succ_eq {L M : List EvV} {k : Nat} {a b : EvV} (h : L.take k = M.take k) (ha : L[k]? = some a) (hb : M[k]? = some b) (e : a = b) : L.take (k + 1) = M.take (k + 1) := by
  rw [List.take_add_one, List.take_add_one, h, ha, hb, e]
end Lx
def SameIsE (L M : List Lx.EvV) (w : World) (e : Ending) (w' : World) : Prop := ∃ i b, e = .returned (.tuple #[.int .i64 i, .bool b]) ∧ Lx.DifIs L M i b ∧ Below w.heap.size w w'
set_option maxRecDepth 100000 in
set_option maxHeartbeats 1600000 in
theorem evsame_any (ad : Option Addr) (n cap : Nat) (L : List Lx.EvV) (ad' : Option Addr) (m cap' : Nat) (M : List Lx.EvV) (w : World) (h : Lx.IsEvs w ad n L) (h' : Lx.IsEvs w ad' m M) (hn : n ≤ 1000000000) (hm : m ≤ 1000000000) :
    Calls Tryz.prog 14 #[.slice ad n cap, .slice ad' m cap'] w (SameIsE L M w) := by
  have hL := h.1
  have hM := h'.1
  have H := Lib.hid h
  have H' := Lib.hid h'
  have HL := Lib.hid hL
  have HM := Lib.hid hM
  obtain ⟨x, hx⟩ : ∃ x : Nat, max n m = x := ⟨_, rfl⟩
  have hmx : max (n : Int) (m : Int) = (x : Int) := by rw [← hx]; omega
  have hxn : n ≤ x ∧ m ≤ x ∧ (x = n ∨ x = m) := by omega
  have HX := Lib.hid hxn
  clear h h' hL hM hx hxn
  go_enter Tryz.func14, Tryz.ntmps14
  go_wp2_with fail
  go_loopw [12] (fun i wr => ∃ k : Nat, k ≤ n ∧ k ≤ m ∧ i = .int .i64 k ∧ L.take k = M.take k ∧ Below w.heap.size w wr) (fun i _ => x - (intOf i).toNat)
  case atStart => exact ⟨0, Nat.zero_le _, Nat.zero_le _, rfl, rfl, Below.refl _ _⟩
  case round =>
    obtain ⟨k, hkn, hkm, rfl, htk, hb⟩ := hrel
    have Htk := Lib.hid htk
    have Hb := Lib.hid hb
    clear htk hb
    by_cases hkx : k < x
    · have hki : (k : Int) < (x : Int) := by omega
      by_cases h1 : k < n
      · have hn0 : decide ((n : Int) ≤ (k : Int)) = false := decide_eq_false (by omega)
        have hn1 : (k : Int) < (n : Int) := by omega
        by_cases h2 : k < m
        · have hm0 : decide ((m : Int) ≤ (k : Int)) = false := decide_eq_false (by omega)
          have hm1 : (k : Int) < (m : Int) := by omega
          obtain ⟨a, ha⟩ : ∃ a, L[k]? = some a := ⟨_, List.getElem?_eq_getElem (by rw [HL.out]; exact h1)⟩
          obtain ⟨b, hbb⟩ : ∃ b, M[k]? = some b := ⟨_, List.getElem?_eq_getElem (by rw [HM.out]; exact h2)⟩
          obtain ⟨g, off, rfl, lt, hc⟩ := (H.out.below Hb.out).2 (by omega)
          obtain ⟨g', off', rfl, lt', hc'⟩ := (H'.out.below Hb.out).2 (by omega)
          have HA := Lib.hid ha
          have HBB := Lib.hid hbb
          have heq := fun W => eqEv a b W
          have HE := Lib.hid (Lx.evEq_iff a b)
          obtain ⟨B, hB⟩ : ∃ B, Lx.evEq a b = B := ⟨_, rfl⟩
          rw [hB] at heq HE
          obtain ⟨ak, at', aj, ad1, aa, ar, ay, an⟩ := a
          obtain ⟨bk, bt, bj, bd, ba, br, by', bn⟩ := b
          have p0 : wr.cell? ⟨g, off + k * 8, none⟩ = some (.int .i64 ak) := hc k _ ha 0 _ rfl
          have p1 : wr.cell? ⟨g, off + k * 8 + 1, none⟩ = some (.int .i64 at') := hc k _ ha 1 _ rfl
          have p2 : wr.cell? ⟨g, off + k * 8 + 2, none⟩ = some (.int .i64 aj) := hc k _ ha 2 _ rfl
          have p3 : wr.cell? ⟨g, off + k * 8 + 3, none⟩ = some (.int .i64 ad1) := hc k _ ha 3 _ rfl
          have p4 : wr.cell? ⟨g, off + k * 8 + 4, none⟩ = some (.int .i64 aa) := hc k _ ha 4 _ rfl
          have p5 : wr.cell? ⟨g, off + k * 8 + 5, none⟩ = some (.int .i64 ar) := hc k _ ha 5 _ rfl
          have p6 : wr.cell? ⟨g, off + k * 8 + 6, none⟩ = some (.int .i64 ay) := hc k _ ha 6 _ rfl
          have p7 : wr.cell? ⟨g, off + k * 8 + 7, none⟩ = some (.int .i64 an) := hc k _ ha 7 _ rfl
          have q0 : wr.cell? ⟨g', off' + k * 8, none⟩ = some (.int .i64 bk) := hc' k _ hbb 0 _ rfl
          have q1 : wr.cell? ⟨g', off' + k * 8 + 1, none⟩ = some (.int .i64 bt) := hc' k _ hbb 1 _ rfl
          have q2 : wr.cell? ⟨g', off' + k * 8 + 2, none⟩ = some (.int .i64 bj) := hc' k _ hbb 2 _ rfl
          have q3 : wr.cell? ⟨g', off' + k * 8 + 3, none⟩ = some (.int .i64 bd) := hc' k _ hbb 3 _ rfl
          have q4 : wr.cell? ⟨g', off' + k * 8 + 4, none⟩ = some (.int .i64 ba) := hc' k _ hbb 4 _ rfl
          have q5 : wr.cell? ⟨g', off' + k * 8 + 5, none⟩ = some (.int .i64 br) := hc' k _ hbb 5 _ rfl
          have q6 : wr.cell? ⟨g', off' + k * 8 + 6, none⟩ = some (.int .i64 by') := hc' k _ hbb 6 _ rfl
          have q7 : wr.cell? ⟨g', off' + k * 8 + 7, none⟩ = some (.int .i64 bn) := hc' k _ hbb 7 _ rfl
          unfold Lx.EvV.val at heq
          dsimp only at heq
          clear hc hc' ha hbb hB
          cases B
          · have hne : (⟨ak, at', aj, ad1, aa, ar, ay, an⟩ : Lx.EvV) ≠ ⟨bk, bt, bj, bd, ba, br, by', bn⟩ := fun e => by have := HE.out.2 e; cases this
            have HNE := Lib.hid hne
            clear hne
            go_wp2_with fail
            go_quiet (fail)
            go_wp2_with fail
            go_ret2
            exact ⟨_, _, rfl, .inl ⟨rfl, k, rfl, by rw [HL.out]; omega, by rw [HM.out]; omega, Htk.out, by rw [HA.out, HBB.out]; exact fun e => HNE.out (Option.some.inj e)⟩, Hb.out.trans (below_drewN _ _ _)⟩
          · have HS := Lib.hid (Lx.take_succ_eq Htk.out HA.out HBB.out (HE.out.1 rfl))
            go_wp2_with fail
            go_quiet (fail)
            go_wp2_with fail
            go_roundw
            case rel => exact ⟨k + 1, by omega, by omega, by go_num, HS.out, Hb.out.trans (below_drewN _ _ _)⟩
            case measure => simp [intOf]; omega
        · have hm0 : decide ((m : Int) ≤ (k : Int)) = true := decide_eq_true (by omega)
          have HR := Lib.hid (show L[k]? ≠ M[k]? from by rw [List.getElem?_eq_getElem (by rw [HL.out]; exact h1), List.getElem?_eq_none (l := M) (by rw [HM.out]; omega)]; exact fun c => by cases c)
          go_wp2_with fail
          go_quiet (fail)
          go_wp2_with fail
          go_ret2
          exact ⟨_, _, rfl, .inl ⟨rfl, k, rfl, by rw [HL.out]; omega, by rw [HM.out]; omega, Htk.out, HR.out⟩, Hb.out.trans (below_drewN _ _ _)⟩
      · have hn0 : decide ((n : Int) ≤ (k : Int)) = true := decide_eq_true (by omega)
        have hn1 : n ≤ k := by omega
        have h2 : k < m := by have := HX.out; omega
        have HR := Lib.hid (show L[k]? ≠ M[k]? from by rw [List.getElem?_eq_none (l := L) (by rw [HL.out]; omega), List.getElem?_eq_getElem (by rw [HM.out]; exact h2)]; exact fun c => by cases c)
        go_wp2_with fail
        go_quiet (fail)
        go_wp2_with fail
        go_ret2
        exact ⟨_, _, rfl, .inl ⟨rfl, k, rfl, by rw [HL.out]; omega, by rw [HM.out]; omega, Htk.out, HR.out⟩, Hb.out.trans (below_drewN _ _ _)⟩
    · have hkx0 : decide ((k : Int) < (x : Int)) = false := decide_eq_false (by omega)
      have HEQ := Lib.hid (show L = M from by
        have h1 := Htk.out
        rw [List.take_of_length_le (by rw [HL.out]; have := HX.out; omega), List.take_of_length_le (by rw [HM.out]; have := HX.out; omega)] at h1
        exact h1)
      go_wp2_with fail
      go_ret2
      exact ⟨_, _, rfl, .inr ⟨rfl, rfl, HEQ.out⟩, Hb.out⟩
end Go.Proofs.YtmpcekpdnikghaaGreatDoor
namespace Go.Proofs.YtmpcekpdnikghaaGreatDoor
open Go.RowKit

/-- A slice value of m elements (size cells each) whose cells are xs: nil, or it lies somewhere. -/
def Src (w : World) (v : Value) (m size : Nat) (xs : List Value) : Prop :=
  (v = .slice none 0 0 ∧ m = 0 ∧ xs = []) ∨ (∃ g off c, v = .slice (some ⟨g, off, none⟩) m c ∧ g < w.heap.size ∧ xs.length = m * size ∧ ∀ j u, xs[j]? = some u → w.cell? ⟨g, off + j, none⟩ = some u)
theorem Src.below {w w' : World} {v : Value} {m size : Nat} {xs : List Value} (h : Src w v m size xs) (hb : Below w.heap.size w w') : Src w' v m size xs := by
  rcases h with h | ⟨g, off, c, e, lt, hl, hc⟩
  · exact .inl h
  · exact .inr ⟨g, off, c, e, Nat.lt_of_lt_of_le lt hb.size, hl, fun j u hj => (hb.cell (p := ⟨g, off + j, none⟩) lt).trans (hc j u hj)⟩
theorem Src.row {w : World} {base : Nat} {e : TypeId} {size n : Nat} {v : Value} {xs : List Value} (h : w.ownsRow base e size v n xs) : Src w v n size xs := by
  have h0 := h
  rcases h.2 with ⟨rfl, h1⟩ | ⟨g, cap, cur, hv, _, hg, _⟩
  · refine .inl ⟨rfl, by simp_all, ?_⟩
    have := h.1
    simp_all
  · subst hv
    refine .inr ⟨g, 0, cap, rfl, (Array.getElem?_eq_some_iff.1 hg).1, h.1, fun j u hj => ?_⟩
    have := h0.cells (g := g) rfl j u hj
    rwa [show (⟨g, 0, none⟩ : Addr).add j = ⟨g, 0 + j, none⟩ from by simp [Addr.add]; intro h; exact h.symm] at this
theorem grown_refl (w : World) (row : Option Nat) : w.grownBy w row := ⟨rfl, rfl, rfl, Nat.le_refl _, fun _ _ _ => rfl⟩
theorem wpList_append_src {P : Program} {w : World} {ops : Array Oper} {rest : List Oper} {o : Oper} {a : Act} {Q : Exit → Act → World → Prop} (hgd : o.guard = none) (s x : Operand) (t : TypeId)
    (ho : o.op = .call { callee := .builtin .append, args := #[s, x], argTypes := #[t, t] })
    (base : Nat) (e : TypeId) (i : TypeInfo) (z : Value) (size bytes : Nat) (ht : P.underlying t = some (.slice e)) (hi : P.info? e = some i) (hz : i.zero = some z)
    (hsize : i.size = size) (hby : i.bytes = bytes) (hzs : z.cells.size = size) (hsz : 0 < size)
    (v : Value) (n : Nat) (xs : List Value) (hs : a.eval s = v) (hown : w.ownsRow base e size v n xs)
    (vx : Value) (m : Nat) (news : List Value) (hx : a.eval x = vx) (hsrc : Src w vx m size news) (h1 : ∀ u ∈ news, u.oneCell' = true)
    (h63 : n + m ≤ maxLen) (hbytes : (n + m) * bytes ≤ 140737488355328) (hbase : base ≤ w.heap.size)
    (h : ∀ v' w', w'.ownsRow base e size v' (n + m) (xs ++ news) → w.grownBy w' v.ownBlock → wpList P ops Q rest (a.put o.dst v') w') : wpList P ops Q (o :: rest) a w := by
  rcases hsrc with ⟨e1, rfl, rfl⟩ | ⟨g, off, c, e1, lt, hl, hc⟩
  · refine wpList_append_own_none hgd s x t ho base e i size ht hi v n xs hs hown (hx.trans e1) ?_
    rw [← hs]
    rw [← hs] at h
    exact h _ w (by rw [Nat.add_zero, List.append_nil, hs]; exact hown) (grown_refl _ _)
  · refine wpList_append_own w hgd s x t ho base e i z size bytes ht hi hz hsize hby hzs hsz v n xs hs hown ⟨g, off, none⟩ m c news (hx.trans e1) hl ?_ h1 h63 hbytes hbase (fun v' w' a b _ => h v' w' a b)
    intro j u hj
    rw [show (⟨g, off, none⟩ : Addr).add j = ⟨g, off + j, none⟩ from by simp [Addr.add]]
    exact hc j u hj
theorem run_append_owned_zero {P : Program} {w : World} (base : Nat) (t ty e : TypeId) (i : TypeInfo) (size : Nat) (ht : P.underlying t = some (.slice e)) (hi : P.info? e = some i)
    (v : Value) (n : Nat) (xs : List Value) (hown : w.ownsRow base e size v n xs) (ad : Option Addr) (cap : Nat) :
    (Builtin.append_ #[t, t] ty #[v, .slice ad 0 cap]).run P w = .ok v w := by
  cases ad <;> rcases hown.2 with ⟨rfl, rfl⟩ | ⟨g, cap, cur, rfl, _, _, hnc, _⟩
  · simp [Builtin.append_, run_underlying ht, sizeOf, typeInfo, hi, Builtin.lenOf, Builtin.firstCells]
  · simp [Builtin.append_, run_underlying ht, sizeOf, typeInfo, hi, Builtin.lenOf, Builtin.firstCells, hnc, storeCells]
  · simp [Builtin.append_, run_underlying ht, sizeOf, typeInfo, hi, Builtin.lenOf, Builtin.firstCells, loadCells, loadCellsFrom, Result.andThen]
  · simp [Builtin.append_, run_underlying ht, sizeOf, typeInfo, hi, Builtin.lenOf, Builtin.firstCells, hnc, storeCells, loadCells, loadCellsFrom, Result.andThen]
theorem wpList_append_zero {P : Program} {w : World} {ops : Array Oper} {rest : List Oper} {o : Oper} {a : Act} {Q : Exit → Act → World → Prop} (hgd : o.guard = none) (s x : Operand) (t : TypeId)
    (ho : o.op = .call { callee := .builtin .append, args := #[s, x], argTypes := #[t, t] })
    (base : Nat) (e : TypeId) (i : TypeInfo) (size : Nat) (ht : P.underlying t = some (.slice e)) (hi : P.info? e = some i)
    (v : Value) (n : Nat) (xs : List Value) (hs : a.eval s = v) (hown : w.ownsRow base e size v n xs) (ad : Option Addr) (cap : Nat) (hx : a.eval x = .slice ad 0 cap)
    (h : wpList P ops Q rest (a.put o.dst v) w) : wpList P ops Q (o :: rest) a w := by
  refine wpList_plain hgd fun K hK => ?_
  have hrun := run_append_owned_zero (P := P) (w := w) base t o.type e i size ht hi v n xs hown ad cap
  unfold Oper.wp
  simp [execOp, ho, resolve, invoke, builtin, hs, hx, hrun, Result.andThen]
  exact hK _ _ h
theorem src_of_isEvs {w : World} {ad : Option Addr} {n cap : Nat} {L : List Lx.EvV} (h : Lx.IsEvs w ad n L) (h0 : 0 < n) : Src w (.slice ad n cap) n 8 (Lx.evCells L) := by
  obtain ⟨g, off, rfl, lt, hc⟩ := h.2 h0
  refine .inr ⟨g, off, cap, rfl, lt, by rw [Lx.evCells_len, h.1], fun j u hj => ?_⟩
  have hj1 : j < L.length * 8 := by have := (List.getElem?_eq_some_iff.1 hj).1; rwa [Lx.evCells_len] at this
  have hi : j / 8 < L.length := by omega
  have hL : L[j / 8]? = some L[j / 8] := List.getElem?_eq_getElem hi
  have h6 : (L[j / 8]).cells.length = 8 := rfl
  have hm : j % 8 < (L[j / 8]).cells.length := by rw [h6]; omega
  have hv : (L[j / 8]).cells[j % 8]? = some (L[j / 8]).cells[j % 8] := List.getElem?_eq_getElem hm
  have e1 := Lx.evCells_get hL (j % 8) _ hv
  have e2 := hc _ _ hL (j % 8) _ hv
  rw [show j / 8 * 8 + j % 8 = j by omega, hj] at e1
  rw [show off + j / 8 * 8 + j % 8 = off + j by omega] at e2
  rw [e2]; exact e1.symm
theorem wpList_append_isEvs {P : Program} {w : World} {ops : Array Oper} {rest : List Oper} {o : Oper} {a : Act} {Q : Exit → Act → World → Prop} (hgd : o.guard = none) (s x : Operand) (t : TypeId)
    (ho : o.op = .call { callee := .builtin .append, args := #[s, x], argTypes := #[t, t] })
    (base : Nat) (e : TypeId) (i : TypeInfo) (z : Value) (bytes : Nat) (ht : P.underlying t = some (.slice e)) (hi : P.info? e = some i) (hz : i.zero = some z)
    (hsize : i.size = 8) (hby : i.bytes = bytes) (hzs : z.cells.size = 8)
    (v : Value) (hs : a.eval s = v) (hown : w.ownsRow base e 8 v 0 [])
    (ad : Option Addr) (n cap : Nat) (L : List Lx.EvV) (hx : a.eval x = .slice ad n cap) (hsrc : Lx.IsEvs w ad n L) (h1 : ∀ u ∈ Lx.evCells L, u.oneCell' = true)
    (h63 : n ≤ maxLen) (hbytes : n * bytes ≤ 140737488355328) (hbase : base ≤ w.heap.size)
    (h : ∀ v' w', w'.ownsRow base e 8 v' n (Lx.evCells L) → w.grownBy w' v.ownBlock → wpList P ops Q rest (a.put o.dst v') w') : wpList P ops Q (o :: rest) a w := by
  rcases Nat.eq_zero_or_pos n with h0 | h0
  · subst h0
    have hL : L = [] := List.eq_nil_of_length_eq_zero hsrc.1
    subst hL
    exact wpList_append_zero hgd s x t ho base e i 8 ht hi v 0 [] hs hown ad cap hx (h v w hown (grown_refl _ _))
  · exact wpList_append_src hgd s x t ho base e i z 8 bytes ht hi hz hsize hby hzs (by decide) v 0 [] hs hown (.slice ad n cap) n (Lx.evCells L) hx (src_of_isEvs hsrc h0) h1 (by omega) (by rw [Nat.zero_add]; exact hbytes) hbase (fun v' w' ha hb => h v' w' (by rwa [Nat.zero_add, List.nil_append] at ha) hb)
theorem Lx.evCells_app (a b : List Lx.EvV) : Lx.evCells (a ++ b) = Lx.evCells a ++ Lx.evCells b := by unfold Lx.evCells; rw [List.flatMap_append]
theorem Lx.row_isEvs' {w : World} {base n : Nat} {v : Value} {e : TypeId} {L : List Lx.EvV} (h : w.ownsRow base e 8 v n (Lx.evCells L)) : ∃ A c, v = .slice A n c ∧ (L.length = n → Lx.IsEvs w A n L) := by
  obtain ⟨A, c, rfl⟩ := Lx.slice_of_row h
  exact ⟨A, c, rfl, fun hn => Lx.row_isEvs h hn⟩
end Go.Proofs.YtmpcekpdnikghaaGreatDoor
namespace Go.Proofs.YtmpcekpdnikghaaGreatDoor
open Go.RowKit

namespace Lx
theorem filt_take {p : EvV → Bool} {L : List EvV} {k : Nat} {o : EvV} (h : L[k]? = some o) : (p o = true → (L.take (k + 1)).filter p = (L.take k).filter p ++ [o]) ∧ (p o = false → (L.take (k + 1)).filter p = (L.take k).filter p) := by
  have e : L.take (k + 1) = L.take k ++ [o] := by rw [List.take_add_one, h]; rfl
  rw [e, List.filter_append]
  exact ⟨fun hp => by simp [hp], fun hp => by simp [hp]⟩
theorem filt_len (p : EvV → Bool) (L : List EvV) (k : Nat) : ((L.take k).filter p).length ≤ k := Nat.le_trans (List.length_filter_le _ _) (List.length_take_le _ _)
def isK (x : Int) (o : EvV) : Bool := o.k == x
/-- How many events of a kind there are. -/
def cntE (L : List EvV) (x : Int) : Nat := (L.filter (isK x)).length
def isOf (j d : Int) (o : EvV) : Bool := decide (1 ≤ o.k) && decide (o.k ≤ 5) && (o.j == j) && (o.d == d)
theorem own_of_eq {w : World} {base : Nat} {e : TypeId} {size : Nat} {v : Value} {A B : List EvV} (h : w.ownsRow base e size v A.length (evCells A)) (he : B = A) : w.ownsRow base e size v B.length (evCells B) := he ▸ h
/-- The events of an occurrence. -/
def ofE (L : List EvV) (j d : Int) : List EvV := L.filter (isOf j d)
end Lx
set_option maxRecDepth 100000 in
set_option maxHeartbeats 1600000 in
theorem evcount_any (ad : Option Addr) (n cap : Nat) (L : List Lx.EvV) (x : Int) (w : World) (h : Lx.IsEvs w ad n L) (hn : n ≤ 1000000000) :
    Calls Tryz.prog 17 #[.slice ad n cap, .int .i64 x] w fun e w' => e = .returned (.int .i64 (Lx.cntE L x : Nat)) ∧ Below w.heap.size w w' := by
  have H := Lib.hid h
  clear h
  go_enter Tryz.func17, Tryz.ntmps17
  go_wp2_with fail
  go_loopw [5, 10] (fun c i wr => ∃ k : Nat, k ≤ n ∧ i = .int .i64 k ∧ c = .int .i64 (((L.take k).filter (Lx.isK x)).length : Nat) ∧ Below w.heap.size w wr) (fun _ i _ => n - (intOf i).toNat)
  case atStart => exact ⟨0, Nat.zero_le _, rfl, rfl, Below.refl _ _⟩
  case round =>
    obtain ⟨k, hk, rfl, rfl, hb⟩ := hrel
    have hle := Lx.filt_len (Lx.isK x) L k
    have Hb := Lib.hid hb
    clear hb
    by_cases hlt : k < n
    · have hki : (k : Int) < (n : Int) := by omega
      obtain ⟨o, ho⟩ : ∃ o, L[k]? = some o := ⟨_, List.getElem?_eq_getElem (by rw [H.out.1]; exact hlt)⟩
      obtain ⟨g, off, rfl, lt, hc⟩ := (H.out.below Hb.out).2 (by omega)
      have hst := Lx.filt_take (p := Lx.isK x) ho
      obtain ⟨q, hq⟩ : ∃ q, ((L.take k).filter (Lx.isK x)).length = q := ⟨_, rfl⟩
      rw [hq] at hle ⊢
      obtain ⟨ok, ot, oj, od, oa, or, oy, on⟩ := o
      have c0 : wr.cell? ⟨g, off + k * 8, none⟩ = some (.int .i64 ok) := hc k _ ho 0 _ rfl
      have c1 : wr.cell? ⟨g, off + k * 8 + 1, none⟩ = some (.int .i64 ot) := hc k _ ho 1 _ rfl
      have c2 : wr.cell? ⟨g, off + k * 8 + 2, none⟩ = some (.int .i64 oj) := hc k _ ho 2 _ rfl
      have c3 : wr.cell? ⟨g, off + k * 8 + 3, none⟩ = some (.int .i64 od) := hc k _ ho 3 _ rfl
      have c4 : wr.cell? ⟨g, off + k * 8 + 4, none⟩ = some (.int .i64 oa) := hc k _ ho 4 _ rfl
      have c5 : wr.cell? ⟨g, off + k * 8 + 5, none⟩ = some (.int .i64 or) := hc k _ ho 5 _ rfl
      have c6 : wr.cell? ⟨g, off + k * 8 + 6, none⟩ = some (.int .i64 oy) := hc k _ ho 6 _ rfl
      have c7 : wr.cell? ⟨g, off + k * 8 + 7, none⟩ = some (.int .i64 on) := hc k _ ho 7 _ rfl
      unfold Lx.isK at hst
      dsimp only at hst
      clear hc ho
      by_cases hx : ok = x
      · have HS := Lib.hid (hst.1 (by rw [beq_iff_eq]; exact hx))
        have Hq := Lib.hid hq
        have hxe : (ok == x) = true := by rw [beq_iff_eq]; exact hx
        clear hst hx hq
        go_wp2_with fail
        go_roundw
        case rel => exact ⟨k + 1, by omega, by go_num, by show _ = Value.int .i64 ((((L.take (k + 1)).filter fun o => o.k == x).length : Nat) : Int); rw [HS.out, List.length_append]; show _ = Value.int .i64 ((((L.take k).filter (Lx.isK x)).length + 1 : Nat) : Int); rw [Hq.out]; go_num, (Hb.out.alloc Hb.out.size _)⟩
        case measure => simp [intOf]; omega
      · have HS := Lib.hid (hst.2 (by rw [beq_eq_false_iff_ne]; exact hx))
        have Hq := Lib.hid hq
        have hxe : (ok == x) = false := by rw [beq_eq_false_iff_ne]; exact hx
        clear hst hx hq
        go_wp2_with fail
        go_roundw
        case rel => exact ⟨k + 1, by omega, by go_num, by show _ = Value.int .i64 ((((L.take (k + 1)).filter fun o => o.k == x).length : Nat) : Int); rw [HS.out]; show _ = Value.int .i64 ((((L.take k).filter (Lx.isK x)).length : Nat) : Int); rw [Hq.out], (Hb.out.alloc Hb.out.size _)⟩
        case measure => simp [intOf]; omega
    · obtain rfl : k = n := by omega
      have hki : decide ((k : Int) < (k : Int)) = false := decide_eq_false (by omega)
      have ht : L.take k = L := List.take_of_length_le (by rw [H.out.1]; exact Nat.le_refl _)
      rw [ht]
      go_wp2_with fail
      go_ret
      exact ⟨rfl, Hb.out⟩
/-- What Of gives: the slice in a row of its own. -/
def OfPost (L : List Lx.EvV) (j d : Int) (w : World) (e : Ending) (w' : World) : Prop := ∃ v, e = .returned v ∧ w'.ownsRow w.heap.size 26 8 v (Lx.ofE L j d).length (Lx.evCells (Lx.ofE L j d)) ∧ Below w.heap.size w w'
set_option maxRecDepth 100000 in
set_option maxHeartbeats 1600000 in
theorem evof_any (ad : Option Addr) (n cap : Nat) (L : List Lx.EvV) (j d : Int) (w : World) (h : Lx.IsEvs w ad n L) (hn : n ≤ 1000000) :
    Calls Tryz.prog 15 #[.slice ad n cap, .int .i64 j, .int .i64 d] w (OfPost L j d w) := by
  obtain ⟨i0, hi, hz0, hz1, hz2⟩ := info_parts infoEv
  have H := Lib.hid h
  clear h
  go_enter Tryz.func15, Tryz.ntmps15
  go_wp2_with fail
  go_loopw [7, 12] (fun tx i wr => ∃ k : Nat, k ≤ n ∧ i = .int .i64 k ∧ wr.ownsRow w.heap.size 26 8 tx ((L.take k).filter (Lx.isOf j d)).length (Lx.evCells ((L.take k).filter (Lx.isOf j d))) ∧ Below w.heap.size w wr) (fun _ i _ => n - (intOf i).toNat)
  case atStart => exact ⟨0, Nat.zero_le _, rfl, World.ownsRow_nil _ _ _ _, Below.refl _ _⟩
  case round =>
    obtain ⟨k, hk, rfl, hrow, hb⟩ := hrel
    have hle := Lx.filt_len (Lx.isOf j d) L k
    have Hb := Lib.hid hb
    have Hrow := Lib.hid hrow
    clear hb hrow
    by_cases hlt : k < n
    · have hki : (k : Int) < (n : Int) := by omega
      obtain ⟨o, ho⟩ : ∃ o, L[k]? = some o := ⟨_, List.getElem?_eq_getElem (by rw [H.out.1]; exact hlt)⟩
      obtain ⟨g, off, rfl, lt, hc⟩ := (H.out.below Hb.out).2 (by omega)
      have hst := Lx.filt_take (p := Lx.isOf j d) ho
      have hsn := Lx.evCells_snoc ((L.take k).filter (Lx.isOf j d)) o
      obtain ⟨q, hq⟩ : ∃ q, ((L.take k).filter (Lx.isOf j d)).length = q := ⟨_, rfl⟩
      have Hrow0 := Hrow
      rw [hq] at hle Hrow
      obtain ⟨ok, ot, oj, od, oa, or, oy, on⟩ := o
      have c0 : wr.cell? ⟨g, off + k * 8, none⟩ = some (.int .i64 ok) := hc k _ ho 0 _ rfl
      have c1 : wr.cell? ⟨g, off + k * 8 + 1, none⟩ = some (.int .i64 ot) := hc k _ ho 1 _ rfl
      have c2 : wr.cell? ⟨g, off + k * 8 + 2, none⟩ = some (.int .i64 oj) := hc k _ ho 2 _ rfl
      have c3 : wr.cell? ⟨g, off + k * 8 + 3, none⟩ = some (.int .i64 od) := hc k _ ho 3 _ rfl
      have c4 : wr.cell? ⟨g, off + k * 8 + 4, none⟩ = some (.int .i64 oa) := hc k _ ho 4 _ rfl
      have c5 : wr.cell? ⟨g, off + k * 8 + 5, none⟩ = some (.int .i64 or) := hc k _ ho 5 _ rfl
      have c6 : wr.cell? ⟨g, off + k * 8 + 6, none⟩ = some (.int .i64 oy) := hc k _ ho 6 _ rfl
      have c7 : wr.cell? ⟨g, off + k * 8 + 7, none⟩ = some (.int .i64 on) := hc k _ ho 7 _ rfl
      have Hq := Lib.hid hq
      have Hsn := Lib.hid hsn
      have HST := Lib.hid hst
      have hbz := Hb.out.size
      clear hc ho hsn hst hq
      have no := fun e => Lx.own_of_eq Hrow0.out (HST.out.2 e)
      have NO := Lib.hid no
      clear no Hrow0
      by_cases h1 : 1 ≤ ok
      · have d1 : decide (1 ≤ ok) = true := decide_eq_true h1
        by_cases h2 : ok ≤ 5
        · have d2 : decide (ok ≤ 5) = true := decide_eq_true h2
          by_cases h3 : oj = j
          · have d3 : (oj == j) = true := by rw [beq_iff_eq]; exact h3
            by_cases h4 : od = d
            · have d4 : (od == d) = true := by rw [beq_iff_eq]; exact h4
              have hy := HST.out.1 (by unfold Lx.isOf; dsimp only; rw [d1, d2, d3, d4]; rfl)
              have HY := Lib.hid hy
              subst h3 h4
              obtain ⟨a0, cp0, rfl⟩ := Lx.slice_of_row Hrow.out
              have hcs : ∀ j' u, ([.int .i64 ok, .int .i64 ot, .int .i64 oj, .int .i64 od, .int .i64 oa, .int .i64 or, .int .i64 oy, .int .i64 on] : List Value)[j']? = some u → ((wr.alloc (.cells #[.int .i64 ok, .int .i64 ot, .int .i64 oj, .int .i64 od, .int .i64 oa, .int .i64 or, .int .i64 oy, .int .i64 on] 26)).alloc (.cells #[.int .i64 ok, .int .i64 ot, .int .i64 oj, .int .i64 od, .int .i64 oa, .int .i64 or, .int .i64 oy, .int .i64 on] 26)).cell? ((⟨wr.heap.size + 1, 0, none⟩ : Addr).add j') = some u := by
                have := Lx.cell_eight_new (wr.alloc (.cells #[.int .i64 ok, .int .i64 ot, .int .i64 oj, .int .i64 od, .int .i64 oa, .int .i64 or, .int .i64 oy, .int .i64 on] 26)) ⟨ok, ot, oj, od, oa, or, oy, on⟩ 26
                rw [World.size_alloc] at this
                exact this
              have HCS := Lib.hid hcs
              clear hcs hy NO d3 d4 Hsn
              have Hsn := Lib.hid (Lx.evCells_snoc ((L.take k).filter (Lx.isOf oj od)) ⟨ok, ot, oj, od, oa, or, oy, on⟩)
              go_wp2_with (at_builtin; refine wpList_append_own _ rfl _ _ 30 rfl w.heap.size 26 i0 _ 8 64 Tryz.underlying30 hi hz0 hz1 hz2 rfl (by decide) _ _ _ rfl ((Hrow.out.alloc _).alloc _) ⟨wr.heap.size + 1, 0, none⟩ 1 1 [.int .i64 ok, .int .i64 ot, .int .i64 oj, .int .i64 od, .int .i64 oa, .int .i64 or, .int .i64 oy, .int .i64 on] rfl rfl HCS.out (by simp [Value.oneCell']) (by unfold maxLen; omega) (by omega) (by simp; omega) ?_)
              intro v' w6 hown' hgrow _
              have hb6 := ((Hb.out.alloc Hb.out.size (.cells #[.int .i64 ok, .int .i64 ot, .int .i64 oj, .int .i64 od, .int .i64 oa, .int .i64 or, .int .i64 oy, .int .i64 on] 26)).alloc (Hb.out.alloc Hb.out.size _).size (.cells #[.int .i64 ok, .int .i64 ot, .int .i64 oj, .int .i64 od, .int .i64 oa, .int .i64 or, .int .i64 oy, .int .i64 on] 26)).grown hgrow (by simp; omega) (Lx.ownBase Hrow.out)
              clear hgrow
              go_wp2_with fail
              go_roundw
              case rel => exact ⟨k + 1, by omega, by go_num, by rw [HY.out, List.length_append, Hq.out, Hsn.out]; exact hown', hb6⟩
              case measure => simp [intOf]; omega
            · have d4 : (od == d) = false := by rw [beq_eq_false_iff_ne]; exact h4
              have HY := Lib.hid (NO.out (by unfold Lx.isOf; dsimp only; rw [d1, d2, d3, d4]; rfl))
              subst h3
              clear h4 NO d3
              go_wp2_with fail
              go_roundw
              case rel => exact ⟨k + 1, by omega, by go_num, HY.out.alloc _, Hb.out.alloc Hb.out.size _⟩
              case measure => simp [intOf]; omega
          · have d3 : (oj == j) = false := by rw [beq_eq_false_iff_ne]; exact h3
            have HY := Lib.hid (NO.out (by unfold Lx.isOf; dsimp only; rw [d1, d2, d3]; rfl))
            clear h3 NO
            go_wp2_with fail
            go_roundw
            case rel => exact ⟨k + 1, by omega, by go_num, HY.out.alloc _, Hb.out.alloc Hb.out.size _⟩
            case measure => simp [intOf]; omega
        · have d2 : decide (ok ≤ 5) = false := decide_eq_false h2
          have HY := Lib.hid (NO.out (by unfold Lx.isOf; dsimp only; rw [d1, d2]; rfl))
          clear NO
          go_wp2_with fail
          go_roundw
          case rel => exact ⟨k + 1, by omega, by go_num, HY.out.alloc _, Hb.out.alloc Hb.out.size _⟩
          case measure => simp [intOf]; omega
      · have d1 : decide (1 ≤ ok) = false := decide_eq_false h1
        have HY := Lib.hid (NO.out (by unfold Lx.isOf; dsimp only; rw [d1]; rfl))
        clear NO
        go_wp2_with fail
        go_roundw
        case rel => exact ⟨k + 1, by omega, by go_num, HY.out.alloc _, Hb.out.alloc Hb.out.size _⟩
        case measure => simp [intOf]; omega
    · obtain rfl : k = n := by omega
      have hki : decide ((k : Int) < (k : Int)) = false := decide_eq_false (by omega)
      have ht : L.take k = L := List.take_of_length_le (by rw [H.out.1]; exact Nat.le_refl _)
      have Hr := Hrow.out
      rw [ht] at Hr
      have HR := Lib.hid Hr
      clear Hr hle
      go_wp2_with fail
      go_ret
      exact ⟨_, rfl, HR.out, Hb.out⟩
end Go.Proofs.YtmpcekpdnikghaaGreatDoor
namespace Go.Proofs.YtmpcekpdnikghaaGreatDoor
open Go.RowKit

namespace Lx
/-- The texts of a list of events, one in a line. -/
def allTx (NS : List ByteArray) (L : List EvV) : List UInt8 := L.flatMap fun o => wrS NS o ++ [10]
/-- The first error of a list of events. -/
def badE (NS : List ByteArray) : List EvV → Int
  | [] => 0
  | o :: t => if wrE NS o = 0 then badE NS t else wrE NS o
def prAE (NS : List ByteArray) (L : List EvV) : Int := if nmErr NS = 0 then (if badE NS L = 0 then (if (allTx NS L).length ≤ 65536 then 0 else 11) else badE NS L) else nmErr NS
def prAS (NS : List ByteArray) (L : List EvV) : List UInt8 := if prAE NS L = 0 then allTx NS L else []
theorem badE_all {NS : List ByteArray} : ∀ {L : List EvV}, (∀ o ∈ L, wrE NS o = 0) → badE NS L = 0
  | [], _ => rfl
  | a :: t, h => by
    unfold badE
    rw [if_pos (h a (List.mem_cons_self ..))]
    exact badE_all fun o ho => h o (List.mem_cons_of_mem _ ho)
theorem badE_zero {NS : List ByteArray} : ∀ {L : List EvV}, badE NS L = 0 → ∀ o ∈ L, wrE NS o = 0
  | [], _, o, ho => by cases ho
  | a :: t, h, o, ho => by
    unfold badE at h
    by_cases ha : wrE NS a = 0
    · rw [if_pos ha] at h
      rcases List.mem_cons.1 ho with rfl | ho
      · exact ha
      · exact badE_zero h o ho
    · rw [if_neg ha] at h; exact absurd h ha
theorem badE_at {NS : List ByteArray} : ∀ {L : List EvV} {k : Nat} {o : EvV}, (∀ p ∈ L.take k, wrE NS p = 0) → L[k]? = some o → wrE NS o ≠ 0 → badE NS L = wrE NS o
  | [], k, o, _, h, _ => by simp at h
  | a :: t, 0, o, _, h, hn => by
    simp at h; subst h
    unfold badE; rw [if_neg hn]
  | a :: t, k + 1, o, hp, h, hn => by
    unfold badE
    rw [if_pos (hp a (by simp))]
    exact badE_at (k := k) (fun p h' => hp p (by rw [List.take_succ_cons]; exact List.mem_cons_of_mem _ h')) (by simpa using h) hn
theorem allTx_take {NS : List ByteArray} {L : List EvV} {k : Nat} {o : EvV} (h : L[k]? = some o) : allTx NS (L.take (k + 1)) = allTx NS (L.take k) ++ (wrS NS o ++ [10]) := by
  unfold allTx
  rw [List.take_add_one, h, List.flatMap_append]; simp
theorem allTx_app (NS : List ByteArray) (A B : List EvV) : allTx NS (A ++ B) = allTx NS A ++ allTx NS B := by unfold allTx; rw [List.flatMap_append]
theorem wr_len {NS : List ByteArray} (hN : NOk NS) (o : EvV) : (wrS NS o).length ≤ 150 := by
  by_cases h : wrE NS o = 0
  · have e : prE NS o = 0 := by unfold prE; rw [if_neg (fun c => c ((nmErr_ok NS).2 hN))]; exact h
    have := pr_rd e
    unfold prS at this
    rw [if_pos e] at this
    unfold wrS; rw [if_pos h]; exact this
  · unfold wrS; rw [if_neg h]; exact Nat.zero_le _
theorem allTx_len {NS : List ByteArray} (hN : NOk NS) : ∀ (L : List EvV), (allTx NS L).length ≤ 151 * L.length
  | [] => Nat.le_refl _
  | a :: t => by
    have h1 := wr_len hN a
    have h2 := allTx_len hN t
    have e : allTx NS (a :: t) = (wrS NS a ++ [10]) ++ allTx NS t := rfl
    have e1 : (wrS NS a ++ [10]).length = (wrS NS a).length + 1 := by simp
    rw [e, List.length_append, e1, List.length_cons]
    omega
end Lx
theorem bldAtBelow {T e : TypeId} {B b : Nat} {p : Value} {bs : List Value} {W W' : World} (h : Lib.BuilderAtF T e B b p bs W) (hb : Below W.heap.size W W') : Lib.BuilderAtF T e B b p bs W' := by
  have hlt := h.lt
  obtain ⟨hB, v, hv, hown, hne⟩ := h
  exact ⟨hB, v, (hb.block b hlt).trans hv, hown.kept (row := none) ⟨hb.os, hb.tape, hb.output, hb.size, fun k hk _ => hb.block k hk⟩ (Classical.em _), hne⟩
theorem bldBelow {T e : TypeId} {B b : Nat} {bs : List Value} {W W' : World} (h : Lib.IsBuilderF T e B b bs W) (hb : Below W.heap.size W W') : Lib.IsBuilderF T e B b bs W' :=
  h.elim (fun x => .inl (bldAtBelow x hb)) (fun x => .inr (bldAtBelow x hb))
set_option maxRecDepth 100000 in
set_option maxHeartbeats 3200000 in
theorem evprintAll_any (ad : Option Addr) (n cap : Nat) (L : List Lx.EvV) (ad' : Option Addr) (m cap' : Nat) (NS : List ByteArray) (w : World) (env : EEnv w) (hL : Lx.IsEvs w ad n L) (hn1 : n ≤ 10000) (h : Lx.IsNames w ad' m NS) (hz : ∀ x ∈ NS, x.size ≤ maxLen) (hm : m ≤ maxLen) :
    Calls Tryz.prog 12 #[.slice ad n cap, .slice ad' m cap'] w (WriteIs (Lx.prAS NS L) (Lx.prAE NS L) w) := by
  have HN2 := Lib.hid (names_any ad' m cap' NS w h hz hm)
  by_cases hn : Lx.nmErr NS = 0
  · have hN := (Lx.nmErr_ok NS).1 hn
    have h24 : ∀ x ∈ NS, x.size ≤ 24 := fun x hx => by
      have := hN.2.1 x hx
      unfold Lx.isName at this
      rw [Bool.and_eq_true, Bool.and_eq_true, decide_eq_true_iff, decide_eq_true_iff] at this
      exact this.1.2
    have HP := Lib.hid (fun o W (b : Below w.heap.size w W) => write_any o ad' m cap' NS W (env.below b) (h.below b) h24)
    rw [hn] at HN2
    have H := Lib.hid hL
    have HNK := Lib.hid hN
    have hE : Lx.prAE NS L = (if Lx.badE NS L = 0 then (if (Lx.allTx NS L).length ≤ 65536 then 0 else 11) else Lx.badE NS L) := by unfold Lx.prAE; rw [if_pos hn]
    have HE := Lib.hid hE
    have HSS := Lib.hid (show Lx.prAE NS L = 0 → Lx.prAS NS L = Lx.allTx NS L from fun e => by unfold Lx.prAS; rw [if_pos e])
    have HSN := Lib.hid (show Lx.prAE NS L ≠ 0 → Lx.prAS NS L = [] from fun e => by unfold Lx.prAS; rw [if_neg e])
    unfold WriteIs at HP
    clear h hz hm hn hN h24 env hL hE
    generalize Lx.prAE NS L = X at *
    generalize Lx.prAS NS L = S at *
    go_enter Tryz.func12, Tryz.ntmps12
    go_wp2_with fail
    refine HN2.out.mono ?_
    rintro e w1 ⟨rfl, hb1⟩
    have Hb1 := Lib.hid hb1
    clear hb1
    go_wp2_with fail
    have hba : Below w1.heap.size w1 (w1.alloc (.cells #[.pointer none, .slice none 0 0] 55)) := (Below.refl _ _).alloc (Nat.le_refl _) _
    have hfr : Lib.IsBuilderF 55 5 w1.heap.size w1.heap.size (Lib.byteCells []) (w1.alloc (.cells #[.pointer none, .slice none 0 0] 55)) := by
      rcases Lib.fresh_isBuilder 55 5 w1 with h | h
      · exact .inl (Lib.BuilderAtF.of h)
      · exact .inr (Lib.BuilderAtF.of h)
    have HFR := Lib.hid hfr
    have HBA := Lib.hid hba
    clear hfr hba
    go_loopw [19] (fun i wr => ∃ k : Nat, k ≤ n ∧ i = .int .i64 k ∧ (∀ o ∈ L.take k, Lx.wrE NS o = 0) ∧ Lib.IsBuilderF 55 5 w1.heap.size w1.heap.size (Lib.byteCells (Lx.allTx NS (L.take k))) wr ∧ Below w1.heap.size w1 wr) (fun i _ => n - (intOf i).toNat)
    case atStart => exact ⟨0, Nat.zero_le _, rfl, by simp, HFR.out, HBA.out⟩
    case round =>
      obtain ⟨k, hk, rfl, hall, hbd, hbel⟩ := hrel
      have hlen := Lx.allTx_len HNK.out (L.take k)
      have hl : (L.take k).length ≤ k := List.length_take_le _ _
      have Hbel := Lib.hid hbel
      have Hbd := Lib.hid hbd
      have HALL := Lib.hid hall
      clear hbel hbd hall
      by_cases hlt : k < n
      · obtain ⟨o, ho⟩ : ∃ o, L[k]? = some o := ⟨_, List.getElem?_eq_getElem (by rw [H.out.1]; exact hlt)⟩
        obtain ⟨g, off, rfl, lt, hc⟩ := (H.out.below (Hb1.out.trans (Hbel.out.mono Hb1.out.size))).2 (by omega)
        have hst := Lx.allTx_take (NS := NS) ho
        have hol := Lx.wr_len HNK.out o
        have HPO := Lib.hid (HP.out o)
        have hbad := fun e => Lx.badE_at HALL.out ho e
        have hgo : Lx.wrE NS o = 0 → ∀ p ∈ L.take (k + 1), Lx.wrE NS p = 0 := fun e p hp => by
          rw [List.take_add_one, ho, List.mem_append] at hp
          rcases hp with hp | hp
          · exact HALL.out p hp
          · simp at hp; subst hp; exact e
        have HBAD := Lib.hid hbad
        have HGO := Lib.hid hgo
        generalize Lx.allTx NS (L.take k) = T at *
        obtain ⟨V, hV⟩ : ∃ V : ByteArray, V = ⟨(Lx.wrS NS o).toArray⟩ := ⟨_, rfl⟩
        have hVd : V.data.toList = Lx.wrS NS o := by rw [hV]
        rw [← hV] at HPO
        have hVs : V.size ≤ 150 := by rw [Lib.size_eq, hVd]; exact hol
        have hst2 : Lx.allTx NS (L.take (k + 1)) = T ++ (V ++ ⟨#[10]⟩ : ByteArray).data.toList := by
          rw [hst, ByteArray.data_append, Array.toList_append, hVd]
        generalize Lx.wrE NS o = x at *
        obtain ⟨ok, ot, oj, od, oa, or, oy, on⟩ := o
        unfold Lx.EvV.val at HPO
        have c0 : wr.cell? ⟨g, off + k * 8, none⟩ = some (.int .i64 ok) := hc k _ ho 0 _ rfl
        have c1 : wr.cell? ⟨g, off + k * 8 + 1, none⟩ = some (.int .i64 ot) := hc k _ ho 1 _ rfl
        have c2 : wr.cell? ⟨g, off + k * 8 + 2, none⟩ = some (.int .i64 oj) := hc k _ ho 2 _ rfl
        have c3 : wr.cell? ⟨g, off + k * 8 + 3, none⟩ = some (.int .i64 od) := hc k _ ho 3 _ rfl
        have c4 : wr.cell? ⟨g, off + k * 8 + 4, none⟩ = some (.int .i64 oa) := hc k _ ho 4 _ rfl
        have c5 : wr.cell? ⟨g, off + k * 8 + 5, none⟩ = some (.int .i64 or) := hc k _ ho 5 _ rfl
        have c6 : wr.cell? ⟨g, off + k * 8 + 6, none⟩ = some (.int .i64 oy) := hc k _ ho 6 _ rfl
        have c7 : wr.cell? ⟨g, off + k * 8 + 7, none⟩ = some (.int .i64 on) := hc k _ ho 7 _ rfl
        have hki : (k : Int) < (n : Int) := by omega
        have hkb : (k : Int) ≤ 10000 := by omega
        have hTl : T.length ≤ 1510000 := by omega
        have HST := Lib.hid hst2
        have HVs := Lib.hid hVs
        clear hc ho hst hol hV hVd hst2 hVs hlen hl hbad hgo
        by_cases hx : x = 0
        · subst hx
          have HGO2 := Lib.hid (HGO.out rfl)
          clear HBAD HGO
          go_wp2_with fail
          have hb2 := Hbel.out.alloc Hbel.out.size (.cells #[.int .i64 ok, .int .i64 ot, .int .i64 oj, .int .i64 od, .int .i64 oa, .int .i64 or, .int .i64 oy, .int .i64 on] 26)
          refine (HPO.out _ (Hb1.out.trans (hb2.mono Hb1.out.size))).mono ?_
          rintro e w5 ⟨rfl, hb5⟩
          have hbd5 := bldBelow (Hbd.out.alloc (.cells #[.int .i64 ok, .int .i64 ot, .int .i64 oj, .int .i64 od, .int .i64 oa, .int .i64 or, .int .i64 oy, .int .i64 on] 26)) hb5
          have hb15 := hb2.trans (hb5.mono hb2.size)
          have hz5 : (V ++ ⟨#[10]⟩ : ByteArray).size ≤ 151 := by rw [ByteArray.size_append]; have := HVs.out; have : (⟨#[10]⟩ : ByteArray).size = 1 := rfl; omega
          have hvz : ¬ (9223372036854775807 < V.size + (⟨#[10]⟩ : ByteArray).size) := by have := HVs.out; have : (⟨#[10]⟩ : ByteArray).size = 1 := rfl; omega
          have HBD5 := Lib.hid hbd5
          have HB15 := Lib.hid hb15
          clear hb5 hb2 hbd5 hb15 c0 c1 c2 c3 c4 c5 c6 c7
          go_wp2_with fail
          have HW := Lib.hid (bld_write _ _ _ (V ++ ⟨#[10]⟩) w5 HBD5.out (by rw [Lx.cells_len]; omega) HB15.out.size)
          refine HW.out.mono ?_
          rintro e w6 ⟨rfl, hb6, hbl6, _⟩
          rw [Lx.cells_app, ← HST.out] at hb6
          have hb16 := HB15.out.trans hbl6
          have HB6 := Lib.hid hb6
          have HB16 := Lib.hid hb16
          clear hb6 hbl6 hb16
          go_wp2_with fail
          go_roundw
          case rel => exact ⟨k + 1, by omega, by go_num, HGO2.out, .inr HB6.out, HB16.out⟩
          case measure => simp [intOf]; omega
        · have hxe : (x != 0) = true := by rw [bne_iff_ne]; exact hx
          have hX : X = x := by rw [HE.out, HBAD.out hx, if_neg hx]
          have hS := HSN.out (by rw [hX]; exact hx)
          subst hX hS
          clear HBAD HGO hx HE HSS HSN
          go_wp2_with fail
          have hb2 := Hbel.out.alloc Hbel.out.size (.cells #[.int .i64 ok, .int .i64 ot, .int .i64 oj, .int .i64 od, .int .i64 oa, .int .i64 or, .int .i64 oy, .int .i64 on] 26)
          refine (HPO.out _ (Hb1.out.trans (hb2.mono Hb1.out.size))).mono ?_
          rintro e w5 ⟨rfl, hb5⟩
          have HB15 := Lib.hid ((Hb1.out.trans (hb2.mono Hb1.out.size)).trans (hb5.mono (Hb1.out.trans (hb2.mono Hb1.out.size)).size))
          clear hb5 hb2 c0 c1 c2 c3 c4 c5 c6 c7
          go_wp2_with fail
          go_ret2
          exact ⟨rfl, HB15.out⟩
      · obtain rfl : k = n := by omega
        have htk : L.take k = L := List.take_of_length_le (by rw [H.out.1]; exact Nat.le_refl _)
        rw [htk] at hlen
        have hbd := Hbd.out
        rw [htk] at hbd
        have hall := HALL.out
        rw [htk] at hall
        have hbz := Lx.badE_all hall
        have hx := HE.out
        rw [if_pos hbz] at hx
        have hL := Tryz.Builder_Len_f _ _ _ wr hbd
        rw [Lx.cells_len] at hL
        generalize Lx.allTx NS L = T at *
        obtain ⟨q, hq⟩ : ∃ q, T.length = q := ⟨_, rfl⟩
        rw [hq] at hL hx hlen
        have Hbd2 := Lib.hid hbd
        have HL := Lib.hid hL
        clear hL hbd htk Hbd hbz hall HALL HE
        by_cases hfit : q ≤ 65536
        · rw [if_pos hfit] at hx
          subst hx
          have hS := HSS.out rfl
          subst hS
          have hqi : (q : Int) ≤ 65536 := by omega
          have HS2 := Lib.hid (Tryz.Builder_String_any_k _ _ _ wr Hbd2.out Hbel.out.size)
          clear hq hlen HSS HSN
          go_wp2_with fail
          refine HL.out.mono ?_
          rintro e w3 ⟨rfl, rfl⟩
          go_wp2_with fail
          refine HS2.out.mono ?_
          rintro e w4 ⟨rfl, _, hb4, _⟩
          go_wp2_with fail
          go_ret2
          exact ⟨rfl, Hb1.out.trans ((Hbel.out.trans hb4).mono Hb1.out.size)⟩
        · rw [if_neg hfit] at hx
          subst hx
          have hS := HSN.out (by decide)
          subst hS
          have hqi : (65536 : Int) < (q : Int) := by omega
          clear hq hlen hfit HSS HSN
          go_wp2_with fail
          refine HL.out.mono ?_
          rintro e w3 ⟨rfl, rfl⟩
          go_wp2_with fail
          go_ret2
          exact ⟨rfl, Hb1.out.trans (Hbel.out.mono Hb1.out.size)⟩
  · have hne : (Lx.nmErr NS != 0) = true := by rw [bne_iff_ne]; exact hn
    have e2 : Lx.prAE NS L = Lx.nmErr NS := by unfold Lx.prAE; rw [if_neg hn]
    have e1 : Lx.prAS NS L = [] := by unfold Lx.prAS; rw [if_neg (by rw [e2]; exact hn)]
    rw [e1, e2]
    generalize Lx.nmErr NS = x at *
    clear hn h hz e1 e2 env hL
    go_enter Tryz.func12, Tryz.ntmps12
    go_wp2_with fail
    refine HN2.out.mono ?_
    rintro e w1 ⟨rfl, hb1⟩
    go_wp2_with fail
    go_ret2
    exact ⟨rfl, hb1⟩
end Go.Proofs.YtmpcekpdnikghaaGreatDoor
namespace Go.Proofs.YtmpcekpdnikghaaGreatDoor
open Go.RowKit

set_option maxRecDepth 100000 in
set_option maxHeartbeats 1600000 in
theorem r36same_any (ad : Option Addr) (n cap : Nat) (L : List Lx.EvV) (ad' : Option Addr) (m cap' : Nat) (M : List Lx.EvV) (w : World) (h : Lx.IsEvs w ad n L) (h' : Lx.IsEvs w ad' m M) (hn : n ≤ 1000000000) (hm : m ≤ 1000000000) :
    Calls Tryz.prog 11 #[.slice ad n cap, .slice ad' m cap'] w (SameIsE L M w) := by
  have hL := h.1
  have hM := h'.1
  have H := Lib.hid h
  have H' := Lib.hid h'
  have HL := Lib.hid hL
  have HM := Lib.hid hM
  obtain ⟨x, hx⟩ : ∃ x : Nat, max n m = x := ⟨_, rfl⟩
  have hxn : n ≤ x ∧ m ≤ x ∧ (x = n ∨ x = m) := by omega
  have HX := Lib.hid hxn
  clear h h' hL hM hx hxn
  go_enter Tryz.func11, Tryz.ntmps11
  go_wp2_with fail
  go_loopw [6] (fun i wr => ∃ k : Nat, k ≤ n ∧ k ≤ m ∧ i = .int .i64 k ∧ L.take k = M.take k ∧ Below w.heap.size w wr) (fun i _ => x - (intOf i).toNat)
  case atStart => exact ⟨0, Nat.zero_le _, Nat.zero_le _, rfl, rfl, Below.refl _ _⟩
  case round =>
    obtain ⟨k, hkn, hkm, rfl, htk, hb⟩ := hrel
    have Htk := Lib.hid htk
    have Hb := Lib.hid hb
    clear htk hb
    by_cases hkx : k < x
    · skip
      by_cases h1 : k < n
      · have hn0 : decide ((n : Int) ≤ (k : Int)) = false := decide_eq_false (by omega)
        have hn1 : (k : Int) < (n : Int) := by omega
        by_cases h2 : k < m
        · have hm0 : decide ((m : Int) ≤ (k : Int)) = false := decide_eq_false (by omega)
          have hm1 : (k : Int) < (m : Int) := by omega
          obtain ⟨a, ha⟩ : ∃ a, L[k]? = some a := ⟨_, List.getElem?_eq_getElem (by rw [HL.out]; exact h1)⟩
          obtain ⟨b, hbb⟩ : ∃ b, M[k]? = some b := ⟨_, List.getElem?_eq_getElem (by rw [HM.out]; exact h2)⟩
          obtain ⟨g, off, rfl, lt, hc⟩ := (H.out.below Hb.out).2 (by omega)
          obtain ⟨g', off', rfl, lt', hc'⟩ := (H'.out.below Hb.out).2 (by omega)
          have HA := Lib.hid ha
          have HBB := Lib.hid hbb
          have heq := fun W => eqEv a b W
          have HE := Lib.hid (Lx.evEq_iff a b)
          obtain ⟨B, hB⟩ : ∃ B, Lx.evEq a b = B := ⟨_, rfl⟩
          rw [hB] at heq HE
          obtain ⟨ak, at', aj, ad1, aa, ar, ay, an⟩ := a
          obtain ⟨bk, bt, bj, bd, ba, br, by', bn⟩ := b
          have p0 : wr.cell? ⟨g, off + k * 8, none⟩ = some (.int .i64 ak) := hc k _ ha 0 _ rfl
          have p1 : wr.cell? ⟨g, off + k * 8 + 1, none⟩ = some (.int .i64 at') := hc k _ ha 1 _ rfl
          have p2 : wr.cell? ⟨g, off + k * 8 + 2, none⟩ = some (.int .i64 aj) := hc k _ ha 2 _ rfl
          have p3 : wr.cell? ⟨g, off + k * 8 + 3, none⟩ = some (.int .i64 ad1) := hc k _ ha 3 _ rfl
          have p4 : wr.cell? ⟨g, off + k * 8 + 4, none⟩ = some (.int .i64 aa) := hc k _ ha 4 _ rfl
          have p5 : wr.cell? ⟨g, off + k * 8 + 5, none⟩ = some (.int .i64 ar) := hc k _ ha 5 _ rfl
          have p6 : wr.cell? ⟨g, off + k * 8 + 6, none⟩ = some (.int .i64 ay) := hc k _ ha 6 _ rfl
          have p7 : wr.cell? ⟨g, off + k * 8 + 7, none⟩ = some (.int .i64 an) := hc k _ ha 7 _ rfl
          have q0 : wr.cell? ⟨g', off' + k * 8, none⟩ = some (.int .i64 bk) := hc' k _ hbb 0 _ rfl
          have q1 : wr.cell? ⟨g', off' + k * 8 + 1, none⟩ = some (.int .i64 bt) := hc' k _ hbb 1 _ rfl
          have q2 : wr.cell? ⟨g', off' + k * 8 + 2, none⟩ = some (.int .i64 bj) := hc' k _ hbb 2 _ rfl
          have q3 : wr.cell? ⟨g', off' + k * 8 + 3, none⟩ = some (.int .i64 bd) := hc' k _ hbb 3 _ rfl
          have q4 : wr.cell? ⟨g', off' + k * 8 + 4, none⟩ = some (.int .i64 ba) := hc' k _ hbb 4 _ rfl
          have q5 : wr.cell? ⟨g', off' + k * 8 + 5, none⟩ = some (.int .i64 br) := hc' k _ hbb 5 _ rfl
          have q6 : wr.cell? ⟨g', off' + k * 8 + 6, none⟩ = some (.int .i64 by') := hc' k _ hbb 6 _ rfl
          have q7 : wr.cell? ⟨g', off' + k * 8 + 7, none⟩ = some (.int .i64 bn) := hc' k _ hbb 7 _ rfl
          unfold Lx.EvV.val at heq
          dsimp only at heq
          clear hc hc' ha hbb hB
          cases B
          · have hne : (⟨ak, at', aj, ad1, aa, ar, ay, an⟩ : Lx.EvV) ≠ ⟨bk, bt, bj, bd, ba, br, by', bn⟩ := fun e => by have := HE.out.2 e; cases this
            have HNE := Lib.hid hne
            clear hne
            go_wp2_with fail
            go_quiet (fail)
            go_wp2_with fail
            go_ret2
            exact ⟨_, _, rfl, .inl ⟨rfl, k, rfl, by rw [HL.out]; omega, by rw [HM.out]; omega, Htk.out, by rw [HA.out, HBB.out]; exact fun e => HNE.out (Option.some.inj e)⟩, Hb.out.trans (below_drewN _ _ _)⟩
          · have HS := Lib.hid (Lx.take_succ_eq Htk.out HA.out HBB.out (HE.out.1 rfl))
            go_wp2_with fail
            go_quiet (fail)
            go_wp2_with fail
            go_roundw
            case rel => exact ⟨k + 1, by omega, by omega, by go_num, HS.out, Hb.out.trans (below_drewN _ _ _)⟩
            case measure => simp [intOf]; omega
        · have hm0 : decide ((m : Int) ≤ (k : Int)) = true := decide_eq_true (by omega)
          have HR := Lib.hid (show L[k]? ≠ M[k]? from by rw [List.getElem?_eq_getElem (by rw [HL.out]; exact h1), List.getElem?_eq_none (l := M) (by rw [HM.out]; omega)]; exact fun c => by cases c)
          go_wp2_with fail
          go_quiet (fail)
          go_wp2_with fail
          go_ret2
          exact ⟨_, _, rfl, .inl ⟨rfl, k, rfl, by rw [HL.out]; omega, by rw [HM.out]; omega, Htk.out, HR.out⟩, Hb.out.trans (below_drewN _ _ _)⟩
      · have hn0 : decide ((n : Int) ≤ (k : Int)) = true := decide_eq_true (by omega)
        have hn1 : n ≤ k := by omega
        have hnl : decide ((k : Int) < (n : Int)) = false := decide_eq_false (by omega)
        have h2 : k < m := by have := HX.out; omega
        have h2i : (k : Int) < (m : Int) := by omega
        have HR := Lib.hid (show L[k]? ≠ M[k]? from by rw [List.getElem?_eq_none (l := L) (by rw [HL.out]; omega), List.getElem?_eq_getElem (by rw [HM.out]; exact h2)]; exact fun c => by cases c)
        go_wp2_with fail
        go_quiet (fail)
        go_wp2_with fail
        go_ret2
        exact ⟨_, _, rfl, .inl ⟨rfl, k, rfl, by rw [HL.out]; omega, by rw [HM.out]; omega, Htk.out, HR.out⟩, Hb.out.trans (below_drewN _ _ _)⟩
    · have hx3 := HX.out
      have hkx0 : decide ((k : Int) < (n : Int)) = false := decide_eq_false (by omega)
      have hkx1 : decide ((k : Int) < (m : Int)) = false := decide_eq_false (by omega)
      have HEQ := Lib.hid (show L = M from by
        have h1 := Htk.out
        rw [List.take_of_length_le (by rw [HL.out]; have := HX.out; omega), List.take_of_length_le (by rw [HM.out]; have := HX.out; omega)] at h1
        exact h1)
      go_wp2_with fail
      go_ret2
      exact ⟨_, _, rfl, .inr ⟨rfl, rfl, HEQ.out⟩, Hb.out⟩
set_option maxRecDepth 100000 in
set_option maxHeartbeats 1600000 in
theorem r36count_any (ad : Option Addr) (n cap : Nat) (L : List Lx.EvV) (x : Int) (w : World) (h : Lx.IsEvs w ad n L) (hn : n ≤ 1000000000) :
    Calls Tryz.prog 18 #[.slice ad n cap, .int .i64 x] w fun e w' => e = .returned (.int .i64 (Lx.cntE L x : Nat)) ∧ Below w.heap.size w w' := by
  have H := Lib.hid h
  clear h
  go_enter Tryz.func18, Tryz.ntmps18
  go_wp2_with fail
  go_loopw [5, 6] (fun c i wr => ∃ k : Nat, k ≤ n ∧ i = .int .i64 k ∧ c = .int .i64 (((L.take k).filter (Lx.isK x)).length : Nat) ∧ Below w.heap.size w wr) (fun _ i _ => n - (intOf i).toNat)
  case atStart => exact ⟨0, Nat.zero_le _, rfl, rfl, Below.refl _ _⟩
  case round =>
    obtain ⟨k, hk, rfl, rfl, hb⟩ := hrel
    have hle := Lx.filt_len (Lx.isK x) L k
    have Hb := Lib.hid hb
    clear hb
    by_cases hlt : k < n
    · have hki : (k : Int) < (n : Int) := by omega
      obtain ⟨o, ho⟩ : ∃ o, L[k]? = some o := ⟨_, List.getElem?_eq_getElem (by rw [H.out.1]; exact hlt)⟩
      obtain ⟨g, off, rfl, lt, hc⟩ := (H.out.below Hb.out).2 (by omega)
      have hst := Lx.filt_take (p := Lx.isK x) ho
      obtain ⟨q, hq⟩ : ∃ q, ((L.take k).filter (Lx.isK x)).length = q := ⟨_, rfl⟩
      rw [hq] at hle ⊢
      obtain ⟨ok, ot, oj, od, oa, or, oy, on⟩ := o
      have c0 : wr.cell? ⟨g, off + k * 8, none⟩ = some (.int .i64 ok) := hc k _ ho 0 _ rfl
      have c1 : wr.cell? ⟨g, off + k * 8 + 1, none⟩ = some (.int .i64 ot) := hc k _ ho 1 _ rfl
      have c2 : wr.cell? ⟨g, off + k * 8 + 2, none⟩ = some (.int .i64 oj) := hc k _ ho 2 _ rfl
      have c3 : wr.cell? ⟨g, off + k * 8 + 3, none⟩ = some (.int .i64 od) := hc k _ ho 3 _ rfl
      have c4 : wr.cell? ⟨g, off + k * 8 + 4, none⟩ = some (.int .i64 oa) := hc k _ ho 4 _ rfl
      have c5 : wr.cell? ⟨g, off + k * 8 + 5, none⟩ = some (.int .i64 or) := hc k _ ho 5 _ rfl
      have c6 : wr.cell? ⟨g, off + k * 8 + 6, none⟩ = some (.int .i64 oy) := hc k _ ho 6 _ rfl
      have c7 : wr.cell? ⟨g, off + k * 8 + 7, none⟩ = some (.int .i64 on) := hc k _ ho 7 _ rfl
      unfold Lx.isK at hst
      dsimp only at hst
      clear hc ho
      by_cases hx : ok = x
      · have HS := Lib.hid (hst.1 (by rw [beq_iff_eq]; exact hx))
        have Hq := Lib.hid hq
        have hxe : (ok == x) = true := by rw [beq_iff_eq]; exact hx
        clear hst hx hq
        go_wp2_with fail
        go_roundw
        case rel => exact ⟨k + 1, by omega, by go_num, by show _ = Value.int .i64 ((((L.take (k + 1)).filter fun o => o.k == x).length : Nat) : Int); rw [HS.out, List.length_append]; show _ = Value.int .i64 ((((L.take k).filter (Lx.isK x)).length + 1 : Nat) : Int); rw [Hq.out]; go_num, Hb.out⟩
        case measure => simp [intOf]; omega
      · have HS := Lib.hid (hst.2 (by rw [beq_eq_false_iff_ne]; exact hx))
        have Hq := Lib.hid hq
        have hxe : (ok == x) = false := by rw [beq_eq_false_iff_ne]; exact hx
        clear hst hx hq
        go_wp2_with fail
        go_roundw
        case rel => exact ⟨k + 1, by omega, by go_num, by show _ = Value.int .i64 ((((L.take (k + 1)).filter fun o => o.k == x).length : Nat) : Int); rw [HS.out]; show _ = Value.int .i64 ((((L.take k).filter (Lx.isK x)).length : Nat) : Int); rw [Hq.out], Hb.out⟩
        case measure => simp [intOf]; omega
    · obtain rfl : k = n := by omega
      have hki : decide ((k : Int) < (k : Int)) = false := decide_eq_false (by omega)
      have ht : L.take k = L := List.take_of_length_le (by rw [H.out.1]; exact Nat.le_refl _)
      rw [ht]
      go_wp2_with fail
      go_ret
      exact ⟨rfl, Hb.out⟩
set_option maxRecDepth 100000 in
set_option maxHeartbeats 1600000 in
theorem r36of_any (ad : Option Addr) (n cap : Nat) (L : List Lx.EvV) (j d : Int) (w : World) (h : Lx.IsEvs w ad n L) (hn : n ≤ 1000000) :
    Calls Tryz.prog 16 #[.slice ad n cap, .int .i64 j, .int .i64 d] w (OfPost L j d w) := by
  obtain ⟨i0, hi, hz0, hz1, hz2⟩ := info_parts infoEv
  have H := Lib.hid h
  clear h
  go_enter Tryz.func16, Tryz.ntmps16
  go_wp2_with fail
  go_loopw [7, 8] (fun tx i wr => ∃ k : Nat, k ≤ n ∧ i = .int .i64 k ∧ wr.ownsRow w.heap.size 26 8 tx ((L.take k).filter (Lx.isOf j d)).length (Lx.evCells ((L.take k).filter (Lx.isOf j d))) ∧ Below w.heap.size w wr) (fun _ i _ => n - (intOf i).toNat)
  case atStart => exact ⟨0, Nat.zero_le _, rfl, World.ownsRow_nil _ _ _ _, Below.refl _ _⟩
  case round =>
    obtain ⟨k, hk, rfl, hrow, hb⟩ := hrel
    have hle := Lx.filt_len (Lx.isOf j d) L k
    have Hb := Lib.hid hb
    have Hrow := Lib.hid hrow
    clear hb hrow
    by_cases hlt : k < n
    · have hki : (k : Int) < (n : Int) := by omega
      obtain ⟨o, ho⟩ : ∃ o, L[k]? = some o := ⟨_, List.getElem?_eq_getElem (by rw [H.out.1]; exact hlt)⟩
      obtain ⟨g, off, rfl, lt, hc⟩ := (H.out.below Hb.out).2 (by omega)
      have hst := Lx.filt_take (p := Lx.isOf j d) ho
      have hsn := Lx.evCells_snoc ((L.take k).filter (Lx.isOf j d)) o
      obtain ⟨q, hq⟩ : ∃ q, ((L.take k).filter (Lx.isOf j d)).length = q := ⟨_, rfl⟩
      have Hrow0 := Hrow
      rw [hq] at hle Hrow
      obtain ⟨ok, ot, oj, od, oa, or, oy, on⟩ := o
      have c0 : wr.cell? ⟨g, off + k * 8, none⟩ = some (.int .i64 ok) := hc k _ ho 0 _ rfl
      have c1 : wr.cell? ⟨g, off + k * 8 + 1, none⟩ = some (.int .i64 ot) := hc k _ ho 1 _ rfl
      have c2 : wr.cell? ⟨g, off + k * 8 + 2, none⟩ = some (.int .i64 oj) := hc k _ ho 2 _ rfl
      have c3 : wr.cell? ⟨g, off + k * 8 + 3, none⟩ = some (.int .i64 od) := hc k _ ho 3 _ rfl
      have c4 : wr.cell? ⟨g, off + k * 8 + 4, none⟩ = some (.int .i64 oa) := hc k _ ho 4 _ rfl
      have c5 : wr.cell? ⟨g, off + k * 8 + 5, none⟩ = some (.int .i64 or) := hc k _ ho 5 _ rfl
      have c6 : wr.cell? ⟨g, off + k * 8 + 6, none⟩ = some (.int .i64 oy) := hc k _ ho 6 _ rfl
      have c7 : wr.cell? ⟨g, off + k * 8 + 7, none⟩ = some (.int .i64 on) := hc k _ ho 7 _ rfl
      have Hq := Lib.hid hq
      have Hsn := Lib.hid hsn
      have HST := Lib.hid hst
      have hbz := Hb.out.size
      clear hc ho hsn hst hq
      have no := fun e => Lx.own_of_eq Hrow0.out (HST.out.2 e)
      have NO := Lib.hid no
      clear no Hrow0
      by_cases h1 : 1 ≤ ok
      · have d1 : decide (1 ≤ ok) = true := decide_eq_true h1
        by_cases h2 : ok ≤ 5
        · have d2 : decide (ok ≤ 5) = true := decide_eq_true h2
          by_cases h3 : oj = j
          · have d3 : (oj == j) = true := by rw [beq_iff_eq]; exact h3
            by_cases h4 : od = d
            · have d4 : (od == d) = true := by rw [beq_iff_eq]; exact h4
              have hy := HST.out.1 (by unfold Lx.isOf; dsimp only; rw [d1, d2, d3, d4]; rfl)
              have HY := Lib.hid hy
              subst h3 h4
              obtain ⟨a0, cp0, rfl⟩ := Lx.slice_of_row Hrow.out
              have hcs : ∀ j' u, ([.int .i64 ok, .int .i64 ot, .int .i64 oj, .int .i64 od, .int .i64 oa, .int .i64 or, .int .i64 oy, .int .i64 on] : List Value)[j']? = some u → (wr.alloc (.cells #[.int .i64 ok, .int .i64 ot, .int .i64 oj, .int .i64 od, .int .i64 oa, .int .i64 or, .int .i64 oy, .int .i64 on] 26)).cell? ((⟨wr.heap.size, 0, none⟩ : Addr).add j') = some u := by
                exact Lx.cell_eight_new wr ⟨ok, ot, oj, od, oa, or, oy, on⟩ 26
              have HCS := Lib.hid hcs
              clear hcs hy NO d3 d4 Hsn
              have Hsn := Lib.hid (Lx.evCells_snoc ((L.take k).filter (Lx.isOf oj od)) ⟨ok, ot, oj, od, oa, or, oy, on⟩)
              go_wp2_with (at_builtin; refine wpList_append_own _ rfl _ _ 30 rfl w.heap.size 26 i0 _ 8 64 Tryz.underlying30 hi hz0 hz1 hz2 rfl (by decide) _ _ _ rfl (Hrow.out.alloc _) ⟨wr.heap.size, 0, none⟩ 1 1 [.int .i64 ok, .int .i64 ot, .int .i64 oj, .int .i64 od, .int .i64 oa, .int .i64 or, .int .i64 oy, .int .i64 on] rfl rfl HCS.out (by simp [Value.oneCell']) (by unfold maxLen; omega) (by omega) (by simp; omega) ?_)
              intro v' w6 hown' hgrow _
              have hb6 := (Hb.out.alloc Hb.out.size (.cells #[.int .i64 ok, .int .i64 ot, .int .i64 oj, .int .i64 od, .int .i64 oa, .int .i64 or, .int .i64 oy, .int .i64 on] 26)).grown hgrow (by simp; omega) (Lx.ownBase Hrow.out)
              clear hgrow
              go_wp2_with fail
              go_roundw
              case rel => exact ⟨k + 1, by omega, by go_num, by rw [HY.out, List.length_append, Hq.out, Hsn.out]; exact hown', hb6⟩
              case measure => simp [intOf]; omega
            · have d4 : (od == d) = false := by rw [beq_eq_false_iff_ne]; exact h4
              have HY := Lib.hid (NO.out (by unfold Lx.isOf; dsimp only; rw [d1, d2, d3, d4]; rfl))
              subst h3
              clear h4 NO d3
              go_wp2_with fail
              go_roundw
              case rel => exact ⟨k + 1, by omega, by go_num, HY.out, Hb.out⟩
              case measure => simp [intOf]; omega
          · have d3 : (oj == j) = false := by rw [beq_eq_false_iff_ne]; exact h3
            have HY := Lib.hid (NO.out (by unfold Lx.isOf; dsimp only; rw [d1, d2, d3]; rfl))
            clear h3 NO
            go_wp2_with fail
            go_roundw
            case rel => exact ⟨k + 1, by omega, by go_num, HY.out, Hb.out⟩
            case measure => simp [intOf]; omega
        · have d2 : decide (ok ≤ 5) = false := decide_eq_false h2
          have HY := Lib.hid (NO.out (by unfold Lx.isOf; dsimp only; rw [d1, d2]; rfl))
          clear NO
          go_wp2_with fail
          go_roundw
          case rel => exact ⟨k + 1, by omega, by go_num, HY.out, Hb.out⟩
          case measure => simp [intOf]; omega
      · have d1 : decide (1 ≤ ok) = false := decide_eq_false h1
        have HY := Lib.hid (NO.out (by unfold Lx.isOf; dsimp only; rw [d1]; rfl))
        clear NO
        go_wp2_with fail
        go_roundw
        case rel => exact ⟨k + 1, by omega, by go_num, HY.out, Hb.out⟩
        case measure => simp [intOf]; omega
    · obtain rfl : k = n := by omega
      have hki : decide ((k : Int) < (k : Int)) = false := decide_eq_false (by omega)
      have ht : L.take k = L := List.take_of_length_le (by rw [H.out.1]; exact Nat.le_refl _)
      have Hr := Hrow.out
      rw [ht] at Hr
      have HR := Lib.hid Hr
      clear Hr hle
      go_wp2_with fail
      go_ret
      exact ⟨_, rfl, HR.out, Hb.out⟩
end Go.Proofs.YtmpcekpdnikghaaGreatDoor
namespace Go.Proofs.YtmpcekpdnikghaaGreatDoor
open Go.RowKit

namespace Lx
/-- The state of the reference's PrintAll before event k: the text so far, the error so far. -/
def PaI (NS : List ByteArray) (L : List EvV) (k : Nat) (V : ByteArray) (X : Int) : Prop :=
  V.size ≤ 65700 ∧ ((X = 0 ∧ (∀ o ∈ L.take k, wrE NS o = 0) ∧ (V.data.toList = allTx NS (L.take k) ∨ (65536 < V.size ∧ 65536 < (allTx NS (L.take k)).length))) ∨ (X ≠ 0 ∧ badE NS L = X))
theorem paI_grow {NS : List ByteArray} (hN : NOk NS) {L : List EvV} {k : Nat} {V T : ByteArray} {o : EvV} (h : PaI NS L k V 0) (ho : L[k]? = some o) (hT : T.data.toList = wrS NS o) (hV : V.size ≤ 65536) : PaI NS L (k + 1) (V ++ T ++ ⟨#[10]⟩) (wrE NS o) := by
  have hl := wr_len hN o
  have hs : (V ++ T ++ ⟨#[10]⟩ : ByteArray).size ≤ 65700 := by
    rw [ByteArray.size_append, ByteArray.size_append, Lib.size_eq T, hT]
    have : (⟨#[10]⟩ : ByteArray).size = 1 := rfl
    omega
  refine ⟨hs, ?_⟩
  rcases h.2 with ⟨_, hall, hd⟩ | ⟨c, _⟩
  · by_cases hx : wrE NS o = 0
    · refine .inl ⟨hx, ?_, .inl ?_⟩
      · intro p hp
        rw [List.take_add_one, ho, List.mem_append] at hp
        rcases hp with hp | hp
        · exact hall p hp
        · simp at hp; subst hp; exact hx
      · rcases hd with hd | ⟨c, _⟩
        · rw [allTx_take ho, ByteArray.data_append, ByteArray.data_append, Array.toList_append, Array.toList_append, hd, hT, List.append_assoc]
        · omega
    · exact .inr ⟨hx, badE_at hall ho hx⟩
  · exact absurd rfl c
theorem paI_stay {NS : List ByteArray} {L : List EvV} {k : Nat} {V : ByteArray} {o : EvV} (h : PaI NS L k V 0) (ho : L[k]? = some o) (hV : 65536 < V.size) : PaI NS L (k + 1) V (wrE NS o) := by
  refine ⟨h.1, ?_⟩
  rcases h.2 with ⟨_, hall, hd⟩ | ⟨c, _⟩
  · by_cases hx : wrE NS o = 0
    · refine .inl ⟨hx, ?_, .inr ⟨hV, ?_⟩⟩
      · intro p hp
        rw [List.take_add_one, ho, List.mem_append] at hp
        rcases hp with hp | hp
        · exact hall p hp
        · simp at hp; subst hp; exact hx
      · rw [allTx_take ho, List.length_append]
        rcases hd with hd | ⟨_, c⟩
        · rw [← hd, ← Lib.size_eq]; omega
        · omega
    · exact .inr ⟨hx, badE_at hall ho hx⟩
  · exact absurd rfl c
theorem paI_bad {NS : List ByteArray} (hn : nmErr NS = 0) {L : List EvV} {k : Nat} {V : ByteArray} {X : Int} (h : PaI NS L k V X) (hX : X ≠ 0) : prAE NS L = X ∧ prAS NS L = [] := by
  rcases h.2 with ⟨c, _⟩ | ⟨_, c⟩
  · exact absurd c hX
  · have e : prAE NS L = X := by unfold prAE; rw [if_pos hn, if_neg (by rw [c]; exact hX)]; exact c
    exact ⟨e, by unfold prAS; rw [if_neg (by rw [e]; exact hX)]⟩
theorem paI_end {NS : List ByteArray} (hn : nmErr NS = 0) {L : List EvV} {V : ByteArray} (h : PaI NS L L.length V 0) : (V.size ≤ 65536 → prAE NS L = 0 ∧ prAS NS L = V.data.toList) ∧ (65536 < V.size → prAE NS L = 11 ∧ prAS NS L = []) := by
  rcases h.2 with ⟨_, hall, hd⟩ | ⟨c, _⟩
  · rw [List.take_length] at hall hd
    have hb := badE_all hall
    refine ⟨fun hv => ?_, fun hv => ?_⟩
    · rcases hd with hd | ⟨c, _⟩
      · have e : prAE NS L = 0 := by unfold prAE; rw [if_pos hn, if_pos hb, if_pos (by rw [← hd, ← Lib.size_eq]; exact hv)]
        exact ⟨e, by unfold prAS; rw [if_pos e]; exact hd.symm⟩
      · omega
    · have hl : ¬ ((allTx NS L).length ≤ 65536) := by
        rcases hd with hd | ⟨_, c⟩
        · rw [← hd, ← Lib.size_eq]; omega
        · omega
      have e : prAE NS L = 11 := by unfold prAE; rw [if_pos hn, if_pos hb, if_neg hl]
      exact ⟨e, by unfold prAS; rw [if_neg (by rw [e]; decide)]⟩
  · exact absurd rfl c
theorem pr_wr {NS : List ByteArray} (hn : nmErr NS = 0) (o : EvV) : prE NS o = wrE NS o ∧ prS NS o = wrS NS o := by
  have e : prE NS o = wrE NS o := by unfold prE; rw [if_neg (fun c => c hn)]
  exact ⟨e, by unfold prS wrS; rw [e]⟩
end Lx
set_option maxRecDepth 100000 in
set_option maxHeartbeats 3200000 in
theorem r36printAll_any (ad : Option Addr) (n cap : Nat) (L : List Lx.EvV) (ad' : Option Addr) (m cap' : Nat) (NS : List ByteArray) (w : World) (hL : Lx.IsEvs w ad n L) (hin : ∀ o ∈ L, o.In) (hn1 : n ≤ 10000) (h : Lx.IsNames w ad' m NS) (hz : ∀ x ∈ NS, x.size ≤ maxLen) :
    Calls Tryz.prog 13 #[.slice ad n cap, .slice ad' m cap'] w (WriteIs (Lx.prAS NS L) (Lx.prAE NS L) w) := by
  have HL := Lib.hid (r36list_any ad' m cap' NS w h hz)
  by_cases hn : Lx.nmErr NS = 0
  · have hN := (Lx.nmErr_ok NS).1 hn
    have HP := Lib.hid (fun (o : Lx.EvV) (hi : o.In) W (b : Below w.heap.size w W) => (show Calls Tryz.prog 28 #[o.val, .slice ad' m cap'] W (WriteIs (Lx.wrS NS o) (Lx.wrE NS o) W) from by
      have := r36print_any o hi ad' m cap' NS W (h.below b) hz
      rw [(Lx.pr_wr hn o).1, (Lx.pr_wr hn o).2] at this
      exact this))
    unfold WriteIs at HP
    rw [hn] at HL
    have H := Lib.hid hL
    have HIN := Lib.hid hin
    have HNK := Lib.hid hN
    have HBD := Lib.hid (fun (k : Nat) (V : ByteArray) (X : Int) (hp : Lx.PaI NS L k V X) (hX : X ≠ 0) => Lx.paI_bad hn hp hX)
    have HEN := Lib.hid (fun (V : ByteArray) (hp : Lx.PaI NS L L.length V 0) => Lx.paI_end hn hp)
    clear h hz hn hN hL hin
    go_enter Tryz.func13, Tryz.ntmps13
    go_wp2_with fail
    refine HL.out.mono ?_
    rintro e w1 ⟨rfl, c1⟩
    have B1 := Lib.hid c1
    clear c1 HL
    go_wp2_with fail
    go_loopw [6, 7, 8] (fun xv sv iv wr => ∃ (k : Nat) (V : ByteArray) (X : Int), k ≤ n ∧ iv = .int .i64 k ∧ sv = .string V ∧ xv = .int .i64 X ∧ Lx.PaI NS L k V X ∧ Below w.heap.size w wr) (fun _ _ i _ => n - (intOf i).toNat)
    case atStart => exact ⟨0, ⟨#[]⟩, 0, Nat.zero_le _, rfl, rfl, rfl, ⟨by decide, .inl ⟨rfl, (by intro o ho; simp at ho), .inl rfl⟩⟩, B1.out⟩
    case round =>
      obtain ⟨k, V, X, hk, rfl, rfl, rfl, hp, hb⟩ := hrel
      have hVs := hp.1
      have HPI := Lib.hid hp
      have Hb := Lib.hid hb
      clear hp hb
      by_cases hX : X = 0
      · subst hX
        by_cases hlt : k < n
        · have hki : (k : Int) < (n : Int) := by omega
          obtain ⟨o, ho⟩ : ∃ o, L[k]? = some o := ⟨_, List.getElem?_eq_getElem (by rw [H.out.1]; exact hlt)⟩
          obtain ⟨g, off, rfl, lt, hc⟩ := (H.out.below Hb.out).2 (by omega)
          have HPO := Lib.hid (HP.out o (HIN.out o (List.mem_of_getElem? ho)) wr Hb.out)
          have hol := Lx.wr_len HNK.out o
          obtain ⟨T, hT⟩ : ∃ T : ByteArray, T = ⟨(Lx.wrS NS o).toArray⟩ := ⟨_, rfl⟩
          have hTd : T.data.toList = Lx.wrS NS o := by rw [hT]
          rw [← hT] at HPO
          have hTs : T.size ≤ 150 := by rw [Lib.size_eq, hTd]; exact hol
          have HGR := Lib.hid (fun hv => Lx.paI_grow HNK.out HPI.out ho hTd hv)
          have HST := Lib.hid (fun hv => Lx.paI_stay HPI.out ho hv)
          generalize Lx.wrE NS o = x at *
          obtain ⟨ok, ot, oj, od, oa, or, oy, on⟩ := o
          unfold Lx.EvV.val at HPO
          have c0 : wr.cell? ⟨g, off + k * 8, none⟩ = some (.int .i64 ok) := hc k _ ho 0 _ rfl
          have c1 : wr.cell? ⟨g, off + k * 8 + 1, none⟩ = some (.int .i64 ot) := hc k _ ho 1 _ rfl
          have c2 : wr.cell? ⟨g, off + k * 8 + 2, none⟩ = some (.int .i64 oj) := hc k _ ho 2 _ rfl
          have c3 : wr.cell? ⟨g, off + k * 8 + 3, none⟩ = some (.int .i64 od) := hc k _ ho 3 _ rfl
          have c4 : wr.cell? ⟨g, off + k * 8 + 4, none⟩ = some (.int .i64 oa) := hc k _ ho 4 _ rfl
          have c5 : wr.cell? ⟨g, off + k * 8 + 5, none⟩ = some (.int .i64 or) := hc k _ ho 5 _ rfl
          have c6 : wr.cell? ⟨g, off + k * 8 + 6, none⟩ = some (.int .i64 oy) := hc k _ ho 6 _ rfl
          have c7 : wr.cell? ⟨g, off + k * 8 + 7, none⟩ = some (.int .i64 on) := hc k _ ho 7 _ rfl
          dsimp only at HPO
          clear hc ho hT hTd hol HPI
          by_cases hv : V.size ≤ 65536
          · have hvi : (V.size : Int) ≤ 65536 := by omega
            have HG2 := Lib.hid (HGR.out hv)
            have f1 : ¬ (9223372036854775807 < V.size + T.size) := Lx.fits (by omega)
            have f2 : ¬ (9223372036854775807 < V.size + T.size + 1) := Lx.fits (by omega)
            have f3 : ¬ (9223372036854775807 < (V ++ T : ByteArray).size + (⟨#[10]⟩ : ByteArray).size) := by rw [ByteArray.size_append]; exact f2
            clear HGR HST
            go_wp2_with fail
            refine HPO.out.mono ?_
            rintro e w5 ⟨rfl, d5⟩
            have hb5 := Hb.out.trans (d5.mono Hb.out.size)
            clear d5 c0 c1 c2 c3 c4 c5 c6 c7
            go_wp2_with fail
            go_roundw
            case rel => exact ⟨k + 1, _, _, by omega, by go_num, rfl, rfl, HG2.out, hb5⟩
            case measure => simp [intOf]; omega
          · have hvi : decide ((V.size : Int) ≤ 65536) = false := decide_eq_false (by omega)
            have HG2 := Lib.hid (HST.out (by omega))
            clear HGR HST
            go_wp2_with fail
            refine HPO.out.mono ?_
            rintro e w5 ⟨rfl, d5⟩
            have hb5 := Hb.out.trans (d5.mono Hb.out.size)
            clear d5 c0 c1 c2 c3 c4 c5 c6 c7
            go_wp2_with fail
            go_roundw
            case rel => exact ⟨k + 1, _, _, by omega, by go_num, rfl, rfl, HG2.out, hb5⟩
            case measure => simp [intOf]; omega
        · obtain rfl : k = n := by omega
          have hki : decide ((k : Int) < (k : Int)) = false := decide_eq_false (by omega)
          have hen := HEN.out V (by rw [H.out.1]; exact HPI.out)
          by_cases hv : V.size ≤ 65536
          · obtain ⟨e1, e2⟩ := hen.1 hv
            have hvi : decide ((65536 : Int) < (V.size : Int)) = false := decide_eq_false (by omega)
            have E1 := Lib.hid e1
            have E2 := Lib.hid e2
            clear hen e1 e2 hv HBD HEN HP
            go_wp2_with fail
            go_ret2
            exact ⟨Lx.ret_t2 (Lx.v_str (Lx.app_eq E2.out.symm)) (Lx.v_int E1.out.symm), Hb.out⟩
          · obtain ⟨e1, e2⟩ := hen.2 (by omega)
            have hvi : (65536 : Int) < (V.size : Int) := by omega
            have E1 := Lib.hid e1
            have E2 := Lib.hid e2
            clear hen e1 e2 hv HBD HEN HP
            go_wp2_with fail
            go_ret2
            exact ⟨Lx.ret_t2 (Lx.v_str (Lx.app_eq (by rw [E2.out]))) (Lx.v_int E1.out.symm), Hb.out⟩
      · obtain ⟨e1, e2⟩ := HBD.out k V X HPI.out hX
        have E1 := Lib.hid e1
        have E2 := Lib.hid e2
        have hx0 : (X == 0) = false := by rw [beq_eq_false_iff_ne]; exact hX
        have hx1 : (X != 0) = true := by rw [bne_iff_ne]; exact hX
        clear e1 e2 hX HBD HEN HP HPI
        by_cases hlt : k < n
        · have hki : (k : Int) < (n : Int) := by omega
          go_wp2_with fail
          go_ret2
          exact ⟨Lx.ret_t2 (Lx.v_str (Lx.app_eq (by rw [E2.out]))) (Lx.v_int E1.out.symm), Hb.out⟩
        · have hki : decide ((k : Int) < (n : Int)) = false := decide_eq_false (by omega)
          go_wp2_with fail
          go_ret2
          exact ⟨Lx.ret_t2 (Lx.v_str (Lx.app_eq (by rw [E2.out]))) (Lx.v_int E1.out.symm), Hb.out⟩
  · have e2 : Lx.prAE NS L = Lx.nmErr NS := by unfold Lx.prAE; rw [if_neg hn]
    have e1 : Lx.prAS NS L = [] := by unfold Lx.prAS; rw [if_neg (by rw [e2]; exact hn)]
    rw [e1, e2]
    generalize Lx.nmErr NS = x at *
    have hx0 : (x == 0) = false := by rw [beq_eq_false_iff_ne]; exact hn
    have hx1 : (x != 0) = true := by rw [bne_iff_ne]; exact hn
    clear hn h hz e1 e2 hL hin
    go_enter Tryz.func13, Tryz.ntmps13
    go_wp2_with fail
    refine HL.out.mono ?_
    rintro e w1 ⟨rfl, c1⟩
    have B1 := Lib.hid c1
    clear c1 HL
    go_wp2_with fail
    go_loopw [6, 7, 8] (fun xv sv iv wr => iv = .int .i64 0 ∧ sv = .string ⟨#[]⟩ ∧ xv = .int .i64 x ∧ Below w.heap.size w wr) (fun _ _ _ _ => 0)
    case atStart => exact ⟨rfl, rfl, rfl, B1.out⟩
    case round =>
      obtain ⟨rfl, rfl, rfl, hb⟩ := hrel
      by_cases h0 : n = 0
      · subst h0
        go_wp2_with fail
        go_ret2
        exact ⟨rfl, hb⟩
      · have hki : (0 : Int) < (n : Int) := by omega
        have hkn : 0 < n := by omega
        go_wp2_with fail
        go_ret2
        exact ⟨rfl, hb⟩
end Go.Proofs.YtmpcekpdnikghaaGreatDoor
