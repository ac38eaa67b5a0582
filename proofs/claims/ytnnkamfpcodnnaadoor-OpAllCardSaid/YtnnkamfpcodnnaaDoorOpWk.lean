/- What texts are read as is one thing alone; the walk of works of chapter 38, the examples that every law of it runs: true. -/
import Derived.Test.YtnnkamfpcodnnaaDoorOpN2
import Derived.Test.YtnnkamfpcodnnaaDoorOpS
namespace Go.Proofs.YtnnkamfpcodnnaaDoor
open Go.RowKit

namespace Lx
theorem linesRead_one : ∀ {ls : List ByteArray} {out out' : List OpV}, LinesRead ls out → LinesRead ls out' → out = out'
  | [], out, out', h, h' => by unfold LinesRead at h h'; rw [h, h']
  | a :: t, out, out', h, h' => by
    unfold LinesRead at h h'
    split at h
    · rename_i hs
      rw [if_pos hs] at h'
      exact linesRead_one h h'
    · rename_i hs
      rw [if_neg hs] at h'
      obtain ⟨o, rest, h1, rfl, h3⟩ := h
      obtain ⟨o', rest', h1', rfl, h3'⟩ := h'
      rw [(reads_one h1 h1').1, linesRead_one h3 h3']
theorem linesRead_at : ∀ {ls : List ByteArray} {out : List OpV} {k : Nat} {l : ByteArray}, LinesRead ls out → ls[k]? = some l → skipL l.data.toList = false → ∃ o, ReadsOp l.data.toList o 0
  | [], _, k, l, _, hk, _ => by simp at hk
  | a :: t, out, 0, l, h, hk, hs => by
    simp at hk; subst hk
    unfold LinesRead at h
    rw [if_neg (by rw [hs]; decide)] at h
    obtain ⟨o, _, h1, _⟩ := h
    exact ⟨o, h1⟩
  | a :: t, out, k + 1, l, h, hk, hs => by
    unfold LinesRead at h
    split at h
    · exact linesRead_at h (by simpa using hk) hs
    · obtain ⟨_, rest, _, _, h3⟩ := h
      exact linesRead_at h3 (by simpa using hk) hs
theorem reads_not {l : List UInt8} {o : OpV} (h : ReadsOp l o 0) (h' : ReadsOp l opZ 10) : False := by
  have := (reads_one h h').2
  omega
theorem all_one {ls : List ByteArray} {out out' : List OpV} {n n' e e' : Int} (h : AllIs ls out n e) (h' : AllIs ls out' n' e') : out = out' ∧ n = n' ∧ e = e' := by
  rcases h with ⟨rfl, rfl, h⟩ | ⟨rfl, rfl, k, l, so, hk, rfl, hs, hr, ht⟩ <;> rcases h' with ⟨rfl, rfl, h'⟩ | ⟨rfl, rfl, k', l', so', hk', rfl, hs', hr', ht'⟩
  · exact ⟨linesRead_one h h', rfl, rfl⟩
  · obtain ⟨o, ho⟩ := linesRead_at h hk' hs'
    exact (reads_not ho hr').elim
  · obtain ⟨o, ho⟩ := linesRead_at h' hk hs
    exact (reads_not ho hr).elim
  · refine ⟨rfl, ?_, rfl⟩
    rcases Nat.lt_trichotomy k k' with hlt | rfl | hlt
    · obtain ⟨o, ho⟩ := linesRead_at ht' (k := k) (l := l) (by rw [List.getElem?_take, if_pos hlt]; exact hk) hs
      exact (reads_not ho hr).elim
    · rfl
    · obtain ⟨o, ho⟩ := linesRead_at ht (k := k') (l := l') (by rw [List.getElem?_take, if_pos hlt]; exact hk') hs'
      exact (reads_not ho hr').elim
theorem isOps_lit (w : World) (cs : Array Value) (T : TypeId) (n : Nat) (L : List OpV) (hL : L.length = n) (hc : cs.toList = opCells L) : IsOps (w.alloc (.cells cs T)) (some ⟨w.heap.size, 0, none⟩) n L := by
  refine ⟨hL, fun _ => ⟨w.heap.size, 0, rfl, by simp, fun i o hi j v hj => ?_⟩⟩
  have := opCells_get hi j v hj
  rw [← hc] at this
  exact boxCell0 w cs T (0 + i * 6 + j) v (by rw [Nat.zero_add]; simpa using this)
theorem isOps_row {w : World} {base cap n : Nat} {A : Option Addr} {e : TypeId} {L : List OpV} (h : w.ownsRow base e 6 (.slice A n cap) n (opCells L)) (hn : L.length = n) : IsOps w A n L := row_isOps h hn
/-- An operation in a block of its own. -/
def OpBox (w : World) (b : Nat) (o : OpV) : Prop := b < w.heap.size ∧ ∀ (j : Nat) (v : Value), o.cells[j]? = some v → w.cell? ⟨b, j, none⟩ = some v
theorem OpBox.below {w w' : World} {b : Nat} {o : OpV} (h : OpBox w b o) (hb : Below w.heap.size w w') : OpBox w' b o :=
  ⟨Nat.lt_of_lt_of_le h.1 hb.size, fun j v hj => (hb.cell (p := ⟨b, j, none⟩) h.1).trans (h.2 j v hj)⟩
theorem OpBox.new (w : World) (k d t r : Int) (ok : Bool) (job : ByteArray) (T : TypeId) : OpBox (w.alloc (.cells #[.int .i64 k, .int .i64 d, .int .i64 t, .int .i64 r, .bool ok, .string job] T)) w.heap.size ⟨k, d, t, r, ok, job⟩ := by
  refine ⟨by simp, fun j v hj => ?_⟩
  exact boxCell0 w _ T j v (by simpa [OpV.cells] using hj)
theorem OpBox.six {w : World} {b : Nat} {k d t r : Int} {ok : Bool} {job : ByteArray} (h : OpBox w b ⟨k, d, t, r, ok, job⟩) :
    w.cell? ⟨b, 0, none⟩ = some (.int .i64 k) ∧ w.cell? ⟨b, 1, none⟩ = some (.int .i64 d) ∧ w.cell? ⟨b, 2, none⟩ = some (.int .i64 t) ∧ w.cell? ⟨b, 3, none⟩ = some (.int .i64 r) ∧ w.cell? ⟨b, 4, none⟩ = some (.bool ok) ∧ w.cell? ⟨b, 5, none⟩ = some (.string job) :=
  ⟨h.2 0 _ rfl, h.2 1 _ rfl, h.2 2 _ rfl, h.2 3 _ rfl, h.2 4 _ rfl, h.2 5 _ rfl⟩
theorem noWord (l : List UInt8) (h : (32 : UInt8) ∉ l) : ReadsOp l opZ 10 := reads_nosp h
end Lx
theorem print_at (o : Lx.OpV) (T : ByteArray) (w : World) (env : Env w) (hi : o.In) (h : Lx.opErr o = 0) (ht : Lx.opText o = T.data.toList) :
    Calls Tryd.prog 12 #[o.val] w fun e w' => e = .returned (.tuple #[.string T, .int .i64 0]) ∧ Below w.heap.size w w' := by
  refine (print_good o w env hi h).mono ?_
  rintro e w' ⟨rfl, hb⟩
  refine ⟨?_, hb⟩
  rw [ht]
theorem parse_at (s : ByteArray) (o : Lx.OpV) (x : Int) (w : World) (env : Env w) (hs : s.size ≤ 1000000000) (h : Lx.ReadsOp s.data.toList o x) :
    Calls Tryd.prog 16 #[.string s] w fun e w' => e = .returned (.tuple #[o.val, .int .i64 x]) ∧ Below w.heap.size w w' := by
  refine (op_parse s w env hs).mono ?_
  rintro e w' ⟨o', x', rfl, hr, hb⟩
  obtain ⟨rfl, rfl⟩ := Lx.reads_one hr h
  exact ⟨rfl, hb⟩
theorem parseAll_at (s : ByteArray) (out : List Lx.OpV) (n x : Int) (w : World) (env : Env w) (hs : s.size ≤ 65536) (h : Lx.AllIs (Lx.textLines s) out n x) :
    Calls Tryd.prog 25 #[.string s] w fun e w' => ∃ A cap, e = .returned (.tuple #[.slice A out.length cap, .int .i64 n, .int .i64 x]) ∧ Lx.IsOps w' A out.length out ∧ Below w.heap.size w w' := by
  refine (parseAll_any s w env hs).mono ?_
  rintro e w' ⟨v, out', n', x', rfl, ha, hrow, hb⟩
  obtain ⟨rfl, rfl, rfl⟩ := Lx.all_one ha h
  obtain ⟨A, cap, rfl⟩ := Lx.slice_of_row hrow
  exact ⟨A, cap, rfl, Lx.row_isOps hrow rfl, hb⟩
theorem normal_at (ad : Option Addr) (n cap : Nat) (L M : List Lx.OpV) (w : World) (h : Lx.IsOps w ad n L) (hj : ∀ o ∈ L, o.job.size ≤ maxLen) (hn : n ≤ 10000) (hok : Lx.AllOk L) (hM : Lx.normal L = M) :
    Calls Tryd.prog 19 #[.slice ad n cap] w fun e w' => ∃ A cap', e = .returned (.tuple #[.slice A M.length cap', .int .i64 0]) ∧ Lx.IsOps w' A M.length M ∧ Below w.heap.size w w' := by
  have hs : Lx.scriptErr L = 0 := Lx.script_of (by rw [h.1]; exact hn) hok
  have hv : Lx.normL L = M := by unfold Lx.normL; rw [if_pos hs, hM]
  refine (normal_any ad n cap L w h hj (by omega)).mono ?_
  rintro e w' ⟨v, rfl, hrow, hb⟩
  rw [hv] at hrow
  obtain ⟨A, cap', rfl⟩ := Lx.slice_of_row hrow
  exact ⟨A, cap', by rw [hs], Lx.row_isOps hrow rfl, hb⟩
namespace Lx
def trpA : OpV := ⟨5, 0, 0, 0, false, ⟨#[97]⟩⟩
theorem xo_err : opErr trpA = 0 := by decide +kernel
theorem xo1 : opText ⟨2, 0, 1794851100, 0, false, ⟨#[]⟩⟩ = [106, 117, 109, 112, 32, 50, 48, 50, 54, 45, 49, 49, 45, 49, 54, 32, 49, 55, 58, 52, 53, 58, 48, 48] := by decide +kernel
theorem xo2 : ReadsOp [102, 105, 110, 105, 115, 104, 32, 51, 32, 111, 107] ⟨3, 0, 0, 3, true, ⟨#[]⟩⟩ 0 := .inl ⟨rfl, ⟨by decide +kernel, by decide +kernel⟩, by unfold OpV.In; decide⟩
theorem xo3 : ReadsOp [116, 105, 99, 107, 32, 32, 53] opZ 10 := reads_tick_no (rest := [32, 53]) (by decide) (by decide +kernel)
theorem xo_tick5 : ReadsOp [116, 105, 99, 107, 32, 53] (tickV 5) 0 := .inl ⟨rfl, ⟨by decide +kernel, by decide +kernel⟩, by unfold OpV.In tickV; decide⟩
theorem xo_tripa : ReadsOp [116, 114, 105, 112, 32, 97] trpA 0 := .inl ⟨rfl, ⟨by decide +kernel, by decide +kernel⟩, by unfold OpV.In trpA; decide⟩
theorem xl4 : textLines ⟨#[116, 105, 99, 107, 32, 53, 10, 35, 32, 120, 10, 116, 114, 105, 112, 32, 97]⟩ = [⟨#[116, 105, 99, 107, 32, 53]⟩, ⟨#[35, 32, 120]⟩, ⟨#[116, 114, 105, 112, 32, 97]⟩] := by kernel_rfl
theorem xo4 : AllIs (textLines ⟨#[116, 105, 99, 107, 32, 53, 10, 35, 32, 120, 10, 116, 114, 105, 112, 32, 97]⟩) [tickV 5, trpA] 0 0 := by
  rw [xl4]
  refine .inl ⟨rfl, rfl, ?_⟩
  unfold LinesRead; rw [if_neg (by decide)]
  refine ⟨tickV 5, [trpA], xo_tick5, rfl, ?_⟩
  unfold LinesRead; rw [if_pos (by decide)]
  unfold LinesRead; rw [if_neg (by decide)]
  refine ⟨trpA, [], xo_tripa, rfl, ?_⟩
  unfold LinesRead; rfl
theorem xl6 : textLines ⟨#[116, 105, 99, 107, 32, 53, 10, 10, 120, 10]⟩ = [⟨#[116, 105, 99, 107, 32, 53]⟩, ⟨#[]⟩, ⟨#[120]⟩] := by kernel_rfl
theorem xo6 : AllIs (textLines ⟨#[116, 105, 99, 107, 32, 53, 10, 10, 120, 10]⟩) [] 3 10 := by
  rw [xl6]
  refine .inr ⟨rfl, rfl, 2, ⟨#[120]⟩, [tickV 5], rfl, by omega, by decide, reads_nosp (by decide), ?_⟩
  show LinesRead [⟨#[116, 105, 99, 107, 32, 53]⟩, ⟨#[]⟩] [tickV 5]
  unfold LinesRead; rw [if_neg (by decide)]
  refine ⟨tickV 5, [], xo_tick5, rfl, ?_⟩
  unfold LinesRead; rw [if_pos (by decide)]
  unfold LinesRead; rfl
theorem xo5 : normal [tickV 60000, tickV 60000, trpA, tickV 1, tickV 2] = [tickV 100000, tickV 20000, trpA, tickV 3] := by kernel_rfl
theorem xo5ok : AllOk [tickV 60000, tickV 60000, trpA, tickV 1, tickV 2] := by
  intro o ho
  simp only [List.mem_cons, List.not_mem_nil, or_false] at ho
  rcases ho with rfl | rfl | rfl | rfl | rfl <;> decide +kernel
end Lx
set_option maxRecDepth 100000 in
set_option maxHeartbeats 3200000 in
theorem opworks_any (w : World) (env : Env w) :
    Calls Tryd.prog 11 #[] w fun e w' => e = .returned (.bool true) ∧ Below w.heap.size w w' := by
  have H1 := Lib.hid (print_at ⟨2, 0, 1794851100, 0, false, ⟨#[]⟩⟩ ⟨#[106, 117, 109, 112, 32, 50, 48, 50, 54, 45, 49, 49, 45, 49, 54, 32, 49, 55, 58, 52, 53, 58, 48, 48]⟩ w env (by unfold Lx.OpV.In; decide) (by decide +kernel) Lx.xo1)
  have H2 := Lib.hid (fun W (E : Env W) => parse_at ⟨#[102, 105, 110, 105, 115, 104, 32, 51, 32, 111, 107]⟩ _ _ W E (by decide) Lx.xo2)
  have H3 := Lib.hid (fun W (E : Env W) => parse_at ⟨#[116, 105, 99, 107, 32, 32, 53]⟩ _ _ W E (by decide) Lx.xo3)
  have H4 := Lib.hid (fun W (E : Env W) => parseAll_at _ _ _ _ W E (by decide) Lx.xo4)
  have H6 := Lib.hid (fun W (E : Env W) => parseAll_at _ _ _ _ W E (by decide) Lx.xo6)
  unfold Lx.OpV.val at H1 H2 H3
  unfold Lx.opZ at H3
  go_enter Tryd.func11, Tryd.ntmps11
  go_wp2_with fail
  refine H1.out.mono ?_
  rintro e w1 ⟨rfl, b1⟩
  have e1 := env.below b1
  go_wp2_with fail
  refine (H2.out _ e1).mono ?_
  rintro e w2 ⟨rfl, c2⟩
  have b2 := b1.trans (c2.mono b1.size)
  have bo : Lx.OpBox (w2.alloc (.cells #[.int .i64 3, .int .i64 0, .int .i64 0, .int .i64 3, .bool true, .string ⟨#[]⟩] 23)) w2.heap.size ⟨3, 0, 0, 3, true, ⟨#[]⟩⟩ := Lx.OpBox.new _ _ _ _ _ _ _ _
  have b2a := b2.alloc b2.size (.cells #[.int .i64 3, .int .i64 0, .int .i64 0, .int .i64 3, .bool true, .string ⟨#[]⟩] 23)
  have BO := Lib.hid bo
  have B2 := Lib.hid b2a
  clear bo b1 c2 b2 b2a e1
  go_wp2_with fail
  refine (H3.out _ (env.below B2.out)).mono ?_
  rintro e w3 ⟨rfl, c3⟩
  have z3 : Below w3.heap.size w3 (w3.alloc (.cells #[.int .i64 0, .int .i64 0, .int .i64 0, .int .i64 0, .bool false, .string ⟨#[]⟩] 23)) := (Below.refl _ _).alloc (Nat.le_refl _) _
  have BO3 := Lib.hid ((BO.out.below c3).below z3)
  have B3 := Lib.hid ((B2.out.trans (c3.mono B2.out.size)).trans (z3.mono (B2.out.trans (c3.mono B2.out.size)).size))
  clear c3 BO B2 z3
  go_wp2_with fail
  refine (H4.out _ (env.below B3.out)).mono ?_
  rintro e w4 ⟨A4, cap4, rfl, l4, c4⟩
  have BO4 := Lib.hid (BO3.out.below c4)
  have L4 := Lib.hid l4
  have B4 := Lib.hid (B3.out.trans (c4.mono B3.out.size))
  clear c4 l4 BO3 B3
  go_wp2_with fail
  refine (tick_any 60000 _).mono ?_
  rintro e w5 ⟨rfl, c5⟩
  have BO5 := Lib.hid (BO4.out.below c5)
  have L5 := Lib.hid (L4.out.below c5)
  have B5 := Lib.hid (B4.out.trans (c5.mono B4.out.size))
  clear c5 BO4 L4 B4
  go_wp2_with fail
  refine (tick_any 60000 _).mono ?_
  rintro e w6 ⟨rfl, c6⟩
  have BO6 := Lib.hid (BO5.out.below c6)
  have L6 := Lib.hid (L5.out.below c6)
  have B6 := Lib.hid (B5.out.trans (c6.mono B5.out.size))
  clear c6 BO5 L5 B5
  go_wp2_with fail
  refine (tick_any 1 _).mono ?_
  rintro e w7 ⟨rfl, c7⟩
  have BO7 := Lib.hid (BO6.out.below c7)
  have L7 := Lib.hid (L6.out.below c7)
  have B7 := Lib.hid (B6.out.trans (c7.mono B6.out.size))
  clear c7 BO6 L6 B6
  go_wp2_with fail
  refine (tick_any 2 _).mono ?_
  rintro e w8 ⟨rfl, c8⟩
  have BO8 := Lib.hid (BO7.out.below c8)
  have L8 := Lib.hid (L7.out.below c8)
  have B8 := Lib.hid (B7.out.trans (c8.mono B7.out.size))
  clear c8 BO7 L7 B7
  have io := Lx.isOps_lit w8 #[.int .i64 1, .int .i64 60000, .int .i64 0, .int .i64 0, .bool false, .string ⟨#[]⟩, .int .i64 1, .int .i64 60000, .int .i64 0, .int .i64 0, .bool false, .string ⟨#[]⟩, .int .i64 5, .int .i64 0, .int .i64 0, .int .i64 0, .bool false, .string ⟨#[97]⟩, .int .i64 1, .int .i64 1, .int .i64 0, .int .i64 0, .bool false, .string ⟨#[]⟩, .int .i64 1, .int .i64 2, .int .i64 0, .int .i64 0, .bool false, .string ⟨#[]⟩] 23 5 [Lx.tickV 60000, Lx.tickV 60000, Lx.trpA, Lx.tickV 1, Lx.tickV 2] rfl rfl
  have HN := Lib.hid (normal_at _ 5 5 _ _ _ io (by intro o ho; simp only [List.mem_cons, List.not_mem_nil, or_false] at ho; rcases ho with rfl | rfl | rfl | rfl | rfl <;> decide) (by omega) Lx.xo5ok Lx.xo5)
  have z8 := (Below.refl w8.heap.size w8).alloc (Nat.le_refl _) (.cells #[.int .i64 1, .int .i64 60000, .int .i64 0, .int .i64 0, .bool false, .string ⟨#[]⟩, .int .i64 1, .int .i64 60000, .int .i64 0, .int .i64 0, .bool false, .string ⟨#[]⟩, .int .i64 5, .int .i64 0, .int .i64 0, .int .i64 0, .bool false, .string ⟨#[97]⟩, .int .i64 1, .int .i64 1, .int .i64 0, .int .i64 0, .bool false, .string ⟨#[]⟩, .int .i64 1, .int .i64 2, .int .i64 0, .int .i64 0, .bool false, .string ⟨#[]⟩] 23)
  have BO9 := Lib.hid (BO8.out.below z8)
  have L9 := Lib.hid (L8.out.below z8)
  have B9 := Lib.hid (B8.out.trans (z8.mono B8.out.size))
  clear io z8 BO8 L8 B8
  go_wp2_with fail
  refine HN.out.mono ?_
  rintro e w10 ⟨A10, cap10, rfl, l10, c10⟩
  have M10 := Lib.hid l10
  have BO10 := Lib.hid (BO9.out.below c10)
  have L10 := Lib.hid (L9.out.below c10)
  have B10 := Lib.hid (B9.out.trans (c10.mono B9.out.size))
  clear c10 l10 BO9 L9 B9 HN
  go_wp2_with fail
  refine (H6.out _ (env.below B10.out)).mono ?_
  rintro e w11 ⟨A11, cap11, rfl, -, c11⟩
  have M11 := Lib.hid (M10.out.below c11)
  have BO11 := Lib.hid (BO10.out.below c11)
  have L11 := Lib.hid (L10.out.below c11)
  have B11 := Lib.hid (B10.out.trans (c11.mono B10.out.size))
  clear c11 M10 BO10 L10 B10
  obtain ⟨q0, q1, q2, q3, q4, q5⟩ := BO11.out.six
  have heq : ∀ W, (Op.equalIn 10000 23 (.agg #[.int .i64 3, .int .i64 0, .int .i64 0, .int .i64 3, .bool true, .string ⟨#[]⟩]) (.agg #[.int .i64 3, .int .i64 0, .int .i64 0, .int .i64 3, .bool true, .string ⟨#[]⟩])).run Tryd.prog W = .ok true W := fun W => (eqOp _ _ _ _ _ _ _ _ _ _ _ _ W).trans (by simp)
  go_wp2_with fail
  refine (tick_any 5 _).mono ?_
  rintro e w12 ⟨rfl, c12⟩
  have M12 := Lib.hid (M11.out.below c12)
  have L12 := Lib.hid (L11.out.below c12)
  have B12 := Lib.hid (B11.out.trans (c12.mono B11.out.size))
  clear c12 q0 q1 q2 q3 q4 q5 heq M11 L11 B11 BO11
  go_wp2_with fail
  have io := Lx.isOps_lit w12 #[.int .i64 1, .int .i64 5, .int .i64 0, .int .i64 0, .bool false, .string ⟨#[]⟩, .int .i64 5, .int .i64 0, .int .i64 0, .int .i64 0, .bool false, .string ⟨#[97]⟩] 23 2 [Lx.tickV 5, Lx.trpA] rfl rfl
  have z12 := (Below.refl w12.heap.size w12).alloc (Nat.le_refl _) (.cells #[.int .i64 1, .int .i64 5, .int .i64 0, .int .i64 0, .bool false, .string ⟨#[]⟩, .int .i64 5, .int .i64 0, .int .i64 0, .int .i64 0, .bool false, .string ⟨#[97]⟩] 23)
  have HS1 := Lib.hid (same_any _ 2 cap4 _ _ 2 2 _ _ (L12.out.below z12) io (by omega) (by omega))
  unfold SameIs at HS1
  rw [Lx.sameB_yes rfl] at HS1
  have M13 := Lib.hid (M12.out.below z12)
  have B13 := Lib.hid (B12.out.trans (z12.mono B12.out.size))
  clear io z12
  refine HS1.out.mono ?_
  rintro e w14 ⟨rfl, c14⟩
  have M14 := Lib.hid (M13.out.below c14)
  have B14 := Lib.hid (B13.out.trans (c14.mono B13.out.size))
  clear c14 HS1 M13 B13 M12 L12 B12
  go_wp2_with fail
  refine (tick_any 100000 _).mono ?_
  rintro e w15 ⟨rfl, c15⟩
  have M15 := Lib.hid (M14.out.below c15)
  have B15 := Lib.hid (B14.out.trans (c15.mono B14.out.size))
  clear c15 M14 B14
  go_wp2_with fail
  refine (tick_any 20000 _).mono ?_
  rintro e w16 ⟨rfl, c16⟩
  have M16 := Lib.hid (M15.out.below c16)
  have B16 := Lib.hid (B15.out.trans (c16.mono B15.out.size))
  clear c16 M15 B15
  go_wp2_with fail
  refine (tick_any 3 _).mono ?_
  rintro e w17 ⟨rfl, c17⟩
  have M17 := Lib.hid (M16.out.below c17)
  have B17 := Lib.hid (B16.out.trans (c17.mono B16.out.size))
  clear c17 M16 B16
  go_wp2_with fail
  have io := Lx.isOps_lit w17 #[.int .i64 1, .int .i64 100000, .int .i64 0, .int .i64 0, .bool false, .string ⟨#[]⟩, .int .i64 1, .int .i64 20000, .int .i64 0, .int .i64 0, .bool false, .string ⟨#[]⟩, .int .i64 5, .int .i64 0, .int .i64 0, .int .i64 0, .bool false, .string ⟨#[97]⟩, .int .i64 1, .int .i64 3, .int .i64 0, .int .i64 0, .bool false, .string ⟨#[]⟩] 23 4 [Lx.tickV 100000, Lx.tickV 20000, Lx.trpA, Lx.tickV 3] rfl rfl
  have z17 := (Below.refl w17.heap.size w17).alloc (Nat.le_refl _) (.cells #[.int .i64 1, .int .i64 100000, .int .i64 0, .int .i64 0, .bool false, .string ⟨#[]⟩, .int .i64 1, .int .i64 20000, .int .i64 0, .int .i64 0, .bool false, .string ⟨#[]⟩, .int .i64 5, .int .i64 0, .int .i64 0, .int .i64 0, .bool false, .string ⟨#[97]⟩, .int .i64 1, .int .i64 3, .int .i64 0, .int .i64 0, .bool false, .string ⟨#[]⟩] 23)
  have HS2 := Lib.hid (same_any _ 4 cap10 _ _ 4 4 _ _ (M17.out.below z17) io (by omega) (by omega))
  unfold SameIs at HS2
  rw [Lx.sameB_yes rfl] at HS2
  have B18 := Lib.hid (B17.out.trans (z17.mono B17.out.size))
  clear io z17
  refine HS2.out.mono ?_
  rintro e w19 ⟨rfl, c19⟩
  have B19 := Lib.hid (B18.out.trans (c19.mono B18.out.size))
  clear c19 HS2
  go_wp2_with fail
  go_ret
  exact ⟨rfl, B19.out⟩
end Go.Proofs.YtnnkamfpcodnnaaDoor
