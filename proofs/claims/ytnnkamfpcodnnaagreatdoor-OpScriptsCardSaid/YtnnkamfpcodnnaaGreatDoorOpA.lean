/- The walk of op.ParseAll. -/
import Derived.Test.YtnnkamfpcodnnaaGreatDoorOpL
import Derived.Test.YtnnkamfpcodnnaaGreatDoorLines
import Derived.Test.YtnnkamfpcodnnaaGreatDoorRead
import Derived.Test.YtnnkamfpcodnnaaGreatDoorBackLx
import Derived.Test.YtnnkamfpcodnnaaGreatDoorRow
namespace Go.Proofs.YtnnkamfpcodnnaaGreatDoor
open Go.RowKit

namespace Lx
def skipL (l : List UInt8) : Bool := l.isEmpty || l.head? == some 35
/-- What lines are read as: those that are neither empty nor comments, each as an operation. -/
def LinesRead : List ByteArray → List OpV → Prop
  | [], out => out = []
  | l :: t, out => if skipL l.data.toList = true then LinesRead t out else ∃ o rest, ReadsOp l.data.toList o 0 ∧ out = o :: rest ∧ LinesRead t rest
theorem linesRead_snoc_skip : ∀ {ls : List ByteArray} {l : ByteArray} {out : List OpV}, LinesRead ls out → skipL l.data.toList = true → LinesRead (ls ++ [l]) out
  | [], l, out, h, hs => by
    unfold LinesRead at h
    subst h
    show LinesRead [l] []
    unfold LinesRead; rw [if_pos hs]; unfold LinesRead; rfl
  | a :: t, l, out, h, hs => by
    rw [List.cons_append]
    unfold LinesRead at h ⊢
    split
    · rename_i ha
      rw [if_pos ha] at h
      exact linesRead_snoc_skip h hs
    · rename_i ha
      rw [if_neg ha] at h
      obtain ⟨o, rest, h1, h2, h3⟩ := h
      exact ⟨o, rest, h1, h2, linesRead_snoc_skip h3 hs⟩
theorem linesRead_snoc : ∀ {ls : List ByteArray} {l : ByteArray} {out : List OpV} {o : OpV}, LinesRead ls out → skipL l.data.toList = false → ReadsOp l.data.toList o 0 → LinesRead (ls ++ [l]) (out ++ [o])
  | [], l, out, o, h, hs, hr => by
    unfold LinesRead at h
    subst h
    show LinesRead [l] [o]
    unfold LinesRead; rw [if_neg (by rw [hs]; decide)]
    exact ⟨o, [], hr, rfl, by unfold LinesRead; rfl⟩
  | a :: t, l, out, o, h, hs, hr => by
    rw [List.cons_append]
    unfold LinesRead at h ⊢
    split
    · rename_i ha
      rw [if_pos ha] at h
      exact linesRead_snoc h hs hr
    · rename_i ha
      rw [if_neg ha] at h
      obtain ⟨o', rest, h1, h2, h3⟩ := h
      exact ⟨o', rest ++ [o], h1, by rw [h2]; rfl, linesRead_snoc h3 hs hr⟩
theorem linesRead_len : ∀ {ls : List ByteArray} {out : List OpV}, LinesRead ls out → out.length ≤ ls.length
  | [], out, h => by unfold LinesRead at h; subst h; exact Nat.le_refl _
  | a :: t, out, h => by
    unfold LinesRead at h
    split at h
    · have := linesRead_len h; rw [List.length_cons]; omega
    · obtain ⟨o, rest, _, rfl, h3⟩ := h
      have := linesRead_len h3
      rw [List.length_cons, List.length_cons]; omega
def opCells (l : List OpV) : List Value := l.flatMap OpV.cells
theorem opCells_snoc (l : List OpV) (o : OpV) : opCells (l ++ [o]) = opCells l ++ o.cells := by simp [opCells]
theorem opCells_get : ∀ {l : List OpV} {i : Nat} {o : OpV}, l[i]? = some o → ∀ (j : Nat) (v : Value), o.cells[j]? = some v → (opCells l)[i * 6 + j]? = some v
  | [], i, o, h, _, _, _ => by simp at h
  | a :: t, 0, o, h, j, v, hv => by
    simp at h; subst h
    show (a.cells ++ opCells t)[0 * 6 + j]? = some v
    have hj : j < a.cells.length := (List.getElem?_eq_some_iff.1 hv).1
    rw [Nat.zero_mul, Nat.zero_add, List.getElem?_append_left hj]; exact hv
  | a :: t, i + 1, o, h, j, v, hv => by
    show (a.cells ++ opCells t)[(i + 1) * 6 + j]? = some v
    have h6 : a.cells.length = 6 := rfl
    rw [List.getElem?_append_right (by rw [h6]; omega), h6, show (i + 1) * 6 + j - 6 = i * 6 + j by omega]
    exact opCells_get (by simpa using h) j v hv
theorem row_isOps {w : World} {base cap n : Nat} {A : Option Addr} {e : TypeId} {L : List OpV} (h : w.ownsRow base e 6 (.slice A n cap) n (opCells L)) (hn : L.length = n) : IsOps w A n L := by
  refine ⟨hn, fun h0 => ?_⟩
  obtain ⟨g, hA, lt, hc⟩ := row_read h h0
  refine ⟨g, 0, hA, lt, fun i o hi j v hv => ?_⟩
  rw [Nat.zero_add]
  exact hc _ _ (opCells_get hi j v hv)
/-- What all lines of a text are read as: operations, or the number of the first line that is none. -/
def AllIs (ls : List ByteArray) (out : List OpV) (n e : Int) : Prop :=
  (e = 0 ∧ n = 0 ∧ LinesRead ls out) ∨ (e = 10 ∧ out = [] ∧ ∃ (k : Nat) (l : ByteArray) (some' : List OpV), ls[k]? = some l ∧ n = (k : Int) + 1 ∧ skipL l.data.toList = false ∧ ReadsOp l.data.toList opZ 10 ∧ LinesRead (ls.take k) some')
def textLines (s : ByteArray) : List ByteArray := (linesOf s.size (pieces s isLF)).map (·.2)
theorem cell_six_new (w : World) (o : OpV) (t : TypeId) : ∀ j u, o.cells[j]? = some u → (w.alloc (.cells #[.int .i64 o.k, .int .i64 o.d, .int .i64 o.t, .int .i64 o.r, .bool o.ok, .string o.job] t)).cell? ((⟨w.heap.size, 0, none⟩ : Addr).add j) = some u := by
  intro j u hj
  unfold OpV.cells at hj
  match j, hj with
  | 0, hj => simp at hj; subst hj; simp [Addr.add]
  | 1, hj => simp at hj; subst hj; simp [Addr.add]
  | 2, hj => simp at hj; subst hj; simp [Addr.add]
  | 3, hj => simp at hj; subst hj; simp [Addr.add]
  | 4, hj => simp at hj; subst hj; simp [Addr.add]
  | 5, hj => simp at hj; subst hj; simp [Addr.add]
theorem skip_empty {s : ByteArray} (h : s.size = 0) : skipL s.data.toList = true := by
  rw [nil_of_size h]; rfl
theorem skip_head {s : ByteArray} (h : 0 < s.size) : skipL s.data.toList = ((s[0].toNat : Int) == 35) := by
  unfold skipL
  rw [head_of s h]
  have he : s.data.toList.isEmpty = false := by
    cases hc : s.data.toList with
    | nil => rw [Lib.size_eq, hc] at h; simp at h
    | cons a t => rfl
  rw [he, Bool.false_or, Bool.eq_iff_iff, beq_iff_eq, beq_iff_eq]
  constructor
  · intro e; have := Option.some.inj e; rw [this]; rfl
  · intro e
    congr 1
    apply UInt8.toNat_inj.1
    show s[0].toNat = 35
    omega
end Lx
theorem infoOp : (Tryz.prog.info? 40).map (fun i => (i.zero, i.size, i.bytes)) = some (some (.agg #[.int .i64 0, .int .i64 0, .int .i64 0, .int .i64 0, .bool false, .string ⟨#[]⟩]), 6, 56) := by kernel_rfl
/-- What ParseAll gives: the slice in a row of its own. -/
def AllPost (ls : List ByteArray) (w : World) (e : Ending) (w' : World) : Prop := ∃ v out n x, e = .returned (.tuple #[v, .int .i64 n, .int .i64 x]) ∧ Lx.AllIs ls out n x ∧ w'.ownsRow w.heap.size 40 6 v out.length (Lx.opCells out) ∧ Below w.heap.size w w'
theorem Lx.ownBelowO {w w' : World} {base : Nat} {e : TypeId} {size n : Nat} {v : Value} {xs : List Value} (h : w.ownsRow base e size v n xs) (hb : Below w.heap.size w w') : w'.ownsRow base e size v n xs := by
  refine ⟨h.1, ?_⟩
  rcases h.2 with h0 | ⟨g, cap, cur, h1, h2, h3, h4⟩
  · exact .inl h0
  · exact .inr ⟨g, cap, cur, h1, h2, (hb.block g (Array.getElem?_eq_some_iff.1 h3).1).trans h3, h4⟩
theorem own_base {w : World} {b b' : Nat} {e : TypeId} {size n : Nat} {v : Value} {xs : List Value} (h : w.ownsRow b e size v n xs) (hb : b' ≤ b) : w.ownsRow b' e size v n xs := by
  refine ⟨h.1, ?_⟩
  rcases h.2 with h0 | ⟨g, cap, cur, h1, h2, h3, h4⟩
  · exact .inl h0
  · exact .inr ⟨g, cap, cur, h1, Nat.le_trans hb h2, h3, h4⟩
set_option maxRecDepth 100000 in
set_option maxHeartbeats 3200000 in
theorem parseAll_any (s : ByteArray) (w : World) (env : Env w) (hs : s.size ≤ 65536) :
    Calls Tryz.prog 6 #[.string s] w (AllPost (Lx.textLines s) w) := by
  obtain ⟨i0, hi, hz0, hz1, hz2⟩ := info_parts infoOp
  have HL := Lib.hid (fun W => lines_any s W hs)
  have hG := (Lx.lines_good s).1
  have hlen : (Lx.linesOf s.size (Lx.pieces s isLF)).length ≤ 65537 := by
    have := Lx.pieces_le s isLF
    have := List.length_filter_le (fun x : Nat × ByteArray => decide (x.1 < s.size)) (Lx.pieces s isLF)
    unfold Lx.linesOf; omega
  unfold Lx.textLines
  generalize Lx.linesOf s.size (Lx.pieces s isLF) = L at *
  obtain ⟨m, hm⟩ : ∃ m, L.length = m := ⟨_, rfl⟩
  rw [hm] at HL hlen
  have HG := Lib.hid hG
  have Hm := Lib.hid hm
  clear hG hm
  go_enter Tryz.func6, Tryz.ntmps6
  go_wp2_with fail
  refine (HL.out _).mono ?_
  rintro e w1 ⟨v1, rfl, hown1, hb1⟩
  obtain ⟨A1, c1, rfl⟩ := Lx.slice_of_row hown1
  have hread := Lib.hid (Lx.row_read hown1)
  clear hown1
  go_wp2_with fail
  go_loopw [7, 22] (fun tx i wr => ∃ (k : Nat) (out : List Lx.OpV), k ≤ m ∧ i = .int .i64 k ∧ Lx.LinesRead ((L.take k).map (·.2)) out ∧ wr.ownsRow w1.heap.size 40 6 tx out.length (Lx.opCells out) ∧ Below w1.heap.size w1 wr) (fun _ i _ => m - (intOf i).toNat)
  case atStart => exact ⟨0, [], Nat.zero_le _, rfl, rfl, World.ownsRow_nil _ _ _ _, Below.refl _ _⟩
  case round =>
    obtain ⟨k, out, hk, rfl, hlr, hrow, hbel⟩ := hrel
    have hol : out.length ≤ k := by
      have := Lx.linesRead_len hlr
      rw [List.length_map, List.length_take] at this; omega
    obtain ⟨q, hq⟩ : ∃ q, q = out.length := ⟨_, rfl⟩
    rw [← hq] at hol hrow
    obtain ⟨ad, cap, rfl⟩ := Lx.slice_of_row hrow
    have Hrow := Lib.hid hrow
    have Hlr := Lib.hid hlr
    have Hbel := Lib.hid hbel
    have Hq := Lib.hid hq
    clear hrow hlr hbel hq
    by_cases hlt : k < m
    · obtain ⟨x, hx⟩ : ∃ x, L[k]? = some x := ⟨_, List.getElem?_eq_getElem (by rw [Hm.out]; exact hlt)⟩
      obtain ⟨g1, rfl, lt1, hc1⟩ := hread.out (by omega)
      obtain ⟨q0, q1, q2⟩ := Lx.lineCells_get L k x hx
      have r0 := (Hbel.out.cell (p := ⟨g1, k * 3, none⟩) lt1).trans (hc1 _ _ q0)
      have r1 := (Hbel.out.cell (p := ⟨g1, k * 3 + 1, none⟩) lt1).trans (hc1 _ _ q1)
      have r2 := (Hbel.out.cell (p := ⟨g1, k * 3 + 2, none⟩) lt1).trans (hc1 _ _ q2)
      have htk : (L.take (k + 1)).map (·.2) = (L.take k).map (·.2) ++ [x.2] := by
        obtain ⟨hk', hv⟩ := List.getElem?_eq_some_iff.1 hx
        rw [List.take_succ_eq_append_getElem hk', hv, List.map_append]; rfl
      have hxs : x.2.size ≤ 65536 := by have := (HG.out k x hx).2.2.1; omega
      have hLk : (L.map (·.2))[k]? = some x.2 := by rw [List.getElem?_map, hx]; rfl
      obtain ⟨x1, x2⟩ := x
      have hxs2 : x2.size ≤ 65536 := hxs
      clear hxs
      have Htk := Lib.hid htk
      have HLk := Lib.hid hLk
      have hki : (k : Int) < (m : Int) := by omega
      have hkb : (k : Int) ≤ 65537 := by omega
      clear q0 q1 q2 hc1 htk hLk hx
      by_cases h0 : x2.size = 0
      · have heb := Lx.streq h0
        have hsk := Lib.hid (Lx.linesRead_snoc_skip Hlr.out (Lx.skip_empty h0))
        clear h0
        go_wp2_with fail
        go_roundw
        case rel => exact ⟨k + 1, out, by omega, by go_num, by rw [Htk.out]; exact hsk.out, by rw [← Hq.out]; exact Hrow.out.alloc _, Hbel.out.alloc Hbel.out.size _⟩
        case measure => simp [intOf]; omega
      · have heb := Lx.strne h0
        have hp : 0 < x2.size := by omega
        have hpi : (0 : Int) < (x2.size : Int) := by omega
        have hskip := Lx.skip_head hp
        clear h0
        by_cases h35 : ((x2[0].toNat : Int) == 35) = true
        · have hsk := Lib.hid (Lx.linesRead_snoc_skip Hlr.out (hskip.trans h35))
          clear hskip
          go_wp2_with fail
          go_roundw
          case rel => exact ⟨k + 1, out, by omega, by go_num, by rw [Htk.out]; exact hsk.out, by rw [← Hq.out]; exact Hrow.out.alloc _, Hbel.out.alloc Hbel.out.size _⟩
          case measure => simp [intOf]; omega
        · have h35' : ((x2[0].toNat : Int) == 35) = false := by simpa using h35
          have hns := Lib.hid (hskip.trans h35')
          have HP := Lib.hid (fun W (E : Env W) => op_parse x2 W E (by omega))
          clear h35 hskip
          have hbx := Hbel.out.alloc Hbel.out.size (.cells #[.int .i64 ((k : Int) + 1), .int .i64 (x1 : Int), .string x2] 48)
          have Hrow1 := Lib.hid (Hrow.out.alloc (.cells #[.int .i64 ((k : Int) + 1), .int .i64 (x1 : Int), .string x2] 48))
          have HBX := Lib.hid hbx
          clear hbx
          go_wp2_with fail
          refine (HP.out _ (env.below (hb1.trans (HBX.out.mono hb1.size)))).mono ?_
          rintro e w5 ⟨⟨ok, od, ot, or, oo, oj⟩, x, rfl, hro, hb5⟩
          unfold Lx.OpV.val
          dsimp only
          have l0 := Lx.boxCell hb5 0 _ rfl
          have hlx := Lx.boxLt hb5
          have HB5 := Lib.hid (HBX.out.trans (hb5.mono HBX.out.size))
          have Hrow5 := Lib.hid (Lx.ownBelowO Hrow1.out hb5)
          clear hb5 r0 r1 r2
          rcases hro with ⟨rfl, hp, hin⟩ | ⟨rfl, hz, hno⟩
          · have hrd : Lx.ReadsOp x2.data.toList ⟨ok, od, ot, or, oo, oj⟩ 0 := .inl ⟨rfl, hp, hin⟩
            have hsn := Lib.hid (Lx.linesRead_snoc Hlr.out hns.out hrd)
            have hoc := Lib.hid (Lx.opCells_snoc out ⟨ok, od, ot, or, oo, oj⟩)
            have hcs : ∀ j u, ([.int .i64 ok, .int .i64 od, .int .i64 ot, .int .i64 or, .bool oo, .string oj] : List Value)[j]? = some u → ((w5.alloc (.cells #[.int .i64 ok, .int .i64 od, .int .i64 ot, .int .i64 or, .bool oo, .string oj] 40)).alloc (.cells #[.int .i64 ok, .int .i64 od, .int .i64 ot, .int .i64 or, .bool oo, .string oj] 40)).cell? ((⟨w5.heap.size + 1, 0, none⟩ : Addr).add j) = some u := by
              have := Lx.cell_six_new (w5.alloc (.cells #[.int .i64 ok, .int .i64 od, .int .i64 ot, .int .i64 or, .bool oo, .string oj] 40)) ⟨ok, od, ot, or, oo, oj⟩ 40
              rw [World.size_alloc] at this
              exact this
            have HCS := Lib.hid hcs
            have hbz := HB5.out.size
            clear hp hin hrd hcs
            go_wp2_with (at_builtin; refine wpList_append_own _ rfl _ _ 23 rfl w1.heap.size 40 i0 _ 6 56 Tryz.underlying23 hi hz0 hz1 hz2 rfl (by decide) _ _ _ rfl ((Hrow5.out.alloc _).alloc _) ⟨w5.heap.size + 1, 0, none⟩ 1 1 [.int .i64 ok, .int .i64 od, .int .i64 ot, .int .i64 or, .bool oo, .string oj] rfl rfl HCS.out (by simp [Value.oneCell']) (by unfold maxLen; omega) (by omega) (by simp; omega) ?_)
            intro v' w6 hown' hgrow _
            have hb6 := ((HB5.out.alloc HB5.out.size (.cells #[.int .i64 ok, .int .i64 od, .int .i64 ot, .int .i64 or, .bool oo, .string oj] 40)).alloc (HB5.out.alloc HB5.out.size _).size (.cells #[.int .i64 ok, .int .i64 od, .int .i64 ot, .int .i64 or, .bool oo, .string oj] 40)).grown hgrow (by simp; omega) (Lx.ownBase Hrow5.out)
            clear hgrow
            go_wp2_with fail
            go_roundw
            case rel => exact ⟨k + 1, out ++ [⟨ok, od, ot, or, oo, oj⟩], by omega, by go_num, by rw [Htk.out]; exact hsn.out, by rw [List.length_append, ← Hq.out, hoc.out]; exact hown', hb6⟩
            case measure => simp [intOf]; omega
          · have Hno := Lib.hid hno
            injection hz with z1 z2 z3 z4 z5 z6
            subst z1 z2 z3 z4 z5 z6
            clear hno
            go_wp2_with fail
            go_quiet (fail)
            go_wp2_with fail
            go_ret3
            exact ⟨_, [], _, _, rfl, .inr ⟨rfl, rfl, k, x2, out, HLk.out, rfl, hns.out, Lx.reads_no Hno.out, by rw [← List.map_take]; exact Hlr.out⟩, World.ownsRow_nil _ _ _ _, ((hb1.trans (HB5.out.mono hb1.size)).alloc (hb1.trans (HB5.out.mono hb1.size)).size _).trans (below_drewN _ _ _)⟩
    · obtain rfl : k = m := by omega
      have htm : L.take k = L := List.take_of_length_le (by rw [Hm.out]; exact Nat.le_refl _)
      have hlr := Hlr.out
      rw [htm] at hlr
      have HLR := Lib.hid hlr
      clear hlr htm
      go_wp2_with fail
      go_ret3
      exact ⟨_, out, _, _, rfl, .inl ⟨rfl, rfl, HLR.out⟩, by rw [← Hq.out]; exact own_base Hrow.out hb1.size, hb1.trans (Hbel.out.mono hb1.size)⟩
theorem parseAll_long (s : ByteArray) (w : World) (hs : 65536 < s.size) :
    Calls Tryz.prog 6 #[.string s] w fun e w' => e = .returned (.tuple #[.slice none 0 0, .int .i64 0, .int .i64 11]) ∧ Below w.heap.size w w' := by
  have HL := Lib.hid (fun W => lines_long s W hs)
  go_enter Tryz.func6, Tryz.ntmps6
  go_wp2_with fail
  refine (HL.out _).mono ?_
  rintro e w1 ⟨rfl, hb1⟩
  go_wp2_with fail
  go_ret3
  exact ⟨rfl, hb1⟩
end Go.Proofs.YtnnkamfpcodnnaaGreatDoor
