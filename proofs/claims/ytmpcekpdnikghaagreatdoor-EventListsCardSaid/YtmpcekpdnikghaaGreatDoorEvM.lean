/- The walk of event.ParseAll. -/
import Derived.Test.YtmpcekpdnikghaaGreatDoorEvL
import Derived.Test.YtmpcekpdnikghaaGreatDoorBox
import Derived.Laws.AppendOwn
namespace Go.Proofs.YtmpcekpdnikghaaGreatDoor
open Go.RowKit

theorem infoEv : (Tryz.prog.info? 26).map (fun i => (i.zero, i.size, i.bytes)) = some (some (.agg #[.int .i64 0, .int .i64 0, .int .i64 0, .int .i64 0, .int .i64 0, .int .i64 0, .int .i64 0, .int .i64 0]), 8, 64) := by kernel_rfl
namespace Lx
theorem cell_eight_new (w : World) (o : EvV) (t : TypeId) : ∀ j u, o.cells[j]? = some u → (w.alloc (.cells #[.int .i64 o.k, .int .i64 o.t, .int .i64 o.j, .int .i64 o.d, .int .i64 o.a, .int .i64 o.r, .int .i64 o.y, .int .i64 o.n] t)).cell? ((⟨w.heap.size, 0, none⟩ : Addr).add j) = some u := by
  intro j u hj
  unfold EvV.cells at hj
  match j, hj with
  | 0, hj => simp at hj; subst hj; simp [Addr.add]
  | 1, hj => simp at hj; subst hj; simp [Addr.add]
  | 2, hj => simp at hj; subst hj; simp [Addr.add]
  | 3, hj => simp at hj; subst hj; simp [Addr.add]
  | 4, hj => simp at hj; subst hj; simp [Addr.add]
  | 5, hj => simp at hj; subst hj; simp [Addr.add]
  | 6, hj => simp at hj; subst hj; simp [Addr.add]
  | 7, hj => simp at hj; subst hj; simp [Addr.add]
theorem ownBaseTo {w : World} {b b' : Nat} {e : TypeId} {size n : Nat} {v : Value} {xs : List Value} (h : w.ownsRow b e size v n xs) (hb : b' ≤ b) : w.ownsRow b' e size v n xs := by
  refine ⟨h.1, ?_⟩
  rcases h.2 with h0 | ⟨g, cap, cur, h1, h2, h3, h4⟩
  · exact .inl h0
  · exact .inr ⟨g, cap, cur, h1, Nat.le_trans hb h2, h3, h4⟩
end Lx
/-- What ParseAll gives: the slice in a row of its own. -/
def AllPostE (NS : List ByteArray) (s : ByteArray) (w : World) (e : Ending) (w' : World) : Prop := ∃ v out n x, e = .returned (.tuple #[v, .int .i64 n, .int .i64 x]) ∧ Lx.ParseAllEv NS s out n x ∧ w'.ownsRow w.heap.size 26 8 v out.length (Lx.evCells out) ∧ Below w.heap.size w w'
set_option maxRecDepth 100000 in
set_option maxHeartbeats 3200000 in
theorem evparseAll_any (s : ByteArray) (ad : Option Addr) (m cap : Nat) (NS : List ByteArray) (w : World) (env : EEnv w) (h : Lx.IsNames w ad m NS) (hz : ∀ x ∈ NS, x.size ≤ maxLen) (hm : m ≤ maxLen) :
    Calls Tryz.prog 9 #[.string s, .slice ad m cap] w (AllPostE NS s w) := by
  have HN2 := Lib.hid (names_any ad m cap NS w h hz hm)
  by_cases hn : Lx.nmErr NS = 0
  · rw [hn] at HN2
    have HNN := Lib.hid hn
    by_cases hbig : 65536 < s.size
    · have HL := Lib.hid (fun W => lines_long s W hbig)
      have HBG := Lib.hid hbig
      clear h hz env hn hm hbig
      go_enter Tryz.func9, Tryz.ntmps9
      go_wp2_with fail
      refine HN2.out.mono ?_
      rintro e w1 ⟨rfl, c1⟩
      go_wp2_with fail
      refine (HL.out _).mono ?_
      rintro e w2 ⟨rfl, c2⟩
      go_wp2_with fail
      go_ret3
      exact ⟨_, [], 0, 11, rfl, .inr (.inl ⟨HNN.out, HBG.out, rfl, rfl, rfl⟩), World.ownsRow_nil _ _ _ _, c1.trans (c2.mono c1.size)⟩
    obtain ⟨i0, hi, hz0, hz1, hz2⟩ := info_parts infoEv
    have hs' : s.size ≤ 65536 := by omega
    have HL := Lib.hid (fun W => lines_any s W hs')
    have hG := (Lx.lines_good s).1
    have hlen : (Lx.linesOf s.size (Lx.pieces s isLF)).length ≤ 65537 := by
      have := Lx.pieces_le s isLF
      have := List.length_filter_le (fun x : Nat × ByteArray => decide (x.1 < s.size)) (Lx.pieces s isLF)
      unfold Lx.linesOf; omega
    have HR := Lib.hid (fun (x : ByteArray) W (hx : x.size ≤ 65536) (b : Below w.heap.size w W) => read_any x ad m cap NS W (env.below b) (h.below b) ((Lx.nmErr_ok NS).1 hn) hx)
    unfold ReadEv at HR
    have HFIN := Lib.hid (show ∀ out n x, Lx.AllEv NS (Lx.txL s) out n x → Lx.ParseAllEv NS s out n x from fun out n x ha => .inr (.inr ⟨hn, hs', ha⟩))
    have HS16 := Lib.hid hs'
    unfold Lx.txL at HFIN
    clear h hz env hm hn hbig hs'
    generalize Lx.linesOf s.size (Lx.pieces s isLF) = L at *
    obtain ⟨q, hq⟩ : ∃ q, L.length = q := ⟨_, rfl⟩
    rw [hq] at HL hlen
    have HG := Lib.hid hG
    have Hq := Lib.hid hq
    clear hG hq
    go_enter Tryz.func9, Tryz.ntmps9
    go_wp2_with fail
    refine HN2.out.mono ?_
    rintro e w0 ⟨rfl, c0⟩
    have C0 := Lib.hid c0
    clear c0
    go_wp2_with fail
    refine (HL.out _).mono ?_
    rintro e w1 ⟨v1, rfl, hown1, hb1⟩
    obtain ⟨A1, cp1, rfl⟩ := Lx.slice_of_row hown1
    have hread := Lib.hid (Lx.row_read hown1)
    have CB := Lib.hid (C0.out.trans (hb1.mono C0.out.size))
    clear hown1 hb1 C0
    go_wp2_with fail
    go_loopw [10, 30] (fun tx i wr => ∃ (k : Nat) (out : List Lx.EvV), k ≤ q ∧ i = .int .i64 k ∧ Lx.LinesEv NS ((L.take k).map (·.2)) out ∧ wr.ownsRow w1.heap.size 26 8 tx out.length (Lx.evCells out) ∧ Below w1.heap.size w1 wr) (fun _ i _ => q - (intOf i).toNat)
    case atStart => exact ⟨0, [], Nat.zero_le _, rfl, rfl, World.ownsRow_nil _ _ _ _, Below.refl _ _⟩
    case round =>
      obtain ⟨k, out, hk, rfl, hlr, hrow, hbel⟩ := hrel
      have hol : out.length ≤ k := by
        have := Lx.linesEv_len hlr
        rw [List.length_map, List.length_take] at this; omega
      obtain ⟨p, hp⟩ : ∃ p, p = out.length := ⟨_, rfl⟩
      rw [← hp] at hol hrow
      obtain ⟨a1, cap1, rfl⟩ := Lx.slice_of_row hrow
      have Hrow := Lib.hid hrow
      have Hlr := Lib.hid hlr
      have Hbel := Lib.hid hbel
      have Hp := Lib.hid hp
      clear hrow hlr hbel hp
      by_cases hlt : k < q
      · obtain ⟨x, hx⟩ : ∃ x, L[k]? = some x := ⟨_, List.getElem?_eq_getElem (by rw [Hq.out]; exact hlt)⟩
        obtain ⟨g1, rfl, lt1, hc1⟩ := hread.out (by omega)
        obtain ⟨q0, q1, q2⟩ := Lx.lineCells_get L k x hx
        have r0 := (Hbel.out.cell (p := ⟨g1, k * 3, none⟩) lt1).trans (hc1 _ _ q0)
        have r1 := (Hbel.out.cell (p := ⟨g1, k * 3 + 1, none⟩) lt1).trans (hc1 _ _ q1)
        have r2 := (Hbel.out.cell (p := ⟨g1, k * 3 + 2, none⟩) lt1).trans (hc1 _ _ q2)
        have htk : (L.take (k + 1)).map (·.2) = (L.take k).map (·.2) ++ [x.2] := by
          obtain ⟨hk', hv⟩ := List.getElem?_eq_some_iff.1 hx
          rw [List.take_succ_eq_append_getElem hk', hv, List.map_append]; rfl
        have hxs : x.2.size ≤ 65536 := by have := (HG.out k x hx).2.2.1; have := HS16.out; omega
        have hLk : (L.map (·.2))[k]? = some x.2 := by rw [List.getElem?_map, hx]; rfl
        obtain ⟨x1, x2⟩ := x
        have HXS := Lib.hid (show x2.size ≤ 65536 from hxs)
        clear hxs
        have Htk := Lib.hid htk
        have HLk := Lib.hid hLk
        have hki : (k : Int) < (q : Int) := by omega
        have hkb : (k : Int) ≤ 65537 := by omega
        have hbx := Hbel.out.alloc Hbel.out.size (.cells #[.int .i64 ((k : Int) + 1), .int .i64 (x1 : Int), .string x2] 51)
        have Hrow1 := Lib.hid (Hrow.out.alloc (.cells #[.int .i64 ((k : Int) + 1), .int .i64 (x1 : Int), .string x2] 51))
        have HBX := Lib.hid hbx
        clear q0 q1 q2 hc1 htk hLk hx hbx
        go_wp2_with fail
        refine (HR.out x2 _ HXS.out (CB.out.trans (HBX.out.mono CB.out.size))).mono ?_
        rintro e w5 ⟨⟨ok, ot, oj, od, oa, or, oy, on⟩, x, rfl, hro, hb5⟩
        unfold Lx.EvV.val
        dsimp only
        have l0 := Lx.boxCell hb5 0 _ rfl
        have hlx := Lx.boxLt hb5
        have HB5 := Lib.hid (HBX.out.trans (hb5.mono HBX.out.size))
        have Hrow5 := Lib.hid (Lx.ownBelowO Hrow1.out hb5)
        clear hb5 r0 r1 r2
        rcases hro with ⟨rfl, hp⟩ | ⟨rfl, hzz, hno⟩
        · have hrd : Lx.ReadsEv NS x2.data.toList ⟨ok, ot, oj, od, oa, or, oy, on⟩ 0 := .inl ⟨rfl, hp⟩
          have hsn := Lib.hid (Lx.linesEv_snoc Hlr.out hrd)
          have hoc := Lib.hid (Lx.evCells_snoc out ⟨ok, ot, oj, od, oa, or, oy, on⟩)
          have hcs : ∀ j u, ([.int .i64 ok, .int .i64 ot, .int .i64 oj, .int .i64 od, .int .i64 oa, .int .i64 or, .int .i64 oy, .int .i64 on] : List Value)[j]? = some u → ((w5.alloc (.cells #[.int .i64 ok, .int .i64 ot, .int .i64 oj, .int .i64 od, .int .i64 oa, .int .i64 or, .int .i64 oy, .int .i64 on] 26)).alloc (.cells #[.int .i64 ok, .int .i64 ot, .int .i64 oj, .int .i64 od, .int .i64 oa, .int .i64 or, .int .i64 oy, .int .i64 on] 26)).cell? ((⟨w5.heap.size + 1, 0, none⟩ : Addr).add j) = some u := by
            have := Lx.cell_eight_new (w5.alloc (.cells #[.int .i64 ok, .int .i64 ot, .int .i64 oj, .int .i64 od, .int .i64 oa, .int .i64 or, .int .i64 oy, .int .i64 on] 26)) ⟨ok, ot, oj, od, oa, or, oy, on⟩ 26
            rw [World.size_alloc] at this
            exact this
          have HCS := Lib.hid hcs
          have hbz := HB5.out.size
          clear hp hrd hcs
          go_wp2_with (at_builtin; refine wpList_append_own _ rfl _ _ 30 rfl w1.heap.size 26 i0 _ 8 64 Tryz.underlying30 hi hz0 hz1 hz2 rfl (by decide) _ _ _ rfl ((Hrow5.out.alloc _).alloc _) ⟨w5.heap.size + 1, 0, none⟩ 1 1 [.int .i64 ok, .int .i64 ot, .int .i64 oj, .int .i64 od, .int .i64 oa, .int .i64 or, .int .i64 oy, .int .i64 on] rfl rfl HCS.out (by simp [Value.oneCell']) (by unfold maxLen; omega) (by omega) (by simp; omega) ?_)
          intro v' w6 hown' hgrow _
          have hb6 := ((HB5.out.alloc HB5.out.size (.cells #[.int .i64 ok, .int .i64 ot, .int .i64 oj, .int .i64 od, .int .i64 oa, .int .i64 or, .int .i64 oy, .int .i64 on] 26)).alloc (HB5.out.alloc HB5.out.size _).size (.cells #[.int .i64 ok, .int .i64 ot, .int .i64 oj, .int .i64 od, .int .i64 oa, .int .i64 or, .int .i64 oy, .int .i64 on] 26)).grown hgrow (by simp; omega) (Lx.ownBase Hrow5.out)
          clear hgrow
          go_wp2_with fail
          go_roundw
          case rel => exact ⟨k + 1, out ++ [⟨ok, ot, oj, od, oa, or, oy, on⟩], by omega, by go_num, by rw [Htk.out]; exact hsn.out, by rw [List.length_append, ← Hp.out, hoc.out]; exact hown', hb6⟩
          case measure => simp [intOf]; omega
        · have Hno := Lib.hid hno
          injection hzz with z1 z2 z3 z4 z5 z6 z7 z8
          subst z1 z2 z3 z4 z5 z6 z7 z8
          clear hno
          go_wp2_with fail
          go_quiet (fail)
          go_wp2_with fail
          go_ret3
          exact ⟨_, [], _, _, rfl, HFIN.out _ _ _ (.inr ⟨rfl, rfl, k, x2, out, HLk.out, rfl, .inr ⟨rfl, rfl, Hno.out⟩, by rw [← List.map_take]; exact Hlr.out⟩), World.ownsRow_nil _ _ _ _, ((CB.out.trans (HB5.out.mono CB.out.size)).alloc (CB.out.trans (HB5.out.mono CB.out.size)).size _).trans (below_drewN _ _ _)⟩
      · obtain rfl : k = q := by omega
        have htm : L.take k = L := List.take_of_length_le (by rw [Hq.out]; exact Nat.le_refl _)
        have hlr := Hlr.out
        rw [htm] at hlr
        have HLR := Lib.hid hlr
        clear hlr htm
        go_wp2_with fail
        go_ret3
        exact ⟨_, out, _, _, rfl, HFIN.out _ _ _ (.inl ⟨rfl, rfl, HLR.out⟩), by rw [← Hp.out]; exact Lx.ownBaseTo Hrow.out CB.out.size, CB.out.trans (Hbel.out.mono CB.out.size)⟩
  · have HNN := Lib.hid hn
    have hne : (Lx.nmErr NS != 0) = true := by rw [bne_iff_ne]; exact hn
    obtain ⟨x, hx⟩ : ∃ x, Lx.nmErr NS = x := ⟨_, rfl⟩
    have HXX := Lib.hid hx
    rw [hx] at HN2 hne
    clear h hz env hn hm hx
    go_enter Tryz.func9, Tryz.ntmps9
    go_wp2_with fail
    refine HN2.out.mono ?_
    rintro e w1 ⟨rfl, c1⟩
    go_wp2_with fail
    go_ret3
    exact ⟨_, [], 0, x, rfl, .inl ⟨HNN.out, rfl, rfl, HXX.out.symm⟩, World.ownsRow_nil _ _ _ _, c1⟩
end Go.Proofs.YtmpcekpdnikghaaGreatDoor
