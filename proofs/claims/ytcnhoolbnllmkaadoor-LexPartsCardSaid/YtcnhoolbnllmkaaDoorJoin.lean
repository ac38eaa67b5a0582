/- The walks of lex.Join and of its reference: both join texts, or say that they are too long. -/
import Derived.Test.YtcnhoolbnllmkaaDoorProg
import Derived.Test.YtcnhoolbnllmkaaDoorLx
import Derived.Test.YtcnhoolbnllmkaaDoorShelf2
import Derived.Test.YtcnhoolbnllmkaaDoorBld
import Derived.Test.YtcnhoolbnllmkaaDoorWorks
import Derived.WalkKit
import Derived.WalkSpells
import Derived.WalkLawsBesides
import Derived.BigGuardPart
import Derived.Lib.Hide
import Derived.Lib.Strings
namespace Go.Proofs.YtcnhoolbnllmkaaDoor
open Go.RowKit

namespace Lx
/-- What the first k texts come to. -/
def joinTo (ss : List ByteArray) (sep : ByteArray) : Nat → List UInt8
  | 0 => []
  | k + 1 => (if 0 < k then joinTo ss sep k ++ sep.data.toList else joinTo ss sep k) ++ (ss.getD k ⟨#[]⟩).data.toList
def joinAll (ss : List ByteArray) (sep : ByteArray) : List UInt8 := joinTo ss sep ss.length
def joinS (ss : List ByteArray) (sep : ByteArray) : ByteArray := if (joinAll ss sep).length ≤ 65536 then ⟨(joinAll ss sep).toArray⟩ else ⟨#[]⟩
def joinE (ss : List ByteArray) (sep : ByteArray) : Int := if (joinAll ss sep).length ≤ 65536 then 0 else 11
theorem joinTo_mono (ss : List ByteArray) (sep : ByteArray) (k : Nat) : (joinTo ss sep k).length ≤ (joinTo ss sep (k + 1)).length := by
  rw [joinTo]; split <;> simp only [List.length_append] <;> omega
theorem joinTo_le (ss : List ByteArray) (sep : ByteArray) (k : Nat) : ∀ j, (joinTo ss sep k).length ≤ (joinTo ss sep (k + j)).length
  | 0 => Nat.le_refl _
  | j + 1 => Nat.le_trans (joinTo_le ss sep k j) (joinTo_mono ss sep (k + j))
theorem join_over {ss : List ByteArray} {sep : ByteArray} {k : Nat} (hk : k ≤ ss.length) (h : 65536 < (joinTo ss sep k).length) : joinS ss sep = ⟨#[]⟩ ∧ joinE ss sep = 11 := by
  have h2 := joinTo_le ss sep k (ss.length - k)
  rw [show k + (ss.length - k) = ss.length by omega] at h2
  unfold joinS joinE joinAll
  rw [if_neg (by omega), if_neg (by omega)]; exact ⟨rfl, rfl⟩
theorem join_fit {ss : List ByteArray} {sep : ByteArray} (h : (joinTo ss sep ss.length).length ≤ 65536) : joinS ss sep = ⟨(joinTo ss sep ss.length).toArray⟩ ∧ joinE ss sep = 0 := by
  unfold joinS joinE joinAll
  rw [if_pos h, if_pos h]; exact ⟨rfl, rfl⟩
theorem joinTo_one (ss : List ByteArray) (sep : ByteArray) (x : ByteArray) (h : ss[0]? = some x) : joinTo ss sep 1 = [] ++ x.data.toList := by
  have e : ss.getD 0 ⟨#[]⟩ = x := by rw [List.getD_eq_getElem?_getD, h]; rfl
  rw [joinTo, if_neg (by omega), joinTo, e]
theorem joinTo_more (ss : List ByteArray) (sep : ByteArray) (k : Nat) (x : ByteArray) (hk : 0 < k) (h : ss[k]? = some x) : joinTo ss sep (k + 1) = joinTo ss sep k ++ sep.data.toList ++ x.data.toList := by
  have e : ss.getD k ⟨#[]⟩ = x := by rw [List.getD_eq_getElem?_getD, h]; rfl
  rw [joinTo, if_pos hk, e]
theorem cells_app (l : List UInt8) (s : ByteArray) : Lib.byteCells l ++ Lib.strCells s = Lib.byteCells (l ++ s.data.toList) := by
  unfold Lib.byteCells Lib.strCells; rw [List.map_append]
theorem cells_len (l : List UInt8) : (Lib.byteCells l).length = l.length := by unfold Lib.byteCells; rw [List.length_map]
end Lx

set_option maxRecDepth 100000 in
set_option maxHeartbeats 1600000 in
/-- lex.Join of texts that lie in a row. -/
theorem join_any (ss : List ByteArray) (sep : ByteArray) (b off n c : Nat) (w : World) (hn : ss.length = n) (hn0 : 0 < n) (hnb : n ≤ 1000000000) (hb : b < w.heap.size)
    (hc : ∀ k x, ss[k]? = some x → w.cell? ⟨b, off + k, none⟩ = some (.string x)) (hsz : ∀ x ∈ ss, x.size ≤ 1000000000) (hsep : sep.size ≤ 1000000000) :
    Calls Tryd.prog 9 #[.slice (some ⟨b, off, none⟩) n c, .string sep] w fun e w' => e = .returned (.tuple #[.string (Lx.joinS ss sep), .int .i64 (Lx.joinE ss sep)]) ∧ Below w.heap.size w w' := by
  have Hn := Lib.hid hn
  have Hc := Lib.hid hc
  have Hsz := Lib.hid hsz
  clear hn hc hsz
  go_enter Tryd.func9, Tryd.ntmps9
  go_wp2
  go_loopw [11] (fun i wr => ∃ k : Nat, k ≤ n ∧ i = .int .i64 k ∧ Lib.IsBuilderF 62 5 w.heap.size w.heap.size (Lib.byteCells (Lx.joinTo ss sep k)) wr ∧ (Lx.joinTo ss sep k).length ≤ 65536 ∧ Below w.heap.size w wr) (fun i _ => n - (intOf i).toNat)
  case atStart =>
    refine ⟨0, Nat.zero_le _, rfl, ?_, by rw [Lx.joinTo]; simp, (Below.refl _ w).alloc (Nat.le_refl _) _⟩
    rcases Lib.fresh_isBuilder 62 5 w with h | h
    · exact .inl (Lib.BuilderAtF.of h)
    · exact .inr (Lib.BuilderAtF.of h)
  case round =>
    obtain ⟨k, hk, rfl, hbd, hlen, hbel⟩ := hrel
    by_cases hlt : k < n
    · obtain ⟨x, hx⟩ : ∃ x, ss[k]? = some x := ⟨_, List.getElem?_eq_getElem (by rw [Hn.out]; exact hlt)⟩
      have hxs := Hsz.out x (List.mem_of_getElem? hx)
      have hcx : wr.cell? ⟨b, off + k, none⟩ = some (.string x) := (hbel.cell (p := ⟨b, off + k, none⟩) hb).trans (Hc.out k x hx)
      have hBw := hbel.size
      by_cases hk0 : 0 < k
      · have hj := Lx.joinTo_more ss sep k x hk0 hx
        have hkb : (0 : Int) < (k : Int) := by omega
        have Hj := Lib.hid hj
        clear hj hx
        go_wp2_with fail
        refine (bld_write _ _ _ sep wr hbd (by rw [Lx.cells_len]; omega) hBw).mono ?_
        rintro e w1 ⟨rfl, hb1, hbl1, _⟩
        rw [Lx.cells_app] at hb1
        have hBw1 := hbl1.size
        go_wp2_with fail
        refine (bld_write _ _ _ x w1 (.inr hb1) (by rw [Lx.cells_len, List.length_append, ← Lib.size_eq]; omega) (by omega)).mono ?_
        rintro e w2 ⟨rfl, hb2, hbl2, _⟩
        rw [Lx.cells_app, ← Hj.out] at hb2
        have hBw2 := hbl2.size
        have hb02 := hbel.trans (hbl1.trans hbl2)
        clear hb1 hbl1 hbl2 hbd
        have hL := Tryd.Builder_Len_f _ _ _ w2 (.inr hb2)
        rw [Lx.cells_len] at hL
        obtain ⟨L, hLe⟩ : ∃ L, (Lx.joinTo ss sep (k + 1)).length = L := ⟨_, rfl⟩
        rw [hLe] at hL
        go_wp2_with fail
        refine hL.mono ?_
        rintro e w3 ⟨rfl, rfl⟩
        clear hL
        by_cases hov : 65536 < L
        · have hr := Lx.join_over (ss := ss) (sep := sep) (k := k + 1) (by rw [Hn.out]; omega) (by rw [hLe]; exact hov)
          have hovb : (65536 : Int) < (L : Int) := by omega
          have Hr := Lib.hid hr
          clear hr hLe
          go_wp2_with fail
          go_ret2
          exact ⟨Lx.ret_t2 (Lx.v_str Hr.out.1.symm) (Lx.v_int Hr.out.2.symm), hb02⟩
        · have hovb : (L : Int) ≤ 65536 := by omega
          have HLe := Lib.hid hLe
          clear hLe hov
          go_wp2_with fail
          go_roundw
          case rel => exact ⟨k + 1, by omega, by go_num, .inr hb2, by rw [HLe.out]; omega, hb02⟩
          case measure => simp [intOf]; omega
      · obtain rfl : k = 0 := by omega
        have hcx0 : wr.cell? ⟨b, off, none⟩ = some (.string x) := hcx
        have hj := Lx.joinTo_one ss sep x hx
        have Hj := Lib.hid hj
        clear hj hx hk0
        go_wp2_with fail
        refine (bld_write _ _ _ x wr hbd (by rw [Lx.cells_len]; omega) hBw).mono ?_
        rintro e w2 ⟨rfl, hb2, hbl2, _⟩
        rw [Lx.cells_app, show Lx.joinTo ss sep 0 = [] from rfl, ← Hj.out] at hb2
        have hBw2 := hbl2.size
        have hb02 := hbel.trans hbl2
        clear hbl2 hbd
        have hL := Tryd.Builder_Len_f _ _ _ w2 (.inr hb2)
        rw [Lx.cells_len] at hL
        obtain ⟨L, hLe⟩ : ∃ L, (Lx.joinTo ss sep 1).length = L := ⟨_, rfl⟩
        rw [hLe] at hL
        go_wp2_with fail
        refine hL.mono ?_
        rintro e w3 ⟨rfl, rfl⟩
        clear hL
        by_cases hov : 65536 < L
        · have hr := Lx.join_over (ss := ss) (sep := sep) (k := 1) (by rw [Hn.out]; omega) (by rw [hLe]; exact hov)
          have hovb : (65536 : Int) < (L : Int) := by omega
          have Hr := Lib.hid hr
          clear hr hLe
          go_wp2_with fail
          go_ret2
          exact ⟨Lx.ret_t2 (Lx.v_str Hr.out.1.symm) (Lx.v_int Hr.out.2.symm), hb02⟩
        · have hovb : (L : Int) ≤ 65536 := by omega
          have HLe := Lib.hid hLe
          clear hLe hov
          go_wp2_with fail
          go_roundw
          case rel => exact ⟨1, by omega, rfl, .inr hb2, by rw [HLe.out]; omega, hb02⟩
          case measure => simp [intOf]; omega
    · obtain rfl : k = n := by omega
      have hr := Lx.join_fit (ss := ss) (sep := sep) (by rw [Hn.out]; exact hlen)
      rw [Hn.out] at hr
      have hS := Tryd.Builder_String_any_k _ _ _ wr hbd hbel.size
      have Hr := Lib.hid hr
      clear hr
      go_wp2_with fail
      refine hS.mono ?_
      rintro e w3 ⟨rfl, _, hbl, _⟩
      go_wp2_with fail
      go_ret2
      exact ⟨Lx.ret_t2 (Lx.v_str Hr.out.1.symm) (Lx.v_int Hr.out.2.symm), hbel.trans hbl⟩

/-- lex.Join of no text. -/
theorem join_none (sep : ByteArray) (A : Option Addr) (c : Nat) (w : World) :
    Calls Tryd.prog 9 #[.slice A 0 c, .string sep] w fun e w' => e = .returned (.tuple #[.string ⟨#[]⟩, .int .i64 0]) ∧ Below w.heap.size w w' := by
  have hS := fun W h hB => Tryd.Builder_String_any_k w.heap.size w.heap.size [] W h hB
  have HS := Lib.hid hS
  clear hS
  have hfr : Lib.IsBuilderF 62 5 w.heap.size w.heap.size (Lib.byteCells []) (w.alloc (.cells #[.pointer none, .slice none 0 0] 62)) := by
    rcases Lib.fresh_isBuilder 62 5 w with h | h
    · exact .inl (Lib.BuilderAtF.of h)
    · exact .inr (Lib.BuilderAtF.of h)
  have Hfr := Lib.hid hfr
  clear hfr
  go_enter Tryd.func9, Tryd.ntmps9
  go_wp2
  go_loop [11] (fun i => i = .int .i64 0) (fun _ => 0)
  case atStart => exact rfl
  case round =>
    obtain rfl := hrel
    go_wp2_with fail
    refine (HS.out _ Hfr.out (by simp)).mono ?_
    rintro e w3 ⟨rfl, _, hbl, _⟩
    go_wp2_with fail
    go_ret2
    exact ⟨rfl, ((Below.refl _ w).alloc (Nat.le_refl _) _).trans hbl⟩

end Go.Proofs.YtcnhoolbnllmkaaDoor
