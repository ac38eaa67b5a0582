/- The walks of op.PrintAll and of valid. The walk of valid: the valid ones of the first 60 operations. 'append(x, y...)' where y is nil or lies anywhere: one law for both. Plain facts on the valid operations of a list and on lists of operations in memory. Plain facts on texts of scripts, line by line. No program in sight. -/
import Derived.Test.YtnnkamfpcodnnaaGreatDoorOpWk
import Derived.Test.YtnnkamfpcodnnaaGreatDoorBld
import Derived.Test.YtnnkamfpcodnnaaGreatDoorJoin
import Derived.Test.YtnnkamfpcodnnaaGreatDoorRow
import Derived.Laws.AppendOwnNone
namespace Go.Proofs.YtnnkamfpcodnnaaGreatDoor
open Go.RowKit

namespace Lx
def prnAllS (L : List OpV) : List UInt8 := if scriptErr L = 0 ∧ (scriptText L).length ≤ 65536 then scriptText L else []
def prnAllE (L : List OpV) : Int := if scriptErr L = 0 then (if (scriptText L).length ≤ 65536 then 0 else 11) else scriptErr L
theorem sumText_le {L : List OpV} (h : AllOk L) (hi : ∀ o ∈ L, o.In) : (scriptText L).length ≤ 33 * L.length := scriptText_len h (fun o ho => (hi o ho).2.2.2.2)
end Lx
theorem bldAtBelow {T e : TypeId} {B b : Nat} {p : Value} {bs : List Value} {W W' : World} (h : Lib.BuilderAtF T e B b p bs W) (hb : Below W.heap.size W W') : Lib.BuilderAtF T e B b p bs W' := by
  have hlt := h.lt
  obtain ⟨hB, v, hv, hown, hne⟩ := h
  exact ⟨hB, v, (hb.block b hlt).trans hv, hown.kept (row := none) ⟨hb.os, hb.tape, hb.output, hb.size, fun k hk _ => hb.block k hk⟩ (Classical.em _), hne⟩
theorem bldBelow {T e : TypeId} {B b : Nat} {bs : List Value} {W W' : World} (h : Lib.IsBuilderF T e B b bs W) (hb : Below W.heap.size W W') : Lib.IsBuilderF T e B b bs W' :=
  h.elim (fun x => .inl (bldAtBelow x hb)) (fun x => .inr (bldAtBelow x hb))
def PrnAllIs (s : List UInt8) (x : Int) (w : World) (e : Ending) (w' : World) : Prop := e = .returned (.tuple #[.string ⟨s.toArray⟩, .int .i64 x]) ∧ Below w.heap.size w w'
set_option maxRecDepth 100000 in
set_option maxHeartbeats 3200000 in
theorem printAll_any (ad : Option Addr) (n cap : Nat) (L : List Lx.OpV) (w : World) (env : Env w) (h : Lx.IsOps w ad n L) (hj : ∀ o ∈ L, o.In ∧ o.job.size ≤ maxLen) (hn : n ≤ 1000000000) :
    Calls Tryz.prog 10 #[.slice ad n cap] w (PrnAllIs (Lx.prnAllS L) (Lx.prnAllE L) w) := by
  have HS := Lib.hid (script_any ad n cap L w h (fun o ho => (hj o ho).2) hn)
  unfold CheckIs at HS
  by_cases hx : Lx.scriptErr L = 0
  · have hok := Lx.script_ok hx
    rw [hx] at HS
    have H := Lib.hid h
    have HA := Lib.hid hok.2
    have HI := Lib.hid (fun o ho => (hj o ho).1)
    have hn1 : n ≤ 10000 := by rw [← h.1]; exact hok.1
    have HX := Lib.hid hx
    clear hx hok h hj hn
    go_enter Tryz.func10, Tryz.ntmps10
    go_wp2_with fail
    refine HS.out.mono ?_
    rintro e w1 ⟨rfl, hb1⟩
    have Hb1 := Lib.hid hb1
    clear hb1
    go_wp2_with fail
    have hba : Below w1.heap.size w1 (w1.alloc (.cells #[.pointer none, .slice none 0 0] 53)) := (Below.refl _ _).alloc (Nat.le_refl _) _
    have hfr : Lib.IsBuilderF 53 5 w1.heap.size w1.heap.size (Lib.byteCells []) (w1.alloc (.cells #[.pointer none, .slice none 0 0] 53)) := by
      rcases Lib.fresh_isBuilder 53 5 w1 with h | h
      · exact .inl (Lib.BuilderAtF.of h)
      · exact .inr (Lib.BuilderAtF.of h)
    have HFR := Lib.hid hfr
    have HBA := Lib.hid hba
    clear hfr hba
    go_loopw [17] (fun i wr => ∃ k : Nat, k ≤ n ∧ i = .int .i64 k ∧ Lib.IsBuilderF 53 5 w1.heap.size w1.heap.size (Lib.byteCells (Lx.scriptText (L.take k))) wr ∧ Below w1.heap.size w1 wr) (fun i _ => n - (intOf i).toNat)
    case atStart => exact ⟨0, Nat.zero_le _, rfl, HFR.out, HBA.out⟩
    case round =>
      obtain ⟨k, hk, rfl, hbd, hbel⟩ := hrel
      have hlen := Lx.sumText_le (L := L.take k) (fun x hx => HA.out x (List.mem_of_mem_take hx)) (fun x hx => HI.out x (List.mem_of_mem_take hx))
      have hl : (L.take k).length ≤ k := List.length_take_le _ _
      have Hbel := Lib.hid hbel
      have Hbd := Lib.hid hbd
      clear hbel hbd
      by_cases hlt : k < n
      · obtain ⟨o, ho⟩ : ∃ o, L[k]? = some o := ⟨_, List.getElem?_eq_getElem (by rw [H.out.1]; exact hlt)⟩
        obtain ⟨g, off, rfl, lt, hc⟩ := (H.out.below (Hb1.out.trans (Hbel.out.mono Hb1.out.size))).2 (by omega)
        have hoe := HA.out o (List.mem_of_getElem? ho)
        have hoi := HI.out o (List.mem_of_getElem? ho)
        have hst := Lx.scriptText_take ho
        have hol := (Lx.opText_facts hoe hoi.2.2.2.2).2
        have HP := Lib.hid (fun W (E : Env W) => print_good o W E hoi hoe)
        unfold PrintIs at HP
        generalize Lx.scriptText (L.take k) = T at *
        obtain ⟨V, hV⟩ : ∃ V : ByteArray, V = ⟨(Lx.opText o).toArray⟩ := ⟨_, rfl⟩
        have hVd : V.data.toList = Lx.opText o := by rw [hV]
        rw [← hV] at HP
        have hVs : V.size ≤ 32 := by rw [Lib.size_eq, hVd]; exact hol
        have hst2 : Lx.scriptText (L.take (k + 1)) = T ++ (V ++ ⟨#[10]⟩ : ByteArray).data.toList := by
          rw [hst, ByteArray.data_append, Array.toList_append, hVd]
        obtain ⟨ok, od, ot, or, oo, oj⟩ := o
        unfold Lx.OpV.val at HP
        have c0 : wr.cell? ⟨g, off + k * 6, none⟩ = some (.int .i64 ok) := hc k _ ho 0 _ rfl
        have c1 := hc k _ ho 1 _ rfl
        have c2 := hc k _ ho 2 _ rfl
        have c3 := hc k _ ho 3 _ rfl
        have c4 := hc k _ ho 4 _ rfl
        have c5 := hc k _ ho 5 _ rfl
        have hki : (k : Int) < (n : Int) := by omega
        have hkb : (k : Int) ≤ 10000 := by omega
        have hTl : T.length ≤ 330000 := by omega
        have HST := Lib.hid hst2
        have HVs := Lib.hid hVs
        clear hc ho hoe hoi hst hol hV hVd hst2 hVs hlen hl
        go_wp2_with fail
        have hb2 := Hbel.out.alloc Hbel.out.size (.cells #[.int .i64 ok, .int .i64 od, .int .i64 ot, .int .i64 or, .bool oo, .string oj] 40)
        refine (HP.out _ (env.below (Hb1.out.trans (hb2.mono Hb1.out.size)))).mono ?_
        rintro e w5 ⟨rfl, hb5⟩
        have hbd5 := bldBelow (Hbd.out.alloc (.cells #[.int .i64 ok, .int .i64 od, .int .i64 ot, .int .i64 or, .bool oo, .string oj] 40)) hb5
        have hb15 := hb2.trans (hb5.mono hb2.size)
        have hz5 : (V ++ ⟨#[10]⟩ : ByteArray).size ≤ 33 := by rw [ByteArray.size_append]; have := HVs.out; have : (⟨#[10]⟩ : ByteArray).size = 1 := rfl; omega
        have hvz : ¬ (9223372036854775807 < V.size + (⟨#[10]⟩ : ByteArray).size) := by have := HVs.out; have : (⟨#[10]⟩ : ByteArray).size = 1 := rfl; omega
        have HBD5 := Lib.hid hbd5
        have HB15 := Lib.hid hb15
        clear hb5 hb2 hbd5 hb15 c0 c1 c2 c3 c4 c5
        go_wp2_with fail
        have HW := Lib.hid (bld_write _ _ _ (V ++ ⟨#[10]⟩) w5 HBD5.out (by rw [Lx.cells_len]; omega) HB15.out.size)
        refine HW.out.mono ?_
        rintro e w6 ⟨rfl, hb6, hbl6, _⟩
        rw [Lx.cells_app, ← HST.out] at hb6
        have hb16 := HB15.out.trans hbl6
        have HB6 := Lib.hid hb6
        have HB16 := Lib.hid hb16
        clear hb6 hbl6 hb16
        go_wp2_with fail
        go_roundw
        case rel => exact ⟨k + 1, by omega, by go_num, .inr HB6.out, HB16.out⟩
        case measure => simp [intOf]; omega
      · obtain rfl : k = n := by omega
        have htk : L.take k = L := List.take_of_length_le (by rw [H.out.1]; exact Nat.le_refl _)
        rw [htk] at hlen
        have hbd := Hbd.out
        rw [htk] at hbd
        have hL := Tryz.Builder_Len_f _ _ _ wr hbd
        rw [Lx.cells_len] at hL
        obtain ⟨T, hT⟩ : ∃ T, Lx.scriptText L = T := ⟨_, rfl⟩
        obtain ⟨q, hq⟩ : ∃ q, T.length = q := ⟨_, rfl⟩
        rw [hT, hq] at hL
        rw [hT] at hbd hlen
        have Hbd2 := Lib.hid hbd
        have HL := Lib.hid hL
        clear hL hbd htk Hbd
        by_cases hfit : q ≤ 65536
        · have e1 : Lx.prnAllS L = T := by unfold Lx.prnAllS; rw [hT, if_pos ⟨HX.out, by omega⟩]
          have e2 : Lx.prnAllE L = 0 := by unfold Lx.prnAllE; rw [hT, if_pos HX.out, if_pos (by omega)]
          have E1 := Lib.hid e1
          have E2 := Lib.hid e2
          have hqi : (q : Int) ≤ 65536 := by omega
          have HS2 := Lib.hid (Tryz.Builder_String_any_k _ _ _ wr Hbd2.out Hbel.out.size)
          clear e1 e2 hT hq hlen
          go_wp2_with fail
          refine HL.out.mono ?_
          rintro e w3 ⟨rfl, rfl⟩
          go_wp2_with fail
          refine HS2.out.mono ?_
          rintro e w4 ⟨rfl, _, hb4, _⟩
          go_wp2_with fail
          go_ret2
          exact ⟨by rw [E1.out, E2.out]; rfl, Hb1.out.trans ((Hbel.out.trans hb4).mono Hb1.out.size)⟩
        · have e1 : Lx.prnAllS L = [] := by unfold Lx.prnAllS; rw [hT, if_neg (by omega)]
          have e2 : Lx.prnAllE L = 11 := by unfold Lx.prnAllE; rw [hT, if_pos HX.out, if_neg (by omega)]
          have E1 := Lib.hid e1
          have E2 := Lib.hid e2
          have hqi : (65536 : Int) < (q : Int) := by omega
          clear e1 e2 hT hq hlen hfit
          go_wp2_with fail
          refine HL.out.mono ?_
          rintro e w3 ⟨rfl, rfl⟩
          go_wp2_with fail
          go_ret2
          exact ⟨by rw [E1.out, E2.out]; rfl, Hb1.out.trans (Hbel.out.mono Hb1.out.size)⟩
  · have hne : (Lx.scriptErr L != 0) = true := by rw [bne_iff_ne]; exact hx
    have e1 : Lx.prnAllS L = [] := by unfold Lx.prnAllS; rw [if_neg (fun h => hx h.1)]
    have e2 : Lx.prnAllE L = Lx.scriptErr L := by unfold Lx.prnAllE; rw [if_neg hx]
    rw [e1, e2]
    generalize Lx.scriptErr L = x at *
    clear hx h hj e1 e2
    go_enter Tryz.func10, Tryz.ntmps10
    go_wp2_with fail
    refine HS.out.mono ?_
    rintro e w1 ⟨rfl, hb1⟩
    go_wp2_with fail
    go_ret2
    exact ⟨rfl, hb1⟩
namespace Lx
def validL (L : List OpV) : List OpV := (L.take 60).filter fun o => decide (opErr o = 0)
theorem valid_take {L : List OpV} {k : Nat} {o : OpV} (h : L[k]? = some o) : (L.take (k + 1)).filter (fun o => decide (opErr o = 0)) = (L.take k).filter (fun o => decide (opErr o = 0)) ++ (if opErr o = 0 then [o] else []) := by
  obtain ⟨hk, hv⟩ := List.getElem?_eq_some_iff.1 h
  rw [List.take_succ_eq_append_getElem hk, hv, List.filter_append]
  congr 1
  by_cases h0 : opErr o = 0 <;> simp [h0]
end Lx
end Go.Proofs.YtnnkamfpcodnnaaGreatDoor
namespace Go.Proofs.YtnnkamfpcodnnaaGreatDoor
open Go.RowKit

def ValPost (L : List Lx.OpV) (w : World) (e : Ending) (w' : World) : Prop := ∃ v, e = .returned v ∧ w'.ownsRow w.heap.size 40 6 v (Lx.validL L).length (Lx.opCells (Lx.validL L)) ∧ Below w.heap.size w w'
namespace Lx
def vl (L : List OpV) : List OpV := L.filter fun o => decide (opErr o = 0)
theorem vl_take {L : List OpV} {k : Nat} {o : OpV} (h : L[k]? = some o) : (opErr o = 0 → vl (L.take (k + 1)) = vl (L.take k) ++ [o]) ∧ (opErr o ≠ 0 → vl (L.take (k + 1)) = vl (L.take k)) := by
  have := valid_take h
  unfold vl
  exact ⟨fun h0 => by rw [this, if_pos h0], fun h0 => by rw [this, if_neg h0, List.append_nil]⟩
theorem vl_len (L : List OpV) (k : Nat) : (vl (L.take k)).length ≤ k := Nat.le_trans (List.length_filter_le _ _) (List.length_take_le _ _)
theorem vl_60 (L : List OpV) : vl (L.take 60) = validL L := rfl
theorem vl_all {L : List OpV} {k : Nat} (h : L.length ≤ k) (hk : k ≤ 60) : vl (L.take k) = validL L := by
  unfold vl validL; rw [List.take_of_length_le h, List.take_of_length_le (by omega)]
end Lx
end Go.Proofs.YtnnkamfpcodnnaaGreatDoor
namespace Go.Proofs.YtnnkamfpcodnnaaGreatDoor
open Go.RowKit

/-- A slice value of m elements (size cells each) whose cells are xs: nil, or it lies somewhere. -/
def Src (w : World) (v : Value) (m size : Nat) (xs : List Value) : Prop :=
  (v = .slice none 0 0 ∧ m = 0 ∧ xs = []) ∨ (∃ g off c, v = .slice (some ⟨g, off, none⟩) m c ∧ g < w.heap.size ∧ xs.length = m * size ∧ ∀ j u, xs[j]? = some u → w.cell? ⟨g, off + j, none⟩ = some u)
theorem Src.below {w w' : World} {v : Value} {m size : Nat} {xs : List Value} (h : Src w v m size xs) (hb : Below w.heap.size w w') : Src w' v m size xs := by
  rcases h with h | ⟨g, off, c, e, lt, hl, hc⟩
  · exact .inl h
  · exact .inr ⟨g, off, c, e, Nat.lt_of_lt_of_le lt hb.size, hl, fun j u hj => (hb.cell (p := ⟨g, off + j, none⟩) lt).trans (hc j u hj)⟩
theorem Src.row {w : World} {base : Nat} {e : TypeId} {size n : Nat} {v : Value} {xs : List Value} (h : w.ownsRow base e size v n xs) : Src w v n size xs := by
  have h0 := h
  rcases h.2 with ⟨rfl, h1⟩ | ⟨g, cap, cur, hv, _, hg, _⟩
  · refine .inl ⟨rfl, by simp_all, ?_⟩
    have := h.1
    simp_all
  · subst hv
    refine .inr ⟨g, 0, cap, rfl, (Array.getElem?_eq_some_iff.1 hg).1, h.1, fun j u hj => ?_⟩
    have := h0.cells (g := g) rfl j u hj
    rwa [show (⟨g, 0, none⟩ : Addr).add j = ⟨g, 0 + j, none⟩ from by simp [Addr.add]; intro h; exact h.symm] at this
theorem grown_refl (w : World) (row : Option Nat) : w.grownBy w row := ⟨rfl, rfl, rfl, Nat.le_refl _, fun _ _ _ => rfl⟩
theorem wpList_append_src {P : Program} {w : World} {ops : Array Oper} {rest : List Oper} {o : Oper} {a : Act} {Q : Exit → Act → World → Prop} (hgd : o.guard = none) (s x : Operand) (t : TypeId)
    (ho : o.op = .call { callee := .builtin .append, args := #[s, x], argTypes := #[t, t] })
    (base : Nat) (e : TypeId) (i : TypeInfo) (z : Value) (size bytes : Nat) (ht : P.underlying t = some (.slice e)) (hi : P.info? e = some i) (hz : i.zero = some z)
    (hsize : i.size = size) (hby : i.bytes = bytes) (hzs : z.cells.size = size) (hsz : 0 < size)
    (v : Value) (n : Nat) (xs : List Value) (hs : a.eval s = v) (hown : w.ownsRow base e size v n xs)
    (vx : Value) (m : Nat) (news : List Value) (hx : a.eval x = vx) (hsrc : Src w vx m size news) (h1 : ∀ u ∈ news, u.oneCell' = true)
    (h63 : n + m ≤ maxLen) (hbytes : (n + m) * bytes ≤ 140737488355328) (hbase : base ≤ w.heap.size)
    (h : ∀ v' w', w'.ownsRow base e size v' (n + m) (xs ++ news) → w.grownBy w' v.ownBlock → wpList P ops Q rest (a.put o.dst v') w') : wpList P ops Q (o :: rest) a w := by
  rcases hsrc with ⟨e1, rfl, rfl⟩ | ⟨g, off, c, e1, lt, hl, hc⟩
  · refine wpList_append_own_none hgd s x t ho base e i size ht hi v n xs hs hown (hx.trans e1) ?_
    rw [← hs]
    rw [← hs] at h
    exact h _ w (by rw [Nat.add_zero, List.append_nil, hs]; exact hown) (grown_refl _ _)
  · refine wpList_append_own w hgd s x t ho base e i z size bytes ht hi hz hsize hby hzs hsz v n xs hs hown ⟨g, off, none⟩ m c news (hx.trans e1) hl ?_ h1 h63 hbytes hbase (fun v' w' a b _ => h v' w' a b)
    intro j u hj
    rw [show (⟨g, off, none⟩ : Addr).add j = ⟨g, off + j, none⟩ from by simp [Addr.add]]
    exact hc j u hj
end Go.Proofs.YtnnkamfpcodnnaaGreatDoor
namespace Go.Proofs.YtnnkamfpcodnnaaGreatDoor
open Go.RowKit

theorem Lx.validL_len (L : List Lx.OpV) : (Lx.validL L).length ≤ 60 := by
  unfold Lx.validL
  exact Nat.le_trans (List.length_filter_le _ _) (List.length_take_le _ _)
theorem Lx.opCells_one (K : List Lx.OpV) : ∀ u ∈ Lx.opCells K, u.oneCell' = true := by
  intro u hu
  unfold Lx.opCells at hu
  obtain ⟨o, _, h⟩ := List.mem_flatMap.1 hu
  unfold Lx.OpV.cells at h
  simp only [List.mem_cons, List.not_mem_nil, or_false] at h
  rcases h with rfl | rfl | rfl | rfl | rfl | rfl <;> rfl
theorem Lx.row_isOps' {w : World} {base n : Nat} {v : Value} {e : TypeId} {L : List Lx.OpV} (h : w.ownsRow base e 6 v n (Lx.opCells L)) : ∃ A c, v = .slice A n c ∧ (L.length = n → Lx.IsOps w A n L) := by
  obtain ⟨A, c, rfl⟩ := Lx.slice_of_row h
  exact ⟨A, c, rfl, fun hn => Lx.row_isOps h hn⟩
theorem Lx.validL_ok (L : List Lx.OpV) : Lx.AllOk (Lx.validL L) := by
  intro o ho
  unfold Lx.validL at ho
  simpa using (List.mem_filter.1 ho).2
theorem Lx.opCells_app (a b : List Lx.OpV) : Lx.opCells (a ++ b) = Lx.opCells a ++ Lx.opCells b := by unfold Lx.opCells; rw [List.flatMap_append]
theorem Lx.len_ok {L : List Lx.OpV} (h : Lx.AllOk L) (hn : L.length ≤ 10000) : Lx.scriptErr L = 0 ∧ Lx.lenV L = Lx.sumD L ∧ Lx.plnV L = Lx.plainL L := by
  have e := Lx.script_of hn h
  exact ⟨e, by unfold Lx.lenV; rw [if_pos e], by unfold Lx.plnV; rw [if_pos e]⟩
theorem Lx.jobLen {o : Lx.OpV} (h : Lx.opErr o = 0) : o.job.size ≤ maxLen := by
  have z : (⟨#[]⟩ : ByteArray).size ≤ maxLen := by unfold maxLen; decide
  rcases Lx.opErr_zero h with ⟨_, _, _, ho⟩ | ⟨_, _, _, ho⟩ | ⟨_, _, ho⟩ | ⟨_, a, ho⟩
  · rw [ho]; exact z
  · rw [ho]; exact z
  · rw [ho]; exact z
  · have := (Lx.isName_facts a).1
    unfold maxLen; omega
end Go.Proofs.YtnnkamfpcodnnaaGreatDoor
namespace Go.Proofs.YtnnkamfpcodnnaaGreatDoor.Lx
open Go Go.RowKit

theorem textLines_of {s : ByteArray} {A : List ByteArray} (hA : ∀ x ∈ A, (10 : UInt8) ∉ x.data.toList) (h : s.data.toList = A.flatMap fun x => x.data.toList ++ [10]) : textLines s = A := by
  have hg := lines_good s
  unfold textLines
  generalize linesOf s.size (pieces s isLF) = l at hg
  obtain ⟨g, hb⟩ := hg
  have hcond : s.size = 0 ∨ endsLF s = true := by
    rcases List.eq_nil_or_concat A with rfl | ⟨B, x, rfl⟩
    · left; rw [Lib.size_eq, h]; rfl
    · right
      unfold endsLF Lib.hasSuffix
      rw [List.isSuffixOf_iff_suffix, h, List.concat_eq_append, List.flatMap_append]
      exact ⟨(B.flatMap fun x => x.data.toList ++ [10]) ++ x.data.toList, by simp⟩
  rw [if_pos hcond, h] at hb
  have e : (l.map (·.2)).map (fun x : ByteArray => x.data.toList) = A.map (fun x : ByteArray => x.data.toList) := by
    refine lines_one ?_ ?_ ?_
    · intro y hy
      obtain ⟨z, hz, rfl⟩ := List.mem_map.1 hy
      obtain ⟨x, hx, rfl⟩ := List.mem_map.1 hz
      obtain ⟨j, hj⟩ := List.mem_iff_getElem?.1 hx
      exact (g j x hj).2.1
    · intro y hy
      obtain ⟨z, hz, rfl⟩ := List.mem_map.1 hy
      exact hA z hz
    · rw [List.flatMap_map, List.flatMap_map, List.flatMap_map]; exact hb
  exact (List.map_inj_right (fun a b h => ByteArray.ext (Array.toList_inj.1 h))).1 e
def txt (o : OpV) : ByteArray := ⟨(opText o).toArray⟩
theorem txt_data (o : OpV) : (txt o).data.toList = opText o := rfl
theorem skip_op (o : OpV) : skipL (opText o) = false := by
  unfold opText skipL
  rcases word_in o.k with h | h | h | h | h | h <;> rw [h] <;> rfl
/-- Valid operations with numbers in their ranges. -/
def Fine (L : List OpV) : Prop := ∀ o ∈ L, opErr o = 0 ∧ o.In
theorem reads_txt {o : OpV} (h : opErr o = 0 ∧ o.In) : ReadsOp (txt o).data.toList o 0 := .inl ⟨rfl, ⟨h.1, (txt_data o).symm⟩, h.2⟩
theorem noLF_txt {o : OpV} (h : opErr o = 0 ∧ o.In) : (10 : UInt8) ∉ (txt o).data.toList := by rw [txt_data]; exact (opText_facts h.1 h.2.2.2.2.2).1
theorem linesRead_txt : ∀ {L : List OpV}, Fine L → LinesRead (L.map txt) L
  | [], _ => by unfold LinesRead; rfl
  | o :: t, h => by
    rw [List.map_cons]
    unfold LinesRead
    rw [if_neg (by rw [txt_data, skip_op]; decide)]
    exact ⟨o, t, reads_txt (h o List.mem_cons_self), rfl, linesRead_txt fun x hx => h x (List.mem_cons_of_mem _ hx)⟩
theorem linesRead_app : ∀ {A B : List ByteArray} {X Y : List OpV}, LinesRead A X → LinesRead B Y → LinesRead (A ++ B) (X ++ Y)
  | [], B, X, Y, h, h' => by unfold LinesRead at h; subst h; exact h'
  | a :: A, B, X, Y, h, h' => by
    rw [List.cons_append]
    unfold LinesRead at h ⊢
    split
    · rename_i hs; rw [if_pos hs] at h; exact linesRead_app h h'
    · rename_i hs
      rw [if_neg hs] at h
      obtain ⟨o, rest, h1, rfl, h3⟩ := h
      exact ⟨o, rest ++ Y, h1, rfl, linesRead_app h3 h'⟩
theorem script_lines (L : List OpV) : scriptText L = (L.map txt).flatMap fun x => x.data.toList ++ [10] := by
  unfold scriptText; rw [List.flatMap_map]; rfl
theorem script_all {L : List OpV} (h : Fine L) {s : ByteArray} (hs : s.data.toList = scriptText L) : AllIs (textLines s) L 0 0 := by
  rw [textLines_of (A := L.map txt) (by intro x hx; obtain ⟨o, ho, rfl⟩ := List.mem_map.1 hx; exact noLF_txt (h o ho)) (by rw [hs, script_lines])]
  exact .inl ⟨rfl, rfl, linesRead_txt h⟩
/-! ### with comments and empty lines -/
def cmt (c : ByteArray) : ByteArray := ⟨(35 :: c.data.toList).toArray⟩
theorem cmt_data (c : ByteArray) : (cmt c).data.toList = 35 :: c.data.toList := rfl
def moreT (c : ByteArray) (L : List OpV) : List ByteArray := L.flatMap fun o => [txt o, cmt c, ⟨#[]⟩]
def moreL (c : ByteArray) (L : List OpV) : List UInt8 := (10 :: 35 :: c.data.toList ++ [10]) ++ L.flatMap fun o => opText o ++ (10 :: 35 :: c.data.toList ++ [10, 10])
theorem moreL_take (c : ByteArray) {L : List OpV} {k : Nat} {o : OpV} (h : L[k]? = some o) : moreL c (L.take (k + 1)) = moreL c (L.take k) ++ (opText o ++ (10 :: 35 :: c.data.toList ++ [10, 10])) := by
  obtain ⟨hk, hv⟩ := List.getElem?_eq_some_iff.1 h
  unfold moreL
  rw [List.take_succ_eq_append_getElem hk, hv, List.flatMap_append, List.append_assoc]
  simp
theorem moreL_len (c : ByteArray) (hc : c.size ≤ 60) : ∀ (L : List OpV), (∀ o ∈ L, (opText o).length ≤ 32) → (moreL c L).length ≤ 63 + 96 * L.length
  | [], _ => by
    have hc' := hc
    rw [Lib.size_eq] at hc'
    unfold moreL; simp; omega
  | o :: t, h => by
    have ih := moreL_len c hc t (fun x hx => h x (List.mem_cons_of_mem _ hx))
    have h1 := h o List.mem_cons_self
    rw [Lib.size_eq] at hc
    unfold moreL at ih ⊢
    rw [List.flatMap_cons]
    simp only [List.length_append, List.length_cons, List.length_nil] at ih ⊢
    omega
theorem moreT_lines (c : ByteArray) : ∀ (L : List OpV), (L.flatMap fun o => opText o ++ (10 :: 35 :: c.data.toList ++ [10, 10])) = (moreT c L).flatMap fun x => x.data.toList ++ [10]
  | [] => rfl
  | o :: t => by
    have ih := moreT_lines c t
    unfold moreT at ih ⊢
    rw [List.flatMap_cons, List.flatMap_cons, List.flatMap_append, ih]
    simp [cmt_data, txt_data]
theorem moreL_lines (c : ByteArray) (L : List OpV) : moreL c L = ([⟨#[]⟩, cmt c] ++ moreT c L).flatMap fun x => x.data.toList ++ [10] := by
  unfold moreL
  rw [List.flatMap_append, moreT_lines]
  simp [cmt_data]
theorem more_read (c : ByteArray) : ∀ {L : List OpV}, Fine L → LinesRead (moreT c L) L
  | [], _ => by show LinesRead [] []; unfold LinesRead; rfl
  | o :: t, h => by
    have e : moreT c (o :: t) = [txt o, cmt c, ⟨#[]⟩] ++ moreT c t := by unfold moreT; rw [List.flatMap_cons]
    rw [e]
    refine linesRead_app (X := [o]) ?_ (more_read c fun x hx => h x (List.mem_cons_of_mem _ hx))
    unfold LinesRead
    rw [if_neg (by rw [txt_data, skip_op]; decide)]
    refine ⟨o, [], reads_txt (h o List.mem_cons_self), rfl, ?_⟩
    unfold LinesRead; rw [if_pos (by rfl)]
    unfold LinesRead; rw [if_pos (by rfl)]
    unfold LinesRead; rfl
theorem more_all {L : List OpV} (h : Fine L) {c s : ByteArray} (hc : (10 : UInt8) ∉ c.data.toList) (hs : s.data.toList = moreL c L) : AllIs (textLines s) L 0 0 := by
  rw [textLines_of (A := [⟨#[]⟩, cmt c] ++ moreT c L) ?_ (by rw [hs, moreL_lines])]
  · refine .inl ⟨rfl, rfl, linesRead_app (X := []) ?_ (more_read c h)⟩
    unfold LinesRead; rw [if_pos (by rfl)]
    unfold LinesRead; rw [if_pos (by rfl)]
    unfold LinesRead; rfl
  · have hcm : (10 : UInt8) ∉ (cmt c).data.toList := by
      rw [cmt_data]
      intro h
      rcases List.mem_cons.1 h with h | h
      · revert h; decide
      · exact hc h
    intro x hx
    rcases List.mem_append.1 hx with hx | hx
    · simp only [List.mem_cons, List.not_mem_nil, or_false] at hx
      rcases hx with rfl | rfl
      · simp
      · exact hcm
    · unfold moreT at hx
      obtain ⟨o, ho, hx⟩ := List.mem_flatMap.1 hx
      simp only [List.mem_cons, List.not_mem_nil, or_false] at hx
      rcases hx with rfl | rfl | rfl
      · exact noLF_txt (h o ho)
      · exact hcm
      · simp
/-! ### with a line that is none -/
theorem wrong_all {X Y : List OpV} (hX : Fine X) (hY : Fine Y) {line s : ByteArray} (hl : (10 : UInt8) ∉ line.data.toList) (hk : skipL line.data.toList = false) (hr : ReadsOp line.data.toList opZ 10)
    (hs : s.data.toList = scriptText X ++ (line.data.toList ++ [10]) ++ scriptText Y) : AllIs (textLines s) [] ((X.length : Int) + 1) 10 := by
  rw [textLines_of (A := X.map txt ++ line :: Y.map txt) ?_ ?_]
  · refine .inr ⟨rfl, rfl, X.length, line, X, ?_, rfl, hk, hr, ?_⟩
    · rw [List.getElem?_append_right (by simp)]; simp
    · rw [List.take_left' (by simp)]; exact linesRead_txt hX
  · intro x hx
    rcases List.mem_append.1 hx with hx | hx
    · obtain ⟨o, ho, rfl⟩ := List.mem_map.1 hx; exact noLF_txt (hX o ho)
    · rcases List.mem_cons.1 hx with rfl | hx
      · exact hl
      · obtain ⟨o, ho, rfl⟩ := List.mem_map.1 hx; exact noLF_txt (hY o ho)
  · rw [hs, List.flatMap_append, List.flatMap_cons, script_lines, script_lines, List.append_assoc]
theorem fine_valid {L : List OpV} (h : ∀ o ∈ L, o.In ∧ o.job.size ≤ maxLen) : Fine (validL L) := by
  intro o ho
  unfold validL at ho
  obtain ⟨h1, h2⟩ := List.mem_filter.1 ho
  exact ⟨by simpa using h2, (h o (List.mem_of_mem_take h1)).1⟩
theorem fine_prn {L : List OpV} (h : Fine L) (hn : L.length ≤ 60) : prnAllS L = scriptText L ∧ prnAllE L = 0 ∧ (scriptText L).length ≤ 1980 := by
  have e := script_of (L := L) (by omega) (fun o ho => (h o ho).1)
  have hl := scriptText_len (L := L) (fun o ho => (h o ho).1) (fun o ho => (h o ho).2.2.2.2.2)
  unfold prnAllS prnAllE
  rw [if_pos ⟨e, by omega⟩, if_pos e, if_pos (by omega)]
  exact ⟨rfl, rfl, by omega⟩
end Go.Proofs.YtnnkamfpcodnnaaGreatDoor.Lx
