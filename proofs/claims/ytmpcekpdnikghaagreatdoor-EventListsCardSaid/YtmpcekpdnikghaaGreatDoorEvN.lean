/- The walks of the reader's methods: next, number, among. -/
import Derived.Test.YtmpcekpdnikghaaGreatDoorEvB
import Derived.Test.YtmpcekpdnikghaaGreatDoorEvRd
import Derived.Test.YtmpcekpdnikghaaGreatDoorEnv
import Derived.Test.YtmpcekpdnikghaaGreatDoorNumber
import Derived.Test.YtmpcekpdnikghaaGreatDoorShelf2
namespace Go.Proofs.YtmpcekpdnikghaaGreatDoor
open Go.RowKit

namespace Lx
/-- The reader in block b: the parts P lie in block g, q of them have been taken. -/
structure Rd (w : World) (b g : Nat) (P : List ByteArray) (q : Nat) (bad : Bool) : Prop where
  le : q ≤ P.length
  lt : b < w.heap.size
  sl : ∃ A C, w.cell? ⟨b, 0, none⟩ = some (.slice A (P.length - q) C) ∧ (q < P.length → A = some ⟨g, q, none⟩ ∧ C = P.length - q)
  bd : w.cell? ⟨b, 1, none⟩ = some (.bool bad)
  f0 : w.frozen? ⟨b, 0, none⟩ = false
  f1 : w.frozen? ⟨b, 1, none⟩ = false
  gl : g < w.heap.size
  ne : g ≠ b
  ps : ∀ (i : Nat) (x : ByteArray), P[i]? = some x → w.cell? ⟨g, i, none⟩ = some (.string x)
/-- Nothing but block b is other than it was. -/
def Kp (b : Nat) (w w' : World) : Prop := Below b w w' ∧ w.heap.size ≤ w'.heap.size ∧ ∀ c, c < w.heap.size → c ≠ b → w'.heap[c]? = w.heap[c]?
theorem Kp.refl (b : Nat) (w : World) : Kp b w w := ⟨Below.refl _ _, Nat.le_refl _, fun _ _ _ => rfl⟩
theorem Kp.trans {b : Nat} {w w' w'' : World} (h : Kp b w w') (h' : Kp b w' w'') : Kp b w w'' :=
  ⟨h.1.trans h'.1, Nat.le_trans h.2.1 h'.2.1, fun c hc hn => (h'.2.2 c (Nat.lt_of_lt_of_le hc h.2.1) hn).trans (h.2.2 c hc hn)⟩
theorem Kp.of {b : Nat} {w w' : World} (h : Below w.heap.size w w') (hb : b < w.heap.size) : Kp b w w' := ⟨h.mono (Nat.le_of_lt hb), h.size, fun c hc _ => h.block c hc⟩
theorem Kp.set {b i : Nat} {w : World} {v : Value} : Kp b w (w.setCell ⟨b, i, none⟩ v) := by
  refine ⟨(Below.refl b w).setCell (p := ⟨b, i, none⟩) (Nat.le_refl b) v, by simp [World.setCell], fun c hc hn => Below.heap_setCell _ _ _ _ (fun e => hn e)⟩
theorem Kp.cell {b c i : Nat} {w w' : World} (h : Kp b w w') (hc : c < w.heap.size) (hn : c ≠ b) : w'.cell? ⟨c, i, none⟩ = w.cell? ⟨c, i, none⟩ := by
  unfold World.cell?
  simp only [h.2.2 c hc hn]
theorem set_cell {w : World} {b i : Nat} {u : Value} (h : w.cell? ⟨b, i, none⟩ = some u) (v : Value) : (w.setCell ⟨b, i, none⟩ v).cell? ⟨b, i, none⟩ = some v := World.cell?_setCell_same' _ _ _ (by rw [h]; rfl)
theorem set_other {w : World} {b i j : Nat} (v : Value) (h : i ≠ j) : (w.setCell ⟨b, i, none⟩ v).cell? ⟨b, j, none⟩ = w.cell? ⟨b, j, none⟩ := World.cell?_setCell_other w _ _ v (fun e => h (congrArg Addr.off e))
theorem set_frozen {w : World} {b i j : Nat} (v : Value) : (w.setCell ⟨b, i, none⟩ v).frozen? ⟨b, j, none⟩ = w.frozen? ⟨b, j, none⟩ := World.frozen?_setCell w _ _ v
theorem Rd.put0 {w : World} {b g : Nat} {P : List ByteArray} {q q' : Nat} {bad : Bool} (h : Rd w b g P q bad) {A : Option Addr} {C : Nat} (hq : q' ≤ P.length) (hA : q' < P.length → A = some ⟨g, q', none⟩ ∧ C = P.length - q') :
    Rd (w.setCell ⟨b, 0, none⟩ (.slice A (P.length - q') C)) b g P q' bad := by
  obtain ⟨A0, C0, h0, _⟩ := h.sl
  exact ⟨hq, Nat.lt_of_lt_of_le h.lt Kp.set.2.1, ⟨A, C, set_cell h0 _, hA⟩, (set_other _ (by decide)).trans h.bd, (set_frozen _).trans h.f0, (set_frozen _).trans h.f1, Nat.lt_of_lt_of_le h.gl Kp.set.2.1, h.ne, fun i x hx => (Kp.set.cell h.gl h.ne).trans (h.ps i x hx)⟩
theorem Rd.put1 {w : World} {b g : Nat} {P : List ByteArray} {q : Nat} {bad : Bool} (h : Rd w b g P q bad) (bad' : Bool) : Rd (w.setCell ⟨b, 1, none⟩ (.bool bad')) b g P q bad' := by
  obtain ⟨A0, C0, h0, hA⟩ := h.sl
  exact ⟨h.le, Nat.lt_of_lt_of_le h.lt Kp.set.2.1, ⟨A0, C0, (set_other _ (by decide)).trans h0, hA⟩, set_cell h.bd _, (set_frozen _).trans h.f0, (set_frozen _).trans h.f1, Nat.lt_of_lt_of_le h.gl Kp.set.2.1, h.ne, fun i x hx => (Kp.set.cell h.gl h.ne).trans (h.ps i x hx)⟩
theorem Rd.below {w w' : World} {b g : Nat} {P : List ByteArray} {q : Nat} {bad : Bool} (h : Rd w b g P q bad) (hb : Below w.heap.size w w') : Rd w' b g P q bad := by
  obtain ⟨A0, C0, h0, hA⟩ := h.sl
  exact ⟨h.le, Nat.lt_of_lt_of_le h.lt hb.size, ⟨A0, C0, (hb.cell (p := ⟨b, 0, none⟩) h.lt).trans h0, hA⟩, (hb.cell (p := ⟨b, 1, none⟩) h.lt).trans h.bd, (hb.frozen (p := ⟨b, 0, none⟩) h.lt).trans h.f0, (hb.frozen (p := ⟨b, 1, none⟩) h.lt).trans h.f1, Nat.lt_of_lt_of_le h.gl hb.size, h.ne, fun i x hx => (hb.cell (p := ⟨g, i, none⟩) h.gl).trans (h.ps i x hx)⟩
theorem pget {P : List ByteArray} {q : Nat} {x : ByteArray} (h : P[q]? = some x) : P.getD q ⟨#[]⟩ = x := by rw [List.getD_eq_getElem?_getD, h]; rfl
end Lx
def NextIs (b g : Nat) (P : List ByteArray) (q : Nat) (bad : Bool) (w : World) (e : Ending) (w' : World) : Prop := e = .returned (.string (P.getD q ⟨#[]⟩)) ∧ Lx.Rd w' b g P (min (q + 1) P.length) (bad || decide (P.length ≤ q)) ∧ Lx.Kp b w w'
set_option maxRecDepth 100000 in
theorem next_any (b g : Nat) (P : List ByteArray) (q : Nat) (bad : Bool) (w : World) (h : Lx.Rd w b g P q bad) (hP : P.length ≤ 1000000000) :
    Calls Tryz.prog 40 #[.pointer (some ⟨b, 0, none⟩)] w (NextIs b g P q bad w) := by
  have H := Lib.hid h
  obtain ⟨le, lt, ⟨A, C, hs, hA⟩, bd, f0, f1, gl, ne, ps⟩ := h
  by_cases hq : q < P.length
  · obtain ⟨rfl, rfl⟩ := hA hq
    obtain ⟨x, hx⟩ : ∃ x, P[q]? = some x := ⟨_, List.getElem?_eq_getElem hq⟩
    have hpx := ps q x hx
    have e1 := Lx.pget hx
    have e2 : min (q + 1) P.length = q + 1 := by omega
    have e3 : decide (P.length ≤ q) = false := decide_eq_false (by omega)
    unfold NextIs
    rw [e1, e2, e3, Bool.or_false]
    obtain ⟨m, hm⟩ : ∃ m, P.length - q = m + 1 := ⟨P.length - q - 1, by omega⟩
    rw [hm] at hs
    have HM := Lib.hid (show P.length - (q + 1) = m ∧ q + 1 ≤ P.length by omega)
    have hmb : m ≤ 1000000000 := by omega
    clear ps hx hm e1 e2 e3 hA hP le hq gl ne
    by_cases hm0 : m = 0
    · subst hm0
      go_enter Tryz.func40, Tryz.ntmps40
      go_wp2_with fail
      go_ret
      have h2 := H.out.put0 (q' := q + 1) (A := some ⟨g, q, none⟩) (C := 0) HM.out.2 (fun h => by have := HM.out.1; omega)
      rw [HM.out.1] at h2
      exact ⟨rfl, h2, Lx.Kp.set⟩
    · have hme : ((m : Int) + 1 == 0) = false := by rw [beq_eq_false_iff_ne]; omega
      go_enter Tryz.func40, Tryz.ntmps40
      go_wp2_with fail
      go_ret
      have h2 := H.out.put0 (q' := q + 1) (A := some ⟨g, q + 1, none⟩) (C := m) HM.out.2 (fun h => ⟨rfl, HM.out.1.symm⟩)
      rw [HM.out.1] at h2
      exact ⟨rfl, h2, Lx.Kp.set⟩
  · have hq2 : q = P.length := by omega
    have e1 : P.getD q ⟨#[]⟩ = ⟨#[]⟩ := by rw [List.getD_eq_getElem?_getD, List.getElem?_eq_none (by omega)]; rfl
    have e2 : min (q + 1) P.length = q := by omega
    have e3 : decide (P.length ≤ q) = true := decide_eq_true (by omega)
    unfold NextIs
    rw [e1, e2, e3, Bool.or_true]
    rw [show P.length - q = 0 by omega] at hs
    clear ps e1 e2 e3 hA hP le hq gl ne hq2
    go_enter Tryz.func40, Tryz.ntmps40
    go_wp2_with fail
    go_ret
    exact ⟨rfl, H.out.put1 true, Lx.Kp.set⟩
def NumIs (b g : Nat) (P : List ByteArray) (q : Nat) (bad : Bool) (w : World) (e : Ending) (w' : World) : Prop := e = .returned (.int .i64 (Lx.numRes (P.getD q ⟨#[]⟩).data.toList)) ∧ Lx.Rd w' b g P (min (q + 1) P.length) (bad || !Lx.nOk (P.getD q ⟨#[]⟩).data.toList) ∧ Lx.Kp b w w'
theorem Lx.num_bd (l : List UInt8) : Lx.inR (Lx.numRes l) := by
  unfold Lx.numRes Lx.inR
  split
  · rename_i h
    rw [Bool.and_eq_true] at h
    exact of_decide_eq_true h.2
  · omega
theorem Lx.Kp.env {b : Nat} {w w' : World} (h : Lx.Kp b w w') (env : Env w) (hb : Tryz.prog.globals.size ≤ b) : Env w' := env.keep h.1 hb
set_option maxRecDepth 100000 in
theorem number_rd (b g : Nat) (P : List ByteArray) (q : Nat) (bad : Bool) (w : World) (env : Env w) (hgb : Tryz.prog.globals.size ≤ b) (h : Lx.Rd w b g P q bad) (hP : P.length ≤ 1000000000) (hz : ∀ x ∈ P, x.size ≤ 1000000000) :
    Calls Tryz.prog 39 #[.pointer (some ⟨b, 0, none⟩)] w (NumIs b g P q bad w) := by
  have HN := Lib.hid (next_any b g P q bad w h hP)
  have hx : (P.getD q ⟨#[]⟩).size ≤ 1000000000 := by
    rw [List.getD_eq_getElem?_getD]
    cases hx : P[q]? with
    | none => exact Nat.zero_le _
    | some x => exact hz x (List.mem_of_getElem? hx)
  have HB := Lib.hid (show ((bad || decide (P.length ≤ q)) = false → bad = false) ∧ ((bad || decide (P.length ≤ q)) = true → (bad || !Lx.nOk (P.getD q ⟨#[]⟩).data.toList) = true) from by
    refine ⟨fun h => (Bool.or_eq_false_iff.1 h).1, fun h => ?_⟩
    rcases Bool.or_eq_true_iff.1 h with h | h
    · rw [h]; rfl
    · rw [List.getD_eq_getElem?_getD, List.getElem?_eq_none (of_decide_eq_true h)]
      exact Bool.or_true _)
  unfold NextIs at HN
  unfold NumIs
  generalize min (q + 1) P.length = q' at *
  generalize (bad || decide (P.length ≤ q)) = b1 at *
  generalize P.getD q ⟨#[]⟩ = x at *
  have HNU := Lib.hid (fun W (E : Env W) => number_any x W (by omega) E)
  have HOK := Lib.hid (show (Lx.numErr x.data.toList != 0) = !Lx.nOk x.data.toList from by unfold Lx.nOk; by_cases h : Lx.numErr x.data.toList = 0 <;> simp [h])
  generalize Lx.nOk x.data.toList = ok at *
  generalize Lx.numErr x.data.toList = ne at *
  generalize Lx.numRes x.data.toList = nr at *
  clear h hx hz hP
  go_enter Tryz.func39, Tryz.ntmps39
  go_wp2_with fail
  refine HN.out.mono ?_
  rintro e w1 ⟨rfl, rd1, kp1⟩
  go_wp2_with fail
  refine (HNU.out _ (kp1.env env hgb)).mono ?_
  rintro e w2 ⟨rfl, c2⟩
  have RD := Lib.hid (rd1.below c2)
  have KP := Lib.hid (kp1.trans (Lx.Kp.of c2 rd1.lt))
  have bd := RD.out.bd
  have f1 := RD.out.f1
  clear rd1 kp1 c2
  cases b1
  · have hbad := Lib.hid (HB.out.1 rfl)
    go_wp2_with fail
    go_ret
    refine ⟨rfl, ?_, KP.out.trans Lx.Kp.set⟩
    rw [hbad.out, Bool.false_or, ← HOK.out]
    exact RD.out.put1 _
  · have hbad := Lib.hid (HB.out.2 rfl)
    go_wp2_with fail
    go_ret
    refine ⟨rfl, ?_, KP.out.trans Lx.Kp.set⟩
    rw [hbad.out]
    exact RD.out.put1 _
theorem idxOfS_is (L : List ByteArray) (x : ByteArray) : Lib.idxOfS L x = if Lx.nHit L x.data.toList = true then (Lx.nIdx L x.data.toList : Int) else -1 := by
  have gen : ∀ (L : List ByteArray) (i : Nat), Lib.idxFromS L x i = if L.findIdx (fun y => y.data.toList == x.data.toList) < L.length then ((i + L.findIdx (fun y => y.data.toList == x.data.toList) : Nat) : Int) else -1 := by
    intro L
    induction L with
    | nil => intro i; rfl
    | cons y r ih =>
      intro i
      by_cases h : y = x
      · subst h
        unfold Lib.idxFromS
        rw [if_pos rfl, List.findIdx_cons]
        simp
      · have hb : (y.data.toList == x.data.toList) = false := by
          rw [beq_eq_false_iff_ne]; exact fun e => h (ByteArray.ext (Array.toList_inj.1 e))
        unfold Lib.idxFromS
        rw [if_neg h, ih (i + 1), List.findIdx_cons, hb]
        simp only [cond_false, List.length_cons]
        by_cases hl : r.findIdx (fun y => y.data.toList == x.data.toList) < r.length
        · rw [if_pos hl, if_pos (by omega)]; congr 1; omega
        · rw [if_neg hl, if_neg (by omega)]
  unfold Lib.idxOfS
  rw [gen L 0]
  unfold Lx.nHit Lx.nIdx
  simp
def AmgIs (b g : Nat) (P : List ByteArray) (q : Nat) (bad : Bool) (L : List ByteArray) (w : World) (e : Ending) (w' : World) : Prop := e = .returned (.int .i64 (Lx.nVal L (P.getD q ⟨#[]⟩).data.toList)) ∧ Lx.Rd w' b g P (min (q + 1) P.length) (bad || decide (P.length ≤ q) || !Lx.nHit L (P.getD q ⟨#[]⟩).data.toList) ∧ Lx.Kp b w w'
set_option maxRecDepth 100000 in
theorem among_rd (b g : Nat) (P : List ByteArray) (q : Nat) (bad : Bool) (ad : Option Addr) (n cap : Nat) (L : List ByteArray) (w : World) (h : Lx.Rd w b g P q bad) (hP : P.length ≤ 1000000000)
    (hL : ∀ W, Lx.Kp b w W → Lx.IsNames W ad n L) (hn : n ≤ 1000000000) :
    Calls Tryz.prog 41 #[.pointer (some ⟨b, 0, none⟩), .slice ad n cap] w (AmgIs b g P q bad L w) := by
  have HN := Lib.hid (next_any b g P q bad w h hP)
  unfold NextIs at HN
  unfold AmgIs
  generalize min (q + 1) P.length = q' at *
  generalize (bad || decide (P.length ≤ q)) = b1 at *
  generalize P.getD q ⟨#[]⟩ = x at *
  have HIX := Lib.hid (show ∀ W, Lx.Kp b w W → Calls Tryz.prog 57 #[.slice ad n cap, .string x] W fun e w' => e = .returned (.int .i64 (Lib.idxOfS L x)) ∧ w' = W from fun W k => by
    have hl := hL W k
    by_cases h0 : n = 0
    · subst h0
      obtain rfl : L = [] := List.eq_nil_of_length_eq_zero hl.1
      exact Tryz.slices_Index_string_empty ad cap x W
    · obtain ⟨gn, off, rfl, lt, hc⟩ := hl.2 (by omega)
      have := Tryz.slices_Index_string gn off n cap L x W (by rw [hl.1]; exact Nat.le_refl _) (by omega) (Lx.IsNames.cells hc)
      rw [List.take_of_length_le (by rw [hl.1]; exact Nat.le_refl _)] at this
      exact this)
  have hlen := (hL w (Lx.Kp.refl b w)).1
  have hbd : Lx.nIdx L x.data.toList ≤ n := by rw [← hlen]; exact List.findIdx_le_length
  rw [idxOfS_is] at HIX
  clear hL h hP hlen
  cases hh : Lx.nHit L x.data.toList
  · have hv : Lx.nVal L x.data.toList = 0 := by unfold Lx.nVal; rw [hh]; rfl
    rw [hh, if_neg (by decide)] at HIX
    rw [hv]
    clear hh hv hbd
    go_enter Tryz.func41, Tryz.ntmps41
    go_wp2_with fail
    refine HN.out.mono ?_
    rintro e w1 ⟨rfl, rd1, kp1⟩
    go_wp2_with fail
    refine (HIX.out _ kp1).mono ?_
    rintro e w2 ⟨rfl, rfl⟩
    have RD := Lib.hid rd1
    have KP := Lib.hid kp1
    have bd := RD.out.bd
    have f1 := RD.out.f1
    clear rd1 kp1
    cases b1
    · go_wp2_with fail
      go_ret
      exact ⟨rfl, RD.out.put1 _, KP.out.trans Lx.Kp.set⟩
    · go_wp2_with fail
      go_ret
      exact ⟨rfl, RD.out.put1 _, KP.out.trans Lx.Kp.set⟩
  · have hv : Lx.nVal L x.data.toList = (Lx.nIdx L x.data.toList : Int) := by unfold Lx.nVal; rw [if_pos hh]
    rw [if_pos hh] at HIX
    rw [hv]
    generalize Lx.nIdx L x.data.toList = k at *
    have hk0 : decide ((k : Int) < 0) = false := decide_eq_false (by omega)
    clear hh hv
    go_enter Tryz.func41, Tryz.ntmps41
    go_wp2_with fail
    refine HN.out.mono ?_
    rintro e w1 ⟨rfl, rd1, kp1⟩
    go_wp2_with fail
    refine (HIX.out _ kp1).mono ?_
    rintro e w2 ⟨rfl, rfl⟩
    have RD := Lib.hid rd1
    have KP := Lib.hid kp1
    have bd := RD.out.bd
    have f1 := RD.out.f1
    clear rd1 kp1
    cases b1
    · go_wp2_with fail
      go_ret
      exact ⟨rfl, RD.out.put1 _, KP.out.trans Lx.Kp.set⟩
    · go_wp2_with fail
      go_ret
      exact ⟨rfl, RD.out.put1 _, KP.out.trans Lx.Kp.set⟩
/-! ### the same, by the number of parts that were asked for -/
theorem Lx.pAt_bl (P : List ByteArray) (i : Nat) : (P.getD (min i P.length) ⟨#[]⟩).data.toList = Lx.pAt (Lx.bl P) i := by
  unfold Lx.pAt Lx.bl
  rw [List.getD_eq_getElem?_getD, List.getD_eq_getElem?_getD, List.getElem?_map]
  by_cases h : i < P.length
  · rw [show min i P.length = i by omega, List.getElem?_eq_getElem h]; rfl
  · rw [show min i P.length = P.length by omega, List.getElem?_eq_none (Nat.le_refl _), List.getElem?_eq_none (by omega)]; rfl
theorem Lx.min_succ (i n : Nat) : min (min i n + 1) n = min (i + 1) n := by omega
theorem Lx.min_le (i n : Nat) : decide (n ≤ min i n) = decide (n ≤ i) := by
  by_cases h : n ≤ i
  · rw [decide_eq_true h, decide_eq_true (by omega)]
  · rw [decide_eq_false h, decide_eq_false (by omega)]
theorem Lx.bl_get (P : List ByteArray) (i : Nat) : P.getD (min i P.length) ⟨#[]⟩ = ⟨(Lx.pAt (Lx.bl P) i).toArray⟩ := by
  rw [← Lx.pAt_bl]
def NextI (b g : Nat) (P : List ByteArray) (i : Nat) (bad : Bool) (w : World) (e : Ending) (w' : World) : Prop := e = .returned (.string ⟨(Lx.pAt (Lx.bl P) i).toArray⟩) ∧ Lx.Rd w' b g P (min (i + 1) P.length) (bad || decide (P.length ≤ i)) ∧ Lx.Kp b w w'
theorem next_i (b g : Nat) (P : List ByteArray) (i : Nat) (bad : Bool) (w : World) (h : Lx.Rd w b g P (min i P.length) bad) (hP : P.length ≤ 1000000000) :
    Calls Tryz.prog 40 #[.pointer (some ⟨b, 0, none⟩)] w (NextI b g P i bad w) := by
  have := next_any b g P _ bad w h hP
  unfold NextIs at this
  rw [Lx.min_succ, Lx.min_le, Lx.bl_get] at this
  exact this
def NumI (b g : Nat) (P : List ByteArray) (i : Nat) (bad : Bool) (w : World) (e : Ending) (w' : World) : Prop := e = .returned (.int .i64 (Lx.numRes (Lx.pAt (Lx.bl P) i))) ∧ Lx.Rd w' b g P (min (i + 1) P.length) (bad || !Lx.nOk (Lx.pAt (Lx.bl P) i)) ∧ Lx.Kp b w w'
theorem number_i (b g : Nat) (P : List ByteArray) (i : Nat) (bad : Bool) (w : World) (env : Env w) (hgb : Tryz.prog.globals.size ≤ b) (h : Lx.Rd w b g P (min i P.length) bad) (hP : P.length ≤ 1000000000) (hz : ∀ x ∈ P, x.size ≤ 1000000000) :
    Calls Tryz.prog 39 #[.pointer (some ⟨b, 0, none⟩)] w (NumI b g P i bad w) := by
  have := number_rd b g P _ bad w env hgb h hP hz
  unfold NumIs at this
  rw [Lx.min_succ, Lx.pAt_bl] at this
  exact this
def AmgI (b g : Nat) (P : List ByteArray) (i : Nat) (bad : Bool) (L : List ByteArray) (w : World) (e : Ending) (w' : World) : Prop := e = .returned (.int .i64 (Lx.nVal L (Lx.pAt (Lx.bl P) i))) ∧ Lx.Rd w' b g P (min (i + 1) P.length) (bad || decide (P.length ≤ i) || !Lx.nHit L (Lx.pAt (Lx.bl P) i)) ∧ Lx.Kp b w w'
theorem among_i (b g : Nat) (P : List ByteArray) (i : Nat) (bad : Bool) (ad : Option Addr) (n cap : Nat) (L : List ByteArray) (w : World) (h : Lx.Rd w b g P (min i P.length) bad) (hP : P.length ≤ 1000000000)
    (hL : ∀ W, Lx.Kp b w W → Lx.IsNames W ad n L) (hn : n ≤ 1000000000) :
    Calls Tryz.prog 41 #[.pointer (some ⟨b, 0, none⟩), .slice ad n cap] w (AmgI b g P i bad L w) := by
  have := among_rd b g P _ bad ad n cap L w h hP hL hn
  unfold AmgIs at this
  rw [Lx.min_succ, Lx.min_le, Lx.pAt_bl] at this
  exact this
end Go.Proofs.YtmpcekpdnikghaaGreatDoor
