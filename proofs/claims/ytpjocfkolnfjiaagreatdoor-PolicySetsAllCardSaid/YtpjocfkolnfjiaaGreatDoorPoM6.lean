/- Policies: the state of a policy's box while a value is set; the setters of misfire and limit. Policies: the setter of breaker. (printed by gen_pu.py) Policies: the setter of retry. (printed by gen_pu.py) -/
import Derived.Test.YtpjocfkolnfjiaaGreatDoorPoM3
import Derived.Test.YtpjocfkolnfjiaaGreatDoorPoM2
import Derived.Test.YtpjocfkolnfjiaaGreatDoorPoM5
import Derived.Test.YtpjocfkolnfjiaaGreatDoorPoM1
import Derived.Test.YtpjocfkolnfjiaaGreatDoorShelf2
namespace Go.Proofs.YtpjocfkolnfjiaaGreatDoor
open Go.RowKit

namespace Lx
/-- In the world wx the box g holds the policy q; since w nothing else of what lay then has turned. -/
structure PSt (g : Nat) (w wx : World) (q : PolV) : Prop where
  lt : g < w.heap.size
  gl : Tryz.prog.globals.size ≤ g
  gb : w.grownBy wx (some g)
  cell : ∀ (j : Nat) (v : Value), q.cells[j]? = some v → wx.cell? ⟨g, j, none⟩ = some v
  fz : ∀ j, j < 15 → wx.frozen? ⟨g, j, none⟩ = false
theorem PSt.below {g : Nat} {w wx w' : World} {q : PolV} (h : PSt g w wx q) (hb : Below wx.heap.size wx w') : PSt g w w' q := by
  have hg : g < wx.heap.size := Nat.lt_of_lt_of_le h.lt h.gb.size
  exact ⟨h.lt, h.gl, ⟨hb.os.trans h.gb.os, hb.tape.trans h.gb.tape, hb.output.trans h.gb.output, Nat.le_trans h.gb.size hb.size, fun k hk hne => (hb.block k (Nat.lt_of_lt_of_le hk h.gb.size)).trans (h.gb.block k hk hne)⟩,
    fun j v hj => (hb.cell (p := ⟨g, j, none⟩) hg).trans (h.cell j v hj), fun j hj => (hb.frozen (p := ⟨g, j, none⟩) hg).trans (h.fz j hj)⟩
theorem PSt.toB {g : Nat} {w wx : World} {q : PolV} (h : PSt g w wx q) : Below g w wx :=
  ⟨h.gb.os, h.gb.tape, h.gb.output, h.gb.size, fun k hk => h.gb.block k (Nat.lt_trans hk h.lt) (fun e => by injection e with e; omega)⟩
theorem PSt.env {g : Nat} {w wx : World} {q : PolV} (h : PSt g w wx q) (e : UEnv w) : UEnv wx :=
  ⟨e.env.keep h.toB h.gl, fun j v hj => (h.toB.cell (p := ⟨0, j, none⟩) (Nat.lt_of_lt_of_le g_un_lt h.gl)).trans (e.un j v hj),
    (h.toB.cell (p := ⟨6, 15, none⟩) (Nat.lt_of_lt_of_le g_db_lt h.gl)).trans e.db⟩
theorem pcells_len (q : PolV) : q.cells.length = 15 := rfl
theorem PSt.size {g : Nat} {w wx : World} {q : PolV} (h : PSt g w wx q) : g < wx.heap.size := Nat.lt_of_lt_of_le h.lt h.gb.size
theorem frozen_setCell (w : World) (p a : Addr) (v : Value) : (w.setCell p v).frozen? a = w.frozen? a := by simp
theorem PSt.set {g : Nat} {w wx : World} {q q' : PolV} (h : PSt g w wx q) {j : Nat} (hj : j < 15) {v : Value} (hq : q'.cells = q.cells.set j v) : PSt g w (wx.setCell ⟨g, j, none⟩ v) q' := by
  refine ⟨h.lt, h.gl, ⟨h.gb.os, h.gb.tape, h.gb.output, by simpa [World.setCell] using h.gb.size, fun k hk hne => ?_⟩, fun i u hi => ?_, fun i hi => ?_⟩
  · exact (Below.heap_setCell _ _ _ _ (fun e => hne (by rw [e]))).trans (h.gb.block k hk hne)
  · rw [hq, List.getElem?_set] at hi
    by_cases e : j = i
    · subst e
      rw [if_pos rfl, if_pos (by rw [pcells_len]; exact hj)] at hi
      obtain rfl := Option.some.inj hi
      obtain ⟨u, hu⟩ : ∃ u, q.cells[j]? = some u := ⟨_, List.getElem?_eq_getElem (by rw [pcells_len]; exact hj)⟩
      exact World.cell?_setCell_same _ _ _ (h.cell j u hu)
    · rw [if_neg e] at hi
      rw [World.cell?_setCell_other _ _ _ _ (by intro c; injection c with _ c2 _; first | exact e c2 | exact e c2.symm)]
      exact h.cell i u hi
  · rw [frozen_setCell]; exact h.fz i hi
theorem PSt.trans {g : Nat} {w wx w' : World} {q q' : PolV} (h : PSt g w wx q) (k : PSt g wx w' q') : PSt g w w' q' :=
  ⟨h.lt, h.gl, ⟨k.gb.os.trans h.gb.os, k.gb.tape.trans h.gb.tape, k.gb.output.trans h.gb.output, Nat.le_trans h.gb.size k.gb.size, fun i hi hne => (k.gb.block i (Nat.lt_of_lt_of_le hi h.gb.size) hne).trans (h.gb.block i hi hne)⟩, k.cell, k.fz⟩
/-- What a setter says. -/
def SetPost (g : Nat) (w : World) (r : PolV × Int) (k : Nat) (q : PolV) (e : Ending) (w' : World) : Prop :=
  e = .returned (.int .i64 r.2) ∧ ∃ q', PSt g w w' q' ∧ (r.2 = 0 → q' = updK k r.1 q)
def PEx (g : Nat) (w wx : World) : Prop := ∃ q, PSt g w wx q
def misL : List ByteArray := [⟨#[100, 114, 111, 112]⟩, ⟨#[108, 97, 115, 116]⟩, ⟨#[97, 108, 108]⟩]
theorem ba_ne {a b : ByteArray} (h : a.data.toList ≠ b.data.toList) : a ≠ b := fun c => h (by rw [c])
theorem mis_idx (s : ByteArray) : Lib.idxOfS (misL.take 3) s = if misIx s.data.toList < 3 then (misIx s.data.toList : Int) else -1 := by
  have e : ∀ z : ByteArray, (z = s) ↔ s.data.toList = z.data.toList := fun z => ⟨fun c => by rw [c], fun c => by rw [← Lib.mk_data z, ← Lib.mk_data s, c]⟩
  unfold Lib.idxOfS misIx misW misL
  simp only [List.take, Lib.idxFromS, e]
  by_cases h0 : s.data.toList = [100, 114, 111, 112]
  · simp [h0]
  · by_cases h1 : s.data.toList = [108, 97, 115, 116]
    · simp [h1]
    · by_cases h2 : s.data.toList = [97, 108, 108]
      · simp [h2]
      · simp [h0, h1, h2]
end Lx
namespace Lx
theorem some_pre (l : List UInt8) : Lib.hasPrefix l someW = decide (l.take 5 = someW) := by
  unfold Lib.hasPrefix
  by_cases h : l.take 5 = someW
  · rw [decide_eq_true h, List.isPrefixOf_iff_prefix, List.prefix_iff_eq_take]; exact h.symm
  · rw [decide_eq_false h]
    cases e : someW.isPrefixOf l
    · rfl
    · exact absurd (List.prefix_iff_eq_take.1 (List.isPrefixOf_iff_prefix.1 e)).symm h
theorem some_cut {l : List UInt8} (h : l.take 5 = someW) : Lib.trimPrefix l someW = l.drop 5 := by
  unfold Lib.trimPrefix
  rw [some_pre, decide_eq_true h, if_pos rfl]; rfl
end Lx
set_option maxRecDepth 100000 in
set_option maxHeartbeats 1600000 in
theorem setMis_any (g : Nat) (s : ByteArray) (hs : s.size ≤ 1000000) (q : Lx.PolV) (w : World) (env : UEnv w) (h : Lx.PSt g w w q) :
    Calls Tryz.prog 35 #[.pointer (some ⟨g, 0, none⟩), .string s] w (Lx.SetPost g w (Lx.rdMis s.data.toList) 4 q) := by
  have HX := Lib.hid (fun W => misfires_any W)
  have HI := Lib.hid (show ∀ (b : Nat) (W : World), (∀ j, j < Lx.misL.length → W.cell? ⟨b, 0 + j, none⟩ = some (.string (Lx.misL.getD j ByteArray.empty))) → Calls Tryz.prog 59 #[.slice (some ⟨b, 0, none⟩) 3 3, .string s] W fun e w' => e = .returned (.int .i64 (Lib.idxOfS (Lx.misL.take 3) s)) ∧ w' = W from
    fun b W hc => Tryz.slices_Index_string b 0 3 3 Lx.misL s W (by decide) (by decide) hc)
  rw [Lx.mis_idx] at HI
  obtain ⟨W1, hW1⟩ : ∃ W1, W1 = w.alloc (.cells #[.string ⟨#[100, 114, 111, 112]⟩, .string ⟨#[108, 97, 115, 116]⟩, .string ⟨#[97, 108, 108]⟩] 9) := ⟨_, rfl⟩
  have B1 : Below w.heap.size w W1 := by rw [hW1]; exact (Below.refl _ w).alloc (Nat.le_refl _) _
  have S1 := Lib.hid (h.below B1)
  have HR := Lib.hid (show ∀ j, j < Lx.misL.length → W1.cell? ⟨w.heap.size, 0 + j, none⟩ = some (.string (Lx.misL.getD j ByteArray.empty)) from by
    intro j hj
    rw [hW1, Nat.zero_add]
    apply Lx.cellR
    have : j = 0 ∨ j = 1 ∨ j = 2 := by have : Lx.misL.length = 3 := rfl; omega
    rcases this with rfl | rfl | rfl <;> rfl)
  have c4 : W1.cell? ⟨g, 4, none⟩ = some (.int .i64 q.mis) := S1.out.cell 4 _ rfl
  have c5 : W1.cell? ⟨g, 5, none⟩ = some (.int .i64 q.keep) := S1.out.cell 5 _ rfl
  have f4 := S1.out.fz 4 (by omega)
  have f5 := S1.out.fz 5 (by omega)
  by_cases h3 : Lx.misIx s.data.toList < 3
  · have e : Lx.rdMis s.data.toList = ({ Lx.polZ with mis := Lx.misIx s.data.toList }, 0) := by unfold Lx.rdMis; rw [if_pos h3]
    rw [e]
    rw [if_pos h3] at HI
    obtain ⟨K, hK⟩ : ∃ K : Int, K = (Lx.misIx s.data.toList : Int) := ⟨_, rfl⟩
    rw [← hK] at HI ⊢
    have hK0 : 0 ≤ K := by omega
    clear hK h3 e h env B1
    go_enter Tryz.func35, Tryz.ntmps35
    go_wp2_with fail
    refine (HX.out _).mono ?_
    rintro e w1 ⟨rfl, rfl⟩
    rw [← hW1]
    clear hW1
    go_wp2_with fail
    refine (HI.out _ _ HR.out).mono ?_
    rintro e w1 ⟨rfl, rfl⟩
    go_wp2_with fail
    go_ret
    exact ⟨rfl, { q with mis := K, keep := 0 }, (S1.out.set (j := 4) (q' := { q with mis := K }) (by omega) rfl).set (j := 5) (by omega) rfl, fun _ => rfl⟩
  · rw [if_neg h3] at HI
    by_cases h5 : s.data.toList.take 5 = Lx.someW
    · have e : Lx.rdMis s.data.toList = ({ Lx.polZ with mis := 3, keep := Lx.intV (s.data.toList.drop 5) 1 100 }, Lx.intE (s.data.toList.drop 5) 1 100) := by unfold Lx.rdMis; rw [if_neg h3, if_pos h5]
      rw [e]
      have HC := Lib.hid (show ∀ W, Calls Tryz.prog 60 #[.string s, .string ⟨#[115, 111, 109, 101, 58]⟩] W fun e w' => e = .returned (.tuple #[.string ⟨(s.data.toList.drop 5).toArray⟩, .bool true]) ∧ w' = W from fun W => by
        have := Tryz.strings_CutPrefix s ⟨#[115, 111, 109, 101, 58]⟩ W
        rw [show (⟨#[115, 111, 109, 101, 58]⟩ : ByteArray).data.toList = Lx.someW from rfl, Lx.some_cut h5, Lx.some_pre, decide_eq_true h5] at this
        exact this)
      obtain ⟨A, hA⟩ : ∃ A : ByteArray, A = ⟨(s.data.toList.drop 5).toArray⟩ := ⟨_, rfl⟩
      have hAd : s.data.toList.drop 5 = A.data.toList := by rw [hA]
      have hAs : A.size ≤ 1000000 := by rw [Lib.size_eq, ← hAd, List.length_drop, ← Lib.size_eq]; omega
      rw [← hA] at HC
      rw [hAd]
      have S2 := Lib.hid (S1.out.set (j := 4) (q' := { q with mis := 3 }) (v := .int .i64 3) (by omega) rfl)
      have HN := Lib.hid (pnumber_any A hAs 1 100 g 5 q.keep _ (S2.out.env env) S2.out.size (S2.out.cell 5 _ rfl) (S2.out.fz 5 (by omega)))
      clear hA hAd hAs h3 h5 e h env B1
      go_enter Tryz.func35, Tryz.ntmps35
      go_wp2_with fail
      refine (HX.out _).mono ?_
      rintro e w1 ⟨rfl, rfl⟩
      rw [← hW1]
      clear hW1
      go_wp2_with fail
      refine (HI.out _ _ HR.out).mono ?_
      rintro e w1 ⟨rfl, rfl⟩
      go_wp2_with fail
      refine (HC.out _).mono ?_
      rintro e w1 ⟨rfl, rfl⟩
      go_wp2_with fail
      refine HN.out.mono ?_
      rintro e w1 ⟨rfl, w2, b2, rfl⟩
      go_wp2_with fail
      go_ret
      exact ⟨rfl, { q with mis := 3, keep := _ }, (S2.out.below b2).set (j := 5) (by omega) rfl, fun _ => rfl⟩
    · have e : Lx.rdMis s.data.toList = (Lx.polZ, 10) := by unfold Lx.rdMis; rw [if_neg h3, if_neg h5]
      rw [e]
      have HC := Lib.hid (show ∀ W, Calls Tryz.prog 60 #[.string s, .string ⟨#[115, 111, 109, 101, 58]⟩] W fun e w' => e = .returned (.tuple #[.string ⟨(Lib.trimPrefix s.data.toList Lx.someW).toArray⟩, .bool false]) ∧ w' = W from fun W => by
        have := Tryz.strings_CutPrefix s ⟨#[115, 111, 109, 101, 58]⟩ W
        rw [show (⟨#[115, 111, 109, 101, 58]⟩ : ByteArray).data.toList = Lx.someW from rfl, Lx.some_pre, decide_eq_false h5] at this
        exact this)
      clear h3 h5 e h env B1
      go_enter Tryz.func35, Tryz.ntmps35
      go_wp2_with fail
      refine (HX.out _).mono ?_
      rintro e w1 ⟨rfl, rfl⟩
      rw [← hW1]
      clear hW1
      go_wp2_with fail
      refine (HI.out _ _ HR.out).mono ?_
      rintro e w1 ⟨rfl, rfl⟩
      go_wp2_with fail
      refine (HC.out _).mono ?_
      rintro e w1 ⟨rfl, rfl⟩
      go_wp2_with fail
      go_ret
      exact ⟨rfl, q, S1.out, fun c => by cases c⟩
set_option maxRecDepth 100000 in
set_option maxHeartbeats 1600000 in
theorem setLim_any (g : Nat) (s : ByteArray) (hs : s.size ≤ 1000000) (q : Lx.PolV) (w : World) (env : UEnv w) (h : Lx.PSt g w w q) :
    Calls Tryz.prog 37 #[.pointer (some ⟨g, 0, none⟩), .string s] w (Lx.SetPost g w (Lx.rdLim s) 5 q) := by
  have HL := Lib.hid (limit_any s (by omega) w env)
  have HK := Lib.hid (fun W => checkLimit_any (Lx.limT s) (Lx.limU s) W)
  have HF := Lib.hid (fun (b : Nat) (W : World) hc => first_any b 2 2 [Lx.limE s, Lx.limErr (Lx.limT s) (Lx.limU s)] W rfl (by decide) hc)
  have H0 := Lib.hid h
  unfold Lx.rdLim
  generalize Lx.limT s = T at *
  generalize Lx.limU s = U at *
  generalize Lx.limE s = E at *
  clear h env hs
  go_enter Tryz.func37, Tryz.ntmps37
  go_wp2_with fail
  refine HL.out.mono ?_
  rintro e w1 ⟨rfl, b1⟩
  have S1 := Lib.hid ((H0.out.below b1).below ((Below.refl _ w1).alloc (Nat.le_refl _) (.cells #[.int .i64 T, .int .i64 U] 23)))
  have c6 := S1.out.cell 6 _ rfl
  have c7 := S1.out.cell 7 _ rfl
  have f6 := S1.out.fz 6 (by omega)
  have f7 := S1.out.fz 7 (by omega)
  go_wp2_with fail
  have S2 := Lib.hid ((S1.out.set (j := 6) (q' := { q with lt := T }) (v := .int .i64 T) (by omega) rfl).set (j := 7) (q' := { q with lt := T, lu := U }) (v := .int .i64 U) (by omega) rfl)
  clear S1 c6 c7 f6 f7
  refine (HK.out _).mono ?_
  rintro e w3 ⟨rfl, b3⟩
  have S3 := Lib.hid (S2.out.below b3)
  clear S2 b3
  go_wp2_with fail
  refine (HF.out _ _ (icells_new w3 [E, Lx.limErr T U] _)).mono ?_
  rintro e w4 ⟨rfl, rfl⟩
  go_wp2_with fail
  go_ret
  exact ⟨rfl, { q with lt := T, lu := U }, S3.out.below ((Below.refl _ w3).alloc (Nat.le_refl _) _), fun _ => rfl⟩
end Go.Proofs.YtpjocfkolnfjiaaGreatDoor
namespace Go.Proofs.YtpjocfkolnfjiaaGreatDoor
open Go.RowKit

set_option maxRecDepth 100000 in
set_option maxHeartbeats 1600000 in
theorem setBr_any (g : Nat) (s : ByteArray) (hs : s.size ≤ 1000000) (q : Lx.PolV) (w : World) (env : UEnv w) (h : Lx.PSt g w w q) :
    Calls Tryz.prog 39 #[.pointer (some ⟨g, 0, none⟩), .string s] w (Lx.SetPost g w (Lx.rdBr s) 6 q) := by
  have c0 := h.cell 8 _ rfl
  have f0 := h.fz 8 (by omega)
  have c1 := h.cell 9 _ rfl
  have f1 := h.fz 9 (by omega)
  have c2 := h.cell 10 _ rfl
  have f2 := h.fz 10 (by omega)
  obtain ⟨W1, hW1⟩ : ∃ W1, W1 = (((w.setCell ⟨g, 8, none⟩ (.int .i64 0)).setCell ⟨g, 9, none⟩ (.int .i64 0)).setCell ⟨g, 10, none⟩ (.int .i64 0)) := ⟨_, rfl⟩
  have S1 := Lib.hid (show Lx.PSt g w W1 { q with bf := 0, bo := 0, bp := 0 } from by rw [hW1]; exact (((h.set (j := 8) (q' := { q with bf := 0 }) (v := .int .i64 0) (by omega) rfl).set (j := 9) (q' := { q with bf := 0, bo := 0 }) (v := .int .i64 0) (by omega) rfl).set (j := 10) (q' := { q with bf := 0, bo := 0, bp := 0 }) (v := .int .i64 0) (by omega) rfl))
  by_cases hz : s.data.toList = Lx.noneW
  · have e : Lx.rdBr s = (Lx.polZ, 0) := by unfold Lx.rdBr; rw [if_pos hz]
    rw [e]
    have hzb : (s.toList == [110, 111, 110, 101]) = true := by rw [Lib.toList_data, hz]; rfl
    clear hz e h env hs
    go_enter Tryz.func39, Tryz.ntmps39
    go_upto_region 2 with (fail)
    rw [← hW1]
    clear hW1 c0 f0 c1 f1 c2 f2
    go_wp2_with fail
    go_ret
    exact ⟨rfl, { q with bf := 0, bo := 0, bp := 0 }, S1.out, fun _ => rfl⟩
  · have hzb : (s.toList == [110, 111, 110, 101]) = false := by
      rw [beq_eq_false_iff_ne, Lib.toList_data]; exact hz
    have env1 := S1.out.env env
    obtain ⟨m, hm⟩ := env1.env.mx
    have HSp := Lib.hid (show Calls Tryz.prog 63 #[.string s, .string ⟨#[47]⟩] W1 fun e w' => e = .returned (.slice (some ⟨W1.heap.size, 0, none⟩) (Lx.slS s).length (Lx.slS s).length) ∧ w' = W1.alloc (.cells ((Lx.slS s).map Value.string).toArray 9) from by
      rw [Lx.slS_len]; exact Tryz.strings_Split s ⟨#[47]⟩ m W1 (by omega) hm (by decide))
    by_cases hl : (Lx.slS s).length = 3
    · obtain ⟨A, B, C, hP⟩ : ∃ A B C, Lx.slS s = [A, B, C] := by
        match hq : Lx.slS s, hl with
        | [a, b, c], _ => exact ⟨a, b, c, rfl⟩
      have hbd := (Lx.slS_bd s).1
      rw [hP] at hbd HSp
      have e : Lx.rdBr s = Lx.br3 A.data.toList B.data.toList C.data.toList := by unfold Lx.rdBr; rw [if_neg hz, if_neg (fun c => c hl), hP]; rfl
      rw [e]
      have hsA : A.size ≤ 1000000 := Nat.le_trans (hbd A (by simp)) hs
      have hsB : B.size ≤ 1000000 := Nat.le_trans (hbd B (by simp)) hs
      have hsC : C.size ≤ 1000000 := Nat.le_trans (hbd C (by simp)) hs
      unfold Lx.br3
      obtain ⟨v0, hv0⟩ : ∃ v, v = Lx.intV A.data.toList 1 100 := ⟨_, rfl⟩
      obtain ⟨x0, hx0⟩ : ∃ x, x = Lx.intE A.data.toList 1 100 := ⟨_, rfl⟩
      obtain ⟨v1, hv1⟩ : ∃ v, v = Lx.parV B.data.toList := ⟨_, rfl⟩
      obtain ⟨x1, hx1⟩ : ∃ x, x = Lx.parE B.data.toList := ⟨_, rfl⟩
      obtain ⟨v2, hv2⟩ : ∃ v, v = Lx.intV C.data.toList 1 100 := ⟨_, rfl⟩
      obtain ⟨x2, hx2⟩ : ∃ x, x = Lx.intE C.data.toList 1 100 := ⟨_, rfl⟩
      rw [← hv0, ← hx0, ← hv1, ← hx1, ← hv2, ← hx2]
      obtain ⟨b, hb⟩ : ∃ b, b = W1.heap.size := ⟨_, rfl⟩
      obtain ⟨W2, hW2⟩ : ∃ W2, W2 = W1.alloc (.cells #[.string A, .string B, .string C] 9) := ⟨_, rfl⟩
      have B2 : Below W1.heap.size W1 W2 := by rw [hW2]; exact (Below.refl _ _).alloc (Nat.le_refl _) _
      have S2 := S1.out.below B2
      have S22 : Lx.PSt g W2 W2 { q with bf := 0, bo := 0, bp := 0 } := ⟨S2.size, S2.gl, World.grownBy.refl _ _, S2.cell, S2.fz⟩
      have env2 := S2.env env
      have hgb : b ≠ g := by have := S1.out.size; omega
      have hbl : b < W2.heap.size := by rw [hW2, hb]; simp
      have r0 : W2.cell? ⟨b, 0, none⟩ = some (.string A) := by rw [hW2, hb]; exact Lx.cellR _ _ _ _ _ rfl
      have r1 : W2.cell? ⟨b, 1, none⟩ = some (.string B) := by rw [hW2, hb]; exact Lx.cellR _ _ _ _ _ rfl
      have r2 : W2.cell? ⟨b, 2, none⟩ = some (.string C) := by rw [hW2, hb]; exact Lx.cellR _ _ _ _ _ rfl
      have HN0 := Lib.hid (show ∀ (W : World) (qx : Lx.PolV), Lx.PSt g W2 W qx → Calls Tryz.prog 53 #[.string A, .int .i64 1, .int .i64 100, .pointer (some ⟨g, 8, none⟩)] W fun e w' => e = .returned (.int .i64 x0) ∧ Lx.PSt g W2 w' { qx with bf := v0 } from fun W qx K => by
        rw [hx0]
        refine (pnumber_any A hsA 1 100 g 8 qx.bf W (K.env env2) K.size (K.cell 8 _ rfl) (K.fz 8 (by omega))).mono ?_
        rintro e w9 ⟨rfl, w8, b8, rfl⟩
        exact ⟨rfl, by rw [hv0]; exact (K.below b8).set (j := 8) (by omega) rfl⟩)
      have HN1 := Lib.hid (show ∀ (W : World) (qx : Lx.PolV), Lx.PSt g W2 W qx → Calls Tryz.prog 57 #[.string B, .pointer (some ⟨g, 9, none⟩)] W fun e w' => e = .returned (.int .i64 x1) ∧ Lx.PSt g W2 w' { qx with bo := v1 } from fun W qx K => by
        rw [hx1]
        refine (pspan_any B hsB g 9 qx.bo W (K.env env2) K.size (K.cell 9 _ rfl) (K.fz 9 (by omega))).mono ?_
        rintro e w9 ⟨rfl, w8, b8, rfl⟩
        exact ⟨rfl, by rw [hv1]; exact (K.below b8).set (j := 9) (by omega) rfl⟩)
      have HN2 := Lib.hid (show ∀ (W : World) (qx : Lx.PolV), Lx.PSt g W2 W qx → Calls Tryz.prog 53 #[.string C, .int .i64 1, .int .i64 100, .pointer (some ⟨g, 10, none⟩)] W fun e w' => e = .returned (.int .i64 x2) ∧ Lx.PSt g W2 w' { qx with bp := v2 } from fun W qx K => by
        rw [hx2]
        refine (pnumber_any C hsC 1 100 g 10 qx.bp W (K.env env2) K.size (K.cell 10 _ rfl) (K.fz 10 (by omega))).mono ?_
        rintro e w9 ⟨rfl, w8, b8, rfl⟩
        exact ⟨rfl, by rw [hv2]; exact (K.below b8).set (j := 10) (by omega) rfl⟩)
      have HSS := Lib.hid (show ∀ wx qx, Lx.PSt g W2 wx qx → Lx.PEx g W2 wx ∧ wx.cell? ⟨b, 0, none⟩ = some (.string A) ∧ wx.cell? ⟨b, 1, none⟩ = some (.string B) ∧ wx.cell? ⟨b, 2, none⟩ = some (.string C) from fun wx qx K => ⟨⟨qx, K⟩, K.gb.cell r0 (fun c => hgb (Option.some.inj c)), K.gb.cell r1 (fun c => hgb (Option.some.inj c)), K.gb.cell r2 (fun c => hgb (Option.some.inj c))⟩)
      have K0 := Lib.hid (S22.below (Below.refl _ W2).drew)
      have hS0 := HSS.out _ _ K0.out
      have HFst := Lib.hid (fun (b : Nat) (W : World) hc => first_any b 3 3 [x0, x1, x2] W rfl (by decide) hc)
      have HFs2 := Lib.hid (fun (b : Nat) (W : World) (x y : Int) hc => first_any b 2 2 [x, y] W rfl (by decide) hc)
      have HCk := Lib.hid (fun W => checkBr_any v0 v1 v2 W)
      have T2 := Lib.hid S2
      clear e hl hP hz hm env1 hbd h env hs hsA hsB hsC S2 S22 env2 B2 hv0 hx0 r0 hv1 hx1 r1 hv2 hx2 r2
      go_enter Tryz.func39, Tryz.ntmps39
      go_upto_region 2 with (fail)
      rw [← hW1]
      clear hW1 c0 f0 c1 f1 c2 f2
      go_wp2_with fail
      refine HSp.out.mono ?_
      rintro e w2 ⟨rfl, rfl⟩
      rw [show W1.alloc (.cells (([A, B, C] : List ByteArray).map Value.string).toArray 9) = W2 from hW2.symm, ← hb]
      clear hW2 hb HSp hgb hbl
      go_upto_region 8 with (fail)
      refine wp_region_held_drew (S := (fun wx => Lx.PEx g W2 wx ∧ wx.cell? ⟨b, 0, none⟩ = some (.string A) ∧ wx.cell? ⟨b, 1, none⟩ = some (.string B) ∧ wx.cell? ⟨b, 2, none⟩ = some (.string C))) (by kernel_rfl) ?_ (fun hHeld => ?_)
      · exact hS0
      refine' wpAnyH_take (i := 0) (oi := _) (v := _) ?hi0r1 (by kernel_rfl) (by kernel_rfl) (by kernel_rfl) ?hq0r1 ?hy0r1 (by assumption) ?re0r1
      case hi0r1 => simp only [List.getElem?_toArray, List.getElem?_cons_zero]; rfl
      case hq0r1 => exact fun _ _ _ h => h
      case hy0r1 =>
        refine Or.inl ⟨by rfl, ?_⟩
        intro w hSw; (try dsimp only at hSw); go_simp; try with_reducible rfl
      try simp only [Act.put, List.setIfInBounds_toArray, List.set_cons_zero, List.set_cons_succ]
      refine' wpAnyH_take (i := 1) (oi := _) (v := _) ?hi1r1 (by kernel_rfl) (by kernel_rfl) (by kernel_rfl) ?hq1r1 ?hy1r1 (by assumption) ?re1r1
      case hi1r1 => simp only [List.getElem?_toArray, List.getElem?_cons_succ, List.getElem?_cons_zero]; rfl
      case hq1r1 => exact fun _ _ _ h => h
      case hy1r1 =>
        refine Or.inl ⟨by rfl, ?_⟩
        intro w hSw; (try dsimp only at hSw); go_simp; try with_reducible rfl
      try simp only [Act.put, List.setIfInBounds_toArray, List.set_cons_zero, List.set_cons_succ]
      refine' wpAnyH_take (i := 2) (oi := _) (v := _) ?hi2r1 (by kernel_rfl) (by kernel_rfl) (by kernel_rfl) ?hq2r1 ?hy2r1 (by assumption) ?re2r1
      case hi2r1 => simp only [List.getElem?_toArray, List.getElem?_cons_succ, List.getElem?_cons_zero]; rfl
      case hq2r1 => exact fun _ _ _ h => h
      case hy2r1 =>
        refine Or.inl ⟨by rfl, ?_⟩
        intro w hSw; (try dsimp only at hSw); go_simp; try with_reducible rfl
      try simp only [Act.put, List.setIfInBounds_toArray, List.set_cons_zero, List.set_cons_succ]
      refine' wpAnyH_take (i := 3) (oi := _) (v := _) ?hi3r1 (by kernel_rfl) (by kernel_rfl) (by kernel_rfl) ?hq3r1 ?hy3r1 (by assumption) ?re3r1
      case hi3r1 => simp only [List.getElem?_toArray, List.getElem?_cons_succ, List.getElem?_cons_zero]; rfl
      case hq3r1 => exact fun _ _ _ h => h
      case hy3r1 =>
        refine Or.inl ⟨by rfl, ?_⟩
        intro w hSw; (try dsimp only at hSw); go_simp; try with_reducible rfl
      try simp only [Act.put, List.setIfInBounds_toArray, List.set_cons_zero, List.set_cons_succ]
      refine' wpAnyH_take (i := 4) (oi := _) (v := _) ?hi4r1 (by kernel_rfl) (by kernel_rfl) (by kernel_rfl) ?hq4r1 ?hy4r1 (by assumption) ?re4r1
      case hi4r1 => simp only [List.getElem?_toArray, List.getElem?_cons_succ, List.getElem?_cons_zero]; rfl
      case hq4r1 => exact fun _ _ _ h => h
      case hy4r1 =>
        refine Or.inl ⟨by rfl, ?_⟩
        intro w hSw; (try dsimp only at hSw); go_simp; try with_reducible rfl
      try simp only [Act.put, List.setIfInBounds_toArray, List.set_cons_zero, List.set_cons_succ]
      refine' wpAnyH_take (i := 5) (oi := _) (v := _) ?hi5r1 (by kernel_rfl) (by kernel_rfl) (by kernel_rfl) ?hq5r1 ?hy5r1 (by assumption) ?re5r1
      case hi5r1 => simp only [List.getElem?_toArray, List.getElem?_cons_succ, List.getElem?_cons_zero]; rfl
      case hq5r1 => exact fun _ _ _ h => h
      case hy5r1 =>
        refine Or.inl ⟨by rfl, ?_⟩
        intro w hSw; (try dsimp only at hSw); go_simp; try with_reducible rfl
      try simp only [Act.put, List.setIfInBounds_toArray, List.set_cons_zero, List.set_cons_succ]
      refine' wpAnyH_take (i := 7) (oi := _) (v := _) ?hi7r1 (by kernel_rfl) (by kernel_rfl) (by kernel_rfl) ?hq7r1 ?hy7r1 (by assumption) ?re7r1
      case hi7r1 => simp only [List.getElem?_toArray, List.getElem?_cons_succ, List.getElem?_cons_zero]; rfl
      case hq7r1 => exact fun _ _ _ h => h
      case hy7r1 =>
        refine Or.inl ⟨by rfl, ?_⟩
        intro w hSw; (try dsimp only at hSw); go_simp; try with_reducible rfl
      try simp only [Act.put, List.setIfInBounds_toArray, List.set_cons_zero, List.set_cons_succ]
      refine' wpAnyH_take (i := 8) (oi := _) (v := _) ?hi8r1 (by kernel_rfl) (by kernel_rfl) (by kernel_rfl) ?hq8r1 ?hy8r1 (by assumption) ?re8r1
      case hi8r1 => simp only [List.getElem?_toArray, List.getElem?_cons_succ, List.getElem?_cons_zero]; rfl
      case hq8r1 => exact fun _ _ _ h => h
      case hy8r1 =>
        refine Or.inl ⟨by rfl, ?_⟩
        intro w hSw; (try dsimp only at hSw); go_simp; try with_reducible rfl
      try simp only [Act.put, List.setIfInBounds_toArray, List.set_cons_zero, List.set_cons_succ]
      refine' wpAnyH_take (i := 9) (oi := _) (v := _) ?hi9r1 (by kernel_rfl) (by kernel_rfl) (by kernel_rfl) ?hq9r1 ?hy9r1 (by assumption) ?re9r1
      case hi9r1 => simp only [List.getElem?_toArray, List.getElem?_cons_succ, List.getElem?_cons_zero]; rfl
      case hq9r1 => exact fun _ _ _ h => h
      case hy9r1 =>
        refine Or.inl ⟨by rfl, ?_⟩
        intro w hSw; (try dsimp only at hSw); go_simp; try with_reducible rfl
      try simp only [Act.put, List.setIfInBounds_toArray, List.set_cons_zero, List.set_cons_succ]
      refine' wpAnyH_take (i := 10) (oi := _) (v := _) ?hi10r1 (by kernel_rfl) (by kernel_rfl) (by kernel_rfl) ?hq10r1 ?hy10r1 (by assumption) ?re10r1
      case hi10r1 => simp only [List.getElem?_toArray, List.getElem?_cons_succ, List.getElem?_cons_zero]; rfl
      case hq10r1 => exact fun _ _ _ h => h
      case hy10r1 =>
        refine Or.inl ⟨by rfl, ?_⟩
        intro w hSw; (try dsimp only at hSw); go_simp; try with_reducible rfl
      try simp only [Act.put, List.setIfInBounds_toArray, List.set_cons_zero, List.set_cons_succ]
      refine' wpAnyH_take (i := 11) (oi := _) (v := _) ?hi11r1 (by kernel_rfl) (by kernel_rfl) (by kernel_rfl) ?hq11r1 ?hy11r1 (by assumption) ?re11r1
      case hi11r1 => simp only [List.getElem?_toArray, List.getElem?_cons_succ, List.getElem?_cons_zero]; rfl
      case hq11r1 => exact fun _ _ _ h => h
      case hy11r1 =>
        refine Or.inl ⟨by rfl, ?_⟩
        intro w hSw; (try dsimp only at hSw); go_simp; try with_reducible rfl
      try simp only [Act.put, List.setIfInBounds_toArray, List.set_cons_zero, List.set_cons_succ]
      refine' wpAnyH_take (i := 12) (oi := _) (v := _) ?hi12r1 (by kernel_rfl) (by kernel_rfl) (by kernel_rfl) ?hq12r1 ?hy12r1 (by assumption) ?re12r1
      case hi12r1 => simp only [List.getElem?_toArray, List.getElem?_cons_succ, List.getElem?_cons_zero]; rfl
      case hq12r1 => exact fun _ _ _ h => h
      case hy12r1 =>
        refine Or.inl ⟨by rfl, ?_⟩
        intro w hSw; (try dsimp only at hSw); go_simp; try with_reducible rfl
      try simp only [Act.put, List.setIfInBounds_toArray, List.set_cons_zero, List.set_cons_succ]
      refine' wpAnyH_take (i := 14) (oi := _) (v := _) ?hi14r1 (by kernel_rfl) (by kernel_rfl) (by kernel_rfl) ?hq14r1 ?hy14r1 (by assumption) ?re14r1
      case hi14r1 => simp only [List.getElem?_toArray, List.getElem?_cons_succ, List.getElem?_cons_zero]; rfl
      case hq14r1 => exact fun _ _ _ h => h
      case hy14r1 =>
        refine Or.inl ⟨by rfl, ?_⟩
        intro w hSw; (try dsimp only at hSw); go_simp; try with_reducible rfl
      try simp only [Act.put, List.setIfInBounds_toArray, List.set_cons_zero, List.set_cons_succ]
      refine' wpAnyH_take (i := 15) (oi := _) (v := _) ?hi15r1 (by kernel_rfl) (by kernel_rfl) (by kernel_rfl) ?hq15r1 ?hy15r1 (by assumption) ?re15r1
      case hi15r1 => simp only [List.getElem?_toArray, List.getElem?_cons_succ, List.getElem?_cons_zero]; rfl
      case hq15r1 => exact fun _ _ _ h => h
      case hy15r1 =>
        refine Or.inl ⟨by rfl, ?_⟩
        intro w hSw; (try dsimp only at hSw); go_simp; try with_reducible rfl
      try simp only [Act.put, List.setIfInBounds_toArray, List.set_cons_zero, List.set_cons_succ]
      refine' wpAnyH_take (i := 16) (oi := _) (v := _) ?hi16r1 (by kernel_rfl) (by kernel_rfl) (by kernel_rfl) ?hq16r1 ?hy16r1 (by assumption) ?re16r1
      case hi16r1 => simp only [List.getElem?_toArray, List.getElem?_cons_succ, List.getElem?_cons_zero]; rfl
      case hq16r1 => exact fun _ _ _ h => h
      case hy16r1 =>
        refine Or.inl ⟨by rfl, ?_⟩
        intro w hSw; (try dsimp only at hSw); go_simp; try with_reducible rfl
      try simp only [Act.put, List.setIfInBounds_toArray, List.set_cons_zero, List.set_cons_succ]
      refine' wpAnyH_take (i := 17) (oi := _) (v := _) ?hi17r1 (by kernel_rfl) (by kernel_rfl) (by kernel_rfl) ?hq17r1 ?hy17r1 (by assumption) ?re17r1
      case hi17r1 => simp only [List.getElem?_toArray, List.getElem?_cons_succ, List.getElem?_cons_zero]; rfl
      case hq17r1 => exact fun _ _ _ h => h
      case hy17r1 =>
        refine Or.inl ⟨by rfl, ?_⟩
        intro w hSw; (try dsimp only at hSw); go_simp; try with_reducible rfl
      try simp only [Act.put, List.setIfInBounds_toArray, List.set_cons_zero, List.set_cons_succ]
      refine' wpAnyH_take (i := 18) (oi := _) (v := _) ?hi18r1 (by kernel_rfl) (by kernel_rfl) (by kernel_rfl) ?hq18r1 ?hy18r1 (by assumption) ?re18r1
      case hi18r1 => simp only [List.getElem?_toArray, List.getElem?_cons_succ, List.getElem?_cons_zero]; rfl
      case hq18r1 => exact fun _ _ _ h => h
      case hy18r1 =>
        refine Or.inl ⟨by rfl, ?_⟩
        intro w hSw; (try dsimp only at hSw); go_simp; try with_reducible rfl
      try simp only [Act.put, List.setIfInBounds_toArray, List.set_cons_zero, List.set_cons_succ]
      refine' wpAnyH_take (i := 19) (oi := _) (v := _) ?hi19r1 (by kernel_rfl) (by kernel_rfl) (by kernel_rfl) ?hq19r1 ?hy19r1 (by assumption) ?re19r1
      case hi19r1 => simp only [List.getElem?_toArray, List.getElem?_cons_succ, List.getElem?_cons_zero]; rfl
      case hq19r1 => exact fun _ _ _ h => h
      case hy19r1 =>
        refine Or.inl ⟨by rfl, ?_⟩
        intro w hSw; (try dsimp only at hSw); go_simp; try with_reducible rfl
      try simp only [Act.put, List.setIfInBounds_toArray, List.set_cons_zero, List.set_cons_succ]
      refine wpAnyH_ready (rs := [6]) (by kernel_rfl) (by simp) ?_
      refine' AllReadyH.cons (o := _) ?hi6r1 (fun K hK => ?st6r1) AllReadyH.nil
      case hi6r1 => simp only [List.getElem?_toArray, List.getElem?_cons_succ, List.getElem?_cons_zero]; rfl
      go_simp
      go_at_call 53; refine (HN0.out _ _ K0.out).mono ?_; rintro e w80 ⟨rfl, k0⟩; have K1 := Lib.hid k0; have k8 := HSS.out _ _ K1.out; clear k0
      try go_wp2_with fail
      refine hK.out _ _ ?_ (fun hHeld => ?_)
      · exact k8
      clear hK K
      try simp only [Act.put, List.setIfInBounds_toArray, List.set_cons_zero, List.set_cons_succ]
      refine wpAnyH_ready (rs := [13]) (by kernel_rfl) (by simp) ?_
      refine' AllReadyH.cons (o := _) ?hi13r1 (fun K hK => ?st13r1) AllReadyH.nil
      case hi13r1 => simp only [List.getElem?_toArray, List.getElem?_cons_succ, List.getElem?_cons_zero]; rfl
      go_simp
      go_at_call 57; refine (HN1.out _ _ K1.out).mono ?_; rintro e w81 ⟨rfl, k1⟩; have K2 := Lib.hid k1; have k8 := HSS.out _ _ K2.out; clear k1
      try go_wp2_with fail
      refine hK.out _ _ ?_ (fun hHeld => ?_)
      · exact k8
      clear hK K
      try simp only [Act.put, List.setIfInBounds_toArray, List.set_cons_zero, List.set_cons_succ]
      refine wpAnyH_ready (rs := [20]) (by kernel_rfl) (by simp) ?_
      refine' AllReadyH.cons (o := _) ?hi20r1 (fun K hK => ?st20r1) AllReadyH.nil
      case hi20r1 => simp only [List.getElem?_toArray, List.getElem?_cons_succ, List.getElem?_cons_zero]; rfl
      go_simp
      go_at_call 53; refine (HN2.out _ _ K2.out).mono ?_; rintro e w82 ⟨rfl, k2⟩; have K3 := Lib.hid k2; have k8 := HSS.out _ _ K3.out; clear k2
      try go_wp2_with fail
      refine hK.out _ _ ?_ (fun hHeld => ?_)
      · exact k8
      clear hK K
      try simp only [Act.put, List.setIfInBounds_toArray, List.set_cons_zero, List.set_cons_succ]
      refine wpAnyH_ready (rs := [21]) (by kernel_rfl) (by simp) ?_
      refine' AllReadyH.cons (o := _) ?hi21r1 (fun K hK => ?st21r1) AllReadyH.nil
      case hi21r1 => simp only [List.getElem?_toArray, List.getElem?_cons_succ, List.getElem?_cons_zero]; rfl
      go_simp
      have K4 := Lib.hid (K3.out.below ((Below.refl _ w82).alloc (Nat.le_refl _) (.cells #[.int .i64 x0, .int .i64 x1, .int .i64 x2] 30))); have k8 := HSS.out _ _ K4.out
      try go_wp2_with fail
      refine hK.out _ _ ?_ (fun hHeld => ?_)
      · exact k8
      clear hK K
      try simp only [Act.put, List.setIfInBounds_toArray, List.set_cons_zero, List.set_cons_succ]
      refine wpAnyH_ready (rs := [22]) (by kernel_rfl) (by simp) ?_
      refine' AllReadyH.cons (o := _) ?hi22r1 (fun K hK => ?st22r1) AllReadyH.nil
      case hi22r1 => simp only [List.getElem?_toArray, List.getElem?_cons_succ, List.getElem?_cons_zero]; rfl
      go_simp
      go_at_call 12; refine (HFst.out w82.heap.size (w82.alloc (.cells #[.int .i64 x0, .int .i64 x1, .int .i64 x2] 30)) (icells_new w82 [x0, x1, x2] _)).mono ?_; rintro e w9 ⟨rfl, rfl⟩; have k8 := HSS.out _ _ K4.out
      try go_wp2_with fail
      refine hK.out _ _ ?_ (fun hHeld => ?_)
      · exact k8
      clear hK K
      try simp only [Act.put, List.setIfInBounds_toArray, List.set_cons_zero, List.set_cons_succ]
      refine' wpAnyH_take (i := 23) (oi := _) (v := _) ?hi23r1 (by kernel_rfl) (by kernel_rfl) (by kernel_rfl) ?hq23r1 ?hy23r1 (by assumption) ?re23r1
      case hi23r1 => simp only [List.getElem?_toArray, List.getElem?_cons_succ, List.getElem?_cons_zero]; rfl
      case hq23r1 => exact fun _ _ _ h => h
      case hy23r1 =>
        refine Or.inl ⟨by rfl, ?_⟩
        intro w hSw; (try dsimp only at hSw); go_simp; try with_reducible rfl
      try simp only [Act.put, List.setIfInBounds_toArray, List.set_cons_zero, List.set_cons_succ]
      refine wpAnyH_done (by kernel_rfl) ?_ _
      have d0 := K4.out.cell 8 _ rfl
      have d1 := K4.out.cell 9 _ rfl
      have d2 := K4.out.cell 10 _ rfl
      clear K0 K1 K2 K3 hHeld k8
      go_wp2_with fail
      refine (HCk.out _).mono ?_
      rintro e w3 ⟨rfl, b3⟩
      have S3 := Lib.hid (K4.out.below b3)
      go_wp2_with fail
      refine (HFs2.out _ _ _ _ (icells_new w3 [Lx.firstE [x0, x1, x2], _] _)).mono ?_
      rintro e w4 ⟨rfl, rfl⟩
      go_wp2_with fail
      go_ret
      exact ⟨rfl, _, T2.out.trans (S3.out.below ((Below.refl _ w3).alloc (Nat.le_refl _) _)), fun _ => rfl⟩
    · have e : Lx.rdBr s = (Lx.polZ, 10) := by unfold Lx.rdBr; rw [if_neg hz, if_pos hl]
      rw [e]
      have hl2 : ((Lx.slS s).length : Int) ≠ 3 := by omega
      have T2 := Lib.hid (S1.out.below ((Below.refl _ W1).alloc (Nat.le_refl _) (.cells ((Lx.slS s).map Value.string).toArray 9)))
      generalize Lx.slS s = P at *
      clear e hl hz hm env1 h env hs
      go_enter Tryz.func39, Tryz.ntmps39
      go_upto_region 2 with (fail)
      rw [← hW1]
      clear hW1 c0 f0 c1 f1 c2 f2
      go_wp2_with fail
      refine HSp.out.mono ?_
      rintro e w2 ⟨rfl, rfl⟩
      go_wp2_with fail
      go_ret
      exact ⟨rfl, { q with bf := 0, bo := 0, bp := 0 }, T2.out, fun c => by cases c⟩
end Go.Proofs.YtpjocfkolnfjiaaGreatDoor
namespace Go.Proofs.YtpjocfkolnfjiaaGreatDoor
open Go.RowKit

set_option maxRecDepth 100000 in
set_option maxHeartbeats 1600000 in
theorem setRe_any (g : Nat) (s : ByteArray) (hs : s.size ≤ 1000000) (q : Lx.PolV) (w : World) (env : UEnv w) (h : Lx.PSt g w w q) :
    Calls Tryz.prog 41 #[.pointer (some ⟨g, 0, none⟩), .string s] w (Lx.SetPost g w (Lx.rdRe s) 7 q) := by
  have c0 := h.cell 11 _ rfl
  have f0 := h.fz 11 (by omega)
  have c1 := h.cell 12 _ rfl
  have f1 := h.fz 12 (by omega)
  have c2 := h.cell 13 _ rfl
  have f2 := h.fz 13 (by omega)
  have c3 := h.cell 14 _ rfl
  have f3 := h.fz 14 (by omega)
  obtain ⟨W1, hW1⟩ : ∃ W1, W1 = ((((w.setCell ⟨g, 11, none⟩ (.int .i64 0)).setCell ⟨g, 12, none⟩ (.int .i64 0)).setCell ⟨g, 13, none⟩ (.int .i64 0)).setCell ⟨g, 14, none⟩ (.int .i64 0)) := ⟨_, rfl⟩
  have S1 := Lib.hid (show Lx.PSt g w W1 { q with rm := 0, rb := 0, rc := 0, rj := 0 } from by rw [hW1]; exact ((((h.set (j := 11) (q' := { q with rm := 0 }) (v := .int .i64 0) (by omega) rfl).set (j := 12) (q' := { q with rm := 0, rb := 0 }) (v := .int .i64 0) (by omega) rfl).set (j := 13) (q' := { q with rm := 0, rb := 0, rc := 0 }) (v := .int .i64 0) (by omega) rfl).set (j := 14) (q' := { q with rm := 0, rb := 0, rc := 0, rj := 0 }) (v := .int .i64 0) (by omega) rfl))
  by_cases hz : s.data.toList = Lx.noneW
  · have e : Lx.rdRe s = (Lx.polZ, 0) := by unfold Lx.rdRe; rw [if_pos hz]
    rw [e]
    have hzb : (s.toList == [110, 111, 110, 101]) = true := by rw [Lib.toList_data, hz]; rfl
    clear hz e h env hs
    go_enter Tryz.func41, Tryz.ntmps41
    go_upto_region 2 with (fail)
    rw [← hW1]
    clear hW1 c0 f0 c1 f1 c2 f2 c3 f3
    go_wp2_with fail
    go_ret
    exact ⟨rfl, { q with rm := 0, rb := 0, rc := 0, rj := 0 }, S1.out, fun _ => rfl⟩
  · have hzb : (s.toList == [110, 111, 110, 101]) = false := by
      rw [beq_eq_false_iff_ne, Lib.toList_data]; exact hz
    have env1 := S1.out.env env
    obtain ⟨m, hm⟩ := env1.env.mx
    have HSp := Lib.hid (show Calls Tryz.prog 63 #[.string s, .string ⟨#[47]⟩] W1 fun e w' => e = .returned (.slice (some ⟨W1.heap.size, 0, none⟩) (Lx.slS s).length (Lx.slS s).length) ∧ w' = W1.alloc (.cells ((Lx.slS s).map Value.string).toArray 9) from by
      rw [Lx.slS_len]; exact Tryz.strings_Split s ⟨#[47]⟩ m W1 (by omega) hm (by decide))
    by_cases hl : (Lx.slS s).length = 4
    · obtain ⟨A, B, C, D, hP⟩ : ∃ A B C D, Lx.slS s = [A, B, C, D] := by
        match hq : Lx.slS s, hl with
        | [a, b, c, d], _ => exact ⟨a, b, c, d, rfl⟩
      have hbd := (Lx.slS_bd s).1
      rw [hP] at hbd HSp
      have e : Lx.rdRe s = Lx.re4 A.data.toList B.data.toList C.data.toList D.data.toList := by unfold Lx.rdRe; rw [if_neg hz, if_neg (fun c => c hl), hP]; rfl
      rw [e]
      have hsA : A.size ≤ 1000000 := Nat.le_trans (hbd A (by simp)) hs
      have hsB : B.size ≤ 1000000 := Nat.le_trans (hbd B (by simp)) hs
      have hsC : C.size ≤ 1000000 := Nat.le_trans (hbd C (by simp)) hs
      have hsD : D.size ≤ 1000000 := Nat.le_trans (hbd D (by simp)) hs
      unfold Lx.re4
      obtain ⟨v0, hv0⟩ : ∃ v, v = Lx.intV A.data.toList 1 20 := ⟨_, rfl⟩
      obtain ⟨x0, hx0⟩ : ∃ x, x = Lx.intE A.data.toList 1 20 := ⟨_, rfl⟩
      obtain ⟨v1, hv1⟩ : ∃ v, v = Lx.parV B.data.toList := ⟨_, rfl⟩
      obtain ⟨x1, hx1⟩ : ∃ x, x = Lx.parE B.data.toList := ⟨_, rfl⟩
      obtain ⟨v2, hv2⟩ : ∃ v, v = Lx.parV C.data.toList := ⟨_, rfl⟩
      obtain ⟨x2, hx2⟩ : ∃ x, x = Lx.parE C.data.toList := ⟨_, rfl⟩
      obtain ⟨v3, hv3⟩ : ∃ v, v = Lx.parV D.data.toList := ⟨_, rfl⟩
      obtain ⟨x3, hx3⟩ : ∃ x, x = Lx.parE D.data.toList := ⟨_, rfl⟩
      rw [← hv0, ← hx0, ← hv1, ← hx1, ← hv2, ← hx2, ← hv3, ← hx3]
      obtain ⟨b, hb⟩ : ∃ b, b = W1.heap.size := ⟨_, rfl⟩
      obtain ⟨W2, hW2⟩ : ∃ W2, W2 = W1.alloc (.cells #[.string A, .string B, .string C, .string D] 9) := ⟨_, rfl⟩
      have B2 : Below W1.heap.size W1 W2 := by rw [hW2]; exact (Below.refl _ _).alloc (Nat.le_refl _) _
      have S2 := S1.out.below B2
      have S22 : Lx.PSt g W2 W2 { q with rm := 0, rb := 0, rc := 0, rj := 0 } := ⟨S2.size, S2.gl, World.grownBy.refl _ _, S2.cell, S2.fz⟩
      have env2 := S2.env env
      have hgb : b ≠ g := by have := S1.out.size; omega
      have hbl : b < W2.heap.size := by rw [hW2, hb]; simp
      have r0 : W2.cell? ⟨b, 0, none⟩ = some (.string A) := by rw [hW2, hb]; exact Lx.cellR _ _ _ _ _ rfl
      have r1 : W2.cell? ⟨b, 1, none⟩ = some (.string B) := by rw [hW2, hb]; exact Lx.cellR _ _ _ _ _ rfl
      have r2 : W2.cell? ⟨b, 2, none⟩ = some (.string C) := by rw [hW2, hb]; exact Lx.cellR _ _ _ _ _ rfl
      have r3 : W2.cell? ⟨b, 3, none⟩ = some (.string D) := by rw [hW2, hb]; exact Lx.cellR _ _ _ _ _ rfl
      have HN0 := Lib.hid (show ∀ (W : World) (qx : Lx.PolV), Lx.PSt g W2 W qx → Calls Tryz.prog 53 #[.string A, .int .i64 1, .int .i64 20, .pointer (some ⟨g, 11, none⟩)] W fun e w' => e = .returned (.int .i64 x0) ∧ Lx.PSt g W2 w' { qx with rm := v0 } from fun W qx K => by
        rw [hx0]
        refine (pnumber_any A hsA 1 20 g 11 qx.rm W (K.env env2) K.size (K.cell 11 _ rfl) (K.fz 11 (by omega))).mono ?_
        rintro e w9 ⟨rfl, w8, b8, rfl⟩
        exact ⟨rfl, by rw [hv0]; exact (K.below b8).set (j := 11) (by omega) rfl⟩)
      have HN1 := Lib.hid (show ∀ (W : World) (qx : Lx.PolV), Lx.PSt g W2 W qx → Calls Tryz.prog 57 #[.string B, .pointer (some ⟨g, 12, none⟩)] W fun e w' => e = .returned (.int .i64 x1) ∧ Lx.PSt g W2 w' { qx with rb := v1 } from fun W qx K => by
        rw [hx1]
        refine (pspan_any B hsB g 12 qx.rb W (K.env env2) K.size (K.cell 12 _ rfl) (K.fz 12 (by omega))).mono ?_
        rintro e w9 ⟨rfl, w8, b8, rfl⟩
        exact ⟨rfl, by rw [hv1]; exact (K.below b8).set (j := 12) (by omega) rfl⟩)
      have HN2 := Lib.hid (show ∀ (W : World) (qx : Lx.PolV), Lx.PSt g W2 W qx → Calls Tryz.prog 57 #[.string C, .pointer (some ⟨g, 13, none⟩)] W fun e w' => e = .returned (.int .i64 x2) ∧ Lx.PSt g W2 w' { qx with rc := v2 } from fun W qx K => by
        rw [hx2]
        refine (pspan_any C hsC g 13 qx.rc W (K.env env2) K.size (K.cell 13 _ rfl) (K.fz 13 (by omega))).mono ?_
        rintro e w9 ⟨rfl, w8, b8, rfl⟩
        exact ⟨rfl, by rw [hv2]; exact (K.below b8).set (j := 13) (by omega) rfl⟩)
      have HN3 := Lib.hid (show ∀ (W : World) (qx : Lx.PolV), Lx.PSt g W2 W qx → Calls Tryz.prog 57 #[.string D, .pointer (some ⟨g, 14, none⟩)] W fun e w' => e = .returned (.int .i64 x3) ∧ Lx.PSt g W2 w' { qx with rj := v3 } from fun W qx K => by
        rw [hx3]
        refine (pspan_any D hsD g 14 qx.rj W (K.env env2) K.size (K.cell 14 _ rfl) (K.fz 14 (by omega))).mono ?_
        rintro e w9 ⟨rfl, w8, b8, rfl⟩
        exact ⟨rfl, by rw [hv3]; exact (K.below b8).set (j := 14) (by omega) rfl⟩)
      have HSS := Lib.hid (show ∀ wx qx, Lx.PSt g W2 wx qx → Lx.PEx g W2 wx ∧ wx.cell? ⟨b, 0, none⟩ = some (.string A) ∧ wx.cell? ⟨b, 1, none⟩ = some (.string B) ∧ wx.cell? ⟨b, 2, none⟩ = some (.string C) ∧ wx.cell? ⟨b, 3, none⟩ = some (.string D) from fun wx qx K => ⟨⟨qx, K⟩, K.gb.cell r0 (fun c => hgb (Option.some.inj c)), K.gb.cell r1 (fun c => hgb (Option.some.inj c)), K.gb.cell r2 (fun c => hgb (Option.some.inj c)), K.gb.cell r3 (fun c => hgb (Option.some.inj c))⟩)
      have K0 := Lib.hid (S22.below (Below.refl _ W2).drew)
      have hS0 := HSS.out _ _ K0.out
      have HFst := Lib.hid (fun (b : Nat) (W : World) hc => first_any b 4 4 [x0, x1, x2, x3] W rfl (by decide) hc)
      have HFs2 := Lib.hid (fun (b : Nat) (W : World) (x y : Int) hc => first_any b 2 2 [x, y] W rfl (by decide) hc)
      have HCk := Lib.hid (fun W => checkRe_any v0 v1 v2 v3 W)
      have T2 := Lib.hid S2
      clear e hl hP hz hm env1 hbd h env hs hsA hsB hsC hsD S2 S22 env2 B2 hv0 hx0 r0 hv1 hx1 r1 hv2 hx2 r2 hv3 hx3 r3
      go_enter Tryz.func41, Tryz.ntmps41
      go_upto_region 2 with (fail)
      rw [← hW1]
      clear hW1 c0 f0 c1 f1 c2 f2 c3 f3
      go_wp2_with fail
      refine HSp.out.mono ?_
      rintro e w2 ⟨rfl, rfl⟩
      rw [show W1.alloc (.cells (([A, B, C, D] : List ByteArray).map Value.string).toArray 9) = W2 from hW2.symm, ← hb]
      clear hW2 hb HSp hgb hbl
      go_upto_region 8 with (fail)
      refine wp_region_held_drew (S := (fun wx => Lx.PEx g W2 wx ∧ wx.cell? ⟨b, 0, none⟩ = some (.string A) ∧ wx.cell? ⟨b, 1, none⟩ = some (.string B) ∧ wx.cell? ⟨b, 2, none⟩ = some (.string C) ∧ wx.cell? ⟨b, 3, none⟩ = some (.string D))) (by kernel_rfl) ?_ (fun hHeld => ?_)
      · exact hS0
      refine' wpAnyH_take (i := 0) (oi := _) (v := _) ?hi0r2 (by kernel_rfl) (by kernel_rfl) (by kernel_rfl) ?hq0r2 ?hy0r2 (by assumption) ?re0r2
      case hi0r2 => simp only [List.getElem?_toArray, List.getElem?_cons_zero]; rfl
      case hq0r2 => exact fun _ _ _ h => h
      case hy0r2 =>
        refine Or.inl ⟨by rfl, ?_⟩
        intro w hSw; (try dsimp only at hSw); go_simp; try with_reducible rfl
      try simp only [Act.put, List.setIfInBounds_toArray, List.set_cons_zero, List.set_cons_succ]
      refine' wpAnyH_take (i := 1) (oi := _) (v := _) ?hi1r2 (by kernel_rfl) (by kernel_rfl) (by kernel_rfl) ?hq1r2 ?hy1r2 (by assumption) ?re1r2
      case hi1r2 => simp only [List.getElem?_toArray, List.getElem?_cons_succ, List.getElem?_cons_zero]; rfl
      case hq1r2 => exact fun _ _ _ h => h
      case hy1r2 =>
        refine Or.inl ⟨by rfl, ?_⟩
        intro w hSw; (try dsimp only at hSw); go_simp; try with_reducible rfl
      try simp only [Act.put, List.setIfInBounds_toArray, List.set_cons_zero, List.set_cons_succ]
      refine' wpAnyH_take (i := 2) (oi := _) (v := _) ?hi2r2 (by kernel_rfl) (by kernel_rfl) (by kernel_rfl) ?hq2r2 ?hy2r2 (by assumption) ?re2r2
      case hi2r2 => simp only [List.getElem?_toArray, List.getElem?_cons_succ, List.getElem?_cons_zero]; rfl
      case hq2r2 => exact fun _ _ _ h => h
      case hy2r2 =>
        refine Or.inl ⟨by rfl, ?_⟩
        intro w hSw; (try dsimp only at hSw); go_simp; try with_reducible rfl
      try simp only [Act.put, List.setIfInBounds_toArray, List.set_cons_zero, List.set_cons_succ]
      refine' wpAnyH_take (i := 3) (oi := _) (v := _) ?hi3r2 (by kernel_rfl) (by kernel_rfl) (by kernel_rfl) ?hq3r2 ?hy3r2 (by assumption) ?re3r2
      case hi3r2 => simp only [List.getElem?_toArray, List.getElem?_cons_succ, List.getElem?_cons_zero]; rfl
      case hq3r2 => exact fun _ _ _ h => h
      case hy3r2 =>
        refine Or.inl ⟨by rfl, ?_⟩
        intro w hSw; (try dsimp only at hSw); go_simp; try with_reducible rfl
      try simp only [Act.put, List.setIfInBounds_toArray, List.set_cons_zero, List.set_cons_succ]
      refine' wpAnyH_take (i := 4) (oi := _) (v := _) ?hi4r2 (by kernel_rfl) (by kernel_rfl) (by kernel_rfl) ?hq4r2 ?hy4r2 (by assumption) ?re4r2
      case hi4r2 => simp only [List.getElem?_toArray, List.getElem?_cons_succ, List.getElem?_cons_zero]; rfl
      case hq4r2 => exact fun _ _ _ h => h
      case hy4r2 =>
        refine Or.inl ⟨by rfl, ?_⟩
        intro w hSw; (try dsimp only at hSw); go_simp; try with_reducible rfl
      try simp only [Act.put, List.setIfInBounds_toArray, List.set_cons_zero, List.set_cons_succ]
      refine' wpAnyH_take (i := 5) (oi := _) (v := _) ?hi5r2 (by kernel_rfl) (by kernel_rfl) (by kernel_rfl) ?hq5r2 ?hy5r2 (by assumption) ?re5r2
      case hi5r2 => simp only [List.getElem?_toArray, List.getElem?_cons_succ, List.getElem?_cons_zero]; rfl
      case hq5r2 => exact fun _ _ _ h => h
      case hy5r2 =>
        refine Or.inl ⟨by rfl, ?_⟩
        intro w hSw; (try dsimp only at hSw); go_simp; try with_reducible rfl
      try simp only [Act.put, List.setIfInBounds_toArray, List.set_cons_zero, List.set_cons_succ]
      refine' wpAnyH_take (i := 7) (oi := _) (v := _) ?hi7r2 (by kernel_rfl) (by kernel_rfl) (by kernel_rfl) ?hq7r2 ?hy7r2 (by assumption) ?re7r2
      case hi7r2 => simp only [List.getElem?_toArray, List.getElem?_cons_succ, List.getElem?_cons_zero]; rfl
      case hq7r2 => exact fun _ _ _ h => h
      case hy7r2 =>
        refine Or.inl ⟨by rfl, ?_⟩
        intro w hSw; (try dsimp only at hSw); go_simp; try with_reducible rfl
      try simp only [Act.put, List.setIfInBounds_toArray, List.set_cons_zero, List.set_cons_succ]
      refine' wpAnyH_take (i := 8) (oi := _) (v := _) ?hi8r2 (by kernel_rfl) (by kernel_rfl) (by kernel_rfl) ?hq8r2 ?hy8r2 (by assumption) ?re8r2
      case hi8r2 => simp only [List.getElem?_toArray, List.getElem?_cons_succ, List.getElem?_cons_zero]; rfl
      case hq8r2 => exact fun _ _ _ h => h
      case hy8r2 =>
        refine Or.inl ⟨by rfl, ?_⟩
        intro w hSw; (try dsimp only at hSw); go_simp; try with_reducible rfl
      try simp only [Act.put, List.setIfInBounds_toArray, List.set_cons_zero, List.set_cons_succ]
      refine' wpAnyH_take (i := 9) (oi := _) (v := _) ?hi9r2 (by kernel_rfl) (by kernel_rfl) (by kernel_rfl) ?hq9r2 ?hy9r2 (by assumption) ?re9r2
      case hi9r2 => simp only [List.getElem?_toArray, List.getElem?_cons_succ, List.getElem?_cons_zero]; rfl
      case hq9r2 => exact fun _ _ _ h => h
      case hy9r2 =>
        refine Or.inl ⟨by rfl, ?_⟩
        intro w hSw; (try dsimp only at hSw); go_simp; try with_reducible rfl
      try simp only [Act.put, List.setIfInBounds_toArray, List.set_cons_zero, List.set_cons_succ]
      refine' wpAnyH_take (i := 10) (oi := _) (v := _) ?hi10r2 (by kernel_rfl) (by kernel_rfl) (by kernel_rfl) ?hq10r2 ?hy10r2 (by assumption) ?re10r2
      case hi10r2 => simp only [List.getElem?_toArray, List.getElem?_cons_succ, List.getElem?_cons_zero]; rfl
      case hq10r2 => exact fun _ _ _ h => h
      case hy10r2 =>
        refine Or.inl ⟨by rfl, ?_⟩
        intro w hSw; (try dsimp only at hSw); go_simp; try with_reducible rfl
      try simp only [Act.put, List.setIfInBounds_toArray, List.set_cons_zero, List.set_cons_succ]
      refine' wpAnyH_take (i := 11) (oi := _) (v := _) ?hi11r2 (by kernel_rfl) (by kernel_rfl) (by kernel_rfl) ?hq11r2 ?hy11r2 (by assumption) ?re11r2
      case hi11r2 => simp only [List.getElem?_toArray, List.getElem?_cons_succ, List.getElem?_cons_zero]; rfl
      case hq11r2 => exact fun _ _ _ h => h
      case hy11r2 =>
        refine Or.inl ⟨by rfl, ?_⟩
        intro w hSw; (try dsimp only at hSw); go_simp; try with_reducible rfl
      try simp only [Act.put, List.setIfInBounds_toArray, List.set_cons_zero, List.set_cons_succ]
      refine' wpAnyH_take (i := 12) (oi := _) (v := _) ?hi12r2 (by kernel_rfl) (by kernel_rfl) (by kernel_rfl) ?hq12r2 ?hy12r2 (by assumption) ?re12r2
      case hi12r2 => simp only [List.getElem?_toArray, List.getElem?_cons_succ, List.getElem?_cons_zero]; rfl
      case hq12r2 => exact fun _ _ _ h => h
      case hy12r2 =>
        refine Or.inl ⟨by rfl, ?_⟩
        intro w hSw; (try dsimp only at hSw); go_simp; try with_reducible rfl
      try simp only [Act.put, List.setIfInBounds_toArray, List.set_cons_zero, List.set_cons_succ]
      refine' wpAnyH_take (i := 14) (oi := _) (v := _) ?hi14r2 (by kernel_rfl) (by kernel_rfl) (by kernel_rfl) ?hq14r2 ?hy14r2 (by assumption) ?re14r2
      case hi14r2 => simp only [List.getElem?_toArray, List.getElem?_cons_succ, List.getElem?_cons_zero]; rfl
      case hq14r2 => exact fun _ _ _ h => h
      case hy14r2 =>
        refine Or.inl ⟨by rfl, ?_⟩
        intro w hSw; (try dsimp only at hSw); go_simp; try with_reducible rfl
      try simp only [Act.put, List.setIfInBounds_toArray, List.set_cons_zero, List.set_cons_succ]
      refine' wpAnyH_take (i := 15) (oi := _) (v := _) ?hi15r2 (by kernel_rfl) (by kernel_rfl) (by kernel_rfl) ?hq15r2 ?hy15r2 (by assumption) ?re15r2
      case hi15r2 => simp only [List.getElem?_toArray, List.getElem?_cons_succ, List.getElem?_cons_zero]; rfl
      case hq15r2 => exact fun _ _ _ h => h
      case hy15r2 =>
        refine Or.inl ⟨by rfl, ?_⟩
        intro w hSw; (try dsimp only at hSw); go_simp; try with_reducible rfl
      try simp only [Act.put, List.setIfInBounds_toArray, List.set_cons_zero, List.set_cons_succ]
      refine' wpAnyH_take (i := 16) (oi := _) (v := _) ?hi16r2 (by kernel_rfl) (by kernel_rfl) (by kernel_rfl) ?hq16r2 ?hy16r2 (by assumption) ?re16r2
      case hi16r2 => simp only [List.getElem?_toArray, List.getElem?_cons_succ, List.getElem?_cons_zero]; rfl
      case hq16r2 => exact fun _ _ _ h => h
      case hy16r2 =>
        refine Or.inl ⟨by rfl, ?_⟩
        intro w hSw; (try dsimp only at hSw); go_simp; try with_reducible rfl
      try simp only [Act.put, List.setIfInBounds_toArray, List.set_cons_zero, List.set_cons_succ]
      refine' wpAnyH_take (i := 17) (oi := _) (v := _) ?hi17r2 (by kernel_rfl) (by kernel_rfl) (by kernel_rfl) ?hq17r2 ?hy17r2 (by assumption) ?re17r2
      case hi17r2 => simp only [List.getElem?_toArray, List.getElem?_cons_succ, List.getElem?_cons_zero]; rfl
      case hq17r2 => exact fun _ _ _ h => h
      case hy17r2 =>
        refine Or.inl ⟨by rfl, ?_⟩
        intro w hSw; (try dsimp only at hSw); go_simp; try with_reducible rfl
      try simp only [Act.put, List.setIfInBounds_toArray, List.set_cons_zero, List.set_cons_succ]
      refine' wpAnyH_take (i := 18) (oi := _) (v := _) ?hi18r2 (by kernel_rfl) (by kernel_rfl) (by kernel_rfl) ?hq18r2 ?hy18r2 (by assumption) ?re18r2
      case hi18r2 => simp only [List.getElem?_toArray, List.getElem?_cons_succ, List.getElem?_cons_zero]; rfl
      case hq18r2 => exact fun _ _ _ h => h
      case hy18r2 =>
        refine Or.inl ⟨by rfl, ?_⟩
        intro w hSw; (try dsimp only at hSw); go_simp; try with_reducible rfl
      try simp only [Act.put, List.setIfInBounds_toArray, List.set_cons_zero, List.set_cons_succ]
      refine' wpAnyH_take (i := 19) (oi := _) (v := _) ?hi19r2 (by kernel_rfl) (by kernel_rfl) (by kernel_rfl) ?hq19r2 ?hy19r2 (by assumption) ?re19r2
      case hi19r2 => simp only [List.getElem?_toArray, List.getElem?_cons_succ, List.getElem?_cons_zero]; rfl
      case hq19r2 => exact fun _ _ _ h => h
      case hy19r2 =>
        refine Or.inl ⟨by rfl, ?_⟩
        intro w hSw; (try dsimp only at hSw); go_simp; try with_reducible rfl
      try simp only [Act.put, List.setIfInBounds_toArray, List.set_cons_zero, List.set_cons_succ]
      refine' wpAnyH_take (i := 21) (oi := _) (v := _) ?hi21r2 (by kernel_rfl) (by kernel_rfl) (by kernel_rfl) ?hq21r2 ?hy21r2 (by assumption) ?re21r2
      case hi21r2 => simp only [List.getElem?_toArray, List.getElem?_cons_succ, List.getElem?_cons_zero]; rfl
      case hq21r2 => exact fun _ _ _ h => h
      case hy21r2 =>
        refine Or.inl ⟨by rfl, ?_⟩
        intro w hSw; (try dsimp only at hSw); go_simp; try with_reducible rfl
      try simp only [Act.put, List.setIfInBounds_toArray, List.set_cons_zero, List.set_cons_succ]
      refine' wpAnyH_take (i := 22) (oi := _) (v := _) ?hi22r2 (by kernel_rfl) (by kernel_rfl) (by kernel_rfl) ?hq22r2 ?hy22r2 (by assumption) ?re22r2
      case hi22r2 => simp only [List.getElem?_toArray, List.getElem?_cons_succ, List.getElem?_cons_zero]; rfl
      case hq22r2 => exact fun _ _ _ h => h
      case hy22r2 =>
        refine Or.inl ⟨by rfl, ?_⟩
        intro w hSw; (try dsimp only at hSw); go_simp; try with_reducible rfl
      try simp only [Act.put, List.setIfInBounds_toArray, List.set_cons_zero, List.set_cons_succ]
      refine' wpAnyH_take (i := 23) (oi := _) (v := _) ?hi23r2 (by kernel_rfl) (by kernel_rfl) (by kernel_rfl) ?hq23r2 ?hy23r2 (by assumption) ?re23r2
      case hi23r2 => simp only [List.getElem?_toArray, List.getElem?_cons_succ, List.getElem?_cons_zero]; rfl
      case hq23r2 => exact fun _ _ _ h => h
      case hy23r2 =>
        refine Or.inl ⟨by rfl, ?_⟩
        intro w hSw; (try dsimp only at hSw); go_simp; try with_reducible rfl
      try simp only [Act.put, List.setIfInBounds_toArray, List.set_cons_zero, List.set_cons_succ]
      refine' wpAnyH_take (i := 24) (oi := _) (v := _) ?hi24r2 (by kernel_rfl) (by kernel_rfl) (by kernel_rfl) ?hq24r2 ?hy24r2 (by assumption) ?re24r2
      case hi24r2 => simp only [List.getElem?_toArray, List.getElem?_cons_succ, List.getElem?_cons_zero]; rfl
      case hq24r2 => exact fun _ _ _ h => h
      case hy24r2 =>
        refine Or.inl ⟨by rfl, ?_⟩
        intro w hSw; (try dsimp only at hSw); go_simp; try with_reducible rfl
      try simp only [Act.put, List.setIfInBounds_toArray, List.set_cons_zero, List.set_cons_succ]
      refine' wpAnyH_take (i := 25) (oi := _) (v := _) ?hi25r2 (by kernel_rfl) (by kernel_rfl) (by kernel_rfl) ?hq25r2 ?hy25r2 (by assumption) ?re25r2
      case hi25r2 => simp only [List.getElem?_toArray, List.getElem?_cons_succ, List.getElem?_cons_zero]; rfl
      case hq25r2 => exact fun _ _ _ h => h
      case hy25r2 =>
        refine Or.inl ⟨by rfl, ?_⟩
        intro w hSw; (try dsimp only at hSw); go_simp; try with_reducible rfl
      try simp only [Act.put, List.setIfInBounds_toArray, List.set_cons_zero, List.set_cons_succ]
      refine' wpAnyH_take (i := 26) (oi := _) (v := _) ?hi26r2 (by kernel_rfl) (by kernel_rfl) (by kernel_rfl) ?hq26r2 ?hy26r2 (by assumption) ?re26r2
      case hi26r2 => simp only [List.getElem?_toArray, List.getElem?_cons_succ, List.getElem?_cons_zero]; rfl
      case hq26r2 => exact fun _ _ _ h => h
      case hy26r2 =>
        refine Or.inl ⟨by rfl, ?_⟩
        intro w hSw; (try dsimp only at hSw); go_simp; try with_reducible rfl
      try simp only [Act.put, List.setIfInBounds_toArray, List.set_cons_zero, List.set_cons_succ]
      refine wpAnyH_ready (rs := [6]) (by kernel_rfl) (by simp) ?_
      refine' AllReadyH.cons (o := _) ?hi6r2 (fun K hK => ?st6r2) AllReadyH.nil
      case hi6r2 => simp only [List.getElem?_toArray, List.getElem?_cons_succ, List.getElem?_cons_zero]; rfl
      go_simp
      go_at_call 53; refine (HN0.out _ _ K0.out).mono ?_; rintro e w80 ⟨rfl, k0⟩; have K1 := Lib.hid k0; have k8 := HSS.out _ _ K1.out; clear k0
      try go_wp2_with fail
      refine hK.out _ _ ?_ (fun hHeld => ?_)
      · exact k8
      clear hK K
      try simp only [Act.put, List.setIfInBounds_toArray, List.set_cons_zero, List.set_cons_succ]
      refine wpAnyH_ready (rs := [13]) (by kernel_rfl) (by simp) ?_
      refine' AllReadyH.cons (o := _) ?hi13r2 (fun K hK => ?st13r2) AllReadyH.nil
      case hi13r2 => simp only [List.getElem?_toArray, List.getElem?_cons_succ, List.getElem?_cons_zero]; rfl
      go_simp
      go_at_call 57; refine (HN1.out _ _ K1.out).mono ?_; rintro e w81 ⟨rfl, k1⟩; have K2 := Lib.hid k1; have k8 := HSS.out _ _ K2.out; clear k1
      try go_wp2_with fail
      refine hK.out _ _ ?_ (fun hHeld => ?_)
      · exact k8
      clear hK K
      try simp only [Act.put, List.setIfInBounds_toArray, List.set_cons_zero, List.set_cons_succ]
      refine wpAnyH_ready (rs := [20]) (by kernel_rfl) (by simp) ?_
      refine' AllReadyH.cons (o := _) ?hi20r2 (fun K hK => ?st20r2) AllReadyH.nil
      case hi20r2 => simp only [List.getElem?_toArray, List.getElem?_cons_succ, List.getElem?_cons_zero]; rfl
      go_simp
      go_at_call 57; refine (HN2.out _ _ K2.out).mono ?_; rintro e w82 ⟨rfl, k2⟩; have K3 := Lib.hid k2; have k8 := HSS.out _ _ K3.out; clear k2
      try go_wp2_with fail
      refine hK.out _ _ ?_ (fun hHeld => ?_)
      · exact k8
      clear hK K
      try simp only [Act.put, List.setIfInBounds_toArray, List.set_cons_zero, List.set_cons_succ]
      refine wpAnyH_ready (rs := [27]) (by kernel_rfl) (by simp) ?_
      refine' AllReadyH.cons (o := _) ?hi27r2 (fun K hK => ?st27r2) AllReadyH.nil
      case hi27r2 => simp only [List.getElem?_toArray, List.getElem?_cons_succ, List.getElem?_cons_zero]; rfl
      go_simp
      go_at_call 57; refine (HN3.out _ _ K3.out).mono ?_; rintro e w83 ⟨rfl, k3⟩; have K4 := Lib.hid k3; have k8 := HSS.out _ _ K4.out; clear k3
      try go_wp2_with fail
      refine hK.out _ _ ?_ (fun hHeld => ?_)
      · exact k8
      clear hK K
      try simp only [Act.put, List.setIfInBounds_toArray, List.set_cons_zero, List.set_cons_succ]
      refine wpAnyH_ready (rs := [28]) (by kernel_rfl) (by simp) ?_
      refine' AllReadyH.cons (o := _) ?hi28r2 (fun K hK => ?st28r2) AllReadyH.nil
      case hi28r2 => simp only [List.getElem?_toArray, List.getElem?_cons_succ, List.getElem?_cons_zero]; rfl
      go_simp
      have K5 := Lib.hid (K4.out.below ((Below.refl _ w83).alloc (Nat.le_refl _) (.cells #[.int .i64 x0, .int .i64 x1, .int .i64 x2, .int .i64 x3] 30))); have k8 := HSS.out _ _ K5.out
      try go_wp2_with fail
      refine hK.out _ _ ?_ (fun hHeld => ?_)
      · exact k8
      clear hK K
      try simp only [Act.put, List.setIfInBounds_toArray, List.set_cons_zero, List.set_cons_succ]
      refine wpAnyH_ready (rs := [29]) (by kernel_rfl) (by simp) ?_
      refine' AllReadyH.cons (o := _) ?hi29r2 (fun K hK => ?st29r2) AllReadyH.nil
      case hi29r2 => simp only [List.getElem?_toArray, List.getElem?_cons_succ, List.getElem?_cons_zero]; rfl
      go_simp
      go_at_call 12; refine (HFst.out w83.heap.size (w83.alloc (.cells #[.int .i64 x0, .int .i64 x1, .int .i64 x2, .int .i64 x3] 30)) (icells_new w83 [x0, x1, x2, x3] _)).mono ?_; rintro e w9 ⟨rfl, rfl⟩; have k8 := HSS.out _ _ K5.out
      try go_wp2_with fail
      refine hK.out _ _ ?_ (fun hHeld => ?_)
      · exact k8
      clear hK K
      try simp only [Act.put, List.setIfInBounds_toArray, List.set_cons_zero, List.set_cons_succ]
      refine' wpAnyH_take (i := 30) (oi := _) (v := _) ?hi30r2 (by kernel_rfl) (by kernel_rfl) (by kernel_rfl) ?hq30r2 ?hy30r2 (by assumption) ?re30r2
      case hi30r2 => simp only [List.getElem?_toArray, List.getElem?_cons_succ, List.getElem?_cons_zero]; rfl
      case hq30r2 => exact fun _ _ _ h => h
      case hy30r2 =>
        refine Or.inl ⟨by rfl, ?_⟩
        intro w hSw; (try dsimp only at hSw); go_simp; try with_reducible rfl
      try simp only [Act.put, List.setIfInBounds_toArray, List.set_cons_zero, List.set_cons_succ]
      refine wpAnyH_done (by kernel_rfl) ?_ _
      have d0 := K5.out.cell 11 _ rfl
      have d1 := K5.out.cell 12 _ rfl
      have d2 := K5.out.cell 13 _ rfl
      have d3 := K5.out.cell 14 _ rfl
      clear K0 K1 K2 K3 K4 hHeld k8
      go_wp2_with fail
      refine (HCk.out _).mono ?_
      rintro e w3 ⟨rfl, b3⟩
      have S3 := Lib.hid (K5.out.below b3)
      go_wp2_with fail
      refine (HFs2.out _ _ _ _ (icells_new w3 [Lx.firstE [x0, x1, x2, x3], _] _)).mono ?_
      rintro e w4 ⟨rfl, rfl⟩
      go_wp2_with fail
      go_ret
      exact ⟨rfl, _, T2.out.trans (S3.out.below ((Below.refl _ w3).alloc (Nat.le_refl _) _)), fun _ => rfl⟩
    · have e : Lx.rdRe s = (Lx.polZ, 10) := by unfold Lx.rdRe; rw [if_neg hz, if_pos hl]
      rw [e]
      have hl2 : ((Lx.slS s).length : Int) ≠ 4 := by omega
      have T2 := Lib.hid (S1.out.below ((Below.refl _ W1).alloc (Nat.le_refl _) (.cells ((Lx.slS s).map Value.string).toArray 9)))
      generalize Lx.slS s = P at *
      clear e hl hz hm env1 h env hs
      go_enter Tryz.func41, Tryz.ntmps41
      go_upto_region 2 with (fail)
      rw [← hW1]
      clear hW1 c0 f0 c1 f1 c2 f2 c3 f3
      go_wp2_with fail
      refine HSp.out.mono ?_
      rintro e w2 ⟨rfl, rfl⟩
      go_wp2_with fail
      go_ret
      exact ⟨rfl, { q with rm := 0, rb := 0, rc := 0, rj := 0 }, T2.out, fun c => by cases c⟩
end Go.Proofs.YtpjocfkolnfjiaaGreatDoor
