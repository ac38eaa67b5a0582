/- Policies: Parse. (printed by gen_pz.py) -/
import Derived.Test.YtpjocfkolnfjiaaGreatDoorPoM7
import Derived.Maps.OwnSet
import Derived.Laws.EntriesVeiled
namespace Go.Proofs.YtpjocfkolnfjiaaGreatDoor
open Go.RowKit
open Go.Maps (Keyed string_keyed IsMap)

namespace Lx
/-- The map of the keys that were had. -/
def hadR (v : Value) : Option (DataW Unit × List MemPlace) := match v with
  | .bool b => some (.lit (.bool b), [])
  | _ => none
def hadD : List ByteArray → DataW Unit
  | [] => .map []
  | x :: r => (hadD r).put (.string x.data.toList) (.lit (.bool true))
theorem had_map : ∀ l : List ByteArray, Go.Maps.IsMap (hadD l)
  | [] => ⟨_, rfl⟩
  | x :: r => by obtain ⟨es, h⟩ := had_map r; unfold hadD; rw [h]; exact ⟨_, rfl⟩
theorem had_has : ∀ (l : List ByteArray) (x : ByteArray), ¬ x ∈ l → Go.Maps.has (hadD l) (.string x.data.toList) = false
  | [], _, _ => rfl
  | y :: l, x, hn => by
    unfold hadD
    have hne : Lit.string x.data.toList ≠ Lit.string y.data.toList := fun e => hn (by rw [ByteArray.ext (Array.toList_inj.1 (Lit.string.inj e))]; exact List.mem_cons_self)
    rw [Go.Maps.has_put_other hne]
    exact had_has l x (fun c => hn (List.mem_cons_of_mem _ c))
theorem had_at : ∀ (l : List ByteArray) (x : ByteArray), x ∈ l → ∀ z, (hadD l).atKey (.string x.data.toList) z = .lit (.bool true)
  | [], x, h, _ => by cases h
  | y :: l, x, hm, z => by
    unfold hadD
    by_cases h : x = y
    · subst h; exact Go.Maps.atKey_put_same (had_map l) (show WideAt.IsKeyLit (.string x.data.toList) from trivial) _ _
    · have hne : Lit.string x.data.toList ≠ Lit.string y.data.toList := fun e => h (ByteArray.ext (Array.toList_inj.1 (Lit.string.inj e)))
      rw [Go.Maps.atKey_put_other hne]
      exact had_at l x ((List.mem_cons.1 hm).resolve_left h) z
/-- A box beside what was written. -/
theorem PSt.beside {g : Nat} {wx w' : World} {q : PolV} {row : Option Nat} (h : PSt g wx wx q) (hg : wx.grownBy w' row) (hne : some g ≠ row) : PSt g w' w' q := by
  have hb := hg.block g h.lt hne
  exact ⟨Nat.lt_of_lt_of_le h.lt hg.size, h.gl, World.grownBy.refl _ _, fun j v hj => (World.cell?_of_block (w := wx) (a := ⟨g, j, none⟩) hb).trans (h.cell j v hj), fun j hj => (World.frozen?_of_block (w := wx) (a := ⟨g, j, none⟩) hb).trans (h.fz j hj)⟩
/-- The state of Parse: its result's box g2, the policy's box g5, the map m of the keys that were had, the row A of the words. -/
structure LSt (w wr : World) (g2 g5 m A : Nat) (L : List ByteArray) (q : PolV) (N : List ByteArray) : Prop where
  b : Below w.heap.size w wr
  z : PSt g2 wr wr polZ
  p : PSt g5 wr wr q
  mp : wr.ownsMap Tryz.prog 9 hadR m N.length (hadD N)
  row : ∀ (j : Nat) (x : ByteArray), L[j]? = some x → wr.cell? ⟨A, j, none⟩ = some (.string x)
  ra : A < wr.heap.size
  ml : m < wr.heap.size
  ne : g2 ≠ g5 ∧ g2 ≠ m ∧ g2 ≠ A ∧ g5 ≠ m ∧ g5 ≠ A ∧ m ≠ A
  ge : w.heap.size ≤ g2 ∧ w.heap.size ≤ g5 ∧ w.heap.size ≤ m
theorem below_gb {wr w' : World} (hb : Below wr.heap.size wr w') : wr.grownBy w' none := ⟨hb.os, hb.tape, hb.output, hb.size, fun k hk _ => hb.block k hk⟩
theorem LSt.below {w wr w' : World} {g2 g5 m A : Nat} {L : List ByteArray} {q : PolV} {N : List ByteArray} (h : LSt w wr g2 g5 m A L q N) (hb : Below wr.heap.size wr w') : LSt w w' g2 g5 m A L q N :=
  ⟨h.b.trans (hb.mono h.b.size), h.z.beside (below_gb hb) (fun c => by cases c), h.p.beside (below_gb hb) (fun c => by cases c), h.mp.kept (below_gb hb) (fun c => by cases c),
    fun j x hj => (hb.cell (p := ⟨A, j, none⟩) h.ra).trans (h.row j x hj), Nat.lt_of_lt_of_le h.ra hb.size, Nat.lt_of_lt_of_le h.ml hb.size, h.ne, h.ge⟩
theorem LSt.pol {w wr : World} {g2 g5 m A : Nat} {L : List ByteArray} {q : PolV} {N : List ByteArray} (h : LSt w wr g2 g5 m A L q N) (q' : PolV) : LSt w (putPol wr g5 q') g2 g5 m A L q' N := by
  have S := h.p.put q'
  have hg := S.gb
  refine ⟨h.b.trans (S.toB.mono h.ge.2.1), h.z.beside hg (fun c => h.ne.1 (Option.some.inj c)), ⟨S.size, S.gl, World.grownBy.refl _ _, S.cell, S.fz⟩, h.mp.kept hg (fun c => h.ne.2.2.2.1 (Option.some.inj c).symm),
    fun j x hj => hg.cell (h.row j x hj) (fun c => h.ne.2.2.2.2.1 (Option.some.inj c).symm), Nat.lt_of_lt_of_le h.ra hg.size, Nat.lt_of_lt_of_le h.ml hg.size, h.ne, h.ge⟩
theorem LSt.had {w wr w' : World} {g2 g5 m A : Nat} {L : List ByteArray} {q : PolV} {N : List ByteArray} {x : ByteArray} (h : LSt w wr g2 g5 m A L q N) (ho : w'.ownsMap Tryz.prog 9 hadR m (N.length + 1) (hadD (x :: N))) (hg : wr.grownBy w' (some m)) : LSt w w' g2 g5 m A L q (x :: N) :=
  ⟨h.b.grown hg h.b.size (fun j hj => by cases hj; exact h.ge.2.2), h.z.beside hg (fun c => h.ne.2.1 (Option.some.inj c)), h.p.beside hg (fun c => h.ne.2.2.2.1 (Option.some.inj c)), ho,
    fun j x hj => hg.cell (h.row j x hj) (fun c => h.ne.2.2.2.2.2 (Option.some.inj c).symm), Nat.lt_of_lt_of_le h.ra hg.size, Nat.lt_of_lt_of_le h.ml hg.size, h.ne, h.ge⟩
set_option maxRecDepth 100000 in
set_option maxHeartbeats 1600000 in
theorem put_run {g : Nat} {w wx : World} {q : PolV} (h : PSt g w wx q) (x : PolV) : (Instr.storeAt 29 (.pointer (some ⟨g, 0, none⟩)) x.val).run Tryz.prog wx = .ok () (putPol wx g x) := by
  have z0 := h.cell 0 _ rfl
  have y0 := h.fz 0 (by omega)
  have z1 := h.cell 1 _ rfl
  have y1 := h.fz 1 (by omega)
  have z2 := h.cell 2 _ rfl
  have y2 := h.fz 2 (by omega)
  have z3 := h.cell 3 _ rfl
  have y3 := h.fz 3 (by omega)
  have z4 := h.cell 4 _ rfl
  have y4 := h.fz 4 (by omega)
  have z5 := h.cell 5 _ rfl
  have y5 := h.fz 5 (by omega)
  have z6 := h.cell 6 _ rfl
  have y6 := h.fz 6 (by omega)
  have z7 := h.cell 7 _ rfl
  have y7 := h.fz 7 (by omega)
  have z8 := h.cell 8 _ rfl
  have y8 := h.fz 8 (by omega)
  have z9 := h.cell 9 _ rfl
  have y9 := h.fz 9 (by omega)
  have z10 := h.cell 10 _ rfl
  have y10 := h.fz 10 (by omega)
  have z11 := h.cell 11 _ rfl
  have y11 := h.fz 11 (by omega)
  have z12 := h.cell 12 _ rfl
  have y12 := h.fz 12 (by omega)
  have z13 := h.cell 13 _ rfl
  have y13 := h.fz 13 (by omega)
  have z14 := h.cell 14 _ rfl
  have y14 := h.fz 14 (by omega)
  clear h
  unfold PolV.val putPol
  go_simp
set_option maxRecDepth 100000 in
set_option maxHeartbeats 1600000 in
theorem get_run {g : Nat} {w wx : World} {q : PolV} (h : PSt g w wx q) : (Instr.loadAt 29 (.pointer (some ⟨g, 0, none⟩))).run Tryz.prog wx = .ok q.val wx := by
  have z0 := h.cell 0 _ rfl
  have y0 := h.fz 0 (by omega)
  have z1 := h.cell 1 _ rfl
  have y1 := h.fz 1 (by omega)
  have z2 := h.cell 2 _ rfl
  have y2 := h.fz 2 (by omega)
  have z3 := h.cell 3 _ rfl
  have y3 := h.fz 3 (by omega)
  have z4 := h.cell 4 _ rfl
  have y4 := h.fz 4 (by omega)
  have z5 := h.cell 5 _ rfl
  have y5 := h.fz 5 (by omega)
  have z6 := h.cell 6 _ rfl
  have y6 := h.fz 6 (by omega)
  have z7 := h.cell 7 _ rfl
  have y7 := h.fz 7 (by omega)
  have z8 := h.cell 8 _ rfl
  have y8 := h.fz 8 (by omega)
  have z9 := h.cell 9 _ rfl
  have y9 := h.fz 9 (by omega)
  have z10 := h.cell 10 _ rfl
  have y10 := h.fz 10 (by omega)
  have z11 := h.cell 11 _ rfl
  have y11 := h.fz 11 (by omega)
  have z12 := h.cell 12 _ rfl
  have y12 := h.fz 12 (by omega)
  have z13 := h.cell 13 _ rfl
  have y13 := h.fz 13 (by omega)
  have z14 := h.cell 14 _ rfl
  have y14 := h.fz 14 (by omega)
  clear h
  unfold PolV.val
  go_simp
/-- A whole policy, laid into a box: for the walk. -/
theorem wpList_put (w : World) {ops : Array Oper} {rest : List Oper} {o : Oper} {a : Act} {Q : Exit → Act → World → Prop} (hg : o.guard = none) (p v : Operand) (hop : o.op = Op.store 29 p v)
    (g : Nat) (hp : a.eval p = .pointer (some ⟨g, 0, none⟩)) (x : PolV) (hv : a.eval v = x.val) {wb : World} {q : PolV} (h : PSt g wb w q) (hK : wpList Tryz.prog ops Q rest (a.put o.dst undef) (putPol w g x)) : wpList Tryz.prog ops Q (o :: rest) a w := by
  refine wpList_plain hg fun K' hK' => ?_
  have hrun := put_run h x
  unfold Oper.wp
  simp [execOp, hop, hp, hv, hrun, Result.andThen]
  exact hK' _ _ hK
/-- A whole policy, read out of its box: for the walk. -/
theorem wpList_get (w : World) {ops : Array Oper} {rest : List Oper} {o : Oper} {a : Act} {Q : Exit → Act → World → Prop} (hg : o.guard = none) (p : Operand) (hop : o.op = Op.load 29 p)
    (g : Nat) (hp : a.eval p = .pointer (some ⟨g, 0, none⟩)) {wb : World} {q : PolV} (h : PSt g wb w q) (hK : wpList Tryz.prog ops Q rest (a.put o.dst q.val) w) : wpList Tryz.prog ops Q (o :: rest) a w := by
  refine wpList_plain hg fun K' hK' => ?_
  have hrun := get_run h
  unfold Oper.wp
  simp [execOp, hop, hp, hrun, Result.andThen]
  exact hK' _ _ hK
theorem wdsB_size {s x : ByteArray} {j : Nat} (h : (wdsB s)[j]? = some x) : x.size ≤ s.size := by
  unfold wdsB Lib.goFieldsP at h
  rw [List.getElem?_map] at h
  cases e : (Lib.spansOfP isBlR s)[j]? with
  | none => rw [e] at h; cases h
  | some y => rw [e] at h; cases h; rw [ByteArray.size_extract]; omega
/-- Keys that were had, by their names and by their numbers. -/
def HadIs (N : List ByteArray) (K : List Nat) : Prop := K = N.map (fun x => keyIx x.data.toList) ∧ ∀ x ∈ N, keyIx x.data.toList < 8
theorem had_iff {N : List ByteArray} {K : List Nat} (h : HadIs N K) {x : ByteArray} (hx : keyIx x.data.toList < 8) : x ∈ N ↔ keyIx x.data.toList ∈ K := by
  rw [h.1, List.mem_map]
  constructor
  · intro c; exact ⟨x, c, rfl⟩
  · rintro ⟨y, hy, e⟩
    have h1 := keyIx_back (h.2 y hy)
    rw [e, ← keyIx_back hx] at h1
    have : y = x := ByteArray.ext (Array.toList_inj.1 h1)
    rw [← this]; exact hy
theorem parL_form {s : ByteArray} {r : List ByteArray} {p : PolV} {had : List Nat} {i : Nat} (h : pairE s ≠ 0) : parL (s :: r) p had i = (polZ, i, 10) := by rw [parL, if_pos h]
theorem parL_name {s : ByteArray} {r : List ByteArray} {p : PolV} {had : List Nat} {i : Nat} (h : pairE s = 0) (h2 : keyIx (pairK s).data.toList = 8) : parL (s :: r) p had i = (polZ, i, 15) := by
  rw [parL, if_neg (fun c => c h), if_pos (by omega)]
theorem parL_have {s : ByteArray} {r : List ByteArray} {p : PolV} {had : List Nat} {i : Nat} (h : pairE s = 0) (h2 : keyIx (pairK s).data.toList < 8) (h3 : keyIx (pairK s).data.toList ∈ had) : parL (s :: r) p had i = (polZ, i, 6) := by
  rw [parL, if_neg (fun c => c h), if_neg (fun c => c h2), if_pos h3]
theorem parL_bad {s : ByteArray} {r : List ByteArray} {p : PolV} {had : List Nat} {i : Nat} (h : pairE s = 0) (h2 : keyIx (pairK s).data.toList < 8) (h3 : ¬ keyIx (pairK s).data.toList ∈ had) (h4 : (setPol p (pairK s) (pairV s)).2 ≠ 0) : parL (s :: r) p had i = (polZ, i, (setPol p (pairK s) (pairV s)).2) := by
  have e : setPol p (pairK s) (pairV s) = setK (keyIx (pairK s).data.toList) (pairV s) p := by unfold setPol; rw [if_pos h2]
  rw [e] at h4 ⊢
  rw [parL, if_neg (fun c => c h), if_neg (fun c => c h2), if_neg h3, if_pos h4]
theorem parL_good {s : ByteArray} {r : List ByteArray} {p : PolV} {had : List Nat} {i : Nat} (h : pairE s = 0) (h2 : keyIx (pairK s).data.toList < 8) (h3 : ¬ keyIx (pairK s).data.toList ∈ had) (h4 : (setPol p (pairK s) (pairV s)).2 = 0) : parL (s :: r) p had i = parL r (setPol p (pairK s) (pairV s)).1 (keyIx (pairK s).data.toList :: had) (i + 1) := by
  have e : setPol p (pairK s) (pairV s) = setK (keyIx (pairK s).data.toList) (pairV s) p := by unfold setPol; rw [if_pos h2]
  rw [e] at h4 ⊢
  rw [parL, if_neg (fun c => c h), if_neg (fun c => c h2), if_neg h3, if_neg (fun c => c h4)]
theorem pairE_two (s : ByteArray) : pairE s = 0 ∨ pairE s = 10 := by unfold pairE; split <;> simp
theorem pairV_size (s : ByteArray) : (pairV s).size ≤ s.size := by
  unfold pairV
  split
  · exact cutB_size s 61
  · exact Nat.zero_le _
theorem pairK_size (s : ByteArray) : (pairK s).size ≤ s.size := by
  unfold pairK
  split
  · exact cutA_size s 61
  · exact Nat.zero_le _
end Lx
theorem lawP : Keyed Tryz.prog 9 := string_keyed Tryz.underlying9
theorem zeroBo (w : World) : (zeroValue 4).run Tryz.prog w = .ok (.bool false) w := by kernel_rfl
set_option maxRecDepth 100000 in
set_option maxHeartbeats 6400000 in
/-- A text, read as a policy. -/
theorem polParse_any (s : ByteArray) (hs : s.size ≤ 1000000000) (w : World) (env : UEnv w) :
    Calls Tryz.prog 17 #[.string s] w fun e w' => e = .returned (.tuple #[(Lx.parP s).1.val, .int .i64 ((Lx.parP s).2.1 : Nat), .int .i64 (Lx.parP s).2.2]) ∧ Below w.heap.size w w' := by
  obtain ⟨W0, hW0⟩ : ∃ W0, W0 = w.alloc (.cells #[.int .i64 0, .int .i64 0, .int .i64 0, .int .i64 0, .int .i64 0, .int .i64 0, .int .i64 0, .int .i64 0, .int .i64 0, .int .i64 0, .int .i64 0, .int .i64 0, .int .i64 0, .int .i64 0, .int .i64 0] 29) := ⟨_, rfl⟩
  have B0 := Lib.hid (show Below w.heap.size w W0 from by rw [hW0]; exact (Below.refl _ w).alloc (Nat.le_refl _) _)
  have hlt : w.heap.size < W0.heap.size := by rw [hW0]; simp
  obtain ⟨g2, hg2⟩ : ∃ g2, g2 = w.heap.size := ⟨_, rfl⟩
  have Z0 := Lib.hid (show Lx.PSt g2 W0 W0 Lx.polZ from by
    rw [hg2]
    refine ⟨hlt, env.env.lt, World.grownBy.refl _ _, fun j v hj => ?_, fun j hj => ?_⟩
    · have hj15 : j < 15 := (List.getElem?_eq_some_iff.1 hj).1
      have hv : v = .int .i64 0 := by
        have := Lx.zeroC hj15
        rw [List.getElem?_toArray] at this
        exact Option.some.inj (hj.symm.trans this)
      rw [hv, hW0]
      exact Lx.cellR _ _ _ _ _ (Lx.zeroC hj15)
    · rw [hW0]; simp)
  have Hg2 := Lib.hid hg2
  clear hg2
  by_cases hbig : s.size > 65536
  · as_aux_lemma =>
      have hbi : (65536 : Int) < (s.size : Int) := by omega
      have hR := Lib.hid (show Lx.parP s = (Lx.polZ, 0, 11) from by unfold Lx.parP; rw [if_pos hbig])
      clear hlt hbig hs env
      go_enter Tryz.func17, Tryz.ntmps17
      go_upto_region 1 with (fail)
      rw [show w.alloc (.cells #[.int .i64 0, .int .i64 0, .int .i64 0, .int .i64 0, .int .i64 0, .int .i64 0, .int .i64 0, .int .i64 0, .int .i64 0, .int .i64 0, .int .i64 0, .int .i64 0, .int .i64 0, .int .i64 0, .int .i64 0] 29) = W0 from hW0.symm, ← Hg2.out]
      clear hW0
      go_wp2_with ((with_reducible show wpList _ _ _ _ _ _); refine Lx.wpList_put _ rfl _ _ rfl g2 rfl Lx.polZ rfl Z0.out ?_)
      have Z4 := Z0.out.put Lx.polZ
      obtain ⟨W4, hW4⟩ : ∃ W4, W4 = Lx.putPol W0 g2 Lx.polZ := ⟨_, rfl⟩
      rw [← hW4] at Z4 ⊢
      clear hW4
      have d0 := Z4.cell 0 _ rfl
      have d1 := Z4.cell 1 _ rfl
      have d2 := Z4.cell 2 _ rfl
      have d3 := Z4.cell 3 _ rfl
      have d4 := Z4.cell 4 _ rfl
      have d5 := Z4.cell 5 _ rfl
      have d6 := Z4.cell 6 _ rfl
      have d7 := Z4.cell 7 _ rfl
      have d8 := Z4.cell 8 _ rfl
      have d9 := Z4.cell 9 _ rfl
      have d10 := Z4.cell 10 _ rfl
      have d11 := Z4.cell 11 _ rfl
      have d12 := Z4.cell 12 _ rfl
      have d13 := Z4.cell 13 _ rfl
      have d14 := Z4.cell 14 _ rfl
      refine bodyPost_ret (v := .tuple #[.agg #[.int .i64 0, .int .i64 0, .int .i64 0, .int .i64 0, .int .i64 0, .int .i64 0, .int .i64 0, .int .i64 0, .int .i64 0, .int .i64 0, .int .i64 0, .int .i64 0, .int .i64 0, .int .i64 0, .int .i64 0], .int .i64 0, .int .i64 11]) ?_ rfl ⟨by rw [hR.out]; rfl, B0.out.trans (Z4.toB.mono (Nat.le_of_eq Hg2.out.symm))⟩
      simp [results, Tryz.results17, go_sem, Lx.polZ, d0, d1, d2, d3, d4, d5, d6, d7, d8, d9, d10, d11, d12, d13, d14]
  · have hbd : decide ((65536 : Int) < (s.size : Int)) = false := decide_eq_false (by omega)
    have hnb : ¬ ((65536 : Int) < (s.size : Int)) := by omega
    have hR := Lib.hid (show Lx.parP s = Lx.parL (Lx.wdsB s) Lx.polD [] 0 from by unfold Lx.parP; rw [if_neg hbig])
    have HD := Lib.hid (show ∀ W, Calls Tryz.prog 19 #[] W fun e w' => e = .returned (.agg #[.int .i64 1, .int .i64 50, .int .i64 0, .int .i64 3600, .int .i64 0, .int .i64 0, .int .i64 0, .int .i64 0, .int .i64 0, .int .i64 0, .int .i64 0, .int .i64 0, .int .i64 0, .int .i64 0, .int .i64 0]) ∧ Below W.heap.size W w' from fun W => default_any W)
    have HFF := Lib.hid (fun W => fields_any s (by omega) W)
    have HLs := Lib.hid (Lx.wdsB_len s)
    have HWs := Lib.hid (show ∀ j x, (Lx.wdsB s)[j]? = some x → x.size ≤ 65536 from fun j x h => Nat.le_trans (Lx.wdsB_size h) (by omega))
    have hss : s.size ≤ 65536 := by omega
    obtain ⟨R, hRR⟩ : ∃ R, R = Lx.parP s := ⟨_, rfl⟩
    rw [← hRR] at hR ⊢
    generalize Lx.wdsB s = L at *
    have hmm := @run_makeMap Tryz.prog
    clear hRR hs hbig
    go_enter Tryz.func17, Tryz.ntmps17
    go_upto_region 1 with (fail)
    rw [show w.alloc (.cells #[.int .i64 0, .int .i64 0, .int .i64 0, .int .i64 0, .int .i64 0, .int .i64 0, .int .i64 0, .int .i64 0, .int .i64 0, .int .i64 0, .int .i64 0, .int .i64 0, .int .i64 0, .int .i64 0, .int .i64 0] 29) = W0 from hW0.symm, ← Hg2.out]
    clear hW0
    go_wp2_with fail
    refine (HD.out _).mono ?_
    rintro e w1 ⟨rfl, c1⟩
    go_wp2_with fail
    obtain ⟨g5, hg5⟩ : ∃ g5, g5 = w1.heap.size := ⟨_, rfl⟩
    obtain ⟨m, hm⟩ : ∃ m, m = w1.heap.size + 1 := ⟨_, rfl⟩
    obtain ⟨W2, hW2⟩ : ∃ W2, W2 = (w1.alloc (.cells #[.int .i64 1, .int .i64 50, .int .i64 0, .int .i64 3600, .int .i64 0, .int .i64 0, .int .i64 0, .int .i64 0, .int .i64 0, .int .i64 0, .int .i64 0, .int .i64 0, .int .i64 0, .int .i64 0, .int .i64 0] 29)).alloc (.map #[] 0) := ⟨_, rfl⟩
    rw [show (w1.alloc (.cells #[.int .i64 1, .int .i64 50, .int .i64 0, .int .i64 3600, .int .i64 0, .int .i64 0, .int .i64 0, .int .i64 0, .int .i64 0, .int .i64 0, .int .i64 0, .int .i64 0, .int .i64 0, .int .i64 0, .int .i64 0] 29)).alloc (.map #[] 0) = W2 from hW2.symm]
    refine (HFF.out W2).mono ?_
    rintro e w3 ⟨A, rfl, hA, hA2, hrow, c3⟩
    rw [← hm, ← hg5]
    have c12 : Below w1.heap.size w1 W2 := by rw [hW2]; exact ((Below.refl _ _).alloc (Nat.le_refl _) _).alloc (by simp) _
    have s2 : W2.heap.size = w1.heap.size + 1 + 1 := by rw [hW2]; simp
    have s0 := c1.size
    have hle : w.heap.size ≤ w1.heap.size := by omega
    have S3 : Lx.LSt w w3 g2 g5 m A L Lx.polD [] := by
      have P2 : Lx.PSt g5 W2 W2 Lx.polD := by
        refine ⟨by omega, by have := env.env.lt; omega, World.grownBy.refl _ _, fun j v hj => ?_, fun j hj => ?_⟩
        · rw [hW2, hg5, World.cell?_alloc_past _ _ _ (by show w1.heap.size < (w1.alloc (.cells #[.int .i64 1, .int .i64 50, .int .i64 0, .int .i64 3600, .int .i64 0, .int .i64 0, .int .i64 0, .int .i64 0, .int .i64 0, .int .i64 0, .int .i64 0, .int .i64 0, .int .i64 0, .int .i64 0, .int .i64 0] 29)).heap.size; simp)]
          exact Lx.cellR _ _ _ _ _ (by rw [List.getElem?_toArray]; exact hj)
        · rw [hW2, hg5]; simp
      have M2 : W2.ownsMap Tryz.prog 9 Lx.hadR m 0 (Lx.hadD []) := by
        have h0 := World.ownsMap_made (w1.alloc (.cells #[.int .i64 1, .int .i64 50, .int .i64 0, .int .i64 3600, .int .i64 0, .int .i64 0, .int .i64 0, .int .i64 0, .int .i64 0, .int .i64 0, .int .i64 0, .int .i64 0, .int .i64 0, .int .i64 0, .int .i64 0] 29)) Tryz.prog 9 Lx.hadR
        rw [hW2, hm]
        simpa [Lx.hadD] using h0
      have g3 := Lx.below_gb c3
      refine ⟨B0.out.trans ((c1.mono (by omega)).trans ((c12.mono hle).trans (c3.mono (by omega)))), ?_, P2.beside g3 (fun c => by cases c), M2.kept g3 (fun c => by cases c), hrow, hA, ?_, ?_, ?_⟩
      · exact ((Z0.out.beside (Lx.below_gb c1) (fun c => by cases c)).beside (Lx.below_gb c12) (fun c => by cases c)).beside g3 (fun c => by cases c)
      · have := c3.size; omega
      · have := Hg2.out; omega
      · have := Hg2.out; omega
    have HS3 := Lib.hid S3
    clear c12 s2 s0 hle S3 hW2 hm hg5 c1 c3 hrow hA hA2 hlt hmm HFF HD Z0
    go_wp2_with fail
    go_loopw [23] (fun i wr => ∃ (k : Nat) (q : Lx.PolV) (N : List ByteArray) (K : List Nat), k ≤ L.length ∧ i = .int .i64 k ∧ Lx.LSt w wr g2 g5 m A L q N ∧ Lx.HadIs N K ∧ N.length ≤ k ∧ R = Lx.parL (L.drop k) q K k) (fun i _ => L.length - (intOf i).toNat)
    case atStart => exact ⟨0, Lx.polD, [], [], Nat.zero_le _, rfl, HS3.out, ⟨rfl, fun x hx => by cases hx⟩, Nat.le_refl _, hR.out⟩
    case round =>
      obtain ⟨k, q, N, K, hk, rfl, S, hN, hNl, hRk⟩ := hrel
      by_cases hlt : k < L.length
      · obtain ⟨x, hx⟩ : ∃ x, L[k]? = some x := ⟨_, List.getElem?_eq_getElem hlt⟩
        have hki : (k : Int) < (L.length : Int) := by omega
        have hLi : (L.length : Int) ≤ 65536 := by have := HLs.out; omega
        have hcx := S.row k x hx
        have hxs := HWs.out k x hx
        have hdrop : L.drop k = x :: L.drop (k + 1) := by
          rw [List.drop_eq_getElem_cons hlt]
          congr 1
          rw [List.getElem?_eq_getElem hlt] at hx
          exact Option.some.inj hx
        rw [hdrop] at hRk
        have HP := Lib.hid (pair_any x wr (by omega))
        have HF := Lib.hid (fun W => find_any (Lx.pairK x) W)
        have hks := Lx.pairK_size x
        have hvs := Lx.pairV_size x
        have hE2 := Lx.pairE_two x
        have HRk := Lib.hid hRk
        have HS := Lib.hid S
        have HN := Lib.hid hN
        have HNl := Lib.hid hNl
        have Hlt := Lib.hid hlt
        have Hss := Lib.hid hss
        obtain ⟨n1, hn1⟩ : ∃ n1, n1 = Lx.pairK x := ⟨_, rfl⟩
        obtain ⟨v1, hv1⟩ : ∃ v1, v1 = Lx.pairV x := ⟨_, rfl⟩
        obtain ⟨e1, he1⟩ : ∃ e1, e1 = Lx.pairE x := ⟨_, rfl⟩
        have Hn1 := Lib.hid hn1
        have Hv1 := Lib.hid hv1
        have He1 := Lib.hid he1
        rw [← hn1, ← hv1, ← he1] at HP
        rw [← hn1] at HF hks
        rw [← hv1] at hvs
        rw [← he1] at hE2
        clear hRk S hN hx hdrop hn1 hv1 he1
        have hdec : decide ((k : Int) < (L.length : Int)) = true := decide_eq_true hki
        go_wp2_with fail
        refine HP.out.mono ?_
        rintro e w4 ⟨rfl, c4⟩
        go_wp2_with fail
        refine (HF.out _).mono ?_
        rintro e w5 (⟨hk8, rfl, c5⟩ | ⟨kk, b1, b2, b3, b4, hk8, hkx, rfl, kb, c5⟩)
        · have S5 := (HS.out.below c4).below c5
          obtain ⟨W6, hW6⟩ : ∃ W6, W6 = w5.alloc (.cells #[.string ⟨#[]⟩, .nilFunc, .nilFunc] 59) := ⟨_, rfl⟩
          have S6 := Lib.hid (show Lx.LSt w W6 g2 g5 m A L q N from by rw [hW6]; exact S5.below ((Below.refl _ _).alloc (Nat.le_refl _) _))
          have g3 : ∀ (q : Addr) (W : World), (store q .nilFunc).run Tryz.prog W = stored Tryz.prog W q .nilFunc .plain := fun q W => run_store Tryz.prog W q _ _ rfl
          clear S5 c4 c5
          rcases hE2 with rfl | rfl
          · as_aux_lemma =>
              have HE := Lib.hid (show R = (Lx.polZ, k, 15) from by rw [HRk.out]; exact Lx.parL_name He1.out.symm (by rw [← Hn1.out]; exact hk8))
              go_upto_region 11 with (fail)
              rw [show w5.alloc (.cells #[.string ⟨#[]⟩, .nilFunc, .nilFunc] 59) = W6 from hW6.symm]
              clear hW6 g3
              go_wp2_with ((with_reducible show wpList _ _ _ _ _ _); refine Lx.wpList_put _ rfl _ _ rfl g2 rfl Lx.polZ rfl S6.out.z ?_)
              have Z4 := S6.out.z.put Lx.polZ
              have ge := S6.out.ge
              have Bx := S6.out.b
              obtain ⟨W4, hW4⟩ : ∃ W4, W4 = Lx.putPol W6 g2 Lx.polZ := ⟨_, rfl⟩
              rw [← hW4] at Z4 ⊢
              clear hW4
              have d0 := Z4.cell 0 _ rfl
              have d1 := Z4.cell 1 _ rfl
              have d2 := Z4.cell 2 _ rfl
              have d3 := Z4.cell 3 _ rfl
              have d4 := Z4.cell 4 _ rfl
              have d5 := Z4.cell 5 _ rfl
              have d6 := Z4.cell 6 _ rfl
              have d7 := Z4.cell 7 _ rfl
              have d8 := Z4.cell 8 _ rfl
              have d9 := Z4.cell 9 _ rfl
              have d10 := Z4.cell 10 _ rfl
              have d11 := Z4.cell 11 _ rfl
              have d12 := Z4.cell 12 _ rfl
              have d13 := Z4.cell 13 _ rfl
              have d14 := Z4.cell 14 _ rfl
              refine bodyPost_ret (v := .tuple #[.agg #[.int .i64 0, .int .i64 0, .int .i64 0, .int .i64 0, .int .i64 0, .int .i64 0, .int .i64 0, .int .i64 0, .int .i64 0, .int .i64 0, .int .i64 0, .int .i64 0, .int .i64 0, .int .i64 0, .int .i64 0], .int .i64 k, .int .i64 15]) ?_ rfl ⟨by rw [HE.out]; rfl, Bx.trans (Z4.toB.mono ge.1)⟩
              simp [results, Tryz.results17, go_sem, Lx.polZ, d0, d1, d2, d3, d4, d5, d6, d7, d8, d9, d10, d11, d12, d13, d14]
  
          · as_aux_lemma =>
              have HE := Lib.hid (show R = (Lx.polZ, k, 10) from by rw [HRk.out]; exact Lx.parL_form (by rw [← He1.out]; decide))
              go_upto_region 11 with (fail)
              rw [show w5.alloc (.cells #[.string ⟨#[]⟩, .nilFunc, .nilFunc] 59) = W6 from hW6.symm]
              clear hW6 g3
              go_wp2_with ((with_reducible show wpList _ _ _ _ _ _); refine Lx.wpList_put _ rfl _ _ rfl g2 rfl Lx.polZ rfl S6.out.z ?_)
              have Z4 := S6.out.z.put Lx.polZ
              have ge := S6.out.ge
              have Bx := S6.out.b
              obtain ⟨W4, hW4⟩ : ∃ W4, W4 = Lx.putPol W6 g2 Lx.polZ := ⟨_, rfl⟩
              rw [← hW4] at Z4 ⊢
              clear hW4
              have d0 := Z4.cell 0 _ rfl
              have d1 := Z4.cell 1 _ rfl
              have d2 := Z4.cell 2 _ rfl
              have d3 := Z4.cell 3 _ rfl
              have d4 := Z4.cell 4 _ rfl
              have d5 := Z4.cell 5 _ rfl
              have d6 := Z4.cell 6 _ rfl
              have d7 := Z4.cell 7 _ rfl
              have d8 := Z4.cell 8 _ rfl
              have d9 := Z4.cell 9 _ rfl
              have d10 := Z4.cell 10 _ rfl
              have d11 := Z4.cell 11 _ rfl
              have d12 := Z4.cell 12 _ rfl
              have d13 := Z4.cell 13 _ rfl
              have d14 := Z4.cell 14 _ rfl
              refine bodyPost_ret (v := .tuple #[.agg #[.int .i64 0, .int .i64 0, .int .i64 0, .int .i64 0, .int .i64 0, .int .i64 0, .int .i64 0, .int .i64 0, .int .i64 0, .int .i64 0, .int .i64 0, .int .i64 0, .int .i64 0, .int .i64 0, .int .i64 0], .int .i64 k, .int .i64 10]) ?_ rfl ⟨by rw [HE.out]; rfl, Bx.trans (Z4.toB.mono ge.1)⟩
              simp [results, Tryz.results17, go_sem, Lx.polZ, d0, d1, d2, d3, d4, d5, d6, d7, d8, d9, d10, d11, d12, d13, d14]
  
        · have S5 := (HS.out.below c4).below c5
          obtain ⟨GV, hGV⟩ : ∃ G, G = Lx.getF b1 b2 b3 b4 kk := ⟨_, rfl⟩
          obtain ⟨SV, hSV⟩ : ∃ G, G = Lx.setF b1 b2 b3 b4 kk := ⟨_, rfl⟩
          have one := Lx.one_fn (b1 := b1) (b2 := b2) (b3 := b3) (b4 := b4) hk8
          obtain ⟨N0, hN0⟩ : ∃ N : ByteArray, N = ⟨(Lx.keyW kk).toArray⟩ := ⟨_, rfl⟩
          rw [← hGV, ← hSV] at one
          rw [← hN0, ← hGV, ← hSV]
          have g1 : ∀ (q : Addr) (W : World), (store q GV).run Tryz.prog W = stored Tryz.prog W q GV .plain := fun q W => run_store Tryz.prog W q _ _ one.1
          have g3 : ∀ (q : Addr) (W : World), (store q SV).run Tryz.prog W = stored Tryz.prog W q SV .plain := fun q W => run_store Tryz.prog W q _ _ one.2
          obtain ⟨W6, hW6⟩ : ∃ W6, W6 = w5.alloc (.cells #[.string N0, GV, SV] 59) := ⟨_, rfl⟩
          have S6 := Lib.hid (show Lx.LSt w W6 g2 g5 m A L q N from by rw [hW6]; exact S5.below ((Below.refl _ _).alloc (Nat.le_refl _) _))
          have Hk8 := Lib.hid (show Lx.keyIx (Lx.pairK x).data.toList < 8 from by rw [← Hn1.out, hkx]; exact hk8)
          clear S5 c4 c5 hGV hSV one hN0 kb hkx hk8
          rcases hE2 with rfl | rfl
          · have hkey : keyOf Tryz.prog 9 (.string n1) = some (.string n1.data.toList) := Go.WideMaps.keyOf_string_mk Tryz.underlying9 (by unfold maxLen; omega)
            obtain ⟨v, ps, hrun, hv⟩ := S6.out.mp.lookup lawP Tryz.underlying66 (zeroBo W6) (zd := .lit (.bool false)) (zp := []) rfl hkey
            by_cases hmem : n1 ∈ N
            · as_aux_lemma =>
                rw [Lx.had_at _ _ hmem] at hv
                have hvb : v = .bool true := by
                  cases v <;> simp [Lx.hadR] at hv
                  rw [hv.1]
                subst hvb
                have HE := Lib.hid (show R = (Lx.polZ, k, 6) from by rw [HRk.out]; exact Lx.parL_have He1.out.symm Hk8.out ((Lx.had_iff HN.out Hk8.out).1 (by rw [← Hn1.out]; exact hmem)))
                clear hv hmem hkey
                go_upto_region 11 with (fail)
                rw [show w5.alloc (.cells #[.string N0, GV, SV] 59) = W6 from hW6.symm]
                clear hW6 g1 g3
                go_wp2_with ((with_reducible show wpList _ _ _ _ _ _); refine Lx.wpList_put _ rfl _ _ rfl g2 rfl Lx.polZ rfl S6.out.z ?_)
                have Z4 := S6.out.z.put Lx.polZ
                have ge := S6.out.ge
                have Bx := S6.out.b
                obtain ⟨W4, hW4⟩ : ∃ W4, W4 = Lx.putPol W6 g2 Lx.polZ := ⟨_, rfl⟩
                rw [← hW4] at Z4 ⊢
                clear hW4
                have d0 := Z4.cell 0 _ rfl
                have d1 := Z4.cell 1 _ rfl
                have d2 := Z4.cell 2 _ rfl
                have d3 := Z4.cell 3 _ rfl
                have d4 := Z4.cell 4 _ rfl
                have d5 := Z4.cell 5 _ rfl
                have d6 := Z4.cell 6 _ rfl
                have d7 := Z4.cell 7 _ rfl
                have d8 := Z4.cell 8 _ rfl
                have d9 := Z4.cell 9 _ rfl
                have d10 := Z4.cell 10 _ rfl
                have d11 := Z4.cell 11 _ rfl
                have d12 := Z4.cell 12 _ rfl
                have d13 := Z4.cell 13 _ rfl
                have d14 := Z4.cell 14 _ rfl
                refine bodyPost_ret (v := .tuple #[.agg #[.int .i64 0, .int .i64 0, .int .i64 0, .int .i64 0, .int .i64 0, .int .i64 0, .int .i64 0, .int .i64 0, .int .i64 0, .int .i64 0, .int .i64 0, .int .i64 0, .int .i64 0, .int .i64 0, .int .i64 0], .int .i64 k, .int .i64 6]) ?_ rfl ⟨by rw [HE.out]; rfl, Bx.trans (Z4.toB.mono ge.1)⟩
                simp [results, Tryz.results17, go_sem, Lx.polZ, d0, d1, d2, d3, d4, d5, d6, d7, d8, d9, d10, d11, d12, d13, d14]
  
            · rw [Go.Maps.atKey_of_not_has (Lx.had_has _ _ hmem)] at hv
              have hvb : v = .bool false := by
                cases v <;> simp [Lx.hadR] at hv
                rw [hv.1]
              subst hvb
              have Hmem := Lib.hid (show ¬ Lx.keyIx (Lx.pairK x).data.toList ∈ K from fun c => hmem (by rw [Hn1.out]; exact (Lx.had_iff HN.out Hk8.out).2 c))
              obtain ⟨r, hr⟩ : ∃ r, r = Lx.setPol q n1 v1 := ⟨_, rfl⟩
              have HSet := Lib.hid (polSet_any q n1 v1 (by omega) W6 (env.below S6.out.b))
              rw [← hr] at HSet
              obtain ⟨q', x'⟩ := r
              have Hr := Lib.hid (show Lx.setPol q (Lx.pairK x) (Lx.pairV x) = (q', x') from by rw [← Hn1.out, ← Hv1.out]; exact hr.symm)
              have HKey := Lib.hid hkey
              have HSet2 := Lib.hid (show Calls Tryz.prog 8 #[q.val, .string n1, .string v1] W6 fun e w' => e = .returned (.tuple #[.agg #[.int .i64 q'.cap, .int .i64 q'.pri, .int .i64 q'.spl, .int .i64 q'.dl, .int .i64 q'.mis, .int .i64 q'.keep, .int .i64 q'.lt, .int .i64 q'.lu, .int .i64 q'.bf, .int .i64 q'.bo, .int .i64 q'.bp, .int .i64 q'.rm, .int .i64 q'.rb, .int .i64 q'.rc, .int .i64 q'.rj], .int .i64 x']) ∧ Below W6.heap.size W6 w' from HSet.out)
              clear hv hmem hr HSet
              go_upto_region 11 with (fail)
              rw [show w5.alloc (.cells #[.string N0, GV, SV] 59) = W6 from hW6.symm]
              clear hW6 g1 g3
              go_wp2_with ((with_reducible show wpList _ _ _ _ _ _); refine Lx.wpList_get _ rfl _ rfl g5 rfl S6.out.p ?_)
              refine HSet2.out.mono ?_
              rintro e w7 ⟨rfl, c7⟩
              have S7 := Lib.hid (S6.out.below c7)
              clear c7 hrun hkey
              have p0 := S7.out.p.cell 0 _ rfl
              have y0 := S7.out.p.fz 0 (by omega)
              have p1 := S7.out.p.cell 1 _ rfl
              have y1 := S7.out.p.fz 1 (by omega)
              have p2 := S7.out.p.cell 2 _ rfl
              have y2 := S7.out.p.fz 2 (by omega)
              have p3 := S7.out.p.cell 3 _ rfl
              have y3 := S7.out.p.fz 3 (by omega)
              have p4 := S7.out.p.cell 4 _ rfl
              have y4 := S7.out.p.fz 4 (by omega)
              have p5 := S7.out.p.cell 5 _ rfl
              have y5 := S7.out.p.fz 5 (by omega)
              have p6 := S7.out.p.cell 6 _ rfl
              have y6 := S7.out.p.fz 6 (by omega)
              have p7 := S7.out.p.cell 7 _ rfl
              have y7 := S7.out.p.fz 7 (by omega)
              have p8 := S7.out.p.cell 8 _ rfl
              have y8 := S7.out.p.fz 8 (by omega)
              have p9 := S7.out.p.cell 9 _ rfl
              have y9 := S7.out.p.fz 9 (by omega)
              have p10 := S7.out.p.cell 10 _ rfl
              have y10 := S7.out.p.fz 10 (by omega)
              have p11 := S7.out.p.cell 11 _ rfl
              have y11 := S7.out.p.fz 11 (by omega)
              have p12 := S7.out.p.cell 12 _ rfl
              have y12 := S7.out.p.fz 12 (by omega)
              have p13 := S7.out.p.cell 13 _ rfl
              have y13 := S7.out.p.fz 13 (by omega)
              have p14 := S7.out.p.cell 14 _ rfl
              have y14 := S7.out.p.fz 14 (by omega)
              obtain ⟨W8, hW8⟩ : ∃ W8, W8 = (((((((((((((((w7.setCell ⟨g5, 0, none⟩ (.int .i64 q'.cap)).setCell ⟨g5, 1, none⟩ (.int .i64 q'.pri)).setCell ⟨g5, 2, none⟩ (.int .i64 q'.spl)).setCell ⟨g5, 3, none⟩ (.int .i64 q'.dl)).setCell ⟨g5, 4, none⟩ (.int .i64 q'.mis)).setCell ⟨g5, 5, none⟩ (.int .i64 q'.keep)).setCell ⟨g5, 6, none⟩ (.int .i64 q'.lt)).setCell ⟨g5, 7, none⟩ (.int .i64 q'.lu)).setCell ⟨g5, 8, none⟩ (.int .i64 q'.bf)).setCell ⟨g5, 9, none⟩ (.int .i64 q'.bo)).setCell ⟨g5, 10, none⟩ (.int .i64 q'.bp)).setCell ⟨g5, 11, none⟩ (.int .i64 q'.rm)).setCell ⟨g5, 12, none⟩ (.int .i64 q'.rb)).setCell ⟨g5, 13, none⟩ (.int .i64 q'.rc)).setCell ⟨g5, 14, none⟩ (.int .i64 q'.rj)) := ⟨_, rfl⟩
              have S8 := Lib.hid (show Lx.LSt w W8 g2 g5 m A L q' N from by rw [hW8]; exact S7.out.pol q')
              go_upto_region 16 with (fail)
              rw [show (((((((((((((((w7.setCell ⟨g5, 0, none⟩ (.int .i64 q'.cap)).setCell ⟨g5, 1, none⟩ (.int .i64 q'.pri)).setCell ⟨g5, 2, none⟩ (.int .i64 q'.spl)).setCell ⟨g5, 3, none⟩ (.int .i64 q'.dl)).setCell ⟨g5, 4, none⟩ (.int .i64 q'.mis)).setCell ⟨g5, 5, none⟩ (.int .i64 q'.keep)).setCell ⟨g5, 6, none⟩ (.int .i64 q'.lt)).setCell ⟨g5, 7, none⟩ (.int .i64 q'.lu)).setCell ⟨g5, 8, none⟩ (.int .i64 q'.bf)).setCell ⟨g5, 9, none⟩ (.int .i64 q'.bo)).setCell ⟨g5, 10, none⟩ (.int .i64 q'.bp)).setCell ⟨g5, 11, none⟩ (.int .i64 q'.rm)).setCell ⟨g5, 12, none⟩ (.int .i64 q'.rb)).setCell ⟨g5, 13, none⟩ (.int .i64 q'.rc)).setCell ⟨g5, 14, none⟩ (.int .i64 q'.rj)) = W8 from hW8.symm]
              clear hW8 p0 p1 p2 p3 p4 p5 p6 p7 p8 p9 p10 p11 p12 p13 p14 y0 y1 y2 y3 y4 y5 y6 y7 y8 y9 y10 y11 y12 y13 y14 S7 S6
              by_cases hx0 : x' = 0
              · as_aux_lemma =>
                  subst hx0
                  have hkey := HKey.out
                  obtain ⟨w9, hrun2, hown2, hgr⟩ := S8.out.mp.update lawP Tryz.underlying66 (by have h1 := HLs.out; have h2 := HNl.out; have h3 := Hlt.out; have h4 := Hss.out; unfold maxLen; omega) (key := .string n1) (val := .bool true) hkey (d := .lit (.bool true)) (ps := []) rfl
                  have S9 := Lib.hid (S8.out.had (x := n1) hown2 hgr)
                  have HE := Lib.hid (show R = Lx.parL (L.drop (k + 1)) q' (Lx.keyIx n1.data.toList :: K) (k + 1) from by
                    have := Lx.parL_good (r := L.drop (k + 1)) (i := k) (p := q) (had := K) He1.out.symm Hk8.out Hmem.out (by rw [Hr.out])
                    rw [Hr.out] at this
                    rw [HRk.out, this, Hn1.out])
                  have HN2 := Lib.hid (show Lx.HadIs (n1 :: N) (Lx.keyIx n1.data.toList :: K) from ⟨by rw [List.map_cons, ← HN.out.1], fun y hy => by
                    rcases List.mem_cons.1 hy with h | h
                    · rw [h, Hn1.out]; exact Hk8.out
                    · exact HN.out.2 y h⟩)
                  clear hown2 hgr hkey S8
                  go_wp2_with fail
                  go_roundw
                  case rel => exact ⟨k + 1, q', n1 :: N, Lx.keyIx n1.data.toList :: K, by have := Hlt.out; omega, by go_num, S9.out, HN2.out, by rw [List.length_cons]; have := HNl.out; omega, HE.out⟩
                  case measure => have h1 := Hlt.out; simp [intOf]; omega
              · as_aux_lemma =>
                  have HE := Lib.hid (show R = (Lx.polZ, k, x') from by
                    have := Lx.parL_bad (r := L.drop (k + 1)) (i := k) (p := q) (had := K) He1.out.symm Hk8.out Hmem.out (by rw [Hr.out]; exact hx0)
                    rw [Hr.out] at this
                    rw [HRk.out]; exact this)
                  go_wp2_with ((with_reducible show wpList _ _ _ _ _ _); refine Lx.wpList_put _ rfl _ _ rfl g2 rfl Lx.polZ rfl S8.out.z ?_)
                  have Z4 := S8.out.z.put Lx.polZ
                  have ge := S8.out.ge
                  have Bx := S8.out.b
                  obtain ⟨W4, hW4⟩ : ∃ W4, W4 = Lx.putPol W8 g2 Lx.polZ := ⟨_, rfl⟩
                  rw [← hW4] at Z4 ⊢
                  clear hW4
                  have d0 := Z4.cell 0 _ rfl
                  have d1 := Z4.cell 1 _ rfl
                  have d2 := Z4.cell 2 _ rfl
                  have d3 := Z4.cell 3 _ rfl
                  have d4 := Z4.cell 4 _ rfl
                  have d5 := Z4.cell 5 _ rfl
                  have d6 := Z4.cell 6 _ rfl
                  have d7 := Z4.cell 7 _ rfl
                  have d8 := Z4.cell 8 _ rfl
                  have d9 := Z4.cell 9 _ rfl
                  have d10 := Z4.cell 10 _ rfl
                  have d11 := Z4.cell 11 _ rfl
                  have d12 := Z4.cell 12 _ rfl
                  have d13 := Z4.cell 13 _ rfl
                  have d14 := Z4.cell 14 _ rfl
                  refine bodyPost_ret (v := .tuple #[.agg #[.int .i64 0, .int .i64 0, .int .i64 0, .int .i64 0, .int .i64 0, .int .i64 0, .int .i64 0, .int .i64 0, .int .i64 0, .int .i64 0, .int .i64 0, .int .i64 0, .int .i64 0, .int .i64 0, .int .i64 0], .int .i64 k, .int .i64 x']) ?_ rfl ⟨by rw [HE.out]; rfl, Bx.trans (Z4.toB.mono ge.1)⟩
                  simp [results, Tryz.results17, go_sem, Lx.polZ, d0, d1, d2, d3, d4, d5, d6, d7, d8, d9, d10, d11, d12, d13, d14]
  
          · as_aux_lemma =>
              have HE := Lib.hid (show R = (Lx.polZ, k, 10) from by rw [HRk.out]; exact Lx.parL_form (by rw [← He1.out]; decide))
              go_upto_region 11 with (fail)
              rw [show w5.alloc (.cells #[.string N0, GV, SV] 59) = W6 from hW6.symm]
              clear hW6 g1 g3
              go_wp2_with ((with_reducible show wpList _ _ _ _ _ _); refine Lx.wpList_put _ rfl _ _ rfl g2 rfl Lx.polZ rfl S6.out.z ?_)
              have Z4 := S6.out.z.put Lx.polZ
              have ge := S6.out.ge
              have Bx := S6.out.b
              obtain ⟨W4, hW4⟩ : ∃ W4, W4 = Lx.putPol W6 g2 Lx.polZ := ⟨_, rfl⟩
              rw [← hW4] at Z4 ⊢
              clear hW4
              have d0 := Z4.cell 0 _ rfl
              have d1 := Z4.cell 1 _ rfl
              have d2 := Z4.cell 2 _ rfl
              have d3 := Z4.cell 3 _ rfl
              have d4 := Z4.cell 4 _ rfl
              have d5 := Z4.cell 5 _ rfl
              have d6 := Z4.cell 6 _ rfl
              have d7 := Z4.cell 7 _ rfl
              have d8 := Z4.cell 8 _ rfl
              have d9 := Z4.cell 9 _ rfl
              have d10 := Z4.cell 10 _ rfl
              have d11 := Z4.cell 11 _ rfl
              have d12 := Z4.cell 12 _ rfl
              have d13 := Z4.cell 13 _ rfl
              have d14 := Z4.cell 14 _ rfl
              refine bodyPost_ret (v := .tuple #[.agg #[.int .i64 0, .int .i64 0, .int .i64 0, .int .i64 0, .int .i64 0, .int .i64 0, .int .i64 0, .int .i64 0, .int .i64 0, .int .i64 0, .int .i64 0, .int .i64 0, .int .i64 0, .int .i64 0, .int .i64 0], .int .i64 k, .int .i64 10]) ?_ rfl ⟨by rw [HE.out]; rfl, Bx.trans (Z4.toB.mono ge.1)⟩
              simp [results, Tryz.results17, go_sem, Lx.polZ, d0, d1, d2, d3, d4, d5, d6, d7, d8, d9, d10, d11, d12, d13, d14]
  
      · as_aux_lemma =>
          obtain rfl : k = L.length := by omega
          rw [List.drop_length] at hRk
          have HE := Lib.hid (show R = (q, 0, 0) from hRk)
          have HS := Lib.hid S
          have hdec : decide ((L.length : Int) < (L.length : Int)) = false := decide_eq_false (by omega)
          clear hRk S hN hNl hk hlt
          go_wp2_with (first | ((with_reducible show wpList _ _ _ _ _ _); refine Lx.wpList_get _ rfl _ rfl g5 rfl HS.out.p ?_) | ((with_reducible show wpList _ _ _ _ _ _); refine Lx.wpList_put _ rfl _ _ rfl g2 rfl q rfl HS.out.z ?_))
          have Z4 := HS.out.z.put q
          have ge := HS.out.ge
          have Bx := HS.out.b
          obtain ⟨W4, hW4⟩ : ∃ W4, W4 = Lx.putPol wr g2 q := ⟨_, rfl⟩
          rw [← hW4] at Z4 ⊢
          clear hW4
          have d0 := Z4.cell 0 _ rfl
          have d1 := Z4.cell 1 _ rfl
          have d2 := Z4.cell 2 _ rfl
          have d3 := Z4.cell 3 _ rfl
          have d4 := Z4.cell 4 _ rfl
          have d5 := Z4.cell 5 _ rfl
          have d6 := Z4.cell 6 _ rfl
          have d7 := Z4.cell 7 _ rfl
          have d8 := Z4.cell 8 _ rfl
          have d9 := Z4.cell 9 _ rfl
          have d10 := Z4.cell 10 _ rfl
          have d11 := Z4.cell 11 _ rfl
          have d12 := Z4.cell 12 _ rfl
          have d13 := Z4.cell 13 _ rfl
          have d14 := Z4.cell 14 _ rfl
          refine bodyPost_ret (v := .tuple #[.agg #[.int .i64 q.cap, .int .i64 q.pri, .int .i64 q.spl, .int .i64 q.dl, .int .i64 q.mis, .int .i64 q.keep, .int .i64 q.lt, .int .i64 q.lu, .int .i64 q.bf, .int .i64 q.bo, .int .i64 q.bp, .int .i64 q.rm, .int .i64 q.rb, .int .i64 q.rc, .int .i64 q.rj], .int .i64 0, .int .i64 0]) ?_ rfl ⟨by rw [HE.out]; rfl, Bx.trans (Z4.toB.mono ge.1)⟩
          simp [results, Tryz.results17, go_sem, d0, d1, d2, d3, d4, d5, d6, d7, d8, d9, d10, d11, d12, d13, d14]
  end Go.Proofs.YtpjocfkolnfjiaaGreatDoor
