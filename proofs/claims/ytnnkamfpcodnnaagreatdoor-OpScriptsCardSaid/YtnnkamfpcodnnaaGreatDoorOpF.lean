/- The walks of op.named and op.forms: the map of the forms. -/
import Derived.Test.YtnnkamfpcodnnaaGreatDoorOpC
import Derived.Maps.OwnSet
import Derived.Maps.RangeWalk
import Derived.Laws.EntriesVeiled
namespace Go.Proofs.YtnnkamfpcodnnaaGreatDoor
open Go.RowKit
open Go.Maps (Keyed string_keyed IsMap)

def NamedPost (k : Int) (w : World) (e : Ending) (w' : World) : Prop :=
  e = .returned (.agg #[.int .i64 k, .func (.func 61) #[] #[], .func (.func 62) #[] #[.pointer (some ⟨w.heap.size, 0, none⟩)]]) ∧
    w'.cell? ⟨w.heap.size, 0, none⟩ = some (.int .i64 k) ∧ w.heap.size < w'.heap.size ∧ Below w.heap.size w w'
theorem named_any (k : Int) (w : World) : Calls Tryz.prog 47 #[.int .i64 k] w (NamedPost k w) := by
  go_enter Tryz.func47, Tryz.ntmps47
  go_wp2_with fail
  refine bodyPost_ret (v := .agg #[.int .i64 k, .func (.func 61) #[] #[], .func (.func 62) #[] #[.pointer (some ⟨w.heap.size, 0, none⟩)]]) (by simp [results, Tryz.results47, go_sem]) rfl ?_
  exact ⟨rfl, by simp, by simp; omega, ((Below.refl _ w).alloc (Nat.le_refl _) _).alloc (by simp) _⟩
namespace Lx
def fV (b4 b5 b6 k : Nat) : Value :=
  if k = 0 then .agg #[.int .i64 0, .nilFunc, .nilFunc]
  else if k = 1 then .agg #[.int .i64 1, .func (.func 41) #[] #[], .func (.func 42) #[] #[]]
  else if k = 2 then .agg #[.int .i64 2, .func (.func 43) #[] #[], .func (.func 44) #[] #[]]
  else if k = 3 then .agg #[.int .i64 3, .func (.func 45) #[] #[], .func (.func 46) #[] #[]]
  else if k = 4 then .agg #[.int .i64 4, .func (.func 61) #[] #[], .func (.func 62) #[] #[.pointer (some ⟨b4, 0, none⟩)]]
  else if k = 5 then .agg #[.int .i64 5, .func (.func 61) #[] #[], .func (.func 62) #[] #[.pointer (some ⟨b5, 0, none⟩)]]
  else .agg #[.int .i64 6, .func (.func 61) #[] #[], .func (.func 62) #[] #[.pointer (some ⟨b6, 0, none⟩)]]
def kindV : Value → Int
  | .agg cs => match cs[0]? with
    | some (Value.int _ n) => n
    | _ => 0
  | _ => 0
theorem kind_fV (b4 b5 b6 : Nat) {k : Nat} (h : k ≤ 6) : kindV (fV b4 b5 b6 k) = (k : Int) := by
  have : k = 0 ∨ k = 1 ∨ k = 2 ∨ k = 3 ∨ k = 4 ∨ k = 5 ∨ k = 6 := by omega
  rcases this with rfl | rfl | rfl | rfl | rfl | rfl | rfl <;> rfl
open Classical in
/-- How an element of the map of the forms reads: as its kind (of the first N). -/
noncomputable def fR (N b4 b5 b6 : Nat) (v : Value) : Option (DataW Unit × List MemPlace) := if ∃ k, k ≤ N ∧ v = fV b4 b5 b6 k then some (.lit (.int .i64 (kindV v)), []) else none
theorem fR_mk {N b4 b5 b6 k : Nat} (h : k ≤ N) (hN : N ≤ 6) : fR N b4 b5 b6 (fV b4 b5 b6 k) = some (.lit (.int .i64 (k : Int)), []) := by
  unfold fR
  rw [if_pos ⟨k, h, rfl⟩, kind_fV _ _ _ (by omega)]
theorem fR_inv {N b4 b5 b6 : Nat} (hN : N ≤ 6) {v : Value} {y : DataW Unit × List MemPlace} (h : fR N b4 b5 b6 v = some y) : ∃ k, k ≤ N ∧ v = fV b4 b5 b6 k ∧ y = (.lit (.int .i64 (k : Int)), []) := by
  unfold fR at h
  split at h
  · rename_i hk
    obtain ⟨k, hk, rfl⟩ := hk
    rw [kind_fV _ _ _ (by omega)] at h
    exact ⟨k, hk, rfl, (Option.some.inj h).symm⟩
  · cases h
theorem fR_up {N N' b4 b5 b6 c4 c5 c6 : Nat} (hN : N ≤ N') (h : ∀ k, k ≤ N → fV b4 b5 b6 k = fV c4 c5 c6 k) (v : Value) (z : DataW Unit × List MemPlace) (hv : fR N b4 b5 b6 v = some z) : fR N' c4 c5 c6 v = some z := by
  unfold fR at hv ⊢
  split at hv
  · rename_i hk
    obtain ⟨k, hk, rfl⟩ := hk
    rw [if_pos ⟨k, by omega, h k hk⟩]; exact hv
  · cases hv
theorem map_up {P : Program} {K : TypeId} {R R' : Value → Option (DataW Unit × List MemPlace)} {w : World} {b n : Nat} {D : DataW Unit} (h : w.ownsMap P K R b n D) (hs : ∀ v z, R v = some z → R' v = some z) : w.ownsMap P K R' b n D := by
  obtain ⟨es, clock, hb, F, hn, hD⟩ := h
  obtain ⟨F1, hmap, _⟩ := F.stay (fun x _ z hz => hs x.val z hz)
  exact ⟨es, clock, hb, F1, hn, by rw [hmap]; exact hD⟩
theorem map_below {P : Program} {K : TypeId} {R : Value → Option (DataW Unit × List MemPlace)} {w w' : World} {b n : Nat} {D : DataW Unit} (h : w.ownsMap P K R b n D) (hb : Below w.heap.size w w') : w'.ownsMap P K R b n D := by
  have hlt := h.lt
  obtain ⟨es, clock, hbk, r⟩ := h
  exact ⟨es, clock, (hb.block b hlt).trans hbk, r⟩
theorem grown_cell {w w' : World} {b g j : Nat} (h : w.grownBy w' (some b)) (hg : g ≠ b) (hlt : g < w.heap.size) : w'.cell? ⟨g, j, none⟩ = w.cell? ⟨g, j, none⟩ := by
  have := h.block g hlt (by intro e; exact hg (Option.some.inj e))
  unfold World.cell?
  simp only [this]
def kw (k : Int) : Lit := .string (word k)
def kd (k : Int) : DataW Unit := .lit (.int .i64 k)
/-- What the map of the forms reads as. -/
def fD : DataW Unit := ((((((DataW.map []).put (kw 1) (kd 1)).put (kw 2) (kd 2)).put (kw 3) (kd 3)).put (kw 4) (kd 4)).put (kw 5) (kd 5)).put (kw 6) (kd 6)
theorem fD_at {k : Int} (h1 : 1 ≤ k) (h2 : k ≤ 6) (z : DataW Unit) : fD.atKey (kw k) z = kd k := by
  have : k = 1 ∨ k = 2 ∨ k = 3 ∨ k = 4 ∨ k = 5 ∨ k = 6 := by omega
  rcases this with rfl | rfl | rfl | rfl | rfl | rfl <;> rfl
theorem fD_has {k : Int} (h1 : 1 ≤ k) (h2 : k ≤ 6) : Go.Maps.has fD (kw k) = true := by
  have : k = 1 ∨ k = 2 ∨ k = 3 ∨ k = 4 ∨ k = 5 ∨ k = 6 := by omega
  rcases this with rfl | rfl | rfl | rfl | rfl | rfl <;> rfl
theorem fD_not {l : List UInt8} (h : ∀ k : Int, 1 ≤ k → k ≤ 6 → l ≠ word k) : Go.Maps.has fD (.string l) = false := by
  have ne : ∀ k : Int, 1 ≤ k → k ≤ 6 → Lit.string l ≠ kw k := fun k a b e => h k a b (by unfold kw at e; exact Lit.string.inj e)
  unfold fD
  rw [Go.Maps.has_put_other (ne 6 (by omega) (by omega)), Go.Maps.has_put_other (ne 5 (by omega) (by omega)), Go.Maps.has_put_other (ne 4 (by omega) (by omega)), Go.Maps.has_put_other (ne 3 (by omega) (by omega)), Go.Maps.has_put_other (ne 2 (by omega) (by omega)), Go.Maps.has_put_other (ne 1 (by omega) (by omega))]
  rfl
end Lx
/-- The entry of a map literal, at the operation. -/
theorem wpList_insert_own {H : Type} {P : Program} (w : World) {ops : Array Oper} {rest : List Oper} {o : Oper} {a : Act} {Q : Exit → Act → World → Prop}
    (hg : o.guard = none) (m x v : Operand) (t : TypeId) (hop : o.op = Op.insert t m x v)
    (k e : TypeId) (K : Keyed P k) (ht : P.underlying t = some (.map k e)) (R : Value → Option (DataW H × List MemPlace)) (b n : Nat) (D : DataW H)
    (hm : a.eval m = .map (some b)) (hown : w.ownsMap P k R b n D) (hn : n < maxLen) (key val : Value) (kl : Lit) (hx : a.eval x = key) (hv : a.eval v = val) (hkey : keyOf P k key = some kl)
    (d : DataW H) (ps : List MemPlace) (hval : R val = some (d, ps))
    (hK : ∀ w', w'.ownsMap P k R b (n + 1) (D.put kl d) → w.grownBy w' (some b) → wpList P ops Q rest (a.put o.dst undef) w') :
    wpList P ops Q (o :: rest) a w := by
  refine wpList_plain hg fun K' hK' => ?_
  obtain ⟨w', hrun, r1, r2⟩ := hown.update K ht hn hkey hval
  unfold Oper.wp
  simp [execOp, hop, hm, hx, hv, hrun, Result.andThen]
  exact hK' _ _ (hK w' r1 r2)
theorem lawS : Keyed Tryz.prog 9 := string_keyed Tryz.underlying9
theorem zeroF (w : World) : (zeroValue 66).run Tryz.prog w = .ok (.agg #[.int .i64 0, .nilFunc, .nilFunc]) w := by kernel_rfl
/-- What forms gives: a new map of the six forms, and where the kinds of the last three are kept. -/
def FormsPost (w : World) (e : Ending) (w' : World) : Prop := ∃ b b4 b5 b6 : Nat, e = .returned (.map (some b)) ∧ w'.ownsMap Tryz.prog 9 (Lx.fR 6 b4 b5 b6) b 6 Lx.fD ∧
  w'.cell? ⟨b4, 0, none⟩ = some (.int .i64 4) ∧ w'.cell? ⟨b5, 0, none⟩ = some (.int .i64 5) ∧ w'.cell? ⟨b6, 0, none⟩ = some (.int .i64 6) ∧ b4 < w'.heap.size ∧ b5 < w'.heap.size ∧ b6 < w'.heap.size ∧ Below w.heap.size w w'
set_option maxRecDepth 100000 in
set_option maxHeartbeats 1600000 in
theorem forms_any (w : World) : Calls Tryz.prog 30 #[] w (FormsPost w) := by
  have hmm := @run_makeMap Tryz.prog
  obtain ⟨B, hB⟩ : ∃ B, B = w.heap.size := ⟨_, rfl⟩
  have own0 : (w.alloc (.map #[] 0)).ownsMap Tryz.prog 9 (Lx.fR 3 0 0 0) B 0 (.map []) := by rw [hB]; exact World.ownsMap_made _ _ _ _
  have be0 : Below w.heap.size w (w.alloc (.map #[] 0)) := (Below.refl _ w).alloc (Nat.le_refl _) _
  obtain ⟨w1, hrun10, own1, gr1⟩ := World.ownsMap.update own0 lawS Tryz.underlying61 (by unfold maxLen; omega) (key := (.string ⟨#[116, 105, 99, 107]⟩)) (kl := Lx.kw 1) (Go.WideMaps.keyOf_string_mk Tryz.underlying9 (by unfold maxLen; decide)) (val := Lx.fV 0 0 0 1) (Lx.fR_mk (by omega) (by omega))
  have hrun1 : (Instr.mapUpdate 61 (.map (some B)) (.string ⟨#[116, 105, 99, 107]⟩) (.agg #[.int .i64 1, .func (.func 41) #[] #[], .func (.func 42) #[] #[]])).run Tryz.prog (w.alloc (.map #[] 0)) = .ok () w1 := hrun10
  clear hrun10
  have be1 := be0.grown gr1 be0.size (fun j hj => by cases hj; exact Nat.le_of_eq hB.symm)
  obtain ⟨w2, hrun20, own2, gr2⟩ := World.ownsMap.update own1 lawS Tryz.underlying61 (by unfold maxLen; omega) (key := (.string ⟨#[106, 117, 109, 112]⟩)) (kl := Lx.kw 2) (Go.WideMaps.keyOf_string_mk Tryz.underlying9 (by unfold maxLen; decide)) (val := Lx.fV 0 0 0 2) (Lx.fR_mk (by omega) (by omega))
  have hrun2 : (Instr.mapUpdate 61 (.map (some B)) (.string ⟨#[106, 117, 109, 112]⟩) (.agg #[.int .i64 2, .func (.func 43) #[] #[], .func (.func 44) #[] #[]])).run Tryz.prog w1 = .ok () w2 := hrun20
  clear hrun20
  have be2 := be1.grown gr2 be1.size (fun j hj => by cases hj; exact Nat.le_of_eq hB.symm)
  obtain ⟨w3, hrun30, own3, gr3⟩ := World.ownsMap.update own2 lawS Tryz.underlying61 (by unfold maxLen; omega) (key := (.string ⟨#[102, 105, 110, 105, 115, 104]⟩)) (kl := Lx.kw 3) (Go.WideMaps.keyOf_string_mk Tryz.underlying9 (by unfold maxLen; decide)) (val := Lx.fV 0 0 0 3) (Lx.fR_mk (by omega) (by omega))
  have hrun3 : (Instr.mapUpdate 61 (.map (some B)) (.string ⟨#[102, 105, 110, 105, 115, 104]⟩) (.agg #[.int .i64 3, .func (.func 45) #[] #[], .func (.func 46) #[] #[]])).run Tryz.prog w2 = .ok () w3 := hrun30
  clear hrun30
  have be3 := be2.grown gr3 be2.size (fun j hj => by cases hj; exact Nat.le_of_eq hB.symm)
  have HO3 := Lib.hid own3
  have HB3 := Lib.hid be3
  have HBB := Lib.hid hB
  rw [hB] at hrun1 hrun2 hrun3
  clear own0 own1 own2 own3 be0 be1 be2 be3 gr1 gr2 gr3 hB
  go_enter Tryz.func30, Tryz.ntmps30
  go_wp2_with fail
  refine (named_any 4 _).mono ?_
  rintro e v4 ⟨rfl, kc4, kl4, kb4⟩
  obtain ⟨b4, hb4⟩ : ∃ b, b = w3.heap.size := ⟨_, rfl⟩
  rw [← hb4] at kc4 kl4 ⊢
  have hup4 : ∀ k, k ≤ 3 → Lx.fV 0 0 0 k = Lx.fV b4 0 0 k := by
    intro k hk
    have : k = 0 ∨ k = 1 ∨ k = 2 ∨ k = 3 := by omega
    rcases this with rfl | rfl | rfl | rfl <;> rfl
  have ownp4 := Lx.map_below (Lx.map_up HO3.out (Lx.fR_up (N' := 4) (by omega) hup4)) kb4
  clear hup4
  obtain ⟨w4, hrun40, own4, gr4⟩ := World.ownsMap.update ownp4 lawS Tryz.underlying61 (by unfold maxLen; omega) (key := (.string ⟨#[114, 101, 109, 111, 118, 101]⟩)) (kl := Lx.kw 4) (Go.WideMaps.keyOf_string_mk Tryz.underlying9 (by unfold maxLen; decide)) (val := Lx.fV b4 0 0 4) (Lx.fR_mk (by omega) (by omega))
  have hrun4 : (Instr.mapUpdate 61 (.map (some B)) (.string ⟨#[114, 101, 109, 111, 118, 101]⟩) (.agg #[.int .i64 4, .func (.func 61) #[] #[], .func (.func 62) #[] #[.pointer (some ⟨b4, 0, none⟩)]])).run Tryz.prog v4 = .ok () w4 := hrun40
  clear hrun40
  rw [HBB.out] at hrun4
  have ne4 : b4 ≠ B := by have := HO3.out.lt; rw [hb4]; omega
  have bz4 := (HB3.out.trans (kb4.mono HB3.out.size)).grown gr4 (HB3.out.trans (kb4.mono HB3.out.size)).size (fun j hj => by cases hj; exact Nat.le_of_eq HBB.out.symm)
  have HB4 := Lib.hid bz4
  have zc4 := (Lx.grown_cell gr4 ne4 kl4).trans kc4
  have zl4 := Nat.lt_of_lt_of_le kl4 gr4.size
  have HO4 := Lib.hid own4
  have HC4 := Lib.hid zc4
  have HL4 := Lib.hid zl4
  clear zc4 zl4 kc4 kl4
  clear kb4 own4 ownp4 gr4 bz4 hb4
  go_wp2_with fail
  refine (named_any 5 _).mono ?_
  rintro e v5 ⟨rfl, kc5, kl5, kb5⟩
  obtain ⟨b5, hb5⟩ : ∃ b, b = w4.heap.size := ⟨_, rfl⟩
  rw [← hb5] at kc5 kl5 ⊢
  have hup5 : ∀ k, k ≤ 4 → Lx.fV b4 0 0 k = Lx.fV b4 b5 0 k := by
    intro k hk
    have : k = 0 ∨ k = 1 ∨ k = 2 ∨ k = 3 ∨ k = 4 := by omega
    rcases this with rfl | rfl | rfl | rfl | rfl <;> rfl
  have ownp5 := Lx.map_below (Lx.map_up HO4.out (Lx.fR_up (N' := 5) (by omega) hup5)) kb5
  clear hup5
  obtain ⟨w5, hrun50, own5, gr5⟩ := World.ownsMap.update ownp5 lawS Tryz.underlying61 (by unfold maxLen; omega) (key := (.string ⟨#[116, 114, 105, 112]⟩)) (kl := Lx.kw 5) (Go.WideMaps.keyOf_string_mk Tryz.underlying9 (by unfold maxLen; decide)) (val := Lx.fV b4 b5 0 5) (Lx.fR_mk (by omega) (by omega))
  have hrun5 : (Instr.mapUpdate 61 (.map (some B)) (.string ⟨#[116, 114, 105, 112]⟩) (.agg #[.int .i64 5, .func (.func 61) #[] #[], .func (.func 62) #[] #[.pointer (some ⟨b5, 0, none⟩)]])).run Tryz.prog v5 = .ok () w5 := hrun50
  clear hrun50
  rw [HBB.out] at hrun5
  have ne5 : b5 ≠ B := by have := HO4.out.lt; rw [hb5]; omega
  have bz5 := (HB4.out.trans (kb5.mono HB4.out.size)).grown gr5 (HB4.out.trans (kb5.mono HB4.out.size)).size (fun j hj => by cases hj; exact Nat.le_of_eq HBB.out.symm)
  have HB5 := Lib.hid bz5
  have zc5 := (Lx.grown_cell gr5 ne5 kl5).trans kc5
  have zl5 := Nat.lt_of_lt_of_le kl5 gr5.size
  have kc4 := (kb5.cell (p := ⟨b4, 0, none⟩) HL4.out).trans HC4.out
  have kl4 := Nat.lt_of_lt_of_le HL4.out kb5.size
  have zc4 := (Lx.grown_cell gr5 ne4 kl4).trans kc4
  have zl4 := Nat.lt_of_lt_of_le kl4 gr5.size
  clear HC4 HL4
  have HO5 := Lib.hid own5
  have HC4 := Lib.hid zc4
  have HL4 := Lib.hid zl4
  clear zc4 zl4 kc4 kl4
  have HC5 := Lib.hid zc5
  have HL5 := Lib.hid zl5
  clear zc5 zl5 kc5 kl5
  clear kb5 own5 ownp5 gr5 bz5 hb5
  go_wp2_with fail
  refine (named_any 6 _).mono ?_
  rintro e v6 ⟨rfl, kc6, kl6, kb6⟩
  obtain ⟨b6, hb6⟩ : ∃ b, b = w5.heap.size := ⟨_, rfl⟩
  rw [← hb6] at kc6 kl6 ⊢
  have hup6 : ∀ k, k ≤ 5 → Lx.fV b4 b5 0 k = Lx.fV b4 b5 b6 k := by
    intro k hk
    have : k = 0 ∨ k = 1 ∨ k = 2 ∨ k = 3 ∨ k = 4 ∨ k = 5 := by omega
    rcases this with rfl | rfl | rfl | rfl | rfl | rfl <;> rfl
  have ownp6 := Lx.map_below (Lx.map_up HO5.out (Lx.fR_up (N' := 6) (by omega) hup6)) kb6
  clear hup6
  obtain ⟨w6, hrun60, own6, gr6⟩ := World.ownsMap.update ownp6 lawS Tryz.underlying61 (by unfold maxLen; omega) (key := (.string ⟨#[114, 101, 115, 101, 116]⟩)) (kl := Lx.kw 6) (Go.WideMaps.keyOf_string_mk Tryz.underlying9 (by unfold maxLen; decide)) (val := Lx.fV b4 b5 b6 6) (Lx.fR_mk (by omega) (by omega))
  have hrun6 : (Instr.mapUpdate 61 (.map (some B)) (.string ⟨#[114, 101, 115, 101, 116]⟩) (.agg #[.int .i64 6, .func (.func 61) #[] #[], .func (.func 62) #[] #[.pointer (some ⟨b6, 0, none⟩)]])).run Tryz.prog v6 = .ok () w6 := hrun60
  clear hrun60
  rw [HBB.out] at hrun6
  have ne6 : b6 ≠ B := by have := HO5.out.lt; rw [hb6]; omega
  have bz6 := (HB5.out.trans (kb6.mono HB5.out.size)).grown gr6 (HB5.out.trans (kb6.mono HB5.out.size)).size (fun j hj => by cases hj; exact Nat.le_of_eq HBB.out.symm)
  have HB6 := Lib.hid bz6
  have zc6 := (Lx.grown_cell gr6 ne6 kl6).trans kc6
  have zl6 := Nat.lt_of_lt_of_le kl6 gr6.size
  have kc4 := (kb6.cell (p := ⟨b4, 0, none⟩) HL4.out).trans HC4.out
  have kl4 := Nat.lt_of_lt_of_le HL4.out kb6.size
  have zc4 := (Lx.grown_cell gr6 ne4 kl4).trans kc4
  have zl4 := Nat.lt_of_lt_of_le kl4 gr6.size
  clear HC4 HL4
  have kc5 := (kb6.cell (p := ⟨b5, 0, none⟩) HL5.out).trans HC5.out
  have kl5 := Nat.lt_of_lt_of_le HL5.out kb6.size
  have zc5 := (Lx.grown_cell gr6 ne5 kl5).trans kc5
  have zl5 := Nat.lt_of_lt_of_le kl5 gr6.size
  clear HC5 HL5
  have HO6 := Lib.hid own6
  have HC4 := Lib.hid zc4
  have HL4 := Lib.hid zl4
  clear zc4 zl4 kc4 kl4
  have HC5 := Lib.hid zc5
  have HL5 := Lib.hid zl5
  clear zc5 zl5 kc5 kl5
  have HC6 := Lib.hid zc6
  have HL6 := Lib.hid zl6
  clear zc6 zl6 kc6 kl6
  clear kb6 own6 ownp6 gr6 bz6 hb6
  go_wp2_with fail
  go_ret
  exact ⟨_, b4, b5, b6, rfl, by rw [← HBB.out]; exact HO6.out, HC4.out, HC5.out, HC6.out, HL4.out, HL5.out, HL6.out, HB6.out⟩
end Go.Proofs.YtnnkamfpcodnnaaGreatDoor
