/- The walk of event.check: the first error of names. -/
import Derived.Test.YtmpcekpdnikghaaGreatDoorEvA
import Derived.Test.YtmpcekpdnikghaaGreatDoorShelf2
import Derived.Test.YtmpcekpdnikghaaGreatDoorRow
import Derived.Test.YtmpcekpdnikghaaGreatDoorEnv
import Derived.Maps.OwnSet
import Derived.Laws.EntriesVeiled
namespace Go.Proofs.YtmpcekpdnikghaaGreatDoor
open Go.RowKit
open Go.Maps (Keyed string_keyed IsMap)

namespace Lx
/-- The slice at ad of n texts reads as L. -/
def IsNames (W : World) (ad : Option Addr) (n : Nat) (L : List ByteArray) : Prop :=
  L.length = n ∧ (0 < n → ∃ g off, ad = some ⟨g, off, none⟩ ∧ g < W.heap.size ∧ ∀ (i : Nat) (x : ByteArray), L[i]? = some x → W.cell? ⟨g, off + i, none⟩ = some (.string x))
theorem IsNames.below {W W' : World} {ad : Option Addr} {n : Nat} {L : List ByteArray} (h : IsNames W ad n L) (hb : Below W.heap.size W W') : IsNames W' ad n L := by
  refine ⟨h.1, fun hn => ?_⟩
  obtain ⟨g, off, e, lt, hc⟩ := h.2 hn
  exact ⟨g, off, e, Nat.lt_of_lt_of_le lt hb.size, fun i o hi => (hb.cell (p := ⟨g, off + i, none⟩) lt).trans (hc i o hi)⟩
theorem IsNames.cells {W : World} {g off : Nat} {L : List ByteArray} (hc : ∀ (i : Nat) (x : ByteArray), L[i]? = some x → W.cell? ⟨g, off + i, none⟩ = some (.string x)) :
    ∀ j, j < L.length → W.cell? ⟨g, off + j, none⟩ = some (.string (L.getD j ByteArray.empty)) := by
  intro j hj
  refine hc j _ ?_
  rw [List.getD_eq_getElem?_getD, List.getElem?_eq_getElem hj]; rfl
/-- The map of the names that were seen. -/
def seenR (v : Value) : Option (DataW Unit × List MemPlace) := match v with
  | .bool b => some (.lit (.bool b), [])
  | _ => none
def seenD : List ByteArray → DataW Unit
  | [] => .map []
  | x :: r => (seenD r).put (.string x.data.toList) (.lit (.bool true))
theorem seen_map : ∀ l : List ByteArray, Go.Maps.IsMap (seenD l)
  | [] => ⟨_, rfl⟩
  | x :: r => by obtain ⟨es, h⟩ := seen_map r; unfold seenD; rw [h]; exact ⟨_, rfl⟩
theorem seen_has : ∀ (l : List ByteArray) (x : ByteArray), (x ∈ l → Go.Maps.has (seenD l) (.string x.data.toList) = true) ∧ (¬ x ∈ l → Go.Maps.has (seenD l) (.string x.data.toList) = false)
  | [], x => ⟨fun h => (by cases h), fun _ => rfl⟩
  | y :: l, x => by
    unfold seenD
    by_cases h : x = y
    · subst h
      exact ⟨fun _ => Go.Maps.has_put_same (seen_map l) (show WideAt.IsKeyLit (.string x.data.toList) from trivial) _, fun hn => absurd List.mem_cons_self hn⟩
    · have hne : Lit.string x.data.toList ≠ Lit.string y.data.toList := fun e => h (ByteArray.ext (Array.toList_inj.1 (Lit.string.inj e)))
      rw [Go.Maps.has_put_other hne]
      exact ⟨fun hm => (seen_has l x).1 ((List.mem_cons.1 hm).resolve_left h), fun hm => (seen_has l x).2 (fun c => hm (List.mem_cons_of_mem _ c))⟩
theorem seen_at : ∀ (l : List ByteArray) (x : ByteArray), x ∈ l → ∀ z, (seenD l).atKey (.string x.data.toList) z = .lit (.bool true)
  | [], x, h, _ => by cases h
  | y :: l, x, hm, z => by
    unfold seenD
    by_cases h : x = y
    · subst h; exact Go.Maps.atKey_put_same (seen_map l) (show WideAt.IsKeyLit (.string x.data.toList) from trivial) _ _
    · have hne : Lit.string x.data.toList ≠ Lit.string y.data.toList := fun e => h (ByteArray.ext (Array.toList_inj.1 (Lit.string.inj e)))
      rw [Go.Maps.atKey_put_other hne]
      exact seen_at l x ((List.mem_cons.1 hm).resolve_left h) z
end Lx
theorem lawS : Keyed Tryz.prog 9 := string_keyed Tryz.underlying9
theorem zeroB (w : World) : (zeroValue 4).run Tryz.prog w = .ok (.bool false) w := by kernel_rfl
/-- A text of a size that memory has. -/
abbrev Txt : Type := {x : ByteArray // x.size ≤ maxLen}
instance : Inhabited Txt := ⟨⟨⟨#[]⟩, by decide⟩⟩
theorem txt_of : ∀ NS : List ByteArray, (∀ x ∈ NS, x.size ≤ maxLen) → ∃ zs : List Txt, zs.map (·.1) = NS
  | [], _ => ⟨[], rfl⟩
  | x :: r, h => by
    obtain ⟨zs, hz⟩ := txt_of r (fun y hy => h y (List.mem_cons_of_mem _ hy))
    exact ⟨⟨x, h x List.mem_cons_self⟩ :: zs, by rw [List.map_cons, hz]⟩
theorem noname_any (x : ByteArray) (w : World) (hx : x.size ≤ maxLen) : Calls Tryz.prog 35 #[.string x] w fun e w' => e = .returned (.bool (!Lx.isName x)) ∧ ∃ q, w' = w.drewN q := by
  have HN := Lib.hid (fun W => name_any x W hx)
  generalize Lx.isName x = b at *
  go_enter Tryz.func35, Tryz.ntmps35
  go_wp2_with fail
  refine (HN.out _).mono ?_
  rintro e w1 ⟨rfl, rfl⟩
  go_wp2_with fail
  go_ret
  exact ⟨rfl, 0, rfl⟩
theorem contains_any (ad : Option Addr) (n cap : Nat) (NS : List ByteArray) (w : World) (h : Lx.IsNames w ad n NS) (hj : ∀ x ∈ NS, x.size ≤ maxLen) (hn : n ≤ 1000000000) :
    Calls Tryz.prog 34 #[.slice ad n cap, .func (.func 35) #[] #[]] w fun e w' => e = .returned (.bool (NS.any fun x => !Lx.isName x)) ∧ ∃ q, w' = w.drewN q := by
  by_cases h0 : n = 0
  · subst h0
    obtain rfl : NS = [] := List.eq_nil_of_length_eq_zero h.1
    refine (Tryz.slices_ContainsFunc_empty (α := Txt) ad cap _ w).mono ?_
    rintro e w' ⟨rfl, rfl⟩
    exact ⟨rfl, 0, rfl⟩
  · obtain ⟨g, off, rfl, lt, hc⟩ := h.2 (by omega)
    obtain ⟨zs, hz⟩ := txt_of NS hj
    have hl : zs.length = n := by rw [← h.1, ← hz, List.length_map]
    have eg : ∀ args w, (callFunc 35 args).run Tryz.prog w = .ok (.enter 35 args) w := enters_of Tryz.func35 (by kernel_rfl) rfl
    have c := Tryz.slices_ContainsFunc (α := Txt) (fun x => .string x.1) (fun x => !Lx.isName x.1) 35 #[] eg g off n cap zs w (fun W x _ => by
      have := noname_any x.1 W x.2
      exact this) (by omega) (by omega) (fun j hj => by
      refine hc j _ ?_
      rw [← hz, List.getElem?_map, List.getElem?_eq_getElem hj]
      simp [hj])
    have e : (zs.take n).any (fun x => !Lx.isName x.1) = NS.any (fun x => !Lx.isName x) := by
      rw [List.take_of_length_le (by omega), ← hz, List.any_map]; rfl
    rw [e] at c
    exact c
set_option maxRecDepth 100000 in
set_option maxHeartbeats 1600000 in
theorem names_any (ad : Option Addr) (n cap : Nat) (NS : List ByteArray) (w : World) (h : Lx.IsNames w ad n NS) (hj : ∀ x ∈ NS, x.size ≤ maxLen) (hn : n ≤ maxLen) :
    Calls Tryz.prog 20 #[.slice ad n cap] w fun e w' => e = .returned (.int .i64 (Lx.nmErr NS)) ∧ Below w.heap.size w w' := by
  have hL := h.1
  by_cases hbig : 64 < n
  · have hs : Lx.nmErr NS = 12 := by unfold Lx.nmErr; rw [if_pos (by omega)]
    have hbi : (64 : Int) < (n : Int) := by omega
    rw [hs]
    go_enter Tryz.func20, Tryz.ntmps20
    go_wp2_with fail
    go_ret
    exact ⟨rfl, Below.refl _ _⟩
  have HC := Lib.hid (fun W (b : Below w.heap.size w W) => contains_any ad n cap NS W (h.below b) hj (by omega))
  have hbi : (n : Int) ≤ 64 := by omega
  have hbd : decide ((64 : Int) < (n : Int)) = false := decide_eq_false (by omega)
  cases hany : NS.any (fun x => !Lx.isName x)
  · have hs : Lx.nmErr NS = if NS.Nodup then 0 else 6 := by unfold Lx.nmErr; rw [if_neg (by omega), if_neg (by rw [hany]; decide)]
    rw [hany] at HC
    rw [hs]
    obtain ⟨z, hz⟩ : ∃ z : Int, (if NS.Nodup then (0 : Int) else 6) = z := ⟨_, rfl⟩
    rw [hz]
    have HZ := Lib.hid hz
    clear hz
    have hmm := @run_makeMap Tryz.prog
    have H := Lib.hid h
    have HJ := Lib.hid hj
    have HLn := Lib.hid hL
    clear h hj hs hany hL hbig
    go_enter Tryz.func20, Tryz.ntmps20
    go_wp2_with fail
    refine (HC.out _ (Below.refl _ _)).mono ?_
    rintro e w1 ⟨rfl, nq, rfl⟩
    go_wp2_with fail
    go_loopw [14] (fun i wr => ∃ k : Nat, k ≤ n ∧ i = .int .i64 k ∧ (NS.take k).Nodup ∧ wr.ownsMap Tryz.prog 9 Lx.seenR w.heap.size k (Lx.seenD (NS.take k).reverse) ∧ Below w.heap.size w wr) (fun i _ => n - (intOf i).toNat)
    case atStart => exact ⟨0, Nat.zero_le _, rfl, List.nodup_nil, World.ownsMap_made _ _ _ _, (below_drewN w.heap.size w nq).alloc (Nat.le_refl _) _⟩
    case round =>
      obtain ⟨k, hk, rfl, hnd, hown, hb⟩ := hrel
      by_cases hlt : k < n
      · obtain ⟨x, hx⟩ : ∃ x, NS[k]? = some x := ⟨_, List.getElem?_eq_getElem (by rw [HLn.out]; exact hlt)⟩
        obtain ⟨g, off, rfl, lt, hc⟩ := (H.out.below hb).2 (by omega)
        have hcx := hc k x hx
        have hki : (k : Int) < (n : Int) := by omega
        have hkey : keyOf Tryz.prog 9 (.string x) = some (.string x.data.toList) := Go.WideMaps.keyOf_string_mk Tryz.underlying9 (HJ.out x (List.mem_of_getElem? hx))
        obtain ⟨v, ps, hrun, hv⟩ := hown.lookup lawS Tryz.underlying64 (zeroB wr) (zd := .lit (.bool false)) (zp := []) rfl hkey
        obtain ⟨hk', hv'⟩ := List.getElem?_eq_some_iff.1 hx
        have htk : NS.take (k + 1) = NS.take k ++ [x] := by rw [List.take_succ_eq_append_getElem hk', hv']
        by_cases hm : x ∈ NS.take k
        · rw [Lx.seen_at _ _ (List.mem_reverse.2 hm)] at hv
          have hvb : v = .bool true := by
            cases v <;> simp [Lx.seenR] at hv
            rw [hv.1]
          subst hvb
          have hnn : (if NS.Nodup then (0 : Int) else 6) = 6 := by
            rw [if_neg]
            intro hd
            have h2 : (NS.take (k + 1)).Nodup := hd.sublist (List.take_sublist _ _)
            rw [htk, List.nodup_append] at h2
            exact h2.2.2 x hm x (List.mem_singleton.2 rfl) rfl
          have HNN := Lib.hid hnn
          have HB := Lib.hid hb
          clear hv hm hnd hown hb hc hx hk' hv' htk hkey hnn
          go_wp2_with fail
          go_ret
          exact ⟨Lx.ret_int (HNN.out.symm.trans HZ.out), HB.out⟩
        · rw [Go.Maps.atKey_of_not_has ((Lx.seen_has _ x).2 (fun h => hm (List.mem_reverse.1 h)))] at hv
          have hvb : v = .bool false := by
            cases v <;> simp [Lx.seenR] at hv
            rw [hv.1]
          subst hvb
          obtain ⟨w2, hrun2, hown2, hgr⟩ := hown.update lawS Tryz.underlying64 (by unfold maxLen; omega) (key := .string x) (val := .bool true) hkey (d := .lit (.bool true)) (ps := []) rfl
          have hnd2 : (NS.take (k + 1)).Nodup := by
            rw [htk, List.nodup_append]
            exact ⟨hnd, by simp, fun a ha b hb e => hm (by rw [← List.mem_singleton.1 hb, ← e]; exact ha)⟩
          have hown3 : w2.ownsMap Tryz.prog 9 Lx.seenR w.heap.size (k + 1) (Lx.seenD (NS.take (k + 1)).reverse) := by
            rw [htk, List.reverse_append]; exact hown2
          have hb2 := hb.grown hgr hb.size (fun j hj => by cases hj; exact Nat.le_refl _)
          have HND := Lib.hid hnd2
          have HOW := Lib.hid hown3
          have HB := Lib.hid hb2
          clear hv hm hnd hown hb hc hx hk' hv' htk hkey hown2 hgr hnd2 hown3 hb2
          go_wp2_with fail
          go_roundw
          case rel => exact ⟨k + 1, by omega, by go_num, HND.out, HOW.out, HB.out⟩
          case measure => simp [intOf]; omega
      · obtain rfl : k = n := by omega
        have hnn : (if NS.Nodup then (0 : Int) else 6) = 0 := by
          rw [List.take_of_length_le (by rw [HLn.out]; exact Nat.le_refl _)] at hnd
          rw [if_pos hnd]
        have HNN := Lib.hid hnn
        have HB := Lib.hid hb
        clear hnd hown hb hnn
        go_wp2_with fail
        go_ret
        exact ⟨Lx.ret_int (HNN.out.symm.trans HZ.out), HB.out⟩
  · have hs : Lx.nmErr NS = 15 := by unfold Lx.nmErr; rw [if_neg (by omega), if_pos hany]
    rw [hany] at HC
    rw [hs]
    clear h hj hs hany hL
    go_enter Tryz.func20, Tryz.ntmps20
    go_wp2_with fail
    refine (HC.out _ (Below.refl _ _)).mono ?_
    rintro e w1 ⟨rfl, nq, rfl⟩
    go_wp2_with fail
    go_ret
    exact ⟨rfl, below_drewN _ _ _⟩
end Go.Proofs.YtmpcekpdnikghaaGreatDoor
