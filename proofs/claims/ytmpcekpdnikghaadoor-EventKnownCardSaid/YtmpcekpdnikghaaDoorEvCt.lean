/- How many events of a kind there are, and the events of an occurrence: the walks of event.Count and event.Of. -/
import Derived.Test.YtmpcekpdnikghaaDoorEvO
import Derived.Test.YtmpcekpdnikghaaDoorEvAp
namespace Go.Proofs.YtmpcekpdnikghaaDoor
open Go.RowKit

namespace Lx
theorem filt_take {p : EvV → Bool} {L : List EvV} {k : Nat} {o : EvV} (h : L[k]? = some o) : (p o = true → (L.take (k + 1)).filter p = (L.take k).filter p ++ [o]) ∧ (p o = false → (L.take (k + 1)).filter p = (L.take k).filter p) := by
  have e : L.take (k + 1) = L.take k ++ [o] := by rw [List.take_add_one, h]; rfl
  rw [e, List.filter_append]
  exact ⟨fun hp => by simp [hp], fun hp => by simp [hp]⟩
theorem filt_len (p : EvV → Bool) (L : List EvV) (k : Nat) : ((L.take k).filter p).length ≤ k := Nat.le_trans (List.length_filter_le _ _) (List.length_take_le _ _)
def isK (x : Int) (o : EvV) : Bool := o.k == x
/-- How many events of a kind there are. -/
def cntE (L : List EvV) (x : Int) : Nat := (L.filter (isK x)).length
def isOf (j d : Int) (o : EvV) : Bool := decide (1 ≤ o.k) && decide (o.k ≤ 5) && (o.j == j) && (o.d == d)
theorem own_of_eq {w : World} {base : Nat} {e : TypeId} {size : Nat} {v : Value} {A B : List EvV} (h : w.ownsRow base e size v A.length (evCells A)) (he : B = A) : w.ownsRow base e size v B.length (evCells B) := he ▸ h
/-- The events of an occurrence. -/
def ofE (L : List EvV) (j d : Int) : List EvV := L.filter (isOf j d)
end Lx
set_option maxRecDepth 100000 in
set_option maxHeartbeats 1600000 in
theorem evcount_any (ad : Option Addr) (n cap : Nat) (L : List Lx.EvV) (x : Int) (w : World) (h : Lx.IsEvs w ad n L) (hn : n ≤ 1000000000) :
    Calls Tryd.prog 19 #[.slice ad n cap, .int .i64 x] w fun e w' => e = .returned (.int .i64 (Lx.cntE L x : Nat)) ∧ Below w.heap.size w w' := by
  have H := Lib.hid h
  clear h
  go_enter Tryd.func19, Tryd.ntmps19
  go_wp2_with fail
  go_loopw [5, 10] (fun c i wr => ∃ k : Nat, k ≤ n ∧ i = .int .i64 k ∧ c = .int .i64 (((L.take k).filter (Lx.isK x)).length : Nat) ∧ Below w.heap.size w wr) (fun _ i _ => n - (intOf i).toNat)
  case atStart => exact ⟨0, Nat.zero_le _, rfl, rfl, Below.refl _ _⟩
  case round =>
    obtain ⟨k, hk, rfl, rfl, hb⟩ := hrel
    have hle := Lx.filt_len (Lx.isK x) L k
    have Hb := Lib.hid hb
    clear hb
    by_cases hlt : k < n
    · have hki : (k : Int) < (n : Int) := by omega
      obtain ⟨o, ho⟩ : ∃ o, L[k]? = some o := ⟨_, List.getElem?_eq_getElem (by rw [H.out.1]; exact hlt)⟩
      obtain ⟨g, off, rfl, lt, hc⟩ := (H.out.below Hb.out).2 (by omega)
      have hst := Lx.filt_take (p := Lx.isK x) ho
      obtain ⟨q, hq⟩ : ∃ q, ((L.take k).filter (Lx.isK x)).length = q := ⟨_, rfl⟩
      rw [hq] at hle ⊢
      obtain ⟨ok, ot, oj, od, oa, or, oy, on⟩ := o
      have c0 : wr.cell? ⟨g, off + k * 8, none⟩ = some (.int .i64 ok) := hc k _ ho 0 _ rfl
      have c1 : wr.cell? ⟨g, off + k * 8 + 1, none⟩ = some (.int .i64 ot) := hc k _ ho 1 _ rfl
      have c2 : wr.cell? ⟨g, off + k * 8 + 2, none⟩ = some (.int .i64 oj) := hc k _ ho 2 _ rfl
      have c3 : wr.cell? ⟨g, off + k * 8 + 3, none⟩ = some (.int .i64 od) := hc k _ ho 3 _ rfl
      have c4 : wr.cell? ⟨g, off + k * 8 + 4, none⟩ = some (.int .i64 oa) := hc k _ ho 4 _ rfl
      have c5 : wr.cell? ⟨g, off + k * 8 + 5, none⟩ = some (.int .i64 or) := hc k _ ho 5 _ rfl
      have c6 : wr.cell? ⟨g, off + k * 8 + 6, none⟩ = some (.int .i64 oy) := hc k _ ho 6 _ rfl
      have c7 : wr.cell? ⟨g, off + k * 8 + 7, none⟩ = some (.int .i64 on) := hc k _ ho 7 _ rfl
      unfold Lx.isK at hst
      dsimp only at hst
      clear hc ho
      by_cases hx : ok = x
      · have HS := Lib.hid (hst.1 (by rw [beq_iff_eq]; exact hx))
        have Hq := Lib.hid hq
        have hxe : (ok == x) = true := by rw [beq_iff_eq]; exact hx
        clear hst hx hq
        go_wp2_with fail
        go_roundw
        case rel => exact ⟨k + 1, by omega, by go_num, by show _ = Value.int .i64 ((((L.take (k + 1)).filter fun o => o.k == x).length : Nat) : Int); rw [HS.out, List.length_append]; show _ = Value.int .i64 ((((L.take k).filter (Lx.isK x)).length + 1 : Nat) : Int); rw [Hq.out]; go_num, (Hb.out.alloc Hb.out.size _)⟩
        case measure => simp [intOf]; omega
      · have HS := Lib.hid (hst.2 (by rw [beq_eq_false_iff_ne]; exact hx))
        have Hq := Lib.hid hq
        have hxe : (ok == x) = false := by rw [beq_eq_false_iff_ne]; exact hx
        clear hst hx hq
        go_wp2_with fail
        go_roundw
        case rel => exact ⟨k + 1, by omega, by go_num, by show _ = Value.int .i64 ((((L.take (k + 1)).filter fun o => o.k == x).length : Nat) : Int); rw [HS.out]; show _ = Value.int .i64 ((((L.take k).filter (Lx.isK x)).length : Nat) : Int); rw [Hq.out], (Hb.out.alloc Hb.out.size _)⟩
        case measure => simp [intOf]; omega
    · obtain rfl : k = n := by omega
      have hki : decide ((k : Int) < (k : Int)) = false := decide_eq_false (by omega)
      have ht : L.take k = L := List.take_of_length_le (by rw [H.out.1]; exact Nat.le_refl _)
      rw [ht]
      go_wp2_with fail
      go_ret
      exact ⟨rfl, Hb.out⟩
/-- What Of gives: the slice in a row of its own. -/
def OfPost (L : List Lx.EvV) (j d : Int) (w : World) (e : Ending) (w' : World) : Prop := ∃ v, e = .returned v ∧ w'.ownsRow w.heap.size 23 8 v (Lx.ofE L j d).length (Lx.evCells (Lx.ofE L j d)) ∧ Below w.heap.size w w'
set_option maxRecDepth 100000 in
set_option maxHeartbeats 1600000 in
theorem evof_any (ad : Option Addr) (n cap : Nat) (L : List Lx.EvV) (j d : Int) (w : World) (h : Lx.IsEvs w ad n L) (hn : n ≤ 1000000) :
    Calls Tryd.prog 20 #[.slice ad n cap, .int .i64 j, .int .i64 d] w (OfPost L j d w) := by
  obtain ⟨i0, hi, hz0, hz1, hz2⟩ := info_parts infoEv
  have H := Lib.hid h
  clear h
  go_enter Tryd.func20, Tryd.ntmps20
  go_wp2_with fail
  go_loopw [7, 12] (fun tx i wr => ∃ k : Nat, k ≤ n ∧ i = .int .i64 k ∧ wr.ownsRow w.heap.size 23 8 tx ((L.take k).filter (Lx.isOf j d)).length (Lx.evCells ((L.take k).filter (Lx.isOf j d))) ∧ Below w.heap.size w wr) (fun _ i _ => n - (intOf i).toNat)
  case atStart => exact ⟨0, Nat.zero_le _, rfl, World.ownsRow_nil _ _ _ _, Below.refl _ _⟩
  case round =>
    obtain ⟨k, hk, rfl, hrow, hb⟩ := hrel
    have hle := Lx.filt_len (Lx.isOf j d) L k
    have Hb := Lib.hid hb
    have Hrow := Lib.hid hrow
    clear hb hrow
    by_cases hlt : k < n
    · have hki : (k : Int) < (n : Int) := by omega
      obtain ⟨o, ho⟩ : ∃ o, L[k]? = some o := ⟨_, List.getElem?_eq_getElem (by rw [H.out.1]; exact hlt)⟩
      obtain ⟨g, off, rfl, lt, hc⟩ := (H.out.below Hb.out).2 (by omega)
      have hst := Lx.filt_take (p := Lx.isOf j d) ho
      have hsn := Lx.evCells_snoc ((L.take k).filter (Lx.isOf j d)) o
      obtain ⟨q, hq⟩ : ∃ q, ((L.take k).filter (Lx.isOf j d)).length = q := ⟨_, rfl⟩
      have Hrow0 := Hrow
      rw [hq] at hle Hrow
      obtain ⟨ok, ot, oj, od, oa, or, oy, on⟩ := o
      have c0 : wr.cell? ⟨g, off + k * 8, none⟩ = some (.int .i64 ok) := hc k _ ho 0 _ rfl
      have c1 : wr.cell? ⟨g, off + k * 8 + 1, none⟩ = some (.int .i64 ot) := hc k _ ho 1 _ rfl
      have c2 : wr.cell? ⟨g, off + k * 8 + 2, none⟩ = some (.int .i64 oj) := hc k _ ho 2 _ rfl
      have c3 : wr.cell? ⟨g, off + k * 8 + 3, none⟩ = some (.int .i64 od) := hc k _ ho 3 _ rfl
      have c4 : wr.cell? ⟨g, off + k * 8 + 4, none⟩ = some (.int .i64 oa) := hc k _ ho 4 _ rfl
      have c5 : wr.cell? ⟨g, off + k * 8 + 5, none⟩ = some (.int .i64 or) := hc k _ ho 5 _ rfl
      have c6 : wr.cell? ⟨g, off + k * 8 + 6, none⟩ = some (.int .i64 oy) := hc k _ ho 6 _ rfl
      have c7 : wr.cell? ⟨g, off + k * 8 + 7, none⟩ = some (.int .i64 on) := hc k _ ho 7 _ rfl
      have Hq := Lib.hid hq
      have Hsn := Lib.hid hsn
      have HST := Lib.hid hst
      have hbz := Hb.out.size
      clear hc ho hsn hst hq
      have no := fun e => Lx.own_of_eq Hrow0.out (HST.out.2 e)
      have NO := Lib.hid no
      clear no Hrow0
      by_cases h1 : 1 ≤ ok
      · have d1 : decide (1 ≤ ok) = true := decide_eq_true h1
        by_cases h2 : ok ≤ 5
        · have d2 : decide (ok ≤ 5) = true := decide_eq_true h2
          by_cases h3 : oj = j
          · have d3 : (oj == j) = true := by rw [beq_iff_eq]; exact h3
            by_cases h4 : od = d
            · have d4 : (od == d) = true := by rw [beq_iff_eq]; exact h4
              have hy := HST.out.1 (by unfold Lx.isOf; dsimp only; rw [d1, d2, d3, d4]; rfl)
              have HY := Lib.hid hy
              subst h3 h4
              obtain ⟨a0, cp0, rfl⟩ := Lx.slice_of_row Hrow.out
              have hcs : ∀ j' u, ([.int .i64 ok, .int .i64 ot, .int .i64 oj, .int .i64 od, .int .i64 oa, .int .i64 or, .int .i64 oy, .int .i64 on] : List Value)[j']? = some u → ((wr.alloc (.cells #[.int .i64 ok, .int .i64 ot, .int .i64 oj, .int .i64 od, .int .i64 oa, .int .i64 or, .int .i64 oy, .int .i64 on] 23)).alloc (.cells #[.int .i64 ok, .int .i64 ot, .int .i64 oj, .int .i64 od, .int .i64 oa, .int .i64 or, .int .i64 oy, .int .i64 on] 23)).cell? ((⟨wr.heap.size + 1, 0, none⟩ : Addr).add j') = some u := by
                have := Lx.cell_eight_new (wr.alloc (.cells #[.int .i64 ok, .int .i64 ot, .int .i64 oj, .int .i64 od, .int .i64 oa, .int .i64 or, .int .i64 oy, .int .i64 on] 23)) ⟨ok, ot, oj, od, oa, or, oy, on⟩ 23
                rw [World.size_alloc] at this
                exact this
              have HCS := Lib.hid hcs
              clear hcs hy NO d3 d4 Hsn
              have Hsn := Lib.hid (Lx.evCells_snoc ((L.take k).filter (Lx.isOf oj od)) ⟨ok, ot, oj, od, oa, or, oy, on⟩)
              go_wp2_with (at_builtin; refine wpList_append_own _ rfl _ _ 36 rfl w.heap.size 23 i0 _ 8 64 Tryd.underlying36 hi hz0 hz1 hz2 rfl (by decide) _ _ _ rfl ((Hrow.out.alloc _).alloc _) ⟨wr.heap.size + 1, 0, none⟩ 1 1 [.int .i64 ok, .int .i64 ot, .int .i64 oj, .int .i64 od, .int .i64 oa, .int .i64 or, .int .i64 oy, .int .i64 on] rfl rfl HCS.out (by simp [Value.oneCell']) (by unfold maxLen; omega) (by omega) (by simp; omega) ?_)
              intro v' w6 hown' hgrow _
              have hb6 := ((Hb.out.alloc Hb.out.size (.cells #[.int .i64 ok, .int .i64 ot, .int .i64 oj, .int .i64 od, .int .i64 oa, .int .i64 or, .int .i64 oy, .int .i64 on] 23)).alloc (Hb.out.alloc Hb.out.size _).size (.cells #[.int .i64 ok, .int .i64 ot, .int .i64 oj, .int .i64 od, .int .i64 oa, .int .i64 or, .int .i64 oy, .int .i64 on] 23)).grown hgrow (by simp; omega) (Lx.ownBase Hrow.out)
              clear hgrow
              go_wp2_with fail
              go_roundw
              case rel => exact ⟨k + 1, by omega, by go_num, by rw [HY.out, List.length_append, Hq.out, Hsn.out]; exact hown', hb6⟩
              case measure => simp [intOf]; omega
            · have d4 : (od == d) = false := by rw [beq_eq_false_iff_ne]; exact h4
              have HY := Lib.hid (NO.out (by unfold Lx.isOf; dsimp only; rw [d1, d2, d3, d4]; rfl))
              subst h3
              clear h4 NO d3
              go_wp2_with fail
              go_roundw
              case rel => exact ⟨k + 1, by omega, by go_num, HY.out.alloc _, Hb.out.alloc Hb.out.size _⟩
              case measure => simp [intOf]; omega
          · have d3 : (oj == j) = false := by rw [beq_eq_false_iff_ne]; exact h3
            have HY := Lib.hid (NO.out (by unfold Lx.isOf; dsimp only; rw [d1, d2, d3]; rfl))
            clear h3 NO
            go_wp2_with fail
            go_roundw
            case rel => exact ⟨k + 1, by omega, by go_num, HY.out.alloc _, Hb.out.alloc Hb.out.size _⟩
            case measure => simp [intOf]; omega
        · have d2 : decide (ok ≤ 5) = false := decide_eq_false h2
          have HY := Lib.hid (NO.out (by unfold Lx.isOf; dsimp only; rw [d1, d2]; rfl))
          clear NO
          go_wp2_with fail
          go_roundw
          case rel => exact ⟨k + 1, by omega, by go_num, HY.out.alloc _, Hb.out.alloc Hb.out.size _⟩
          case measure => simp [intOf]; omega
      · have d1 : decide (1 ≤ ok) = false := decide_eq_false h1
        have HY := Lib.hid (NO.out (by unfold Lx.isOf; dsimp only; rw [d1]; rfl))
        clear NO
        go_wp2_with fail
        go_roundw
        case rel => exact ⟨k + 1, by omega, by go_num, HY.out.alloc _, Hb.out.alloc Hb.out.size _⟩
        case measure => simp [intOf]; omega
    · obtain rfl : k = n := by omega
      have hki : decide ((k : Int) < (k : Int)) = false := decide_eq_false (by omega)
      have ht : L.take k = L := List.take_of_length_le (by rw [H.out.1]; exact Nat.le_refl _)
      have Hr := Hrow.out
      rw [ht] at Hr
      have HR := Lib.hid Hr
      clear Hr hle
      go_wp2_with fail
      go_ret
      exact ⟨_, rfl, HR.out, Hb.out⟩
end Go.Proofs.YtmpcekpdnikghaaDoor
