/- Lists of operations in memory; the walks of tick and of op.check. -/
import Derived.Test.YtnnkamfpcodnnaaGreatDoorOpQ
namespace Go.Proofs.YtnnkamfpcodnnaaGreatDoor
open Go.RowKit

namespace Lx
/-- The slice at ad of n operations reads as L. -/
def IsOps (W : World) (ad : Option Addr) (n : Nat) (L : List OpV) : Prop :=
  L.length = n ∧ (0 < n → ∃ g off, ad = some ⟨g, off, none⟩ ∧ g < W.heap.size ∧ ∀ (i : Nat) (o : OpV), L[i]? = some o → ∀ (j : Nat) (v : Value), o.cells[j]? = some v → W.cell? ⟨g, off + i * 6 + j, none⟩ = some v)
theorem IsOps.below {W W' : World} {ad : Option Addr} {n : Nat} {L : List OpV} (h : IsOps W ad n L) (hb : Below W.heap.size W W') : IsOps W' ad n L := by
  refine ⟨h.1, fun hn => ?_⟩
  obtain ⟨g, off, e, lt, hc⟩ := h.2 hn
  exact ⟨g, off, e, Nat.lt_of_lt_of_le lt hb.size, fun i o hi j v hv => (hb.cell (p := ⟨g, off + i * 6 + j, none⟩) lt).trans (hc i o hi j v hv)⟩
/-- The first error of a list. -/
def firstErr : List OpV → Int
  | [] => 0
  | o :: t => if opErr o = 0 then firstErr t else opErr o
def scriptErr (L : List OpV) : Int := if 10000 < L.length then 12 else firstErr L
theorem firstErr_zero : ∀ {L : List OpV}, (∀ o ∈ L, opErr o = 0) → firstErr L = 0
  | [], _ => rfl
  | o :: t, h => by
    unfold firstErr
    rw [if_pos (h o List.mem_cons_self)]
    exact firstErr_zero (fun x hx => h x (List.mem_cons_of_mem _ hx))
theorem firstErr_at : ∀ {L : List OpV} {k : Nat} {o : OpV}, L[k]? = some o → (∀ x ∈ L.take k, opErr x = 0) → opErr o ≠ 0 → firstErr L = opErr o
  | [], k, o, h, _, _ => by simp at h
  | a :: t, 0, o, h, _, hne => by
    simp at h; subst h
    unfold firstErr; rw [if_neg hne]
  | a :: t, k + 1, o, h, hall, hne => by
    unfold firstErr
    rw [if_pos (hall a (by simp))]
    exact firstErr_at (by simpa using h) (fun x hx => hall x (by rw [List.take_succ_cons]; exact List.mem_cons_of_mem _ hx)) hne
theorem take_snoc_mem {L : List OpV} {k : Nat} {o : OpV} (h : L[k]? = some o) (hall : ∀ x ∈ L.take k, opErr x = 0) (ho : opErr o = 0) : ∀ x ∈ L.take (k + 1), opErr x = 0 := by
  intro x hx
  obtain ⟨hk, hv⟩ := List.getElem?_eq_some_iff.1 h
  rw [List.take_succ_eq_append_getElem hk, hv, List.mem_append, List.mem_singleton] at hx
  rcases hx with hx | rfl
  · exact hall x hx
  · exact ho
end Lx
theorem tick_any (d : Int) (w : World) : Calls Tryz.prog 20 #[.int .i64 d] w fun e w' => e = .returned (.agg #[.int .i64 1, .int .i64 d, .int .i64 0, .int .i64 0, .bool false, .string ⟨#[]⟩]) ∧ Below w.heap.size w w' := by
  go_enter Tryz.func20, Tryz.ntmps20
  go_wp2_with fail
  exact bodyPost_ret (v := .agg #[.int .i64 1, .int .i64 d, .int .i64 0, .int .i64 0, .bool false, .string ⟨#[]⟩]) (by simp [results, Tryz.results20, go_sem]) rfl ⟨rfl, (Below.refl _ w).alloc (Nat.le_refl _) _⟩
set_option maxRecDepth 100000 in
set_option maxHeartbeats 1600000 in
theorem script_any (ad : Option Addr) (n cap : Nat) (L : List Lx.OpV) (w : World) (h : Lx.IsOps w ad n L) (hj : ∀ o ∈ L, o.job.size ≤ maxLen) (hn : n ≤ 1000000000) :
    Calls Tryz.prog 23 #[.slice ad n cap] w (CheckIs (Lx.scriptErr L) w) := by
  by_cases hbig : 10000 < n
  · have hs : Lx.scriptErr L = 12 := by unfold Lx.scriptErr; rw [if_pos (by rw [h.1]; exact hbig)]
    have hbi : (10000 : Int) < (n : Int) := by omega
    rw [hs]
    go_enter Tryz.func23, Tryz.ntmps23
    go_wp2_with fail
    go_ret
    exact ⟨rfl, Below.refl _ _⟩
  · have hs : Lx.scriptErr L = Lx.firstErr L := by unfold Lx.scriptErr; rw [if_neg (by rw [h.1]; exact hbig)]
    have hbi : (n : Int) ≤ 10000 := by omega
    have hbd : decide ((10000 : Int) < (n : Int)) = false := decide_eq_false (by omega)
    rw [hs]
    have H := Lib.hid h
    have HJ := Lib.hid hj
    clear h hj hs hbig
    go_enter Tryz.func23, Tryz.ntmps23
    go_wp2_with fail
    go_loopw [11] (fun i wr => ∃ k : Nat, k ≤ n ∧ i = .int .i64 k ∧ (∀ x ∈ L.take k, Lx.opErr x = 0) ∧ Below w.heap.size w wr) (fun i _ => n - (intOf i).toNat)
    case atStart => exact ⟨0, Nat.zero_le _, rfl, (fun x hx => by simp at hx), Below.refl _ _⟩
    case round =>
      obtain ⟨k, hk, rfl, hall, hb⟩ := hrel
      have Hall := Lib.hid hall
      have Hb := Lib.hid hb
      clear hall hb
      by_cases hlt : k < n
      · obtain ⟨o, ho⟩ : ∃ o, L[k]? = some o := ⟨_, List.getElem?_eq_getElem (by rw [H.out.1]; exact hlt)⟩
        have hx := HJ.out o (List.mem_of_getElem? ho)
        obtain ⟨g, off, rfl, lt, hc⟩ := (H.out.below Hb.out).2 (by omega)
        have HO := Lib.hid ho
        have HC := Lib.hid (fun W => check_any o W hx)
        obtain ⟨ok, od, ot, or, oo, oj⟩ := o
        have c0 : wr.cell? ⟨g, off + k * 6, none⟩ = some (.int .i64 ok) := hc k _ ho 0 _ rfl
        have c1 := hc k _ ho 1 _ rfl
        have c2 := hc k _ ho 2 _ rfl
        have c3 := hc k _ ho 3 _ rfl
        have c4 := hc k _ ho 4 _ rfl
        have c5 := hc k _ ho 5 _ rfl
        have hki : (k : Int) < (n : Int) := by omega
        unfold CheckIs Lx.OpV.val at HC
        simp only at HC
        obtain ⟨x, hxx⟩ : ∃ x, Lx.opErr ⟨ok, od, ot, or, oo, oj⟩ = x := ⟨_, rfl⟩
        rw [hxx] at HC
        have HX := Lib.hid hxx
        clear hc ho hx hxx hk
        go_wp2_with fail
        refine (HC.out _).mono ?_
        rintro e w5 ⟨rfl, hb5⟩
        have hb6 := (Hb.out.alloc Hb.out.size (.cells #[.int .i64 ok, .int .i64 od, .int .i64 ot, .int .i64 or, .bool oo, .string oj] 40)).trans (hb5.mono (by rw [World.size_alloc]; have := Hb.out.size; omega))
        clear c0 c1 c2 c3 c4 c5 hb5
        by_cases hx : x = 0
        · have he : (x != 0) = false := by rw [bne_eq_false_iff_eq]; exact hx
          have hall := Lx.take_snoc_mem HO.out Hall.out (HX.out.trans hx)
          have HA2 := Lib.hid hall
          clear hx hall
          go_wp2_with fail
          go_roundw
          case rel => exact ⟨k + 1, by omega, by go_num, HA2.out, hb6⟩
          case measure => simp [intOf]; omega
        · have he : (x != 0) = true := by rw [bne_iff_ne]; exact hx
          have hf := Lx.firstErr_at HO.out Hall.out (by rw [HX.out]; exact hx)
          rw [HX.out] at hf
          have HF := Lib.hid hf
          clear hx hf
          go_wp2_with fail
          go_ret
          exact ⟨Lx.ret_int HF.out.symm, hb6⟩
      · obtain rfl : k = n := by omega
        have hf : Lx.firstErr L = 0 := Lx.firstErr_zero (fun o ho => Hall.out o (by rw [List.take_of_length_le (by rw [H.out.1]; exact Nat.le_refl _)]; exact ho))
        have HF := Lib.hid hf
        clear hf
        go_wp2_with fail
        go_ret
        exact ⟨Lx.ret_int HF.out.symm, Hb.out⟩
end Go.Proofs.YtnnkamfpcodnnaaGreatDoor
