/- The walk of op.Print. -/
import Derived.Test.YtnnkamfpcodnnaaGreatDoorOpW
namespace Go.Proofs.YtnnkamfpcodnnaaGreatDoor
open Go.RowKit
open Go.Maps (Keyed)

namespace Lx
theorem name_len {job : ByteArray} (h : isName job = true) : job.size ≤ 24 ∧ 1 ≤ job.size := by
  unfold isName at h
  rw [Bool.and_eq_true, Bool.and_eq_true, decide_eq_true_iff, decide_eq_true_iff] at h
  exact ⟨h.1.2, h.1.1⟩
def fMk (x : Int × Value × Value) : Value := .agg #[.int .i64 x.1, x.2.1, x.2.2]
theorem fMk_inv {N b4 b5 b6 : Nat} (hN : N ≤ 6) (v : Value) (y : DataW Unit × List MemPlace) (h : fR N b4 b5 b6 v = some y) : ∃ c, v = fMk c := by
  obtain ⟨k, hk, rfl, _⟩ := fR_inv hN h
  have : k = 0 ∨ k = 1 ∨ k = 2 ∨ k = 3 ∨ k = 4 ∨ k = 5 ∨ k = 6 := by omega
  rcases this with rfl | rfl | rfl | rfl | rfl | rfl | rfl <;> exact ⟨(_, _, _), rfl⟩
theorem key_inv (key : Value) (kl : Lit) (h : keyOf Tryz.prog 9 key = some kl) : ∃ x, key = .string x := by
  cases key <;> simp [keyOf, Tryz.underlying9, mapKey] at h
  exact ⟨_, rfl⟩
theorem key_is {x : ByteArray} {kl : Lit} (h : keyOf Tryz.prog 9 (.string x) = some kl) : kl = .string x.data.toList := by
  simp [keyOf, Tryz.underlying9, mapKey] at h
  exact h.2.symm
/-- An entry of the map of the forms: its key is the word of its kind. -/
theorem entry_is {b4 b5 b6 : Nat} {x : ByteArray} {kl : Lit} {c : Int × Value × Value} {y : DataW Unit × List MemPlace} (hkey : keyOf Tryz.prog 9 (.string x) = some kl) (hR : fR 6 b4 b5 b6 (fMk c) = some y) (hat : ∀ zd, fD.atKey kl zd = y.1) :
    ∃ k : Nat, 1 ≤ k ∧ k ≤ 6 ∧ fMk c = fV b4 b5 b6 k ∧ c.1 = (k : Int) ∧ x.data.toList = word (k : Int) ∧ kl = kw (k : Int) := by
  obtain ⟨k, hk, hv, rfl⟩ := fR_inv (by omega) hR
  have hc : c.1 = (k : Int) := by
    have := congrArg kindV hv
    rw [kind_fV _ _ _ hk] at this
    exact this
  have hkl := key_is hkey
  by_cases hw : ∃ j : Int, 1 ≤ j ∧ j ≤ 6 ∧ x.data.toList = word j
  · obtain ⟨j, j1, j2, hj⟩ := hw
    rw [hj] at hkl
    have h1 := hat (kd 0)
    rw [hkl] at h1
    have h2 := fD_at j1 j2 (kd 0)
    unfold kw at h2
    rw [h2] at h1
    unfold kd at h1
    have h3 : j = (k : Int) := by
      have h4 := DataW.lit.inj h1
      exact (Lit.int.inj h4).2
    subst h3
    exact ⟨k, by omega, hk, hv, hc, hj, hkl⟩
  · exfalso
    have hn := fD_not (l := x.data.toList) (fun j a b e => hw ⟨j, a, b, e⟩)
    have h1 := hat (kd 7)
    have h2 := hat (kd 8)
    rw [hkl, Go.Maps.atKey_of_not_has hn] at h1 h2
    simp only at h1 h2
    rw [← h2] at h1
    unfold kd at h1
    have h4 := (Lit.int.inj (DataW.lit.inj h1)).2
    omega
theorem fV_w1 {n : Int} {av cv : Value} {b4 b5 b6 : Nat} (h : fMk (n, av, cv) = fV b4 b5 b6 1) : av = .func (.func 41) #[] #[] := by
  unfold fMk at h
  simp [fV] at h
  exact h.2.1
theorem fV_w2 {n : Int} {av cv : Value} {b4 b5 b6 : Nat} (h : fMk (n, av, cv) = fV b4 b5 b6 2) : av = .func (.func 43) #[] #[] := by
  unfold fMk at h
  simp [fV] at h
  exact h.2.1
theorem fV_w3 {n : Int} {av cv : Value} {b4 b5 b6 : Nat} (h : fMk (n, av, cv) = fV b4 b5 b6 3) : av = .func (.func 45) #[] #[] := by
  unfold fMk at h
  simp [fV] at h
  exact h.2.1
theorem fV_w4 {n : Int} {av cv : Value} {b4 b5 b6 : Nat} (h : fMk (n, av, cv) = fV b4 b5 b6 4) : av = .func (.func 61) #[] #[] := by
  unfold fMk at h
  simp [fV] at h
  exact h.2.1
theorem fV_w5 {n : Int} {av cv : Value} {b4 b5 b6 : Nat} (h : fMk (n, av, cv) = fV b4 b5 b6 5) : av = .func (.func 61) #[] #[] := by
  unfold fMk at h
  simp [fV] at h
  exact h.2.1
theorem fV_w6 {n : Int} {av cv : Value} {b4 b5 b6 : Nat} (h : fMk (n, av, cv) = fV b4 b5 b6 6) : av = .func (.func 61) #[] #[] := by
  unfold fMk at h
  simp [fV] at h
  exact h.2.1
theorem fV_shape {n : Int} {av cv : Value} {b4 b5 b6 j : Nat} (h1 : 1 ≤ j) (h2 : j ≤ 6) (h : fMk (n, av, cv) = fV b4 b5 b6 j) : ∃ F G ps, av = .func (.func F) #[] #[] ∧ cv = .func (.func G) #[] ps := by
  unfold fMk at h
  have : j = 1 ∨ j = 2 ∨ j = 3 ∨ j = 4 ∨ j = 5 ∨ j = 6 := by omega
  rcases this with rfl | rfl | rfl | rfl | rfl | rfl <;> simp [fV] at h <;> exact ⟨_, _, _, h.2.1, h.2.2⟩
theorem kw_ne {j k : Int} (hj : 1 ≤ j ∧ j ≤ 6) (hk : 1 ≤ k ∧ k ≤ 6) (h : j ≠ k) : (kw j).sameKey (kw k) = false := by
  apply Go.Maps.sameKey_ne
  intro e
  exact h (word_inj hj hk (Lit.string.inj e))
end Lx
def PrintIs (l : List UInt8) (w : World) (e : Ending) (w' : World) : Prop := e = .returned (.tuple #[.string ⟨l.toArray⟩, .int .i64 0]) ∧ Below w.heap.size w w'
set_option maxRecDepth 100000 in
set_option maxHeartbeats 1600000 in
theorem print_1 (d : Int) (h0 : 1 ≤ d) (h1 : d ≤ 100000) (w : World) (env : Env w) :
    Calls Tryz.prog 18 #[.agg #[.int .i64 1, .int .i64 d, .int .i64 0, .int .i64 0, .bool false, .string ⟨#[]⟩]] w (PrintIs (Lx.word 1 ++ 32 :: (Lib.itoa d)) w) := by
  have HCk := Lib.hid (fun W => check_tick_ok d W h0 h1)
  have HW := Lib.hid (fun W (E : Env W) => write_tick 1 d 0 0 false ⟨#[]⟩ W E h0 h1)
  have hlen : (Lib.itoa d).length ≤ 100 := by have := Lx.itoa_len d (by omega) (by omega); omega
  obtain ⟨S, hS⟩ : ∃ S : ByteArray, S = ⟨(Lib.itoa d).toArray⟩ := ⟨_, rfl⟩
  have hSs : S.size ≤ 100 := by rw [Lib.size_eq, hS]; exact hlen
  have hfin : ∀ x : ByteArray, x.data.toList = Lx.word 1 → x ++ ⟨#[32]⟩ ++ S = ⟨(Lx.word 1 ++ 32 :: (Lib.itoa d)).toArray⟩ := fun x hx => by
    apply ByteArray.ext; apply Array.toList_inj.1
    rw [ByteArray.data_append, Array.toList_append, ByteArray.data_append, Array.toList_append, hx, hS]
    show (Lx.word 1 ++ [32]) ++ _ = _
    rw [List.append_assoc]; rfl
  unfold WroteIs at HW
  rw [← hS] at HW
  have Hfin := Lib.hid hfin
  have z1 : (⟨#[32]⟩ : ByteArray).size = 1 := rfl
  clear hlen hS hfin
  go_enter Tryz.func18, Tryz.ntmps18
  go_wp2_with fail
  refine (HCk.out _).mono ?_
  rintro e w1 ⟨rfl, hb1⟩
  have c0 := Lx.boxCell hb1 0 _ rfl
  have c1 := Lx.boxCell hb1 1 _ rfl
  have c2 := Lx.boxCell hb1 2 _ rfl
  have c3 := Lx.boxCell hb1 3 _ rfl
  have c4 := Lx.boxCell hb1 4 _ rfl
  have c5 := Lx.boxCell hb1 5 _ rfl
  have hl1 := Lx.boxLt hb1
  have be1 := Lx.boxBelow hb1
  clear hb1
  go_wp2_with fail
  refine (forms_any _).mono ?_
  rintro e w2 ⟨b, b4, b5, b6, rfl, hown, k4, k5, k6, l4, l5, l6, hb2⟩
  have d0 := (hb2.cell (p := ⟨w.heap.size, 0, none⟩) hl1).trans c0
  have d1 := (hb2.cell (p := ⟨w.heap.size, 1, none⟩) hl1).trans c1
  have d2 := (hb2.cell (p := ⟨w.heap.size, 2, none⟩) hl1).trans c2
  have d3 := (hb2.cell (p := ⟨w.heap.size, 3, none⟩) hl1).trans c3
  have d4 := (hb2.cell (p := ⟨w.heap.size, 4, none⟩) hl1).trans c4
  have d5 := (hb2.cell (p := ⟨w.heap.size, 5, none⟩) hl1).trans c5
  have hl2 := Nat.lt_of_lt_of_le hl1 hb2.size
  have be2 := be1.trans (hb2.mono be1.size)
  clear c0 c1 c2 c3 c4 c5 hl1 be1 hb2 k4 k5 k6 l4 l5 l6
  have hbl := hown.lt
  have Hown := Lib.hid hown
  clear hown
  go_wp2_with (at_range; refine wpList_range_own _ rfl _ 61 rfl 9 66 lawS Tryz.underlying61 (Lx.fR 6 b4 b5 b6) b 6 Lx.fD rfl Hown.out ?_; intro w3 hrg0 hg0 hs0)
  go_frame
  have hd0 : Below w2.heap.size w2 w3 := (Below.refl _ w2).grown hg0 (Nat.le_refl _) (fun j hj => by cases hj)
  have HR0 := Lib.hid hrg0
  have HD0 := Lib.hid hd0
  clear hrg0 hg0 hs0 hd0
  go_loopw [5] (fun _ wr => ∃ left cnt, wr.ranges Tryz.prog 9 (Lx.fR 6 b4 b5 b6) b w2.heap.size 6 Lx.fD left cnt ∧ left (Lx.kw 1) = true ∧ Below w2.heap.size w2 wr) (fun _ wr => wr.rangeLeft b w2.heap.size)
  case atStart => exact ⟨_, _, HR0.out, Lx.fD_has (by omega) (by omega), HD0.out⟩
  case round =>
    obtain ⟨left, cnt, hrg, hleft, hbr⟩ := hrel
    have Hrg := Lib.hid hrg
    have Hleft := Lib.hid hleft
    have Hbr := Lib.hid hbr
    clear hrg hleft hbr
    go_wp2_with (at_next; refine wpList_next_ranges _ rfl _ rfl 9 lawS (Lx.fR 6 b4 b5 b6) Value.string Lx.fMk Lx.key_inv (Lx.fMk_inv (by omega)) b w2.heap.size 6 Lx.fD left cnt rfl Hrg.out ?_ ?_)
    · intro _ hno
      have := Hleft.out
      rw [hno] at this
      cases this
    · intro x n av cv kl y1 y2 w4 cnt1 hkey hlk hR hat hrg1 hlt hg1 hs1 hen
      obtain ⟨j, j1, j2, hv, hn, hx, rfl⟩ := Lx.entry_is hkey hR hat
      have hgr : Below w2.heap.size w2 w4 := Hbr.out.grown hg1 Hbr.out.size (fun j hj => by cases hj; exact Nat.le_refl _)
      have hg2 := hgr.size
      have HR1 := Lib.hid hrg1
      have HLT := Lib.hid hlt
      have HRG := Lib.hid (Hrg.out.left_eq)
      have HL := Lib.hid hlk
      have HGR := Lib.hid hgr
      unfold Lx.fMk at hen ⊢
      dsimp only at hen hn ⊢
      clear hkey hR hat hlk hrg1 hlt hg1 hs1 hgr
      have g0 := (HGR.out.cell (p := ⟨w.heap.size, 0, none⟩) hl2).trans d0
      have g1 := (HGR.out.cell (p := ⟨w.heap.size, 1, none⟩) hl2).trans d1
      have g2 := (HGR.out.cell (p := ⟨w.heap.size, 2, none⟩) hl2).trans d2
      have g3 := (HGR.out.cell (p := ⟨w.heap.size, 3, none⟩) hl2).trans d3
      have g4 := (HGR.out.cell (p := ⟨w.heap.size, 4, none⟩) hl2).trans d4
      have g5 := (HGR.out.cell (p := ⟨w.heap.size, 5, none⟩) hl2).trans d5
      have hl4 : w.heap.size < w4.heap.size := Nat.lt_of_lt_of_le hl2 hg2
      have be4 := be2.trans (HGR.out.mono be2.size)
      obtain ⟨F, G, ps, hF, hG⟩ := Lx.fV_shape j1 j2 hv
      by_cases hjk : (j : Int) = 1
      · have hav := Lx.fV_w1 (show Lx.fMk (n, av, cv) = Lx.fV b4 b5 b6 1 by rw [hv]; congr 1; omega)
        clear hF
        rw [hjk] at hx
        have hfx := Lib.hid (Hfin.out x hx)
        have hxs : x.size ≤ 10 := by
          rw [Lib.size_eq, hx]; decide
        have hnb : (n == 1) = true := by rw [beq_iff_eq]; omega
        have s1 : ¬ (9223372036854775807 < x.size + 1) := by omega
        have s2 : ¬ (9223372036854775807 < x.size + 1 + S.size) := by omega
        have HBE := Lib.hid be4
        clear hx hv hn hjk j1 j2 be4
        go_wp2_with fail
        refine (HW.out _ (env.below (HBE.out.alloc HBE.out.size _))).mono ?_
        rintro e w5 ⟨rfl, hb5⟩
        go_wp2_with fail
        go_ret2
        exact ⟨by rw [hfx.out]; rfl, (HBE.out.alloc HBE.out.size _).trans (hb5.mono (HBE.out.alloc HBE.out.size _).size)⟩
      · have hnb : (n == 1) = false := by rw [beq_eq_false_iff_ne]; omega
        have hls : (left (Lx.kw 1) && !(Lx.kw 1).sameKey (Lx.kw (j : Int))) = true := by
          rw [Hleft.out, Lx.kw_ne (by omega) (by omega) (fun e => hjk e.symm)]; rfl
        have HLS := Lib.hid hls
        clear hls hx hv hn hjk j1 j2 be4
        go_wp2_with fail
        go_roundw
        case rel => exact ⟨_, _, HR1.out.alloc _, HLS.out, HGR.out.alloc HGR.out.size _⟩
        case measure => rw [(HR1.out.alloc _).left_eq, HRG.out]; exact HLT.out
set_option maxRecDepth 100000 in
set_option maxHeartbeats 1600000 in
theorem print_2 (t : Int) (h0 : 0 ≤ t) (h1 : t ≤ 253402300799) (w : World) (env : Env w) :
    Calls Tryz.prog 18 #[.agg #[.int .i64 2, .int .i64 0, .int .i64 t, .int .i64 0, .bool false, .string ⟨#[]⟩]] w (PrintIs (Lx.word 2 ++ 32 :: (Lx.tmText t)) w) := by
  have HCk := Lib.hid (fun W => check_jump_ok t W h0 h1)
  have HW := Lib.hid (fun W (E : Env W) => write_jump 2 0 t 0 false ⟨#[]⟩ W E h0 h1)
  have hlen : (Lx.tmText t).length ≤ 100 := by show 19 ≤ 100; omega
  obtain ⟨S, hS⟩ : ∃ S : ByteArray, S = ⟨(Lx.tmText t).toArray⟩ := ⟨_, rfl⟩
  have hSs : S.size ≤ 100 := by rw [Lib.size_eq, hS]; exact hlen
  have hfin : ∀ x : ByteArray, x.data.toList = Lx.word 2 → x ++ ⟨#[32]⟩ ++ S = ⟨(Lx.word 2 ++ 32 :: (Lx.tmText t)).toArray⟩ := fun x hx => by
    apply ByteArray.ext; apply Array.toList_inj.1
    rw [ByteArray.data_append, Array.toList_append, ByteArray.data_append, Array.toList_append, hx, hS]
    show (Lx.word 2 ++ [32]) ++ _ = _
    rw [List.append_assoc]; rfl
  unfold WroteIs at HW
  rw [← hS] at HW
  have Hfin := Lib.hid hfin
  have z1 : (⟨#[32]⟩ : ByteArray).size = 1 := rfl
  clear hlen hS hfin
  go_enter Tryz.func18, Tryz.ntmps18
  go_wp2_with fail
  refine (HCk.out _).mono ?_
  rintro e w1 ⟨rfl, hb1⟩
  have c0 := Lx.boxCell hb1 0 _ rfl
  have c1 := Lx.boxCell hb1 1 _ rfl
  have c2 := Lx.boxCell hb1 2 _ rfl
  have c3 := Lx.boxCell hb1 3 _ rfl
  have c4 := Lx.boxCell hb1 4 _ rfl
  have c5 := Lx.boxCell hb1 5 _ rfl
  have hl1 := Lx.boxLt hb1
  have be1 := Lx.boxBelow hb1
  clear hb1
  go_wp2_with fail
  refine (forms_any _).mono ?_
  rintro e w2 ⟨b, b4, b5, b6, rfl, hown, k4, k5, k6, l4, l5, l6, hb2⟩
  have d0 := (hb2.cell (p := ⟨w.heap.size, 0, none⟩) hl1).trans c0
  have d1 := (hb2.cell (p := ⟨w.heap.size, 1, none⟩) hl1).trans c1
  have d2 := (hb2.cell (p := ⟨w.heap.size, 2, none⟩) hl1).trans c2
  have d3 := (hb2.cell (p := ⟨w.heap.size, 3, none⟩) hl1).trans c3
  have d4 := (hb2.cell (p := ⟨w.heap.size, 4, none⟩) hl1).trans c4
  have d5 := (hb2.cell (p := ⟨w.heap.size, 5, none⟩) hl1).trans c5
  have hl2 := Nat.lt_of_lt_of_le hl1 hb2.size
  have be2 := be1.trans (hb2.mono be1.size)
  clear c0 c1 c2 c3 c4 c5 hl1 be1 hb2 k4 k5 k6 l4 l5 l6
  have hbl := hown.lt
  have Hown := Lib.hid hown
  clear hown
  go_wp2_with (at_range; refine wpList_range_own _ rfl _ 61 rfl 9 66 lawS Tryz.underlying61 (Lx.fR 6 b4 b5 b6) b 6 Lx.fD rfl Hown.out ?_; intro w3 hrg0 hg0 hs0)
  go_frame
  have hd0 : Below w2.heap.size w2 w3 := (Below.refl _ w2).grown hg0 (Nat.le_refl _) (fun j hj => by cases hj)
  have HR0 := Lib.hid hrg0
  have HD0 := Lib.hid hd0
  clear hrg0 hg0 hs0 hd0
  go_loopw [5] (fun _ wr => ∃ left cnt, wr.ranges Tryz.prog 9 (Lx.fR 6 b4 b5 b6) b w2.heap.size 6 Lx.fD left cnt ∧ left (Lx.kw 2) = true ∧ Below w2.heap.size w2 wr) (fun _ wr => wr.rangeLeft b w2.heap.size)
  case atStart => exact ⟨_, _, HR0.out, Lx.fD_has (by omega) (by omega), HD0.out⟩
  case round =>
    obtain ⟨left, cnt, hrg, hleft, hbr⟩ := hrel
    have Hrg := Lib.hid hrg
    have Hleft := Lib.hid hleft
    have Hbr := Lib.hid hbr
    clear hrg hleft hbr
    go_wp2_with (at_next; refine wpList_next_ranges _ rfl _ rfl 9 lawS (Lx.fR 6 b4 b5 b6) Value.string Lx.fMk Lx.key_inv (Lx.fMk_inv (by omega)) b w2.heap.size 6 Lx.fD left cnt rfl Hrg.out ?_ ?_)
    · intro _ hno
      have := Hleft.out
      rw [hno] at this
      cases this
    · intro x n av cv kl y1 y2 w4 cnt1 hkey hlk hR hat hrg1 hlt hg1 hs1 hen
      obtain ⟨j, j1, j2, hv, hn, hx, rfl⟩ := Lx.entry_is hkey hR hat
      have hgr : Below w2.heap.size w2 w4 := Hbr.out.grown hg1 Hbr.out.size (fun j hj => by cases hj; exact Nat.le_refl _)
      have hg2 := hgr.size
      have HR1 := Lib.hid hrg1
      have HLT := Lib.hid hlt
      have HRG := Lib.hid (Hrg.out.left_eq)
      have HL := Lib.hid hlk
      have HGR := Lib.hid hgr
      unfold Lx.fMk at hen ⊢
      dsimp only at hen hn ⊢
      clear hkey hR hat hlk hrg1 hlt hg1 hs1 hgr
      have g0 := (HGR.out.cell (p := ⟨w.heap.size, 0, none⟩) hl2).trans d0
      have g1 := (HGR.out.cell (p := ⟨w.heap.size, 1, none⟩) hl2).trans d1
      have g2 := (HGR.out.cell (p := ⟨w.heap.size, 2, none⟩) hl2).trans d2
      have g3 := (HGR.out.cell (p := ⟨w.heap.size, 3, none⟩) hl2).trans d3
      have g4 := (HGR.out.cell (p := ⟨w.heap.size, 4, none⟩) hl2).trans d4
      have g5 := (HGR.out.cell (p := ⟨w.heap.size, 5, none⟩) hl2).trans d5
      have hl4 : w.heap.size < w4.heap.size := Nat.lt_of_lt_of_le hl2 hg2
      have be4 := be2.trans (HGR.out.mono be2.size)
      obtain ⟨F, G, ps, hF, hG⟩ := Lx.fV_shape j1 j2 hv
      by_cases hjk : (j : Int) = 2
      · have hav := Lx.fV_w2 (show Lx.fMk (n, av, cv) = Lx.fV b4 b5 b6 2 by rw [hv]; congr 1; omega)
        clear hF
        rw [hjk] at hx
        have hfx := Lib.hid (Hfin.out x hx)
        have hxs : x.size ≤ 10 := by
          rw [Lib.size_eq, hx]; decide
        have hnb : (n == 2) = true := by rw [beq_iff_eq]; omega
        have s1 : ¬ (9223372036854775807 < x.size + 1) := by omega
        have s2 : ¬ (9223372036854775807 < x.size + 1 + S.size) := by omega
        have HBE := Lib.hid be4
        clear hx hv hn hjk j1 j2 be4
        go_wp2_with fail
        refine (HW.out _ (env.below (HBE.out.alloc HBE.out.size _))).mono ?_
        rintro e w5 ⟨rfl, hb5⟩
        go_wp2_with fail
        go_ret2
        exact ⟨by rw [hfx.out]; rfl, (HBE.out.alloc HBE.out.size _).trans (hb5.mono (HBE.out.alloc HBE.out.size _).size)⟩
      · have hnb : (n == 2) = false := by rw [beq_eq_false_iff_ne]; omega
        have hls : (left (Lx.kw 2) && !(Lx.kw 2).sameKey (Lx.kw (j : Int))) = true := by
          rw [Hleft.out, Lx.kw_ne (by omega) (by omega) (fun e => hjk e.symm)]; rfl
        have HLS := Lib.hid hls
        clear hls hx hv hn hjk j1 j2 be4
        go_wp2_with fail
        go_roundw
        case rel => exact ⟨_, _, HR1.out.alloc _, HLS.out, HGR.out.alloc HGR.out.size _⟩
        case measure => rw [(HR1.out.alloc _).left_eq, HRG.out]; exact HLT.out
set_option maxRecDepth 100000 in
set_option maxHeartbeats 1600000 in
theorem print_3 (r : Int) (ok : Bool) (h0 : 1 ≤ r) (h1 : r ≤ 9223372036854775807) (w : World) (env : Env w) :
    Calls Tryz.prog 18 #[.agg #[.int .i64 3, .int .i64 0, .int .i64 0, .int .i64 r, .bool ok, .string ⟨#[]⟩]] w (PrintIs (Lx.word 3 ++ 32 :: (Lib.itoa r ++ Lx.endW ok)) w) := by
  have HCk := Lib.hid (fun W => check_finish_ok r ok W h0)
  have HW := Lib.hid (fun W (E : Env W) => write_finish 3 0 0 r ok ⟨#[]⟩ W E h0 h1)
  have hlen : (Lib.itoa r ++ Lx.endW ok).length ≤ 100 := by rw [List.length_append]; have := Lx.itoa_len r (by omega) h1; have : (Lx.endW ok).length ≤ 5 := (by cases ok <;> decide); omega
  obtain ⟨S, hS⟩ : ∃ S : ByteArray, S = ⟨(Lib.itoa r ++ Lx.endW ok).toArray⟩ := ⟨_, rfl⟩
  have hSs : S.size ≤ 100 := by rw [Lib.size_eq, hS]; exact hlen
  have hfin : ∀ x : ByteArray, x.data.toList = Lx.word 3 → x ++ ⟨#[32]⟩ ++ S = ⟨(Lx.word 3 ++ 32 :: (Lib.itoa r ++ Lx.endW ok)).toArray⟩ := fun x hx => by
    apply ByteArray.ext; apply Array.toList_inj.1
    rw [ByteArray.data_append, Array.toList_append, ByteArray.data_append, Array.toList_append, hx, hS]
    show (Lx.word 3 ++ [32]) ++ _ = _
    rw [List.append_assoc]; rfl
  unfold WroteIs at HW
  rw [← hS] at HW
  have Hfin := Lib.hid hfin
  have z1 : (⟨#[32]⟩ : ByteArray).size = 1 := rfl
  clear hlen hS hfin
  go_enter Tryz.func18, Tryz.ntmps18
  go_wp2_with fail
  refine (HCk.out _).mono ?_
  rintro e w1 ⟨rfl, hb1⟩
  have c0 := Lx.boxCell hb1 0 _ rfl
  have c1 := Lx.boxCell hb1 1 _ rfl
  have c2 := Lx.boxCell hb1 2 _ rfl
  have c3 := Lx.boxCell hb1 3 _ rfl
  have c4 := Lx.boxCell hb1 4 _ rfl
  have c5 := Lx.boxCell hb1 5 _ rfl
  have hl1 := Lx.boxLt hb1
  have be1 := Lx.boxBelow hb1
  clear hb1
  go_wp2_with fail
  refine (forms_any _).mono ?_
  rintro e w2 ⟨b, b4, b5, b6, rfl, hown, k4, k5, k6, l4, l5, l6, hb2⟩
  have d0 := (hb2.cell (p := ⟨w.heap.size, 0, none⟩) hl1).trans c0
  have d1 := (hb2.cell (p := ⟨w.heap.size, 1, none⟩) hl1).trans c1
  have d2 := (hb2.cell (p := ⟨w.heap.size, 2, none⟩) hl1).trans c2
  have d3 := (hb2.cell (p := ⟨w.heap.size, 3, none⟩) hl1).trans c3
  have d4 := (hb2.cell (p := ⟨w.heap.size, 4, none⟩) hl1).trans c4
  have d5 := (hb2.cell (p := ⟨w.heap.size, 5, none⟩) hl1).trans c5
  have hl2 := Nat.lt_of_lt_of_le hl1 hb2.size
  have be2 := be1.trans (hb2.mono be1.size)
  clear c0 c1 c2 c3 c4 c5 hl1 be1 hb2 k4 k5 k6 l4 l5 l6
  have hbl := hown.lt
  have Hown := Lib.hid hown
  clear hown
  go_wp2_with (at_range; refine wpList_range_own _ rfl _ 61 rfl 9 66 lawS Tryz.underlying61 (Lx.fR 6 b4 b5 b6) b 6 Lx.fD rfl Hown.out ?_; intro w3 hrg0 hg0 hs0)
  go_frame
  have hd0 : Below w2.heap.size w2 w3 := (Below.refl _ w2).grown hg0 (Nat.le_refl _) (fun j hj => by cases hj)
  have HR0 := Lib.hid hrg0
  have HD0 := Lib.hid hd0
  clear hrg0 hg0 hs0 hd0
  go_loopw [5] (fun _ wr => ∃ left cnt, wr.ranges Tryz.prog 9 (Lx.fR 6 b4 b5 b6) b w2.heap.size 6 Lx.fD left cnt ∧ left (Lx.kw 3) = true ∧ Below w2.heap.size w2 wr) (fun _ wr => wr.rangeLeft b w2.heap.size)
  case atStart => exact ⟨_, _, HR0.out, Lx.fD_has (by omega) (by omega), HD0.out⟩
  case round =>
    obtain ⟨left, cnt, hrg, hleft, hbr⟩ := hrel
    have Hrg := Lib.hid hrg
    have Hleft := Lib.hid hleft
    have Hbr := Lib.hid hbr
    clear hrg hleft hbr
    go_wp2_with (at_next; refine wpList_next_ranges _ rfl _ rfl 9 lawS (Lx.fR 6 b4 b5 b6) Value.string Lx.fMk Lx.key_inv (Lx.fMk_inv (by omega)) b w2.heap.size 6 Lx.fD left cnt rfl Hrg.out ?_ ?_)
    · intro _ hno
      have := Hleft.out
      rw [hno] at this
      cases this
    · intro x n av cv kl y1 y2 w4 cnt1 hkey hlk hR hat hrg1 hlt hg1 hs1 hen
      obtain ⟨j, j1, j2, hv, hn, hx, rfl⟩ := Lx.entry_is hkey hR hat
      have hgr : Below w2.heap.size w2 w4 := Hbr.out.grown hg1 Hbr.out.size (fun j hj => by cases hj; exact Nat.le_refl _)
      have hg2 := hgr.size
      have HR1 := Lib.hid hrg1
      have HLT := Lib.hid hlt
      have HRG := Lib.hid (Hrg.out.left_eq)
      have HL := Lib.hid hlk
      have HGR := Lib.hid hgr
      unfold Lx.fMk at hen ⊢
      dsimp only at hen hn ⊢
      clear hkey hR hat hlk hrg1 hlt hg1 hs1 hgr
      have g0 := (HGR.out.cell (p := ⟨w.heap.size, 0, none⟩) hl2).trans d0
      have g1 := (HGR.out.cell (p := ⟨w.heap.size, 1, none⟩) hl2).trans d1
      have g2 := (HGR.out.cell (p := ⟨w.heap.size, 2, none⟩) hl2).trans d2
      have g3 := (HGR.out.cell (p := ⟨w.heap.size, 3, none⟩) hl2).trans d3
      have g4 := (HGR.out.cell (p := ⟨w.heap.size, 4, none⟩) hl2).trans d4
      have g5 := (HGR.out.cell (p := ⟨w.heap.size, 5, none⟩) hl2).trans d5
      have hl4 : w.heap.size < w4.heap.size := Nat.lt_of_lt_of_le hl2 hg2
      have be4 := be2.trans (HGR.out.mono be2.size)
      obtain ⟨F, G, ps, hF, hG⟩ := Lx.fV_shape j1 j2 hv
      by_cases hjk : (j : Int) = 3
      · have hav := Lx.fV_w3 (show Lx.fMk (n, av, cv) = Lx.fV b4 b5 b6 3 by rw [hv]; congr 1; omega)
        clear hF
        rw [hjk] at hx
        have hfx := Lib.hid (Hfin.out x hx)
        have hxs : x.size ≤ 10 := by
          rw [Lib.size_eq, hx]; decide
        have hnb : (n == 3) = true := by rw [beq_iff_eq]; omega
        have s1 : ¬ (9223372036854775807 < x.size + 1) := by omega
        have s2 : ¬ (9223372036854775807 < x.size + 1 + S.size) := by omega
        have HBE := Lib.hid be4
        clear hx hv hn hjk j1 j2 be4
        go_wp2_with fail
        refine (HW.out _ (env.below (HBE.out.alloc HBE.out.size _))).mono ?_
        rintro e w5 ⟨rfl, hb5⟩
        go_wp2_with fail
        go_ret2
        exact ⟨by rw [hfx.out]; rfl, (HBE.out.alloc HBE.out.size _).trans (hb5.mono (HBE.out.alloc HBE.out.size _).size)⟩
      · have hnb : (n == 3) = false := by rw [beq_eq_false_iff_ne]; omega
        have hls : (left (Lx.kw 3) && !(Lx.kw 3).sameKey (Lx.kw (j : Int))) = true := by
          rw [Hleft.out, Lx.kw_ne (by omega) (by omega) (fun e => hjk e.symm)]; rfl
        have HLS := Lib.hid hls
        clear hls hx hv hn hjk j1 j2 be4
        go_wp2_with fail
        go_roundw
        case rel => exact ⟨_, _, HR1.out.alloc _, HLS.out, HGR.out.alloc HGR.out.size _⟩
        case measure => rw [(HR1.out.alloc _).left_eq, HRG.out]; exact HLT.out
set_option maxRecDepth 100000 in
set_option maxHeartbeats 1600000 in
theorem print_4 (job : ByteArray) (h0 : Lx.isName job = true) (w : World) (env : Env w) :
    Calls Tryz.prog 18 #[.agg #[.int .i64 4, .int .i64 0, .int .i64 0, .int .i64 0, .bool false, .string job]] w (PrintIs (Lx.word 4 ++ 32 :: (job.data.toList)) w) := by
  have HCk := Lib.hid (fun W => check_name4_true job W (by have := Lx.name_len h0; unfold maxLen; omega) h0)
  have HW := Lib.hid (fun W (E : Env W) => write_named 4 0 0 0 false job W)
  have hlen : (job.data.toList).length ≤ 100 := by rw [← Lib.size_eq]; have := Lx.name_len h0; omega
  obtain ⟨S, hS⟩ : ∃ S : ByteArray, S = ⟨(job.data.toList).toArray⟩ := ⟨_, rfl⟩
  have hSs : S.size ≤ 100 := by rw [Lib.size_eq, hS]; exact hlen
  have hfin : ∀ x : ByteArray, x.data.toList = Lx.word 4 → x ++ ⟨#[32]⟩ ++ S = ⟨(Lx.word 4 ++ 32 :: (job.data.toList)).toArray⟩ := fun x hx => by
    apply ByteArray.ext; apply Array.toList_inj.1
    rw [ByteArray.data_append, Array.toList_append, ByteArray.data_append, Array.toList_append, hx, hS]
    show (Lx.word 4 ++ [32]) ++ _ = _
    rw [List.append_assoc]; rfl
  unfold WroteIs at HW
  rw [← hS] at HW
  have Hfin := Lib.hid hfin
  have z1 : (⟨#[32]⟩ : ByteArray).size = 1 := rfl
  clear hlen hS hfin
  go_enter Tryz.func18, Tryz.ntmps18
  go_wp2_with fail
  refine (HCk.out _).mono ?_
  rintro e w1 ⟨rfl, hb1⟩
  have c0 := Lx.boxCell hb1 0 _ rfl
  have c1 := Lx.boxCell hb1 1 _ rfl
  have c2 := Lx.boxCell hb1 2 _ rfl
  have c3 := Lx.boxCell hb1 3 _ rfl
  have c4 := Lx.boxCell hb1 4 _ rfl
  have c5 := Lx.boxCell hb1 5 _ rfl
  have hl1 := Lx.boxLt hb1
  have be1 := Lx.boxBelow hb1
  clear hb1
  go_wp2_with fail
  refine (forms_any _).mono ?_
  rintro e w2 ⟨b, b4, b5, b6, rfl, hown, k4, k5, k6, l4, l5, l6, hb2⟩
  have d0 := (hb2.cell (p := ⟨w.heap.size, 0, none⟩) hl1).trans c0
  have d1 := (hb2.cell (p := ⟨w.heap.size, 1, none⟩) hl1).trans c1
  have d2 := (hb2.cell (p := ⟨w.heap.size, 2, none⟩) hl1).trans c2
  have d3 := (hb2.cell (p := ⟨w.heap.size, 3, none⟩) hl1).trans c3
  have d4 := (hb2.cell (p := ⟨w.heap.size, 4, none⟩) hl1).trans c4
  have d5 := (hb2.cell (p := ⟨w.heap.size, 5, none⟩) hl1).trans c5
  have hl2 := Nat.lt_of_lt_of_le hl1 hb2.size
  have be2 := be1.trans (hb2.mono be1.size)
  clear c0 c1 c2 c3 c4 c5 hl1 be1 hb2 k4 k5 k6 l4 l5 l6
  have hbl := hown.lt
  have Hown := Lib.hid hown
  clear hown
  go_wp2_with (at_range; refine wpList_range_own _ rfl _ 61 rfl 9 66 lawS Tryz.underlying61 (Lx.fR 6 b4 b5 b6) b 6 Lx.fD rfl Hown.out ?_; intro w3 hrg0 hg0 hs0)
  go_frame
  have hd0 : Below w2.heap.size w2 w3 := (Below.refl _ w2).grown hg0 (Nat.le_refl _) (fun j hj => by cases hj)
  have HR0 := Lib.hid hrg0
  have HD0 := Lib.hid hd0
  clear hrg0 hg0 hs0 hd0
  go_loopw [5] (fun _ wr => ∃ left cnt, wr.ranges Tryz.prog 9 (Lx.fR 6 b4 b5 b6) b w2.heap.size 6 Lx.fD left cnt ∧ left (Lx.kw 4) = true ∧ Below w2.heap.size w2 wr) (fun _ wr => wr.rangeLeft b w2.heap.size)
  case atStart => exact ⟨_, _, HR0.out, Lx.fD_has (by omega) (by omega), HD0.out⟩
  case round =>
    obtain ⟨left, cnt, hrg, hleft, hbr⟩ := hrel
    have Hrg := Lib.hid hrg
    have Hleft := Lib.hid hleft
    have Hbr := Lib.hid hbr
    clear hrg hleft hbr
    go_wp2_with (at_next; refine wpList_next_ranges _ rfl _ rfl 9 lawS (Lx.fR 6 b4 b5 b6) Value.string Lx.fMk Lx.key_inv (Lx.fMk_inv (by omega)) b w2.heap.size 6 Lx.fD left cnt rfl Hrg.out ?_ ?_)
    · intro _ hno
      have := Hleft.out
      rw [hno] at this
      cases this
    · intro x n av cv kl y1 y2 w4 cnt1 hkey hlk hR hat hrg1 hlt hg1 hs1 hen
      obtain ⟨j, j1, j2, hv, hn, hx, rfl⟩ := Lx.entry_is hkey hR hat
      have hgr : Below w2.heap.size w2 w4 := Hbr.out.grown hg1 Hbr.out.size (fun j hj => by cases hj; exact Nat.le_refl _)
      have hg2 := hgr.size
      have HR1 := Lib.hid hrg1
      have HLT := Lib.hid hlt
      have HRG := Lib.hid (Hrg.out.left_eq)
      have HL := Lib.hid hlk
      have HGR := Lib.hid hgr
      unfold Lx.fMk at hen ⊢
      dsimp only at hen hn ⊢
      clear hkey hR hat hlk hrg1 hlt hg1 hs1 hgr
      have g0 := (HGR.out.cell (p := ⟨w.heap.size, 0, none⟩) hl2).trans d0
      have g1 := (HGR.out.cell (p := ⟨w.heap.size, 1, none⟩) hl2).trans d1
      have g2 := (HGR.out.cell (p := ⟨w.heap.size, 2, none⟩) hl2).trans d2
      have g3 := (HGR.out.cell (p := ⟨w.heap.size, 3, none⟩) hl2).trans d3
      have g4 := (HGR.out.cell (p := ⟨w.heap.size, 4, none⟩) hl2).trans d4
      have g5 := (HGR.out.cell (p := ⟨w.heap.size, 5, none⟩) hl2).trans d5
      have hl4 : w.heap.size < w4.heap.size := Nat.lt_of_lt_of_le hl2 hg2
      have be4 := be2.trans (HGR.out.mono be2.size)
      obtain ⟨F, G, ps, hF, hG⟩ := Lx.fV_shape j1 j2 hv
      by_cases hjk : (j : Int) = 4
      · have hav := Lx.fV_w4 (show Lx.fMk (n, av, cv) = Lx.fV b4 b5 b6 4 by rw [hv]; congr 1; omega)
        clear hF
        rw [hjk] at hx
        have hfx := Lib.hid (Hfin.out x hx)
        have hxs : x.size ≤ 10 := by
          rw [Lib.size_eq, hx]; decide
        have hnb : (n == 4) = true := by rw [beq_iff_eq]; omega
        have s1 : ¬ (9223372036854775807 < x.size + 1) := by omega
        have s2 : ¬ (9223372036854775807 < x.size + 1 + S.size) := by omega
        have HBE := Lib.hid be4
        clear hx hv hn hjk j1 j2 be4
        go_wp2_with fail
        refine (HW.out _ (env.below (HBE.out.alloc HBE.out.size _))).mono ?_
        rintro e w5 ⟨rfl, hb5⟩
        go_wp2_with fail
        go_ret2
        exact ⟨by rw [hfx.out]; rfl, (HBE.out.alloc HBE.out.size _).trans (hb5.mono (HBE.out.alloc HBE.out.size _).size)⟩
      · have hnb : (n == 4) = false := by rw [beq_eq_false_iff_ne]; omega
        have hls : (left (Lx.kw 4) && !(Lx.kw 4).sameKey (Lx.kw (j : Int))) = true := by
          rw [Hleft.out, Lx.kw_ne (by omega) (by omega) (fun e => hjk e.symm)]; rfl
        have HLS := Lib.hid hls
        clear hls hx hv hn hjk j1 j2 be4
        go_wp2_with fail
        go_roundw
        case rel => exact ⟨_, _, HR1.out.alloc _, HLS.out, HGR.out.alloc HGR.out.size _⟩
        case measure => rw [(HR1.out.alloc _).left_eq, HRG.out]; exact HLT.out
set_option maxRecDepth 100000 in
set_option maxHeartbeats 1600000 in
theorem print_5 (job : ByteArray) (h0 : Lx.isName job = true) (w : World) (env : Env w) :
    Calls Tryz.prog 18 #[.agg #[.int .i64 5, .int .i64 0, .int .i64 0, .int .i64 0, .bool false, .string job]] w (PrintIs (Lx.word 5 ++ 32 :: (job.data.toList)) w) := by
  have HCk := Lib.hid (fun W => check_name5_true job W (by have := Lx.name_len h0; unfold maxLen; omega) h0)
  have HW := Lib.hid (fun W (E : Env W) => write_named 5 0 0 0 false job W)
  have hlen : (job.data.toList).length ≤ 100 := by rw [← Lib.size_eq]; have := Lx.name_len h0; omega
  obtain ⟨S, hS⟩ : ∃ S : ByteArray, S = ⟨(job.data.toList).toArray⟩ := ⟨_, rfl⟩
  have hSs : S.size ≤ 100 := by rw [Lib.size_eq, hS]; exact hlen
  have hfin : ∀ x : ByteArray, x.data.toList = Lx.word 5 → x ++ ⟨#[32]⟩ ++ S = ⟨(Lx.word 5 ++ 32 :: (job.data.toList)).toArray⟩ := fun x hx => by
    apply ByteArray.ext; apply Array.toList_inj.1
    rw [ByteArray.data_append, Array.toList_append, ByteArray.data_append, Array.toList_append, hx, hS]
    show (Lx.word 5 ++ [32]) ++ _ = _
    rw [List.append_assoc]; rfl
  unfold WroteIs at HW
  rw [← hS] at HW
  have Hfin := Lib.hid hfin
  have z1 : (⟨#[32]⟩ : ByteArray).size = 1 := rfl
  clear hlen hS hfin
  go_enter Tryz.func18, Tryz.ntmps18
  go_wp2_with fail
  refine (HCk.out _).mono ?_
  rintro e w1 ⟨rfl, hb1⟩
  have c0 := Lx.boxCell hb1 0 _ rfl
  have c1 := Lx.boxCell hb1 1 _ rfl
  have c2 := Lx.boxCell hb1 2 _ rfl
  have c3 := Lx.boxCell hb1 3 _ rfl
  have c4 := Lx.boxCell hb1 4 _ rfl
  have c5 := Lx.boxCell hb1 5 _ rfl
  have hl1 := Lx.boxLt hb1
  have be1 := Lx.boxBelow hb1
  clear hb1
  go_wp2_with fail
  refine (forms_any _).mono ?_
  rintro e w2 ⟨b, b4, b5, b6, rfl, hown, k4, k5, k6, l4, l5, l6, hb2⟩
  have d0 := (hb2.cell (p := ⟨w.heap.size, 0, none⟩) hl1).trans c0
  have d1 := (hb2.cell (p := ⟨w.heap.size, 1, none⟩) hl1).trans c1
  have d2 := (hb2.cell (p := ⟨w.heap.size, 2, none⟩) hl1).trans c2
  have d3 := (hb2.cell (p := ⟨w.heap.size, 3, none⟩) hl1).trans c3
  have d4 := (hb2.cell (p := ⟨w.heap.size, 4, none⟩) hl1).trans c4
  have d5 := (hb2.cell (p := ⟨w.heap.size, 5, none⟩) hl1).trans c5
  have hl2 := Nat.lt_of_lt_of_le hl1 hb2.size
  have be2 := be1.trans (hb2.mono be1.size)
  clear c0 c1 c2 c3 c4 c5 hl1 be1 hb2 k4 k5 k6 l4 l5 l6
  have hbl := hown.lt
  have Hown := Lib.hid hown
  clear hown
  go_wp2_with (at_range; refine wpList_range_own _ rfl _ 61 rfl 9 66 lawS Tryz.underlying61 (Lx.fR 6 b4 b5 b6) b 6 Lx.fD rfl Hown.out ?_; intro w3 hrg0 hg0 hs0)
  go_frame
  have hd0 : Below w2.heap.size w2 w3 := (Below.refl _ w2).grown hg0 (Nat.le_refl _) (fun j hj => by cases hj)
  have HR0 := Lib.hid hrg0
  have HD0 := Lib.hid hd0
  clear hrg0 hg0 hs0 hd0
  go_loopw [5] (fun _ wr => ∃ left cnt, wr.ranges Tryz.prog 9 (Lx.fR 6 b4 b5 b6) b w2.heap.size 6 Lx.fD left cnt ∧ left (Lx.kw 5) = true ∧ Below w2.heap.size w2 wr) (fun _ wr => wr.rangeLeft b w2.heap.size)
  case atStart => exact ⟨_, _, HR0.out, Lx.fD_has (by omega) (by omega), HD0.out⟩
  case round =>
    obtain ⟨left, cnt, hrg, hleft, hbr⟩ := hrel
    have Hrg := Lib.hid hrg
    have Hleft := Lib.hid hleft
    have Hbr := Lib.hid hbr
    clear hrg hleft hbr
    go_wp2_with (at_next; refine wpList_next_ranges _ rfl _ rfl 9 lawS (Lx.fR 6 b4 b5 b6) Value.string Lx.fMk Lx.key_inv (Lx.fMk_inv (by omega)) b w2.heap.size 6 Lx.fD left cnt rfl Hrg.out ?_ ?_)
    · intro _ hno
      have := Hleft.out
      rw [hno] at this
      cases this
    · intro x n av cv kl y1 y2 w4 cnt1 hkey hlk hR hat hrg1 hlt hg1 hs1 hen
      obtain ⟨j, j1, j2, hv, hn, hx, rfl⟩ := Lx.entry_is hkey hR hat
      have hgr : Below w2.heap.size w2 w4 := Hbr.out.grown hg1 Hbr.out.size (fun j hj => by cases hj; exact Nat.le_refl _)
      have hg2 := hgr.size
      have HR1 := Lib.hid hrg1
      have HLT := Lib.hid hlt
      have HRG := Lib.hid (Hrg.out.left_eq)
      have HL := Lib.hid hlk
      have HGR := Lib.hid hgr
      unfold Lx.fMk at hen ⊢
      dsimp only at hen hn ⊢
      clear hkey hR hat hlk hrg1 hlt hg1 hs1 hgr
      have g0 := (HGR.out.cell (p := ⟨w.heap.size, 0, none⟩) hl2).trans d0
      have g1 := (HGR.out.cell (p := ⟨w.heap.size, 1, none⟩) hl2).trans d1
      have g2 := (HGR.out.cell (p := ⟨w.heap.size, 2, none⟩) hl2).trans d2
      have g3 := (HGR.out.cell (p := ⟨w.heap.size, 3, none⟩) hl2).trans d3
      have g4 := (HGR.out.cell (p := ⟨w.heap.size, 4, none⟩) hl2).trans d4
      have g5 := (HGR.out.cell (p := ⟨w.heap.size, 5, none⟩) hl2).trans d5
      have hl4 : w.heap.size < w4.heap.size := Nat.lt_of_lt_of_le hl2 hg2
      have be4 := be2.trans (HGR.out.mono be2.size)
      obtain ⟨F, G, ps, hF, hG⟩ := Lx.fV_shape j1 j2 hv
      by_cases hjk : (j : Int) = 5
      · have hav := Lx.fV_w5 (show Lx.fMk (n, av, cv) = Lx.fV b4 b5 b6 5 by rw [hv]; congr 1; omega)
        clear hF
        rw [hjk] at hx
        have hfx := Lib.hid (Hfin.out x hx)
        have hxs : x.size ≤ 10 := by
          rw [Lib.size_eq, hx]; decide
        have hnb : (n == 5) = true := by rw [beq_iff_eq]; omega
        have s1 : ¬ (9223372036854775807 < x.size + 1) := by omega
        have s2 : ¬ (9223372036854775807 < x.size + 1 + S.size) := by omega
        have HBE := Lib.hid be4
        clear hx hv hn hjk j1 j2 be4
        go_wp2_with fail
        refine (HW.out _ (env.below (HBE.out.alloc HBE.out.size _))).mono ?_
        rintro e w5 ⟨rfl, hb5⟩
        go_wp2_with fail
        go_ret2
        exact ⟨by rw [hfx.out]; rfl, (HBE.out.alloc HBE.out.size _).trans (hb5.mono (HBE.out.alloc HBE.out.size _).size)⟩
      · have hnb : (n == 5) = false := by rw [beq_eq_false_iff_ne]; omega
        have hls : (left (Lx.kw 5) && !(Lx.kw 5).sameKey (Lx.kw (j : Int))) = true := by
          rw [Hleft.out, Lx.kw_ne (by omega) (by omega) (fun e => hjk e.symm)]; rfl
        have HLS := Lib.hid hls
        clear hls hx hv hn hjk j1 j2 be4
        go_wp2_with fail
        go_roundw
        case rel => exact ⟨_, _, HR1.out.alloc _, HLS.out, HGR.out.alloc HGR.out.size _⟩
        case measure => rw [(HR1.out.alloc _).left_eq, HRG.out]; exact HLT.out
set_option maxRecDepth 100000 in
set_option maxHeartbeats 1600000 in
theorem print_6 (job : ByteArray) (h0 : Lx.isName job = true) (w : World) (env : Env w) :
    Calls Tryz.prog 18 #[.agg #[.int .i64 6, .int .i64 0, .int .i64 0, .int .i64 0, .bool false, .string job]] w (PrintIs (Lx.word 6 ++ 32 :: (job.data.toList)) w) := by
  have HCk := Lib.hid (fun W => check_name6_true job W (by have := Lx.name_len h0; unfold maxLen; omega) h0)
  have HW := Lib.hid (fun W (E : Env W) => write_named 6 0 0 0 false job W)
  have hlen : (job.data.toList).length ≤ 100 := by rw [← Lib.size_eq]; have := Lx.name_len h0; omega
  obtain ⟨S, hS⟩ : ∃ S : ByteArray, S = ⟨(job.data.toList).toArray⟩ := ⟨_, rfl⟩
  have hSs : S.size ≤ 100 := by rw [Lib.size_eq, hS]; exact hlen
  have hfin : ∀ x : ByteArray, x.data.toList = Lx.word 6 → x ++ ⟨#[32]⟩ ++ S = ⟨(Lx.word 6 ++ 32 :: (job.data.toList)).toArray⟩ := fun x hx => by
    apply ByteArray.ext; apply Array.toList_inj.1
    rw [ByteArray.data_append, Array.toList_append, ByteArray.data_append, Array.toList_append, hx, hS]
    show (Lx.word 6 ++ [32]) ++ _ = _
    rw [List.append_assoc]; rfl
  unfold WroteIs at HW
  rw [← hS] at HW
  have Hfin := Lib.hid hfin
  have z1 : (⟨#[32]⟩ : ByteArray).size = 1 := rfl
  clear hlen hS hfin
  go_enter Tryz.func18, Tryz.ntmps18
  go_wp2_with fail
  refine (HCk.out _).mono ?_
  rintro e w1 ⟨rfl, hb1⟩
  have c0 := Lx.boxCell hb1 0 _ rfl
  have c1 := Lx.boxCell hb1 1 _ rfl
  have c2 := Lx.boxCell hb1 2 _ rfl
  have c3 := Lx.boxCell hb1 3 _ rfl
  have c4 := Lx.boxCell hb1 4 _ rfl
  have c5 := Lx.boxCell hb1 5 _ rfl
  have hl1 := Lx.boxLt hb1
  have be1 := Lx.boxBelow hb1
  clear hb1
  go_wp2_with fail
  refine (forms_any _).mono ?_
  rintro e w2 ⟨b, b4, b5, b6, rfl, hown, k4, k5, k6, l4, l5, l6, hb2⟩
  have d0 := (hb2.cell (p := ⟨w.heap.size, 0, none⟩) hl1).trans c0
  have d1 := (hb2.cell (p := ⟨w.heap.size, 1, none⟩) hl1).trans c1
  have d2 := (hb2.cell (p := ⟨w.heap.size, 2, none⟩) hl1).trans c2
  have d3 := (hb2.cell (p := ⟨w.heap.size, 3, none⟩) hl1).trans c3
  have d4 := (hb2.cell (p := ⟨w.heap.size, 4, none⟩) hl1).trans c4
  have d5 := (hb2.cell (p := ⟨w.heap.size, 5, none⟩) hl1).trans c5
  have hl2 := Nat.lt_of_lt_of_le hl1 hb2.size
  have be2 := be1.trans (hb2.mono be1.size)
  clear c0 c1 c2 c3 c4 c5 hl1 be1 hb2 k4 k5 k6 l4 l5 l6
  have hbl := hown.lt
  have Hown := Lib.hid hown
  clear hown
  go_wp2_with (at_range; refine wpList_range_own _ rfl _ 61 rfl 9 66 lawS Tryz.underlying61 (Lx.fR 6 b4 b5 b6) b 6 Lx.fD rfl Hown.out ?_; intro w3 hrg0 hg0 hs0)
  go_frame
  have hd0 : Below w2.heap.size w2 w3 := (Below.refl _ w2).grown hg0 (Nat.le_refl _) (fun j hj => by cases hj)
  have HR0 := Lib.hid hrg0
  have HD0 := Lib.hid hd0
  clear hrg0 hg0 hs0 hd0
  go_loopw [5] (fun _ wr => ∃ left cnt, wr.ranges Tryz.prog 9 (Lx.fR 6 b4 b5 b6) b w2.heap.size 6 Lx.fD left cnt ∧ left (Lx.kw 6) = true ∧ Below w2.heap.size w2 wr) (fun _ wr => wr.rangeLeft b w2.heap.size)
  case atStart => exact ⟨_, _, HR0.out, Lx.fD_has (by omega) (by omega), HD0.out⟩
  case round =>
    obtain ⟨left, cnt, hrg, hleft, hbr⟩ := hrel
    have Hrg := Lib.hid hrg
    have Hleft := Lib.hid hleft
    have Hbr := Lib.hid hbr
    clear hrg hleft hbr
    go_wp2_with (at_next; refine wpList_next_ranges _ rfl _ rfl 9 lawS (Lx.fR 6 b4 b5 b6) Value.string Lx.fMk Lx.key_inv (Lx.fMk_inv (by omega)) b w2.heap.size 6 Lx.fD left cnt rfl Hrg.out ?_ ?_)
    · intro _ hno
      have := Hleft.out
      rw [hno] at this
      cases this
    · intro x n av cv kl y1 y2 w4 cnt1 hkey hlk hR hat hrg1 hlt hg1 hs1 hen
      obtain ⟨j, j1, j2, hv, hn, hx, rfl⟩ := Lx.entry_is hkey hR hat
      have hgr : Below w2.heap.size w2 w4 := Hbr.out.grown hg1 Hbr.out.size (fun j hj => by cases hj; exact Nat.le_refl _)
      have hg2 := hgr.size
      have HR1 := Lib.hid hrg1
      have HLT := Lib.hid hlt
      have HRG := Lib.hid (Hrg.out.left_eq)
      have HL := Lib.hid hlk
      have HGR := Lib.hid hgr
      unfold Lx.fMk at hen ⊢
      dsimp only at hen hn ⊢
      clear hkey hR hat hlk hrg1 hlt hg1 hs1 hgr
      have g0 := (HGR.out.cell (p := ⟨w.heap.size, 0, none⟩) hl2).trans d0
      have g1 := (HGR.out.cell (p := ⟨w.heap.size, 1, none⟩) hl2).trans d1
      have g2 := (HGR.out.cell (p := ⟨w.heap.size, 2, none⟩) hl2).trans d2
      have g3 := (HGR.out.cell (p := ⟨w.heap.size, 3, none⟩) hl2).trans d3
      have g4 := (HGR.out.cell (p := ⟨w.heap.size, 4, none⟩) hl2).trans d4
      have g5 := (HGR.out.cell (p := ⟨w.heap.size, 5, none⟩) hl2).trans d5
      have hl4 : w.heap.size < w4.heap.size := Nat.lt_of_lt_of_le hl2 hg2
      have be4 := be2.trans (HGR.out.mono be2.size)
      obtain ⟨F, G, ps, hF, hG⟩ := Lx.fV_shape j1 j2 hv
      by_cases hjk : (j : Int) = 6
      · have hav := Lx.fV_w6 (show Lx.fMk (n, av, cv) = Lx.fV b4 b5 b6 6 by rw [hv]; congr 1; omega)
        clear hF
        rw [hjk] at hx
        have hfx := Lib.hid (Hfin.out x hx)
        have hxs : x.size ≤ 10 := by
          rw [Lib.size_eq, hx]; decide
        have hnb : (n == 6) = true := by rw [beq_iff_eq]; omega
        have s1 : ¬ (9223372036854775807 < x.size + 1) := by omega
        have s2 : ¬ (9223372036854775807 < x.size + 1 + S.size) := by omega
        have HBE := Lib.hid be4
        clear hx hv hn hjk j1 j2 be4
        go_wp2_with fail
        refine (HW.out _ (env.below (HBE.out.alloc HBE.out.size _))).mono ?_
        rintro e w5 ⟨rfl, hb5⟩
        go_wp2_with fail
        go_ret2
        exact ⟨by rw [hfx.out]; rfl, (HBE.out.alloc HBE.out.size _).trans (hb5.mono (HBE.out.alloc HBE.out.size _).size)⟩
      · have hnb : (n == 6) = false := by rw [beq_eq_false_iff_ne]; omega
        have hls : (left (Lx.kw 6) && !(Lx.kw 6).sameKey (Lx.kw (j : Int))) = true := by
          rw [Hleft.out, Lx.kw_ne (by omega) (by omega) (fun e => hjk e.symm)]; rfl
        have HLS := Lib.hid hls
        clear hls hx hv hn hjk j1 j2 be4
        go_wp2_with fail
        go_roundw
        case rel => exact ⟨_, _, HR1.out.alloc _, HLS.out, HGR.out.alloc HGR.out.size _⟩
        case measure => rw [(HR1.out.alloc _).left_eq, HRG.out]; exact HLT.out
theorem print_bad (o : Lx.OpV) (w : World) (hj : o.job.size ≤ maxLen) (h : Lx.opErr o ≠ 0) :
    Calls Tryz.prog 18 #[o.val] w fun e w' => e = .returned (.tuple #[.string ⟨#[]⟩, .int .i64 (Lx.opErr o)]) ∧ Below w.heap.size w w' := by
  have HC := Lib.hid (fun W => check_any o W hj)
  have he : (Lx.opErr o != 0) = true := by rw [bne_iff_ne]; exact h
  unfold CheckIs at HC
  unfold Lx.OpV.val at HC ⊢
  generalize Lx.opErr o = x at *
  clear h
  go_enter Tryz.func18, Tryz.ntmps18
  go_wp2_with fail
  refine (HC.out _).mono ?_
  rintro e w' ⟨rfl, hb⟩
  go_wp2_with fail
  go_ret2
  exact ⟨rfl, Lx.boxBelow hb⟩
theorem print_good (o : Lx.OpV) (w : World) (env : Env w) (hi : o.In) (h : Lx.opErr o = 0) :
    Calls Tryz.prog 18 #[o.val] w (PrintIs (Lx.opText o) w) := by
  rcases Lx.opErr_zero h with ⟨k, a, b, ho⟩ | ⟨k, a, b, ho⟩ | ⟨k, a, ho⟩ | ⟨k, a, ho⟩
  · rw [ho]; exact print_1 o.d a b w env
  · rw [ho]; exact print_2 o.t a b w env
  · rw [ho]; exact print_3 o.r o.ok a hi.2.2.2.2 w env
  · rcases k with k | k | k <;> rw [k] at ho <;> rw [ho]
    · exact print_4 o.job a w env
    · exact print_5 o.job a w env
    · exact print_6 o.job a w env
end Go.Proofs.YtnnkamfpcodnnaaGreatDoor
