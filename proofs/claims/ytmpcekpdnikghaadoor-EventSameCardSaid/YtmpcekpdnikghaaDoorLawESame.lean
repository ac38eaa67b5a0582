/- EventSame: for every two lists of events the law returns true; what the call was given reads as before. Conditions: the eight listed variables lie as the program lays them. -/
import Derived.Test.YtmpcekpdnikghaaDoorEvFrame
import Derived.Test.YtmpcekpdnikghaaDoorEvFr
import Derived.Test.YtmpcekpdnikghaaDoorEvO
import Derived.Test.YtmpcekpdnikghaaDoorEvSm
import Derived.Test.YtmpcekpdnikghaaDoorEvAp
import Derived.SevenTiedAt
namespace Go.Proofs.YtmpcekpdnikghaaDoor.lawEventSame
open Go.ChangeShapes Go.WideShapes Go.ChangeAt Go.RowKit
theorem keepB {w wx w' : World} {P : Prop} (h : Below w.heap.size w wx ∧ P) (c : Below wx.heap.size wx w') : Below w.heap.size w w' := h.1.trans (c.mono h.1.size)
theorem dif_more (L : List Lx.EvV) (o : Lx.EvV) : Lx.DifIs L (L ++ [o]) (L.length : Nat) true := by
  refine .inl ⟨rfl, L.length, rfl, Nat.le_refl _, by simp, by simp, ?_⟩
  rw [List.getElem?_eq_none (Nat.le_refl _), List.getElem?_append_right (Nat.le_refl _)]
  simp
set_option maxRecDepth 100000 in
set_option maxHeartbeats 3200000 in
theorem walk (w : World) (ad : Option Addr) (len cap : Nat) (L : List Lx.EvV) (z : EvsIn w ad len L) (_n : ad = none → cap = 0) (ad' : Option Addr) (len' cap' : Nat) (M : List Lx.EvV) (z' : EvsIn w ad' len' M) (_n' : ad' = none → cap' = 0) (env : EEnv w) :
    Calls Tryd.prog 7 #[.slice ad len cap, .slice ad' len' cap'] w fun e w' => e = .returned (.bool true) ∧ Below w.heap.size w w' := by
  obtain ⟨hl, -, -⟩ := z
  obtain ⟨hl', -, -⟩ := z'
  obtain ⟨i0, hi, hz0, hz1, hz2⟩ := info_parts infoEv
  have HW := Lib.hid (fun W (b : Below w.heap.size w W) => evworks_any W (env.below b))
  by_cases hbig : 100 < len
  · have hbi : (100 : Int) < (len : Int) := by omega
    clear hl hl'
    go_enter Tryd.func7, Tryd.ntmps7
    go_wp2_with fail
    refine (HW.out _ (Below.refl _ _)).mono ?_
    rintro e w1 ⟨rfl, c1⟩
    go_wp2_with fail
    go_ret
    exact ⟨rfl, c1⟩
  have hbi : (len : Int) ≤ 100 := by omega
  have hbd : decide ((100 : Int) < (len : Int)) = false := decide_eq_false (by omega)
  by_cases hbig' : 100 < len'
  · have hbj : (100 : Int) < (len' : Int) := by omega
    clear hl hl'
    go_enter Tryd.func7, Tryd.ntmps7
    go_wp2_with fail
    refine (HW.out _ (Below.refl _ _)).mono ?_
    rintro e w1 ⟨rfl, c1⟩
    go_wp2_with fail
    go_ret
    exact ⟨rfl, c1⟩
  have hbj : (len' : Int) ≤ 100 := by omega
  have hbe : decide ((100 : Int) < (len' : Int)) = false := decide_eq_false (by omega)
  have HS1 := Lib.hid (fun W (b : Below w.heap.size w W) => evsame_any ad len cap L ad' len' cap' M W (hl.below b) (hl'.below b) (by omega) (by omega))
  have HS2 := Lib.hid (fun W (b : Below w.heap.size w W) => evsame_any ad' len' cap' M ad len cap L W (hl'.below b) (hl.below b) (by omega) (by omega))
  have HS3 := Lib.hid (fun W (b : Below w.heap.size w W) => evsame_any ad len cap L ad len cap L W (hl.below b) (hl.below b) (by omega) (by omega))
  have HS4 := Lib.hid (fun W (b : Below w.heap.size w W) A c (h : Lx.IsEvs W A (len + 1) (L ++ [Lx.evZ])) => evsame_any ad len cap L A (len + 1) c (L ++ [Lx.evZ]) W (hl.below b) h (by omega) (by omega))
  unfold SameIsE at HS1 HS2 HS3 HS4
  have HL := Lib.hid hl
  have HL' := Lib.hid hl'
  have HLN := Lib.hid hl.1
  have HLN' := Lib.hid hl'.1
  have HONE := Lib.hid (Lx.evCells_one L)
  clear hbig hbig' hl hl'
  go_enter Tryd.func7, Tryd.ntmps7
  go_wp2_with fail
  refine (HS1.out _ (Below.refl _ _)).mono ?_
  rintro e w1 ⟨i, b, rfl, hd, c1⟩
  have HD := Lib.hid hd
  have B1 := Lib.hid c1
  clear hd c1
  go_wp2_with fail
  refine (HS2.out _ B1.out).mono ?_
  rintro e w2 ⟨i', b', rfl, hd', c2⟩
  obtain ⟨hii, hbb⟩ := Lx.difIs_one HD.out (Lx.difIs_symm hd')
  subst hii hbb
  have B2 := Lib.hid (B1.out.trans (c2.mono B1.out.size))
  clear hd' c2
  go_wp2_with fail
  refine (HS3.out _ B2.out).mono ?_
  rintro e w3 ⟨i'', b'', rfl, hd'', c3⟩
  obtain ⟨hii, hbb⟩ := Lx.difIs_one (Lx.difIs_self L) hd''
  subst hii hbb
  have B3 := Lib.hid (B2.out.trans (c3.mono B2.out.size))
  clear hd'' c3 B1 B2
  have R0 := Lib.hid ((World.ownsRow_made (e := 23) (size := 8) (base := w3.heap.size) w3 #[] 0 (Nat.le_refl _) (by unfold maxLen; omega) rfl))
  have z3 := (Below.refl w3.heap.size w3).alloc (Nat.le_refl _) (.cells #[] 23)
  have Z3 := Lib.hid z3
  have HL3 := Lib.hid ((HL.out.below B3.out).below z3)
  clear z3
  go_wp2_with (at_builtin; refine wpList_append_isEvs rfl _ _ 36 rfl w3.heap.size 23 i0 _ 64 Tryd.underlying36 hi hz0 hz1 hz2 rfl _ rfl R0.out ad len cap L rfl HL3.out HONE.out (by unfold maxLen; omega) (by omega) Z3.out.size ?_)
  intro v4 w4 own4 grow4
  have c4 := Z3.out.grown grow4 Z3.out.size (Lx.ownBase R0.out)
  have B4 := Lib.hid (B3.out.trans (c4.mono B3.out.size))
  have OWN4 := Lib.hid own4
  have C4 := Lib.hid c4
  have HCS := Lib.hid (Lx.cell_eight_new w4 Lx.evZ 23)
  unfold Lx.evZ at HCS
  dsimp only at HCS
  clear own4 grow4 c4 R0 Z3 HL3
  go_wp2_with (at_builtin; refine wpList_append_own _ rfl _ _ 36 rfl w3.heap.size 23 i0 _ 8 64 Tryd.underlying36 hi hz0 hz1 hz2 rfl (by decide) _ _ _ rfl (OWN4.out.alloc _) ⟨w4.heap.size, 0, none⟩ 1 1 [.int .i64 0, .int .i64 0, .int .i64 0, .int .i64 0, .int .i64 0, .int .i64 0, .int .i64 0, .int .i64 0] rfl rfl HCS.out (by simp [Value.oneCell']) (by unfold maxLen; omega) (by omega) (Nat.le_trans C4.out.size (by simp)) ?_)
  intro v5 w5 own5 grow5 _
  replace own5 : w5.ownsRow w3.heap.size 23 8 v5 (len + 1) (Lx.evCells (L ++ [Lx.evZ])) := by rw [Lx.evCells_app]; exact own5
  have c5 := (C4.out.alloc C4.out.size (.cells #[.int .i64 0, .int .i64 0, .int .i64 0, .int .i64 0, .int .i64 0, .int .i64 0, .int .i64 0, .int .i64 0] 23)).grown grow5 (Nat.le_trans C4.out.size (by simp)) (Lx.ownBase OWN4.out)
  have B5 := Lib.hid (B3.out.trans (c5.mono B3.out.size))
  obtain ⟨A5, cp5, rfl, j5⟩ := Lx.row_isEvs' own5
  have I5 := Lib.hid (j5 (by rw [List.length_append, HLN.out]; rfl))
  clear own5 grow5 c5 j5 OWN4 C4 HCS B4
  go_wp2_with fail
  refine (HS4.out _ B5.out _ _ I5.out).mono ?_
  rintro e w6 ⟨i6, b6, rfl, hd6, c6⟩
  obtain ⟨hii, hbb⟩ := Lx.difIs_one (dif_more L Lx.evZ) hd6
  rw [HLN.out] at hii
  subst hii hbb
  have B6 := Lib.hid (B5.out.trans (c6.mono B5.out.size))
  clear hd6 c6 B3 B5 I5 HS1 HS2 HS3 HS4 HONE
  rcases HD.out with ⟨rfl, k, rfl, hk1, hk2, htk, hne⟩ | ⟨rfl, rfl, hLM⟩
  · rw [HLN.out] at hk1
    rw [HLN'.out] at hk2
    have HTK := Lib.hid htk
    have HNE := Lib.hid hne
    have C6 := Lib.hid B6.out
    have hk1i : (k : Int) ≤ (len : Int) := by omega
    have hk2i : (k : Int) ≤ (len' : Int) := by omega
    have hk1d : decide ((len : Int) < (k : Int)) = false := decide_eq_false (by omega)
    have hk2d : decide ((len' : Int) < (k : Int)) = false := decide_eq_false (by omega)
    clear htk hne HD B6
    go_wp2_with fail
    go_loopw [13] (fun i wr => ∃ n : Nat, n ≤ k ∧ i = .int .i64 n ∧ Below w.heap.size w wr) (fun i _ => k - (intOf i).toNat)
    case atStart => exact ⟨0, Nat.zero_le _, rfl, C6.out⟩
    case round =>
      obtain ⟨n, hn, rfl, hb⟩ := hrel
      have Hb := Lib.hid hb
      clear hb
      by_cases hnk : n < k
      · have hki : (n : Int) < (k : Int) := by omega
        have hn0 : decide ((n : Int) < (k : Int)) = true := decide_eq_true (by omega)
        have hn1 : (n : Int) < (len : Int) := by omega
        have hn2 : (n : Int) < (len' : Int) := by omega
        obtain ⟨a, ha⟩ : ∃ a, L[n]? = some a := ⟨_, List.getElem?_eq_getElem (by rw [HLN.out]; omega)⟩
        have hbb : M[n]? = some a := by rw [← Lx.take_get HTK.out hnk]; exact ha
        obtain ⟨g, off, rfl, lt, hc⟩ := (HL.out.below Hb.out).2 (by omega)
        obtain ⟨g', off', rfl, lt', hc'⟩ := (HL'.out.below Hb.out).2 (by omega)
        have heq := fun W => (eqEv a a W).trans (by rw [Lx.evEq_self])
        obtain ⟨ak, at', aj, ad1, aa, ar, ay, an⟩ := a
        have p0 : wr.cell? ⟨g, off + n * 8, none⟩ = some (.int .i64 ak) := hc n _ ha 0 _ rfl
        have p1 : wr.cell? ⟨g, off + n * 8 + 1, none⟩ = some (.int .i64 at') := hc n _ ha 1 _ rfl
        have p2 : wr.cell? ⟨g, off + n * 8 + 2, none⟩ = some (.int .i64 aj) := hc n _ ha 2 _ rfl
        have p3 : wr.cell? ⟨g, off + n * 8 + 3, none⟩ = some (.int .i64 ad1) := hc n _ ha 3 _ rfl
        have p4 : wr.cell? ⟨g, off + n * 8 + 4, none⟩ = some (.int .i64 aa) := hc n _ ha 4 _ rfl
        have p5 : wr.cell? ⟨g, off + n * 8 + 5, none⟩ = some (.int .i64 ar) := hc n _ ha 5 _ rfl
        have p6 : wr.cell? ⟨g, off + n * 8 + 6, none⟩ = some (.int .i64 ay) := hc n _ ha 6 _ rfl
        have p7 : wr.cell? ⟨g, off + n * 8 + 7, none⟩ = some (.int .i64 an) := hc n _ ha 7 _ rfl
        have q0 : wr.cell? ⟨g', off' + n * 8, none⟩ = some (.int .i64 ak) := hc' n _ hbb 0 _ rfl
        have q1 : wr.cell? ⟨g', off' + n * 8 + 1, none⟩ = some (.int .i64 at') := hc' n _ hbb 1 _ rfl
        have q2 : wr.cell? ⟨g', off' + n * 8 + 2, none⟩ = some (.int .i64 aj) := hc' n _ hbb 2 _ rfl
        have q3 : wr.cell? ⟨g', off' + n * 8 + 3, none⟩ = some (.int .i64 ad1) := hc' n _ hbb 3 _ rfl
        have q4 : wr.cell? ⟨g', off' + n * 8 + 4, none⟩ = some (.int .i64 aa) := hc' n _ hbb 4 _ rfl
        have q5 : wr.cell? ⟨g', off' + n * 8 + 5, none⟩ = some (.int .i64 ar) := hc' n _ hbb 5 _ rfl
        have q6 : wr.cell? ⟨g', off' + n * 8 + 6, none⟩ = some (.int .i64 ay) := hc' n _ hbb 6 _ rfl
        have q7 : wr.cell? ⟨g', off' + n * 8 + 7, none⟩ = some (.int .i64 an) := hc' n _ hbb 7 _ rfl
        unfold Lx.EvV.val at heq
        dsimp only at heq
        clear hc hc' ha hbb
        go_wp2_with fail
        go_quiet (fail)
        go_wp2_with fail
        go_roundw
        case rel => exact ⟨n + 1, by omega, by go_num, Hb.out.trans (below_drewN _ _ _)⟩
        case measure => simp [intOf]; omega
      · obtain rfl : n = k := by omega
        have hki : ¬ (n : Int) < (n : Int) := by omega
        by_cases h1 : n < len
        · by_cases h2 : n < len'
          · have e1 : decide ((n : Int) = (len : Int)) = false := decide_eq_false (by omega)
            have e2 : decide ((n : Int) = (len' : Int)) = false := decide_eq_false (by omega)
            have e3 : (n : Int) < (len : Int) := by omega
            have e4 : (n : Int) < (len' : Int) := by omega
            obtain ⟨a, ha⟩ : ∃ a, L[n]? = some a := ⟨_, List.getElem?_eq_getElem (by rw [HLN.out]; omega)⟩
            obtain ⟨b, hbb⟩ : ∃ b, M[n]? = some b := ⟨_, List.getElem?_eq_getElem (by rw [HLN'.out]; omega)⟩
            have hab : a ≠ b := fun e => HNE.out (by rw [ha, hbb, e])
            have heq := fun W => (eqEv a b W).trans (by rw [Lx.evEq_no hab])
            obtain ⟨g, off, rfl, lt, hc⟩ := HL.out.2 (by omega)
            obtain ⟨g', off', rfl, lt', hc'⟩ := HL'.out.2 (by omega)
            obtain ⟨ak, at', aj, ad1, aa, ar, ay, an⟩ := a
            obtain ⟨bk, bt, bj, bd1, ba, br, by1, bn⟩ := b
            have hSS : ∀ wx, Below w.heap.size w wx → Below w.heap.size w wx ∧ wx.cell? ⟨g, off + n * 8, none⟩ = some (.int .i64 ak) ∧ wx.cell? ⟨g, off + n * 8 + 1, none⟩ = some (.int .i64 at') ∧ wx.cell? ⟨g, off + n * 8 + 2, none⟩ = some (.int .i64 aj) ∧ wx.cell? ⟨g, off + n * 8 + 3, none⟩ = some (.int .i64 ad1) ∧ wx.cell? ⟨g, off + n * 8 + 4, none⟩ = some (.int .i64 aa) ∧ wx.cell? ⟨g, off + n * 8 + 5, none⟩ = some (.int .i64 ar) ∧ wx.cell? ⟨g, off + n * 8 + 6, none⟩ = some (.int .i64 ay) ∧ wx.cell? ⟨g, off + n * 8 + 7, none⟩ = some (.int .i64 an) ∧ wx.cell? ⟨g', off' + n * 8, none⟩ = some (.int .i64 bk) ∧ wx.cell? ⟨g', off' + n * 8 + 1, none⟩ = some (.int .i64 bt) ∧ wx.cell? ⟨g', off' + n * 8 + 2, none⟩ = some (.int .i64 bj) ∧ wx.cell? ⟨g', off' + n * 8 + 3, none⟩ = some (.int .i64 bd1) ∧ wx.cell? ⟨g', off' + n * 8 + 4, none⟩ = some (.int .i64 ba) ∧ wx.cell? ⟨g', off' + n * 8 + 5, none⟩ = some (.int .i64 br) ∧ wx.cell? ⟨g', off' + n * 8 + 6, none⟩ = some (.int .i64 by1) ∧ wx.cell? ⟨g', off' + n * 8 + 7, none⟩ = some (.int .i64 bn) := fun wx b => ⟨b, (b.cell (p := ⟨g, off + n * 8, none⟩) lt).trans (hc n _ ha 0 _ rfl), (b.cell (p := ⟨g, off + n * 8 + 1, none⟩) lt).trans (hc n _ ha 1 _ rfl), (b.cell (p := ⟨g, off + n * 8 + 2, none⟩) lt).trans (hc n _ ha 2 _ rfl), (b.cell (p := ⟨g, off + n * 8 + 3, none⟩) lt).trans (hc n _ ha 3 _ rfl), (b.cell (p := ⟨g, off + n * 8 + 4, none⟩) lt).trans (hc n _ ha 4 _ rfl), (b.cell (p := ⟨g, off + n * 8 + 5, none⟩) lt).trans (hc n _ ha 5 _ rfl), (b.cell (p := ⟨g, off + n * 8 + 6, none⟩) lt).trans (hc n _ ha 6 _ rfl), (b.cell (p := ⟨g, off + n * 8 + 7, none⟩) lt).trans (hc n _ ha 7 _ rfl), (b.cell (p := ⟨g', off' + n * 8, none⟩) lt').trans (hc' n _ hbb 0 _ rfl), (b.cell (p := ⟨g', off' + n * 8 + 1, none⟩) lt').trans (hc' n _ hbb 1 _ rfl), (b.cell (p := ⟨g', off' + n * 8 + 2, none⟩) lt').trans (hc' n _ hbb 2 _ rfl), (b.cell (p := ⟨g', off' + n * 8 + 3, none⟩) lt').trans (hc' n _ hbb 3 _ rfl), (b.cell (p := ⟨g', off' + n * 8 + 4, none⟩) lt').trans (hc' n _ hbb 4 _ rfl), (b.cell (p := ⟨g', off' + n * 8 + 5, none⟩) lt').trans (hc' n _ hbb 5 _ rfl), (b.cell (p := ⟨g', off' + n * 8 + 6, none⟩) lt').trans (hc' n _ hbb 6 _ rfl), (b.cell (p := ⟨g', off' + n * 8 + 7, none⟩) lt').trans (hc' n _ hbb 7 _ rfl)⟩
            unfold Lx.EvV.val at heq
            dsimp only at heq
            clear hc hc' ha hbb hab
            have HSS := Lib.hid hSS
            clear hSS
            go_wp2_with fail
            have hS0 := HSS.out _ (Hb.out.drew)
            refine wp_region_held_drew (S := (fun wx => Below w.heap.size w wx ∧ wx.cell? ⟨g, off + n * 8, none⟩ = some (.int .i64 ak) ∧ wx.cell? ⟨g, off + n * 8 + 1, none⟩ = some (.int .i64 at') ∧ wx.cell? ⟨g, off + n * 8 + 2, none⟩ = some (.int .i64 aj) ∧ wx.cell? ⟨g, off + n * 8 + 3, none⟩ = some (.int .i64 ad1) ∧ wx.cell? ⟨g, off + n * 8 + 4, none⟩ = some (.int .i64 aa) ∧ wx.cell? ⟨g, off + n * 8 + 5, none⟩ = some (.int .i64 ar) ∧ wx.cell? ⟨g, off + n * 8 + 6, none⟩ = some (.int .i64 ay) ∧ wx.cell? ⟨g, off + n * 8 + 7, none⟩ = some (.int .i64 an) ∧ wx.cell? ⟨g', off' + n * 8, none⟩ = some (.int .i64 bk) ∧ wx.cell? ⟨g', off' + n * 8 + 1, none⟩ = some (.int .i64 bt) ∧ wx.cell? ⟨g', off' + n * 8 + 2, none⟩ = some (.int .i64 bj) ∧ wx.cell? ⟨g', off' + n * 8 + 3, none⟩ = some (.int .i64 bd1) ∧ wx.cell? ⟨g', off' + n * 8 + 4, none⟩ = some (.int .i64 ba) ∧ wx.cell? ⟨g', off' + n * 8 + 5, none⟩ = some (.int .i64 br) ∧ wx.cell? ⟨g', off' + n * 8 + 6, none⟩ = some (.int .i64 by1) ∧ wx.cell? ⟨g', off' + n * 8 + 7, none⟩ = some (.int .i64 bn))) (by kernel_rfl) ?_ (fun hHeld => ?_)
            · exact hS0
            refine' wpAnyH_take (i := 0) (oi := _) (v := _) ?hi0r1 (by kernel_rfl) (by kernel_rfl) (by kernel_rfl) ?hq0r1 ?hy0r1 (by assumption) ?re0r1
            case hi0r1 => simp only [List.getElem?_toArray, List.getElem?_cons_zero]; rfl
            case hq0r1 => exact fun _ _ _ h => h
            case hy0r1 =>
              refine Or.inl ⟨by rfl, ?_⟩
              intro w hSw; (try dsimp only at hSw); go_simp; try with_reducible rfl
            try simp only [Act.put, List.setIfInBounds_toArray, List.set_cons_zero, List.set_cons_succ]
            refine' wpAnyH_take (i := 1) (oi := _) (v := _) ?hi1r1 (by kernel_rfl) (by kernel_rfl) (by kernel_rfl) ?hq1r1 ?hy1r1 (by assumption) ?re1r1
            case hi1r1 => simp only [List.getElem?_toArray, List.getElem?_cons_succ, List.getElem?_cons_zero]; rfl
            case hq1r1 => exact fun _ _ _ h => h
            case hy1r1 =>
              refine Or.inl ⟨by rfl, ?_⟩
              intro w hSw; (try dsimp only at hSw); go_simp; try with_reducible rfl
            try simp only [Act.put, List.setIfInBounds_toArray, List.set_cons_zero, List.set_cons_succ]
            refine' wpAnyH_take (i := 2) (oi := _) (v := _) ?hi2r1 (by kernel_rfl) (by kernel_rfl) (by kernel_rfl) ?hq2r1 ?hy2r1 (by assumption) ?re2r1
            case hi2r1 => simp only [List.getElem?_toArray, List.getElem?_cons_succ, List.getElem?_cons_zero]; rfl
            case hq2r1 => exact fun _ _ _ h => h
            case hy2r1 =>
              refine Or.inl ⟨by rfl, ?_⟩
              intro w hSw; (try dsimp only at hSw); go_simp; try with_reducible rfl
            try simp only [Act.put, List.setIfInBounds_toArray, List.set_cons_zero, List.set_cons_succ]
            refine' wpAnyH_take (i := 3) (oi := _) (v := _) ?hi3r1 (by kernel_rfl) (by kernel_rfl) (by kernel_rfl) ?hq3r1 ?hy3r1 (by assumption) ?re3r1
            case hi3r1 => simp only [List.getElem?_toArray, List.getElem?_cons_succ, List.getElem?_cons_zero]; rfl
            case hq3r1 => exact fun _ _ _ h => h
            case hy3r1 =>
              refine Or.inl ⟨by rfl, ?_⟩
              intro w hSw; (try dsimp only at hSw); go_simp; try with_reducible rfl
            try simp only [Act.put, List.setIfInBounds_toArray, List.set_cons_zero, List.set_cons_succ]
            refine' wpAnyH_take (i := 4) (oi := _) (v := _) ?hi4r1 (by kernel_rfl) (by kernel_rfl) (by kernel_rfl) ?hq4r1 ?hy4r1 (by assumption) ?re4r1
            case hi4r1 => simp only [List.getElem?_toArray, List.getElem?_cons_succ, List.getElem?_cons_zero]; rfl
            case hq4r1 => exact fun _ _ _ h => h
            case hy4r1 =>
              refine Or.inl ⟨by rfl, ?_⟩
              intro w hSw; (try dsimp only at hSw); go_simp; try with_reducible rfl
            try simp only [Act.put, List.setIfInBounds_toArray, List.set_cons_zero, List.set_cons_succ]
            refine' wpAnyH_take (i := 5) (oi := _) (v := _) ?hi5r1 (by kernel_rfl) (by kernel_rfl) (by kernel_rfl) ?hq5r1 ?hy5r1 (by assumption) ?re5r1
            case hi5r1 => simp only [List.getElem?_toArray, List.getElem?_cons_succ, List.getElem?_cons_zero]; rfl
            case hq5r1 => exact fun _ _ _ h => h
            case hy5r1 =>
              refine Or.inl ⟨by rfl, ?_⟩
              intro w hSw; (try dsimp only at hSw); go_simp; try with_reducible rfl
            try simp only [Act.put, List.setIfInBounds_toArray, List.set_cons_zero, List.set_cons_succ]
            refine' wpAnyH_take (i := 6) (oi := _) (v := .bool false) ?hi6r1 (by kernel_rfl) (by kernel_rfl) (by kernel_rfl) ?hq6r1 ?hy6r1 (by assumption) ?re6r1
            case hi6r1 => simp only [List.getElem?_toArray, List.getElem?_cons_succ, List.getElem?_cons_zero]; rfl
            case hq6r1 => exact fun _ _ _ h => h
            case hy6r1 =>
              refine Or.inl ⟨by rfl, ?_⟩
              intro w hSw; (try dsimp only at hSw); go_simp; (try omega); try with_reducible rfl
            try simp only [Act.put, List.setIfInBounds_toArray, List.set_cons_zero, List.set_cons_succ]
            refine' wpAnyH_take (i := 7) (oi := _) (v := _) ?hi7r1 (by kernel_rfl) (by kernel_rfl) (by kernel_rfl) ?hq7r1 ?hy7r1 (by assumption) ?re7r1
            case hi7r1 => simp only [List.getElem?_toArray, List.getElem?_cons_succ, List.getElem?_cons_zero]; rfl
            case hq7r1 => exact fun _ _ _ h => h
            case hy7r1 =>
              refine Or.inl ⟨by rfl, ?_⟩
              intro w hSw; (try dsimp only at hSw); go_simp; try with_reducible rfl
            try simp only [Act.put, List.setIfInBounds_toArray, List.set_cons_zero, List.set_cons_succ]
            refine' wpAnyH_take (i := 8) (oi := _) (v := _) ?hi8r1 (by kernel_rfl) (by kernel_rfl) (by kernel_rfl) ?hq8r1 ?hy8r1 (by assumption) ?re8r1
            case hi8r1 => simp only [List.getElem?_toArray, List.getElem?_cons_succ, List.getElem?_cons_zero]; rfl
            case hq8r1 => exact fun _ _ _ h => h
            case hy8r1 =>
              refine Or.inl ⟨by rfl, ?_⟩
              intro w hSw; (try dsimp only at hSw); go_simp; try with_reducible rfl
            try simp only [Act.put, List.setIfInBounds_toArray, List.set_cons_zero, List.set_cons_succ]
            refine' wpAnyH_take (i := 9) (oi := _) (v := _) ?hi9r1 (by kernel_rfl) (by kernel_rfl) (by kernel_rfl) ?hq9r1 ?hy9r1 (by assumption) ?re9r1
            case hi9r1 => simp only [List.getElem?_toArray, List.getElem?_cons_succ, List.getElem?_cons_zero]; rfl
            case hq9r1 => exact fun _ _ _ h => h
            case hy9r1 =>
              refine Or.inl ⟨by rfl, ?_⟩
              intro w hSw; (try dsimp only at hSw); go_simp; try with_reducible rfl
            try simp only [Act.put, List.setIfInBounds_toArray, List.set_cons_zero, List.set_cons_succ]
            refine' wpAnyH_take (i := 10) (oi := _) (v := _) ?hi10r1 (by kernel_rfl) (by kernel_rfl) (by kernel_rfl) ?hq10r1 ?hy10r1 (by assumption) ?re10r1
            case hi10r1 => simp only [List.getElem?_toArray, List.getElem?_cons_succ, List.getElem?_cons_zero]; rfl
            case hq10r1 => exact fun _ _ _ h => h
            case hy10r1 =>
              refine Or.inl ⟨by rfl, ?_⟩
              intro w hSw; (try dsimp only at hSw); go_simp; try with_reducible rfl
            try simp only [Act.put, List.setIfInBounds_toArray, List.set_cons_zero, List.set_cons_succ]
            refine' wpAnyH_take (i := 11) (oi := _) (v := _) ?hi11r1 (by kernel_rfl) (by kernel_rfl) (by kernel_rfl) ?hq11r1 ?hy11r1 (by assumption) ?re11r1
            case hi11r1 => simp only [List.getElem?_toArray, List.getElem?_cons_succ, List.getElem?_cons_zero]; rfl
            case hq11r1 => exact fun _ _ _ h => h
            case hy11r1 =>
              refine Or.inl ⟨by rfl, ?_⟩
              intro w hSw; (try dsimp only at hSw); go_simp; try with_reducible rfl
            try simp only [Act.put, List.setIfInBounds_toArray, List.set_cons_zero, List.set_cons_succ]
            refine' wpAnyH_take (i := 12) (oi := _) (v := .bool false) ?hi12r1 (by kernel_rfl) (by kernel_rfl) (by kernel_rfl) ?hq12r1 ?hy12r1 (by assumption) ?re12r1
            case hi12r1 => simp only [List.getElem?_toArray, List.getElem?_cons_succ, List.getElem?_cons_zero]; rfl
            case hq12r1 => exact fun _ _ _ h => h
            case hy12r1 =>
              refine Or.inl ⟨by rfl, ?_⟩
              intro w hSw; (try dsimp only at hSw); go_simp; (try omega); try with_reducible rfl
            try simp only [Act.put, List.setIfInBounds_toArray, List.set_cons_zero, List.set_cons_succ]
            refine' wpAnyH_take (i := 13) (oi := _) (v := _) ?hi13r1 (by kernel_rfl) (by kernel_rfl) (by kernel_rfl) ?hq13r1 ?hy13r1 (by assumption) ?re13r1
            case hi13r1 => simp only [List.getElem?_toArray, List.getElem?_cons_succ, List.getElem?_cons_zero]; rfl
            case hq13r1 => exact fun _ _ _ h => h
            case hy13r1 =>
              refine Or.inl ⟨by rfl, ?_⟩
              intro w hSw; (try dsimp only at hSw); go_simp; try with_reducible rfl
            try simp only [Act.put, List.setIfInBounds_toArray, List.set_cons_zero, List.set_cons_succ]
            refine' wpAnyH_take (i := 14) (oi := _) (v := _) ?hi14r1 (by kernel_rfl) (by kernel_rfl) (by kernel_rfl) ?hq14r1 ?hy14r1 (by assumption) ?re14r1
            case hi14r1 => simp only [List.getElem?_toArray, List.getElem?_cons_succ, List.getElem?_cons_zero]; rfl
            case hq14r1 => exact fun _ _ _ h => h
            case hy14r1 =>
              refine Or.inl ⟨by rfl, ?_⟩
              intro w hSw; (try dsimp only at hSw); go_simp; try with_reducible rfl
            try simp only [Act.put, List.setIfInBounds_toArray, List.set_cons_zero, List.set_cons_succ]
            refine' wpAnyH_take (i := 15) (oi := _) (v := _) ?hi15r1 (by kernel_rfl) (by kernel_rfl) (by kernel_rfl) ?hq15r1 ?hy15r1 (by assumption) ?re15r1
            case hi15r1 => simp only [List.getElem?_toArray, List.getElem?_cons_succ, List.getElem?_cons_zero]; rfl
            case hq15r1 => exact fun _ _ _ h => h
            case hy15r1 =>
              refine Or.inl ⟨by rfl, ?_⟩
              intro w hSw; (try dsimp only at hSw); go_simp; try with_reducible rfl
            try simp only [Act.put, List.setIfInBounds_toArray, List.set_cons_zero, List.set_cons_succ]
            refine' wpAnyH_take (i := 16) (oi := _) (v := _) ?hi16r1 (by kernel_rfl) (by kernel_rfl) (by kernel_rfl) ?hq16r1 ?hy16r1 (by assumption) ?re16r1
            case hi16r1 => simp only [List.getElem?_toArray, List.getElem?_cons_succ, List.getElem?_cons_zero]; rfl
            case hq16r1 => exact fun _ _ _ h => h
            case hy16r1 =>
              refine Or.inl ⟨by rfl, ?_⟩
              intro w hSw; (try dsimp only at hSw); go_simp; try with_reducible rfl
            try simp only [Act.put, List.setIfInBounds_toArray, List.set_cons_zero, List.set_cons_succ]
            refine' wpAnyH_take (i := 17) (oi := _) (v := _) ?hi17r1 (by kernel_rfl) (by kernel_rfl) (by kernel_rfl) ?hq17r1 ?hy17r1 (by assumption) ?re17r1
            case hi17r1 => simp only [List.getElem?_toArray, List.getElem?_cons_succ, List.getElem?_cons_zero]; rfl
            case hq17r1 => exact fun _ _ _ h => h
            case hy17r1 =>
              refine Or.inl ⟨by rfl, ?_⟩
              intro w hSw; (try dsimp only at hSw); go_simp; try with_reducible rfl
            try simp only [Act.put, List.setIfInBounds_toArray, List.set_cons_zero, List.set_cons_succ]
            refine' wpAnyH_take (i := 18) (oi := _) (v := _) ?hi18r1 (by kernel_rfl) (by kernel_rfl) (by kernel_rfl) ?hq18r1 ?hy18r1 (by assumption) ?re18r1
            case hi18r1 => simp only [List.getElem?_toArray, List.getElem?_cons_succ, List.getElem?_cons_zero]; rfl
            case hq18r1 => exact fun _ _ _ h => h
            case hy18r1 =>
              refine Or.inl ⟨by rfl, ?_⟩
              intro w hSw; (try dsimp only at hSw); go_simp; try with_reducible rfl
            try simp only [Act.put, List.setIfInBounds_toArray, List.set_cons_zero, List.set_cons_succ]
            refine' wpAnyH_take (i := 19) (oi := _) (v := _) ?hi19r1 (by kernel_rfl) (by kernel_rfl) (by kernel_rfl) ?hq19r1 ?hy19r1 (by assumption) ?re19r1
            case hi19r1 => simp only [List.getElem?_toArray, List.getElem?_cons_succ, List.getElem?_cons_zero]; rfl
            case hq19r1 => exact fun _ _ _ h => h
            case hy19r1 =>
              refine Or.inl ⟨by rfl, ?_⟩
              intro w hSw; (try dsimp only at hSw); go_simp; try with_reducible rfl
            try simp only [Act.put, List.setIfInBounds_toArray, List.set_cons_zero, List.set_cons_succ]
            refine' wpAnyH_take (i := 20) (oi := _) (v := _) ?hi20r1 (by kernel_rfl) (by kernel_rfl) (by kernel_rfl) ?hq20r1 ?hy20r1 (by assumption) ?re20r1
            case hi20r1 => simp only [List.getElem?_toArray, List.getElem?_cons_succ, List.getElem?_cons_zero]; rfl
            case hq20r1 => exact fun _ _ _ h => h
            case hy20r1 =>
              refine Or.inl ⟨by rfl, ?_⟩
              intro w hSw; (try dsimp only at hSw); go_simp; try with_reducible rfl
            try simp only [Act.put, List.setIfInBounds_toArray, List.set_cons_zero, List.set_cons_succ]
            refine' wpAnyH_take (i := 21) (oi := _) (v := _) ?hi21r1 (by kernel_rfl) (by kernel_rfl) (by kernel_rfl) ?hq21r1 ?hy21r1 (by assumption) ?re21r1
            case hi21r1 => simp only [List.getElem?_toArray, List.getElem?_cons_succ, List.getElem?_cons_zero]; rfl
            case hq21r1 => exact fun _ _ _ h => h
            case hy21r1 =>
              refine Or.inl ⟨by rfl, ?_⟩
              intro w hSw; (try dsimp only at hSw); go_simp; try with_reducible rfl
            try simp only [Act.put, List.setIfInBounds_toArray, List.set_cons_zero, List.set_cons_succ]
            refine' wpAnyH_take (i := 22) (oi := _) (v := _) ?hi22r1 (by kernel_rfl) (by kernel_rfl) (by kernel_rfl) ?hq22r1 ?hy22r1 (by assumption) ?re22r1
            case hi22r1 => simp only [List.getElem?_toArray, List.getElem?_cons_succ, List.getElem?_cons_zero]; rfl
            case hq22r1 => exact fun _ _ _ h => h
            case hy22r1 =>
              refine Or.inl ⟨by rfl, ?_⟩
              intro w hSw; (try dsimp only at hSw); go_simp; try with_reducible rfl
            try simp only [Act.put, List.setIfInBounds_toArray, List.set_cons_zero, List.set_cons_succ]
            refine' wpAnyH_take (i := 23) (oi := _) (v := .bool true) ?hi23r1 (by kernel_rfl) (by kernel_rfl) (by kernel_rfl) ?hq23r1 ?hy23r1 (by assumption) ?re23r1
            case hi23r1 => simp only [List.getElem?_toArray, List.getElem?_cons_succ, List.getElem?_cons_zero]; rfl
            case hq23r1 => exact fun _ _ _ h => h
            case hy23r1 =>
              refine Or.inl ⟨by rfl, ?_⟩
              intro w hSw; (try dsimp only at hSw); go_simp; (try omega); try with_reducible rfl
            try simp only [Act.put, List.setIfInBounds_toArray, List.set_cons_zero, List.set_cons_succ]
            refine' wpAnyH_take (i := 24) (oi := _) (v := _) ?hi24r1 (by kernel_rfl) (by kernel_rfl) (by kernel_rfl) ?hq24r1 ?hy24r1 (by assumption) ?re24r1
            case hi24r1 => simp only [List.getElem?_toArray, List.getElem?_cons_succ, List.getElem?_cons_zero]; rfl
            case hq24r1 => exact fun _ _ _ h => h
            case hy24r1 =>
              refine Or.inl ⟨by rfl, ?_⟩
              intro w hSw; (try dsimp only at hSw); go_simp; try with_reducible rfl
            try simp only [Act.put, List.setIfInBounds_toArray, List.set_cons_zero, List.set_cons_succ]
            refine' wpAnyH_take (i := 25) (oi := _) (v := _) ?hi25r1 (by kernel_rfl) (by kernel_rfl) (by kernel_rfl) ?hq25r1 ?hy25r1 (by assumption) ?re25r1
            case hi25r1 => simp only [List.getElem?_toArray, List.getElem?_cons_succ, List.getElem?_cons_zero]; rfl
            case hq25r1 => exact fun _ _ _ h => h
            case hy25r1 =>
              refine Or.inl ⟨by rfl, ?_⟩
              intro w hSw; (try dsimp only at hSw); go_simp; try with_reducible rfl
            try simp only [Act.put, List.setIfInBounds_toArray, List.set_cons_zero, List.set_cons_succ]
            refine wpAnyH_ready (rs := [26]) (by kernel_rfl) (by simp) ?_
            refine' AllReadyH.cons (o := _) ?hi26r1 (fun K hK => ?st26r1) AllReadyH.nil
            case hi26r1 => simp only [List.getElem?_toArray, List.getElem?_cons_succ, List.getElem?_cons_zero]; rfl
            go_simp
            go_at_call 11; refine (HW.out _ hHeld.1).mono ?_; rintro e w8 ⟨rfl, c8⟩; have k8 := HSS.out w8 (keepB hHeld c8)
            try go_wp2_with fail
            refine hK.out _ _ ?_ (fun hHeld => ?_)
            · exact k8
            clear hK K
            try simp only [Act.put, List.setIfInBounds_toArray, List.set_cons_zero, List.set_cons_succ]
            refine' wpAnyH_take (i := 27) (oi := _) (v := _) ?hi27r1 (by kernel_rfl) (by kernel_rfl) (by kernel_rfl) ?hq27r1 ?hy27r1 (by assumption) ?re27r1
            case hi27r1 => simp only [List.getElem?_toArray, List.getElem?_cons_succ, List.getElem?_cons_zero]; rfl
            case hq27r1 => exact fun _ _ _ h => h
            case hy27r1 =>
              refine Or.inl ⟨by rfl, ?_⟩
              intro w hSw; (try dsimp only at hSw); go_simp; try with_reducible rfl
            try simp only [Act.put, List.setIfInBounds_toArray, List.set_cons_zero, List.set_cons_succ]
            refine' wpAnyH_take (i := 28) (oi := _) (v := _) ?hi28r1 (by kernel_rfl) (by kernel_rfl) (by kernel_rfl) ?hq28r1 ?hy28r1 (by assumption) ?re28r1
            case hi28r1 => simp only [List.getElem?_toArray, List.getElem?_cons_succ, List.getElem?_cons_zero]; rfl
            case hq28r1 => exact fun _ _ _ h => h
            case hy28r1 =>
              refine Or.inl ⟨by rfl, ?_⟩
              intro w hSw; (try dsimp only at hSw); go_simp; try with_reducible rfl
            try simp only [Act.put, List.setIfInBounds_toArray, List.set_cons_zero, List.set_cons_succ]
            refine wpAnyH_done (by kernel_rfl) ?_ _
            go_wp2_with fail
            go_ret
            exact ⟨rfl, k8.1⟩
          · obtain rfl : n = len' := by omega
            have f1 : ((n : Int) == (len : Int)) = false := by rw [beq_eq_false_iff_ne]; omega
            have e1 : decide ((n : Int) = (len : Int)) = false := decide_eq_false (by omega)
            have hS0 : (fun wx => Below w.heap.size w wx) wr.drew := Hb.out.drew
            dsimp only at hS0
            go_wp2_with fail
            refine wp_region_held_drew (S := (fun wx => Below w.heap.size w wx)) (by kernel_rfl) ?_ (fun hHeld => ?_)
            · exact hS0
            refine' wpAnyH_take (i := 0) (oi := _) (v := _) ?hi0r2 (by kernel_rfl) (by kernel_rfl) (by kernel_rfl) ?hq0r2 ?hy0r2 (by assumption) ?re0r2
            case hi0r2 => simp only [List.getElem?_toArray, List.getElem?_cons_zero]; rfl
            case hq0r2 => exact fun _ _ _ h => h
            case hy0r2 =>
              refine Or.inl ⟨by rfl, ?_⟩
              intro w hSw; (try dsimp only at hSw); go_simp; try with_reducible rfl
            try simp only [Act.put, List.setIfInBounds_toArray, List.set_cons_zero, List.set_cons_succ]
            refine' wpAnyH_take (i := 1) (oi := _) (v := _) ?hi1r2 (by kernel_rfl) (by kernel_rfl) (by kernel_rfl) ?hq1r2 ?hy1r2 (by assumption) ?re1r2
            case hi1r2 => simp only [List.getElem?_toArray, List.getElem?_cons_succ, List.getElem?_cons_zero]; rfl
            case hq1r2 => exact fun _ _ _ h => h
            case hy1r2 =>
              refine Or.inl ⟨by rfl, ?_⟩
              intro w hSw; (try dsimp only at hSw); go_simp; try with_reducible rfl
            try simp only [Act.put, List.setIfInBounds_toArray, List.set_cons_zero, List.set_cons_succ]
            refine' wpAnyH_take (i := 2) (oi := _) (v := _) ?hi2r2 (by kernel_rfl) (by kernel_rfl) (by kernel_rfl) ?hq2r2 ?hy2r2 (by assumption) ?re2r2
            case hi2r2 => simp only [List.getElem?_toArray, List.getElem?_cons_succ, List.getElem?_cons_zero]; rfl
            case hq2r2 => exact fun _ _ _ h => h
            case hy2r2 =>
              refine Or.inl ⟨by rfl, ?_⟩
              intro w hSw; (try dsimp only at hSw); go_simp; try with_reducible rfl
            try simp only [Act.put, List.setIfInBounds_toArray, List.set_cons_zero, List.set_cons_succ]
            refine' wpAnyH_take (i := 3) (oi := _) (v := _) ?hi3r2 (by kernel_rfl) (by kernel_rfl) (by kernel_rfl) ?hq3r2 ?hy3r2 (by assumption) ?re3r2
            case hi3r2 => simp only [List.getElem?_toArray, List.getElem?_cons_succ, List.getElem?_cons_zero]; rfl
            case hq3r2 => exact fun _ _ _ h => h
            case hy3r2 =>
              refine Or.inl ⟨by rfl, ?_⟩
              intro w hSw; (try dsimp only at hSw); go_simp; try with_reducible rfl
            try simp only [Act.put, List.setIfInBounds_toArray, List.set_cons_zero, List.set_cons_succ]
            refine' wpAnyH_take (i := 4) (oi := _) (v := _) ?hi4r2 (by kernel_rfl) (by kernel_rfl) (by kernel_rfl) ?hq4r2 ?hy4r2 (by assumption) ?re4r2
            case hi4r2 => simp only [List.getElem?_toArray, List.getElem?_cons_succ, List.getElem?_cons_zero]; rfl
            case hq4r2 => exact fun _ _ _ h => h
            case hy4r2 =>
              refine Or.inl ⟨by rfl, ?_⟩
              intro w hSw; (try dsimp only at hSw); go_simp; try with_reducible rfl
            try simp only [Act.put, List.setIfInBounds_toArray, List.set_cons_zero, List.set_cons_succ]
            refine' wpAnyH_take (i := 5) (oi := _) (v := _) ?hi5r2 (by kernel_rfl) (by kernel_rfl) (by kernel_rfl) ?hq5r2 ?hy5r2 (by assumption) ?re5r2
            case hi5r2 => simp only [List.getElem?_toArray, List.getElem?_cons_succ, List.getElem?_cons_zero]; rfl
            case hq5r2 => exact fun _ _ _ h => h
            case hy5r2 =>
              refine Or.inl ⟨by rfl, ?_⟩
              intro w hSw; (try dsimp only at hSw); go_simp; try with_reducible rfl
            try simp only [Act.put, List.setIfInBounds_toArray, List.set_cons_zero, List.set_cons_succ]
            refine' wpAnyH_take (i := 6) (oi := _) (v := .bool false) ?hi6r2 (by kernel_rfl) (by kernel_rfl) (by kernel_rfl) ?hq6r2 ?hy6r2 (by assumption) ?re6r2
            case hi6r2 => simp only [List.getElem?_toArray, List.getElem?_cons_succ, List.getElem?_cons_zero]; rfl
            case hq6r2 => exact fun _ _ _ h => h
            case hy6r2 =>
              refine Or.inl ⟨by rfl, ?_⟩
              intro w hSw; (try dsimp only at hSw); go_simp; (try omega); try with_reducible rfl
            try simp only [Act.put, List.setIfInBounds_toArray, List.set_cons_zero, List.set_cons_succ]
            refine' wpAnyH_take (i := 7) (oi := _) (v := _) ?hi7r2 (by kernel_rfl) (by kernel_rfl) (by kernel_rfl) ?hq7r2 ?hy7r2 (by assumption) ?re7r2
            case hi7r2 => simp only [List.getElem?_toArray, List.getElem?_cons_succ, List.getElem?_cons_zero]; rfl
            case hq7r2 => exact fun _ _ _ h => h
            case hy7r2 =>
              refine Or.inl ⟨by rfl, ?_⟩
              intro w hSw; (try dsimp only at hSw); go_simp; try with_reducible rfl
            try simp only [Act.put, List.setIfInBounds_toArray, List.set_cons_zero, List.set_cons_succ]
            refine' wpAnyH_take (i := 8) (oi := _) (v := _) ?hi8r2 (by kernel_rfl) (by kernel_rfl) (by kernel_rfl) ?hq8r2 ?hy8r2 (by assumption) ?re8r2
            case hi8r2 => simp only [List.getElem?_toArray, List.getElem?_cons_succ, List.getElem?_cons_zero]; rfl
            case hq8r2 => exact fun _ _ _ h => h
            case hy8r2 =>
              refine Or.inl ⟨by rfl, ?_⟩
              intro w hSw; (try dsimp only at hSw); go_simp; try with_reducible rfl
            try simp only [Act.put, List.setIfInBounds_toArray, List.set_cons_zero, List.set_cons_succ]
            refine' wpAnyH_take (i := 9) (oi := _) (v := _) ?hi9r2 (by kernel_rfl) (by kernel_rfl) (by kernel_rfl) ?hq9r2 ?hy9r2 (by assumption) ?re9r2
            case hi9r2 => simp only [List.getElem?_toArray, List.getElem?_cons_succ, List.getElem?_cons_zero]; rfl
            case hq9r2 => exact fun _ _ _ h => h
            case hy9r2 =>
              refine Or.inl ⟨by rfl, ?_⟩
              intro w hSw; (try dsimp only at hSw); go_simp; try with_reducible rfl
            try simp only [Act.put, List.setIfInBounds_toArray, List.set_cons_zero, List.set_cons_succ]
            refine' wpAnyH_take (i := 10) (oi := _) (v := _) ?hi10r2 (by kernel_rfl) (by kernel_rfl) (by kernel_rfl) ?hq10r2 ?hy10r2 (by assumption) ?re10r2
            case hi10r2 => simp only [List.getElem?_toArray, List.getElem?_cons_succ, List.getElem?_cons_zero]; rfl
            case hq10r2 => exact fun _ _ _ h => h
            case hy10r2 =>
              refine Or.inl ⟨by rfl, ?_⟩
              intro w hSw; (try dsimp only at hSw); go_simp; try with_reducible rfl
            try simp only [Act.put, List.setIfInBounds_toArray, List.set_cons_zero, List.set_cons_succ]
            refine' wpAnyH_take (i := 11) (oi := _) (v := _) ?hi11r2 (by kernel_rfl) (by kernel_rfl) (by kernel_rfl) ?hq11r2 ?hy11r2 (by assumption) ?re11r2
            case hi11r2 => simp only [List.getElem?_toArray, List.getElem?_cons_succ, List.getElem?_cons_zero]; rfl
            case hq11r2 => exact fun _ _ _ h => h
            case hy11r2 =>
              refine Or.inl ⟨by rfl, ?_⟩
              intro w hSw; (try dsimp only at hSw); go_simp; try with_reducible rfl
            try simp only [Act.put, List.setIfInBounds_toArray, List.set_cons_zero, List.set_cons_succ]
            refine' wpAnyH_take (i := 12) (oi := _) (v := _) ?hi12r2 (by kernel_rfl) (by kernel_rfl) (by kernel_rfl) ?hq12r2 ?hy12r2 (by assumption) ?re12r2
            case hi12r2 => simp only [List.getElem?_toArray, List.getElem?_cons_succ, List.getElem?_cons_zero]; rfl
            case hq12r2 => exact fun _ _ _ h => h
            case hy12r2 =>
              refine Or.inl ⟨by rfl, ?_⟩
              intro w hSw; (try dsimp only at hSw); go_simp; try with_reducible rfl
            try simp only [Act.put, List.setIfInBounds_toArray, List.set_cons_zero, List.set_cons_succ]
            refine' wpAnyH_take (i := 13) (oi := _) (v := _) ?hi13r2 (by kernel_rfl) (by kernel_rfl) (by kernel_rfl) ?hq13r2 ?hy13r2 (by assumption) ?re13r2
            case hi13r2 => simp only [List.getElem?_toArray, List.getElem?_cons_succ, List.getElem?_cons_zero]; rfl
            case hq13r2 => exact fun _ _ _ h => h
            case hy13r2 =>
              refine Or.inl ⟨by rfl, ?_⟩
              intro w hSw; (try dsimp only at hSw); go_simp; try with_reducible rfl
            try simp only [Act.put, List.setIfInBounds_toArray, List.set_cons_zero, List.set_cons_succ]
            refine' wpAnyH_take (i := 14) (oi := _) (v := _) ?hi14r2 (by kernel_rfl) (by kernel_rfl) (by kernel_rfl) ?hq14r2 ?hy14r2 (by assumption) ?re14r2
            case hi14r2 => simp only [List.getElem?_toArray, List.getElem?_cons_succ, List.getElem?_cons_zero]; rfl
            case hq14r2 => exact fun _ _ _ h => h
            case hy14r2 =>
              refine Or.inl ⟨by rfl, ?_⟩
              intro w hSw; (try dsimp only at hSw); go_simp; try with_reducible rfl
            try simp only [Act.put, List.setIfInBounds_toArray, List.set_cons_zero, List.set_cons_succ]
            refine' wpAnyH_take (i := 15) (oi := _) (v := undef) ?hi15r2 (by kernel_rfl) (by kernel_rfl) (by kernel_rfl) ?hq15r2 ?hy15r2 (by assumption) ?re15r2
            case hi15r2 => simp only [List.getElem?_toArray, List.getElem?_cons_succ, List.getElem?_cons_zero]; rfl
            case hq15r2 => exact fun _ _ _ h => h
            case hy15r2 => exact Or.inr ⟨by rfl, rfl⟩
            try simp only [Act.put, List.setIfInBounds_toArray, List.set_cons_zero, List.set_cons_succ]
            refine' wpAnyH_take (i := 16) (oi := _) (v := undef) ?hi16r2 (by kernel_rfl) (by kernel_rfl) (by kernel_rfl) ?hq16r2 ?hy16r2 (by assumption) ?re16r2
            case hi16r2 => simp only [List.getElem?_toArray, List.getElem?_cons_succ, List.getElem?_cons_zero]; rfl
            case hq16r2 => exact fun _ _ _ h => h
            case hy16r2 => exact Or.inr ⟨by rfl, rfl⟩
            try simp only [Act.put, List.setIfInBounds_toArray, List.set_cons_zero, List.set_cons_succ]
            refine' wpAnyH_take (i := 17) (oi := _) (v := undef) ?hi17r2 (by kernel_rfl) (by kernel_rfl) (by kernel_rfl) ?hq17r2 ?hy17r2 (by assumption) ?re17r2
            case hi17r2 => simp only [List.getElem?_toArray, List.getElem?_cons_succ, List.getElem?_cons_zero]; rfl
            case hq17r2 => exact fun _ _ _ h => h
            case hy17r2 => exact Or.inr ⟨by rfl, rfl⟩
            try simp only [Act.put, List.setIfInBounds_toArray, List.set_cons_zero, List.set_cons_succ]
            refine' wpAnyH_take (i := 18) (oi := _) (v := undef) ?hi18r2 (by kernel_rfl) (by kernel_rfl) (by kernel_rfl) ?hq18r2 ?hy18r2 (by assumption) ?re18r2
            case hi18r2 => simp only [List.getElem?_toArray, List.getElem?_cons_succ, List.getElem?_cons_zero]; rfl
            case hq18r2 => exact fun _ _ _ h => h
            case hy18r2 => exact Or.inr ⟨by rfl, rfl⟩
            try simp only [Act.put, List.setIfInBounds_toArray, List.set_cons_zero, List.set_cons_succ]
            refine' wpAnyH_take (i := 19) (oi := _) (v := undef) ?hi19r2 (by kernel_rfl) (by kernel_rfl) (by kernel_rfl) ?hq19r2 ?hy19r2 (by assumption) ?re19r2
            case hi19r2 => simp only [List.getElem?_toArray, List.getElem?_cons_succ, List.getElem?_cons_zero]; rfl
            case hq19r2 => exact fun _ _ _ h => h
            case hy19r2 => exact Or.inr ⟨by rfl, rfl⟩
            try simp only [Act.put, List.setIfInBounds_toArray, List.set_cons_zero, List.set_cons_succ]
            refine' wpAnyH_take (i := 20) (oi := _) (v := undef) ?hi20r2 (by kernel_rfl) (by kernel_rfl) (by kernel_rfl) ?hq20r2 ?hy20r2 (by assumption) ?re20r2
            case hi20r2 => simp only [List.getElem?_toArray, List.getElem?_cons_succ, List.getElem?_cons_zero]; rfl
            case hq20r2 => exact fun _ _ _ h => h
            case hy20r2 => exact Or.inr ⟨by rfl, rfl⟩
            try simp only [Act.put, List.setIfInBounds_toArray, List.set_cons_zero, List.set_cons_succ]
            refine' wpAnyH_take (i := 21) (oi := _) (v := undef) ?hi21r2 (by kernel_rfl) (by kernel_rfl) (by kernel_rfl) ?hq21r2 ?hy21r2 (by assumption) ?re21r2
            case hi21r2 => simp only [List.getElem?_toArray, List.getElem?_cons_succ, List.getElem?_cons_zero]; rfl
            case hq21r2 => exact fun _ _ _ h => h
            case hy21r2 => exact Or.inr ⟨by rfl, rfl⟩
            try simp only [Act.put, List.setIfInBounds_toArray, List.set_cons_zero, List.set_cons_succ]
            refine' wpAnyH_take (i := 22) (oi := _) (v := undef) ?hi22r2 (by kernel_rfl) (by kernel_rfl) (by kernel_rfl) ?hq22r2 ?hy22r2 (by assumption) ?re22r2
            case hi22r2 => simp only [List.getElem?_toArray, List.getElem?_cons_succ, List.getElem?_cons_zero]; rfl
            case hq22r2 => exact fun _ _ _ h => h
            case hy22r2 => exact Or.inr ⟨by rfl, rfl⟩
            try simp only [Act.put, List.setIfInBounds_toArray, List.set_cons_zero, List.set_cons_succ]
            refine' wpAnyH_take (i := 23) (oi := _) (v := undef) ?hi23r2 (by kernel_rfl) (by kernel_rfl) (by kernel_rfl) ?hq23r2 ?hy23r2 (by assumption) ?re23r2
            case hi23r2 => simp only [List.getElem?_toArray, List.getElem?_cons_succ, List.getElem?_cons_zero]; rfl
            case hq23r2 => exact fun _ _ _ h => h
            case hy23r2 => exact Or.inr ⟨by rfl, rfl⟩
            try simp only [Act.put, List.setIfInBounds_toArray, List.set_cons_zero, List.set_cons_succ]
            refine' wpAnyH_take (i := 24) (oi := _) (v := _) ?hi24r2 (by kernel_rfl) (by kernel_rfl) (by kernel_rfl) ?hq24r2 ?hy24r2 (by assumption) ?re24r2
            case hi24r2 => simp only [List.getElem?_toArray, List.getElem?_cons_succ, List.getElem?_cons_zero]; rfl
            case hq24r2 => exact fun _ _ _ h => h
            case hy24r2 =>
              refine Or.inl ⟨by rfl, ?_⟩
              intro w hSw; (try dsimp only at hSw); go_simp; try with_reducible rfl
            try simp only [Act.put, List.setIfInBounds_toArray, List.set_cons_zero, List.set_cons_succ]
            refine' wpAnyH_take (i := 25) (oi := _) (v := _) ?hi25r2 (by kernel_rfl) (by kernel_rfl) (by kernel_rfl) ?hq25r2 ?hy25r2 (by assumption) ?re25r2
            case hi25r2 => simp only [List.getElem?_toArray, List.getElem?_cons_succ, List.getElem?_cons_zero]; rfl
            case hq25r2 => exact fun _ _ _ h => h
            case hy25r2 =>
              refine Or.inl ⟨by rfl, ?_⟩
              intro w hSw; (try dsimp only at hSw); go_simp; try with_reducible rfl
            try simp only [Act.put, List.setIfInBounds_toArray, List.set_cons_zero, List.set_cons_succ]
            refine wpAnyH_ready (rs := [26]) (by kernel_rfl) (by simp) ?_
            refine' AllReadyH.cons (o := _) ?hi26r2 (fun K hK => ?st26r2) AllReadyH.nil
            case hi26r2 => simp only [List.getElem?_toArray, List.getElem?_cons_succ, List.getElem?_cons_zero]; rfl
            go_simp
            go_at_call 11; refine (HW.out _ hHeld).mono ?_; rintro e w8 ⟨rfl, c8⟩; have k8 := hHeld.trans (c8.mono hHeld.size)
            try go_wp2_with fail
            refine hK.out _ _ ?_ (fun hHeld => ?_)
            · exact k8
            clear hK K
            try simp only [Act.put, List.setIfInBounds_toArray, List.set_cons_zero, List.set_cons_succ]
            refine' wpAnyH_take (i := 27) (oi := _) (v := _) ?hi27r2 (by kernel_rfl) (by kernel_rfl) (by kernel_rfl) ?hq27r2 ?hy27r2 (by assumption) ?re27r2
            case hi27r2 => simp only [List.getElem?_toArray, List.getElem?_cons_succ, List.getElem?_cons_zero]; rfl
            case hq27r2 => exact fun _ _ _ h => h
            case hy27r2 =>
              refine Or.inl ⟨by rfl, ?_⟩
              intro w hSw; (try dsimp only at hSw); go_simp; try with_reducible rfl
            try simp only [Act.put, List.setIfInBounds_toArray, List.set_cons_zero, List.set_cons_succ]
            refine' wpAnyH_take (i := 28) (oi := _) (v := _) ?hi28r2 (by kernel_rfl) (by kernel_rfl) (by kernel_rfl) ?hq28r2 ?hy28r2 (by assumption) ?re28r2
            case hi28r2 => simp only [List.getElem?_toArray, List.getElem?_cons_succ, List.getElem?_cons_zero]; rfl
            case hq28r2 => exact fun _ _ _ h => h
            case hy28r2 =>
              refine Or.inl ⟨by rfl, ?_⟩
              intro w hSw; (try dsimp only at hSw); go_simp; try with_reducible rfl
            try simp only [Act.put, List.setIfInBounds_toArray, List.set_cons_zero, List.set_cons_succ]
            refine wpAnyH_done (by kernel_rfl) ?_ _
            go_wp2_with fail
            go_ret
            exact ⟨rfl, k8⟩
        · obtain rfl : n = len := by omega
          have hS0 : (fun wx => Below w.heap.size w wx) wr.drew := Hb.out.drew
          dsimp only at hS0
          go_wp2_with fail
          refine wp_region_held_drew (S := (fun wx => Below w.heap.size w wx)) (by kernel_rfl) ?_ (fun hHeld => ?_)
          · exact hS0
          refine' wpAnyH_take (i := 0) (oi := _) (v := _) ?hi0r3 (by kernel_rfl) (by kernel_rfl) (by kernel_rfl) ?hq0r3 ?hy0r3 (by assumption) ?re0r3
          case hi0r3 => simp only [List.getElem?_toArray, List.getElem?_cons_zero]; rfl
          case hq0r3 => exact fun _ _ _ h => h
          case hy0r3 =>
            refine Or.inl ⟨by rfl, ?_⟩
            intro w hSw; (try dsimp only at hSw); go_simp; try with_reducible rfl
          try simp only [Act.put, List.setIfInBounds_toArray, List.set_cons_zero, List.set_cons_succ]
          refine' wpAnyH_take (i := 1) (oi := _) (v := _) ?hi1r3 (by kernel_rfl) (by kernel_rfl) (by kernel_rfl) ?hq1r3 ?hy1r3 (by assumption) ?re1r3
          case hi1r3 => simp only [List.getElem?_toArray, List.getElem?_cons_succ, List.getElem?_cons_zero]; rfl
          case hq1r3 => exact fun _ _ _ h => h
          case hy1r3 =>
            refine Or.inl ⟨by rfl, ?_⟩
            intro w hSw; (try dsimp only at hSw); go_simp; try with_reducible rfl
          try simp only [Act.put, List.setIfInBounds_toArray, List.set_cons_zero, List.set_cons_succ]
          refine' wpAnyH_take (i := 2) (oi := _) (v := _) ?hi2r3 (by kernel_rfl) (by kernel_rfl) (by kernel_rfl) ?hq2r3 ?hy2r3 (by assumption) ?re2r3
          case hi2r3 => simp only [List.getElem?_toArray, List.getElem?_cons_succ, List.getElem?_cons_zero]; rfl
          case hq2r3 => exact fun _ _ _ h => h
          case hy2r3 =>
            refine Or.inl ⟨by rfl, ?_⟩
            intro w hSw; (try dsimp only at hSw); go_simp; try with_reducible rfl
          try simp only [Act.put, List.setIfInBounds_toArray, List.set_cons_zero, List.set_cons_succ]
          refine' wpAnyH_take (i := 3) (oi := _) (v := _) ?hi3r3 (by kernel_rfl) (by kernel_rfl) (by kernel_rfl) ?hq3r3 ?hy3r3 (by assumption) ?re3r3
          case hi3r3 => simp only [List.getElem?_toArray, List.getElem?_cons_succ, List.getElem?_cons_zero]; rfl
          case hq3r3 => exact fun _ _ _ h => h
          case hy3r3 =>
            refine Or.inl ⟨by rfl, ?_⟩
            intro w hSw; (try dsimp only at hSw); go_simp; try with_reducible rfl
          try simp only [Act.put, List.setIfInBounds_toArray, List.set_cons_zero, List.set_cons_succ]
          refine' wpAnyH_take (i := 4) (oi := _) (v := _) ?hi4r3 (by kernel_rfl) (by kernel_rfl) (by kernel_rfl) ?hq4r3 ?hy4r3 (by assumption) ?re4r3
          case hi4r3 => simp only [List.getElem?_toArray, List.getElem?_cons_succ, List.getElem?_cons_zero]; rfl
          case hq4r3 => exact fun _ _ _ h => h
          case hy4r3 =>
            refine Or.inl ⟨by rfl, ?_⟩
            intro w hSw; (try dsimp only at hSw); go_simp; try with_reducible rfl
          try simp only [Act.put, List.setIfInBounds_toArray, List.set_cons_zero, List.set_cons_succ]
          refine' wpAnyH_take (i := 5) (oi := _) (v := _) ?hi5r3 (by kernel_rfl) (by kernel_rfl) (by kernel_rfl) ?hq5r3 ?hy5r3 (by assumption) ?re5r3
          case hi5r3 => simp only [List.getElem?_toArray, List.getElem?_cons_succ, List.getElem?_cons_zero]; rfl
          case hq5r3 => exact fun _ _ _ h => h
          case hy5r3 =>
            refine Or.inl ⟨by rfl, ?_⟩
            intro w hSw; (try dsimp only at hSw); go_simp; try with_reducible rfl
          try simp only [Act.put, List.setIfInBounds_toArray, List.set_cons_zero, List.set_cons_succ]
          refine' wpAnyH_take (i := 6) (oi := _) (v := _) ?hi6r3 (by kernel_rfl) (by kernel_rfl) (by kernel_rfl) ?hq6r3 ?hy6r3 (by assumption) ?re6r3
          case hi6r3 => simp only [List.getElem?_toArray, List.getElem?_cons_succ, List.getElem?_cons_zero]; rfl
          case hq6r3 => exact fun _ _ _ h => h
          case hy6r3 =>
            refine Or.inl ⟨by rfl, ?_⟩
            intro w hSw; (try dsimp only at hSw); go_simp; try with_reducible rfl
          try simp only [Act.put, List.setIfInBounds_toArray, List.set_cons_zero, List.set_cons_succ]
          refine' wpAnyH_take (i := 7) (oi := _) (v := _) ?hi7r3 (by kernel_rfl) (by kernel_rfl) (by kernel_rfl) ?hq7r3 ?hy7r3 (by assumption) ?re7r3
          case hi7r3 => simp only [List.getElem?_toArray, List.getElem?_cons_succ, List.getElem?_cons_zero]; rfl
          case hq7r3 => exact fun _ _ _ h => h
          case hy7r3 =>
            refine Or.inl ⟨by rfl, ?_⟩
            intro w hSw; (try dsimp only at hSw); go_simp; try with_reducible rfl
          try simp only [Act.put, List.setIfInBounds_toArray, List.set_cons_zero, List.set_cons_succ]
          refine' wpAnyH_take (i := 8) (oi := _) (v := _) ?hi8r3 (by kernel_rfl) (by kernel_rfl) (by kernel_rfl) ?hq8r3 ?hy8r3 (by assumption) ?re8r3
          case hi8r3 => simp only [List.getElem?_toArray, List.getElem?_cons_succ, List.getElem?_cons_zero]; rfl
          case hq8r3 => exact fun _ _ _ h => h
          case hy8r3 =>
            refine Or.inl ⟨by rfl, ?_⟩
            intro w hSw; (try dsimp only at hSw); go_simp; try with_reducible rfl
          try simp only [Act.put, List.setIfInBounds_toArray, List.set_cons_zero, List.set_cons_succ]
          refine' wpAnyH_take (i := 9) (oi := _) (v := undef) ?hi9r3 (by kernel_rfl) (by kernel_rfl) (by kernel_rfl) ?hq9r3 ?hy9r3 (by assumption) ?re9r3
          case hi9r3 => simp only [List.getElem?_toArray, List.getElem?_cons_succ, List.getElem?_cons_zero]; rfl
          case hq9r3 => exact fun _ _ _ h => h
          case hy9r3 => exact Or.inr ⟨by rfl, rfl⟩
          try simp only [Act.put, List.setIfInBounds_toArray, List.set_cons_zero, List.set_cons_succ]
          refine' wpAnyH_take (i := 10) (oi := _) (v := undef) ?hi10r3 (by kernel_rfl) (by kernel_rfl) (by kernel_rfl) ?hq10r3 ?hy10r3 (by assumption) ?re10r3
          case hi10r3 => simp only [List.getElem?_toArray, List.getElem?_cons_succ, List.getElem?_cons_zero]; rfl
          case hq10r3 => exact fun _ _ _ h => h
          case hy10r3 => exact Or.inr ⟨by rfl, rfl⟩
          try simp only [Act.put, List.setIfInBounds_toArray, List.set_cons_zero, List.set_cons_succ]
          refine' wpAnyH_take (i := 11) (oi := _) (v := undef) ?hi11r3 (by kernel_rfl) (by kernel_rfl) (by kernel_rfl) ?hq11r3 ?hy11r3 (by assumption) ?re11r3
          case hi11r3 => simp only [List.getElem?_toArray, List.getElem?_cons_succ, List.getElem?_cons_zero]; rfl
          case hq11r3 => exact fun _ _ _ h => h
          case hy11r3 => exact Or.inr ⟨by rfl, rfl⟩
          try simp only [Act.put, List.setIfInBounds_toArray, List.set_cons_zero, List.set_cons_succ]
          refine' wpAnyH_take (i := 12) (oi := _) (v := undef) ?hi12r3 (by kernel_rfl) (by kernel_rfl) (by kernel_rfl) ?hq12r3 ?hy12r3 (by assumption) ?re12r3
          case hi12r3 => simp only [List.getElem?_toArray, List.getElem?_cons_succ, List.getElem?_cons_zero]; rfl
          case hq12r3 => exact fun _ _ _ h => h
          case hy12r3 => exact Or.inr ⟨by rfl, rfl⟩
          try simp only [Act.put, List.setIfInBounds_toArray, List.set_cons_zero, List.set_cons_succ]
          refine' wpAnyH_take (i := 13) (oi := _) (v := _) ?hi13r3 (by kernel_rfl) (by kernel_rfl) (by kernel_rfl) ?hq13r3 ?hy13r3 (by assumption) ?re13r3
          case hi13r3 => simp only [List.getElem?_toArray, List.getElem?_cons_succ, List.getElem?_cons_zero]; rfl
          case hq13r3 => exact fun _ _ _ h => h
          case hy13r3 =>
            refine Or.inl ⟨by rfl, ?_⟩
            intro w hSw; (try dsimp only at hSw); go_simp; try with_reducible rfl
          try simp only [Act.put, List.setIfInBounds_toArray, List.set_cons_zero, List.set_cons_succ]
          refine' wpAnyH_take (i := 14) (oi := _) (v := _) ?hi14r3 (by kernel_rfl) (by kernel_rfl) (by kernel_rfl) ?hq14r3 ?hy14r3 (by assumption) ?re14r3
          case hi14r3 => simp only [List.getElem?_toArray, List.getElem?_cons_succ, List.getElem?_cons_zero]; rfl
          case hq14r3 => exact fun _ _ _ h => h
          case hy14r3 =>
            refine Or.inl ⟨by rfl, ?_⟩
            intro w hSw; (try dsimp only at hSw); go_simp; try with_reducible rfl
          try simp only [Act.put, List.setIfInBounds_toArray, List.set_cons_zero, List.set_cons_succ]
          refine' wpAnyH_take (i := 15) (oi := _) (v := undef) ?hi15r3 (by kernel_rfl) (by kernel_rfl) (by kernel_rfl) ?hq15r3 ?hy15r3 (by assumption) ?re15r3
          case hi15r3 => simp only [List.getElem?_toArray, List.getElem?_cons_succ, List.getElem?_cons_zero]; rfl
          case hq15r3 => exact fun _ _ _ h => h
          case hy15r3 => exact Or.inr ⟨by rfl, rfl⟩
          try simp only [Act.put, List.setIfInBounds_toArray, List.set_cons_zero, List.set_cons_succ]
          refine' wpAnyH_take (i := 16) (oi := _) (v := undef) ?hi16r3 (by kernel_rfl) (by kernel_rfl) (by kernel_rfl) ?hq16r3 ?hy16r3 (by assumption) ?re16r3
          case hi16r3 => simp only [List.getElem?_toArray, List.getElem?_cons_succ, List.getElem?_cons_zero]; rfl
          case hq16r3 => exact fun _ _ _ h => h
          case hy16r3 => exact Or.inr ⟨by rfl, rfl⟩
          try simp only [Act.put, List.setIfInBounds_toArray, List.set_cons_zero, List.set_cons_succ]
          refine' wpAnyH_take (i := 17) (oi := _) (v := undef) ?hi17r3 (by kernel_rfl) (by kernel_rfl) (by kernel_rfl) ?hq17r3 ?hy17r3 (by assumption) ?re17r3
          case hi17r3 => simp only [List.getElem?_toArray, List.getElem?_cons_succ, List.getElem?_cons_zero]; rfl
          case hq17r3 => exact fun _ _ _ h => h
          case hy17r3 => exact Or.inr ⟨by rfl, rfl⟩
          try simp only [Act.put, List.setIfInBounds_toArray, List.set_cons_zero, List.set_cons_succ]
          refine' wpAnyH_take (i := 18) (oi := _) (v := undef) ?hi18r3 (by kernel_rfl) (by kernel_rfl) (by kernel_rfl) ?hq18r3 ?hy18r3 (by assumption) ?re18r3
          case hi18r3 => simp only [List.getElem?_toArray, List.getElem?_cons_succ, List.getElem?_cons_zero]; rfl
          case hq18r3 => exact fun _ _ _ h => h
          case hy18r3 => exact Or.inr ⟨by rfl, rfl⟩
          try simp only [Act.put, List.setIfInBounds_toArray, List.set_cons_zero, List.set_cons_succ]
          refine' wpAnyH_take (i := 19) (oi := _) (v := undef) ?hi19r3 (by kernel_rfl) (by kernel_rfl) (by kernel_rfl) ?hq19r3 ?hy19r3 (by assumption) ?re19r3
          case hi19r3 => simp only [List.getElem?_toArray, List.getElem?_cons_succ, List.getElem?_cons_zero]; rfl
          case hq19r3 => exact fun _ _ _ h => h
          case hy19r3 => exact Or.inr ⟨by rfl, rfl⟩
          try simp only [Act.put, List.setIfInBounds_toArray, List.set_cons_zero, List.set_cons_succ]
          refine' wpAnyH_take (i := 20) (oi := _) (v := undef) ?hi20r3 (by kernel_rfl) (by kernel_rfl) (by kernel_rfl) ?hq20r3 ?hy20r3 (by assumption) ?re20r3
          case hi20r3 => simp only [List.getElem?_toArray, List.getElem?_cons_succ, List.getElem?_cons_zero]; rfl
          case hq20r3 => exact fun _ _ _ h => h
          case hy20r3 => exact Or.inr ⟨by rfl, rfl⟩
          try simp only [Act.put, List.setIfInBounds_toArray, List.set_cons_zero, List.set_cons_succ]
          refine' wpAnyH_take (i := 21) (oi := _) (v := undef) ?hi21r3 (by kernel_rfl) (by kernel_rfl) (by kernel_rfl) ?hq21r3 ?hy21r3 (by assumption) ?re21r3
          case hi21r3 => simp only [List.getElem?_toArray, List.getElem?_cons_succ, List.getElem?_cons_zero]; rfl
          case hq21r3 => exact fun _ _ _ h => h
          case hy21r3 => exact Or.inr ⟨by rfl, rfl⟩
          try simp only [Act.put, List.setIfInBounds_toArray, List.set_cons_zero, List.set_cons_succ]
          refine' wpAnyH_take (i := 22) (oi := _) (v := undef) ?hi22r3 (by kernel_rfl) (by kernel_rfl) (by kernel_rfl) ?hq22r3 ?hy22r3 (by assumption) ?re22r3
          case hi22r3 => simp only [List.getElem?_toArray, List.getElem?_cons_succ, List.getElem?_cons_zero]; rfl
          case hq22r3 => exact fun _ _ _ h => h
          case hy22r3 => exact Or.inr ⟨by rfl, rfl⟩
          try simp only [Act.put, List.setIfInBounds_toArray, List.set_cons_zero, List.set_cons_succ]
          refine' wpAnyH_take (i := 23) (oi := _) (v := undef) ?hi23r3 (by kernel_rfl) (by kernel_rfl) (by kernel_rfl) ?hq23r3 ?hy23r3 (by assumption) ?re23r3
          case hi23r3 => simp only [List.getElem?_toArray, List.getElem?_cons_succ, List.getElem?_cons_zero]; rfl
          case hq23r3 => exact fun _ _ _ h => h
          case hy23r3 => exact Or.inr ⟨by rfl, rfl⟩
          try simp only [Act.put, List.setIfInBounds_toArray, List.set_cons_zero, List.set_cons_succ]
          refine' wpAnyH_take (i := 24) (oi := _) (v := _) ?hi24r3 (by kernel_rfl) (by kernel_rfl) (by kernel_rfl) ?hq24r3 ?hy24r3 (by assumption) ?re24r3
          case hi24r3 => simp only [List.getElem?_toArray, List.getElem?_cons_succ, List.getElem?_cons_zero]; rfl
          case hq24r3 => exact fun _ _ _ h => h
          case hy24r3 =>
            refine Or.inl ⟨by rfl, ?_⟩
            intro w hSw; (try dsimp only at hSw); go_simp; try with_reducible rfl
          try simp only [Act.put, List.setIfInBounds_toArray, List.set_cons_zero, List.set_cons_succ]
          refine' wpAnyH_take (i := 25) (oi := _) (v := _) ?hi25r3 (by kernel_rfl) (by kernel_rfl) (by kernel_rfl) ?hq25r3 ?hy25r3 (by assumption) ?re25r3
          case hi25r3 => simp only [List.getElem?_toArray, List.getElem?_cons_succ, List.getElem?_cons_zero]; rfl
          case hq25r3 => exact fun _ _ _ h => h
          case hy25r3 =>
            refine Or.inl ⟨by rfl, ?_⟩
            intro w hSw; (try dsimp only at hSw); go_simp; try with_reducible rfl
          try simp only [Act.put, List.setIfInBounds_toArray, List.set_cons_zero, List.set_cons_succ]
          refine wpAnyH_ready (rs := [26]) (by kernel_rfl) (by simp) ?_
          refine' AllReadyH.cons (o := _) ?hi26r3 (fun K hK => ?st26r3) AllReadyH.nil
          case hi26r3 => simp only [List.getElem?_toArray, List.getElem?_cons_succ, List.getElem?_cons_zero]; rfl
          go_simp
          go_at_call 11; refine (HW.out _ hHeld).mono ?_; rintro e w8 ⟨rfl, c8⟩; have k8 := hHeld.trans (c8.mono hHeld.size)
          try go_wp2_with fail
          refine hK.out _ _ ?_ (fun hHeld => ?_)
          · exact k8
          clear hK K
          try simp only [Act.put, List.setIfInBounds_toArray, List.set_cons_zero, List.set_cons_succ]
          refine' wpAnyH_take (i := 27) (oi := _) (v := _) ?hi27r3 (by kernel_rfl) (by kernel_rfl) (by kernel_rfl) ?hq27r3 ?hy27r3 (by assumption) ?re27r3
          case hi27r3 => simp only [List.getElem?_toArray, List.getElem?_cons_succ, List.getElem?_cons_zero]; rfl
          case hq27r3 => exact fun _ _ _ h => h
          case hy27r3 =>
            refine Or.inl ⟨by rfl, ?_⟩
            intro w hSw; (try dsimp only at hSw); go_simp; try with_reducible rfl
          try simp only [Act.put, List.setIfInBounds_toArray, List.set_cons_zero, List.set_cons_succ]
          refine' wpAnyH_take (i := 28) (oi := _) (v := _) ?hi28r3 (by kernel_rfl) (by kernel_rfl) (by kernel_rfl) ?hq28r3 ?hy28r3 (by assumption) ?re28r3
          case hi28r3 => simp only [List.getElem?_toArray, List.getElem?_cons_succ, List.getElem?_cons_zero]; rfl
          case hq28r3 => exact fun _ _ _ h => h
          case hy28r3 =>
            refine Or.inl ⟨by rfl, ?_⟩
            intro w hSw; (try dsimp only at hSw); go_simp; try with_reducible rfl
          try simp only [Act.put, List.setIfInBounds_toArray, List.set_cons_zero, List.set_cons_succ]
          refine wpAnyH_done (by kernel_rfl) ?_ _
          go_wp2_with fail
          go_ret
          exact ⟨rfl, k8⟩

  · subst hLM
    obtain rfl : len = len' := HLN.out.symm.trans HLN'.out
    have C6 := Lib.hid B6.out
    have hk1d : decide ((len : Int) < (len : Int)) = false := decide_eq_false (by omega)
    clear HD B6
    go_wp2_with fail
    go_loopw [13] (fun i wr => ∃ n : Nat, n ≤ len ∧ i = .int .i64 n ∧ Below w.heap.size w wr) (fun i _ => len - (intOf i).toNat)
    case atStart => exact ⟨0, Nat.zero_le _, rfl, C6.out⟩
    case round =>
      obtain ⟨n, hn, rfl, hb⟩ := hrel
      have Hb := Lib.hid hb
      clear hb
      by_cases hnk : n < len
      · have hki : (n : Int) < (len : Int) := by omega
        have hn0 : decide ((n : Int) < (len : Int)) = true := decide_eq_true (by omega)
        have hn1 : (n : Int) < (len : Int) := by omega
        obtain ⟨a, ha⟩ : ∃ a, L[n]? = some a := ⟨_, List.getElem?_eq_getElem (by rw [HLN.out]; omega)⟩
        have hbb : L[n]? = some a := ha
        obtain ⟨g, off, rfl, lt, hc⟩ := (HL.out.below Hb.out).2 (by omega)
        obtain ⟨g', off', rfl, lt', hc'⟩ := (HL'.out.below Hb.out).2 (by omega)
        have heq := fun W => (eqEv a a W).trans (by rw [Lx.evEq_self])
        obtain ⟨ak, at', aj, ad1, aa, ar, ay, an⟩ := a
        have p0 : wr.cell? ⟨g, off + n * 8, none⟩ = some (.int .i64 ak) := hc n _ ha 0 _ rfl
        have p1 : wr.cell? ⟨g, off + n * 8 + 1, none⟩ = some (.int .i64 at') := hc n _ ha 1 _ rfl
        have p2 : wr.cell? ⟨g, off + n * 8 + 2, none⟩ = some (.int .i64 aj) := hc n _ ha 2 _ rfl
        have p3 : wr.cell? ⟨g, off + n * 8 + 3, none⟩ = some (.int .i64 ad1) := hc n _ ha 3 _ rfl
        have p4 : wr.cell? ⟨g, off + n * 8 + 4, none⟩ = some (.int .i64 aa) := hc n _ ha 4 _ rfl
        have p5 : wr.cell? ⟨g, off + n * 8 + 5, none⟩ = some (.int .i64 ar) := hc n _ ha 5 _ rfl
        have p6 : wr.cell? ⟨g, off + n * 8 + 6, none⟩ = some (.int .i64 ay) := hc n _ ha 6 _ rfl
        have p7 : wr.cell? ⟨g, off + n * 8 + 7, none⟩ = some (.int .i64 an) := hc n _ ha 7 _ rfl
        have q0 : wr.cell? ⟨g', off' + n * 8, none⟩ = some (.int .i64 ak) := hc' n _ hbb 0 _ rfl
        have q1 : wr.cell? ⟨g', off' + n * 8 + 1, none⟩ = some (.int .i64 at') := hc' n _ hbb 1 _ rfl
        have q2 : wr.cell? ⟨g', off' + n * 8 + 2, none⟩ = some (.int .i64 aj) := hc' n _ hbb 2 _ rfl
        have q3 : wr.cell? ⟨g', off' + n * 8 + 3, none⟩ = some (.int .i64 ad1) := hc' n _ hbb 3 _ rfl
        have q4 : wr.cell? ⟨g', off' + n * 8 + 4, none⟩ = some (.int .i64 aa) := hc' n _ hbb 4 _ rfl
        have q5 : wr.cell? ⟨g', off' + n * 8 + 5, none⟩ = some (.int .i64 ar) := hc' n _ hbb 5 _ rfl
        have q6 : wr.cell? ⟨g', off' + n * 8 + 6, none⟩ = some (.int .i64 ay) := hc' n _ hbb 6 _ rfl
        have q7 : wr.cell? ⟨g', off' + n * 8 + 7, none⟩ = some (.int .i64 an) := hc' n _ hbb 7 _ rfl
        unfold Lx.EvV.val at heq
        dsimp only at heq
        clear hc hc' ha hbb
        go_wp2_with fail
        go_quiet (fail)
        go_wp2_with fail
        go_roundw
        case rel => exact ⟨n + 1, by omega, by go_num, Hb.out.trans (below_drewN _ _ _)⟩
        case measure => simp [intOf]; omega
      · obtain rfl : n = len := by omega
        have hki : ¬ (n : Int) < (n : Int) := by omega
        have hS0 : (fun wx => Below w.heap.size w wx) wr.drew := Hb.out.drew
        dsimp only at hS0
        go_wp2_with fail
        refine wp_region_held_drew (S := (fun wx => Below w.heap.size w wx)) (by kernel_rfl) ?_ (fun hHeld => ?_)
        · exact hS0
        refine' wpAnyH_take (i := 0) (oi := _) (v := _) ?hi0r4 (by kernel_rfl) (by kernel_rfl) (by kernel_rfl) ?hq0r4 ?hy0r4 (by assumption) ?re0r4
        case hi0r4 => simp only [List.getElem?_toArray, List.getElem?_cons_zero]; rfl
        case hq0r4 => exact fun _ _ _ h => h
        case hy0r4 =>
          refine Or.inl ⟨by rfl, ?_⟩
          intro w hSw; (try dsimp only at hSw); go_simp; try with_reducible rfl
        try simp only [Act.put, List.setIfInBounds_toArray, List.set_cons_zero, List.set_cons_succ]
        refine' wpAnyH_take (i := 1) (oi := _) (v := _) ?hi1r4 (by kernel_rfl) (by kernel_rfl) (by kernel_rfl) ?hq1r4 ?hy1r4 (by assumption) ?re1r4
        case hi1r4 => simp only [List.getElem?_toArray, List.getElem?_cons_succ, List.getElem?_cons_zero]; rfl
        case hq1r4 => exact fun _ _ _ h => h
        case hy1r4 =>
          refine Or.inl ⟨by rfl, ?_⟩
          intro w hSw; (try dsimp only at hSw); go_simp; try with_reducible rfl
        try simp only [Act.put, List.setIfInBounds_toArray, List.set_cons_zero, List.set_cons_succ]
        refine' wpAnyH_take (i := 2) (oi := _) (v := _) ?hi2r4 (by kernel_rfl) (by kernel_rfl) (by kernel_rfl) ?hq2r4 ?hy2r4 (by assumption) ?re2r4
        case hi2r4 => simp only [List.getElem?_toArray, List.getElem?_cons_succ, List.getElem?_cons_zero]; rfl
        case hq2r4 => exact fun _ _ _ h => h
        case hy2r4 =>
          refine Or.inl ⟨by rfl, ?_⟩
          intro w hSw; (try dsimp only at hSw); go_simp; try with_reducible rfl
        try simp only [Act.put, List.setIfInBounds_toArray, List.set_cons_zero, List.set_cons_succ]
        refine' wpAnyH_take (i := 3) (oi := _) (v := undef) ?hi3r4 (by kernel_rfl) (by kernel_rfl) (by kernel_rfl) ?hq3r4 ?hy3r4 (by assumption) ?re3r4
        case hi3r4 => simp only [List.getElem?_toArray, List.getElem?_cons_succ, List.getElem?_cons_zero]; rfl
        case hq3r4 => exact fun _ _ _ h => h
        case hy3r4 => exact Or.inr ⟨by rfl, rfl⟩
        try simp only [Act.put, List.setIfInBounds_toArray, List.set_cons_zero, List.set_cons_succ]
        refine' wpAnyH_take (i := 4) (oi := _) (v := undef) ?hi4r4 (by kernel_rfl) (by kernel_rfl) (by kernel_rfl) ?hq4r4 ?hy4r4 (by assumption) ?re4r4
        case hi4r4 => simp only [List.getElem?_toArray, List.getElem?_cons_succ, List.getElem?_cons_zero]; rfl
        case hq4r4 => exact fun _ _ _ h => h
        case hy4r4 => exact Or.inr ⟨by rfl, rfl⟩
        try simp only [Act.put, List.setIfInBounds_toArray, List.set_cons_zero, List.set_cons_succ]
        refine' wpAnyH_take (i := 5) (oi := _) (v := undef) ?hi5r4 (by kernel_rfl) (by kernel_rfl) (by kernel_rfl) ?hq5r4 ?hy5r4 (by assumption) ?re5r4
        case hi5r4 => simp only [List.getElem?_toArray, List.getElem?_cons_succ, List.getElem?_cons_zero]; rfl
        case hq5r4 => exact fun _ _ _ h => h
        case hy5r4 => exact Or.inr ⟨by rfl, rfl⟩
        try simp only [Act.put, List.setIfInBounds_toArray, List.set_cons_zero, List.set_cons_succ]
        refine' wpAnyH_take (i := 6) (oi := _) (v := undef) ?hi6r4 (by kernel_rfl) (by kernel_rfl) (by kernel_rfl) ?hq6r4 ?hy6r4 (by assumption) ?re6r4
        case hi6r4 => simp only [List.getElem?_toArray, List.getElem?_cons_succ, List.getElem?_cons_zero]; rfl
        case hq6r4 => exact fun _ _ _ h => h
        case hy6r4 => exact Or.inr ⟨by rfl, rfl⟩
        try simp only [Act.put, List.setIfInBounds_toArray, List.set_cons_zero, List.set_cons_succ]
        refine' wpAnyH_take (i := 7) (oi := _) (v := _) ?hi7r4 (by kernel_rfl) (by kernel_rfl) (by kernel_rfl) ?hq7r4 ?hy7r4 (by assumption) ?re7r4
        case hi7r4 => simp only [List.getElem?_toArray, List.getElem?_cons_succ, List.getElem?_cons_zero]; rfl
        case hq7r4 => exact fun _ _ _ h => h
        case hy7r4 =>
          refine Or.inl ⟨by rfl, ?_⟩
          intro w hSw; (try dsimp only at hSw); go_simp; try with_reducible rfl
        try simp only [Act.put, List.setIfInBounds_toArray, List.set_cons_zero, List.set_cons_succ]
        refine' wpAnyH_take (i := 8) (oi := _) (v := _) ?hi8r4 (by kernel_rfl) (by kernel_rfl) (by kernel_rfl) ?hq8r4 ?hy8r4 (by assumption) ?re8r4
        case hi8r4 => simp only [List.getElem?_toArray, List.getElem?_cons_succ, List.getElem?_cons_zero]; rfl
        case hq8r4 => exact fun _ _ _ h => h
        case hy8r4 =>
          refine Or.inl ⟨by rfl, ?_⟩
          intro w hSw; (try dsimp only at hSw); go_simp; try with_reducible rfl
        try simp only [Act.put, List.setIfInBounds_toArray, List.set_cons_zero, List.set_cons_succ]
        refine' wpAnyH_take (i := 9) (oi := _) (v := undef) ?hi9r4 (by kernel_rfl) (by kernel_rfl) (by kernel_rfl) ?hq9r4 ?hy9r4 (by assumption) ?re9r4
        case hi9r4 => simp only [List.getElem?_toArray, List.getElem?_cons_succ, List.getElem?_cons_zero]; rfl
        case hq9r4 => exact fun _ _ _ h => h
        case hy9r4 => exact Or.inr ⟨by rfl, rfl⟩
        try simp only [Act.put, List.setIfInBounds_toArray, List.set_cons_zero, List.set_cons_succ]
        refine' wpAnyH_take (i := 10) (oi := _) (v := undef) ?hi10r4 (by kernel_rfl) (by kernel_rfl) (by kernel_rfl) ?hq10r4 ?hy10r4 (by assumption) ?re10r4
        case hi10r4 => simp only [List.getElem?_toArray, List.getElem?_cons_succ, List.getElem?_cons_zero]; rfl
        case hq10r4 => exact fun _ _ _ h => h
        case hy10r4 => exact Or.inr ⟨by rfl, rfl⟩
        try simp only [Act.put, List.setIfInBounds_toArray, List.set_cons_zero, List.set_cons_succ]
        refine' wpAnyH_take (i := 11) (oi := _) (v := undef) ?hi11r4 (by kernel_rfl) (by kernel_rfl) (by kernel_rfl) ?hq11r4 ?hy11r4 (by assumption) ?re11r4
        case hi11r4 => simp only [List.getElem?_toArray, List.getElem?_cons_succ, List.getElem?_cons_zero]; rfl
        case hq11r4 => exact fun _ _ _ h => h
        case hy11r4 => exact Or.inr ⟨by rfl, rfl⟩
        try simp only [Act.put, List.setIfInBounds_toArray, List.set_cons_zero, List.set_cons_succ]
        refine' wpAnyH_take (i := 12) (oi := _) (v := undef) ?hi12r4 (by kernel_rfl) (by kernel_rfl) (by kernel_rfl) ?hq12r4 ?hy12r4 (by assumption) ?re12r4
        case hi12r4 => simp only [List.getElem?_toArray, List.getElem?_cons_succ, List.getElem?_cons_zero]; rfl
        case hq12r4 => exact fun _ _ _ h => h
        case hy12r4 => exact Or.inr ⟨by rfl, rfl⟩
        try simp only [Act.put, List.setIfInBounds_toArray, List.set_cons_zero, List.set_cons_succ]
        refine' wpAnyH_take (i := 13) (oi := _) (v := _) ?hi13r4 (by kernel_rfl) (by kernel_rfl) (by kernel_rfl) ?hq13r4 ?hy13r4 (by assumption) ?re13r4
        case hi13r4 => simp only [List.getElem?_toArray, List.getElem?_cons_succ, List.getElem?_cons_zero]; rfl
        case hq13r4 => exact fun _ _ _ h => h
        case hy13r4 =>
          refine Or.inl ⟨by rfl, ?_⟩
          intro w hSw; (try dsimp only at hSw); go_simp; try with_reducible rfl
        try simp only [Act.put, List.setIfInBounds_toArray, List.set_cons_zero, List.set_cons_succ]
        refine' wpAnyH_take (i := 14) (oi := _) (v := _) ?hi14r4 (by kernel_rfl) (by kernel_rfl) (by kernel_rfl) ?hq14r4 ?hy14r4 (by assumption) ?re14r4
        case hi14r4 => simp only [List.getElem?_toArray, List.getElem?_cons_succ, List.getElem?_cons_zero]; rfl
        case hq14r4 => exact fun _ _ _ h => h
        case hy14r4 =>
          refine Or.inl ⟨by rfl, ?_⟩
          intro w hSw; (try dsimp only at hSw); go_simp; try with_reducible rfl
        try simp only [Act.put, List.setIfInBounds_toArray, List.set_cons_zero, List.set_cons_succ]
        refine' wpAnyH_take (i := 15) (oi := _) (v := undef) ?hi15r4 (by kernel_rfl) (by kernel_rfl) (by kernel_rfl) ?hq15r4 ?hy15r4 (by assumption) ?re15r4
        case hi15r4 => simp only [List.getElem?_toArray, List.getElem?_cons_succ, List.getElem?_cons_zero]; rfl
        case hq15r4 => exact fun _ _ _ h => h
        case hy15r4 => exact Or.inr ⟨by rfl, rfl⟩
        try simp only [Act.put, List.setIfInBounds_toArray, List.set_cons_zero, List.set_cons_succ]
        refine' wpAnyH_take (i := 16) (oi := _) (v := undef) ?hi16r4 (by kernel_rfl) (by kernel_rfl) (by kernel_rfl) ?hq16r4 ?hy16r4 (by assumption) ?re16r4
        case hi16r4 => simp only [List.getElem?_toArray, List.getElem?_cons_succ, List.getElem?_cons_zero]; rfl
        case hq16r4 => exact fun _ _ _ h => h
        case hy16r4 => exact Or.inr ⟨by rfl, rfl⟩
        try simp only [Act.put, List.setIfInBounds_toArray, List.set_cons_zero, List.set_cons_succ]
        refine' wpAnyH_take (i := 17) (oi := _) (v := undef) ?hi17r4 (by kernel_rfl) (by kernel_rfl) (by kernel_rfl) ?hq17r4 ?hy17r4 (by assumption) ?re17r4
        case hi17r4 => simp only [List.getElem?_toArray, List.getElem?_cons_succ, List.getElem?_cons_zero]; rfl
        case hq17r4 => exact fun _ _ _ h => h
        case hy17r4 => exact Or.inr ⟨by rfl, rfl⟩
        try simp only [Act.put, List.setIfInBounds_toArray, List.set_cons_zero, List.set_cons_succ]
        refine' wpAnyH_take (i := 18) (oi := _) (v := undef) ?hi18r4 (by kernel_rfl) (by kernel_rfl) (by kernel_rfl) ?hq18r4 ?hy18r4 (by assumption) ?re18r4
        case hi18r4 => simp only [List.getElem?_toArray, List.getElem?_cons_succ, List.getElem?_cons_zero]; rfl
        case hq18r4 => exact fun _ _ _ h => h
        case hy18r4 => exact Or.inr ⟨by rfl, rfl⟩
        try simp only [Act.put, List.setIfInBounds_toArray, List.set_cons_zero, List.set_cons_succ]
        refine' wpAnyH_take (i := 19) (oi := _) (v := undef) ?hi19r4 (by kernel_rfl) (by kernel_rfl) (by kernel_rfl) ?hq19r4 ?hy19r4 (by assumption) ?re19r4
        case hi19r4 => simp only [List.getElem?_toArray, List.getElem?_cons_succ, List.getElem?_cons_zero]; rfl
        case hq19r4 => exact fun _ _ _ h => h
        case hy19r4 => exact Or.inr ⟨by rfl, rfl⟩
        try simp only [Act.put, List.setIfInBounds_toArray, List.set_cons_zero, List.set_cons_succ]
        refine' wpAnyH_take (i := 20) (oi := _) (v := undef) ?hi20r4 (by kernel_rfl) (by kernel_rfl) (by kernel_rfl) ?hq20r4 ?hy20r4 (by assumption) ?re20r4
        case hi20r4 => simp only [List.getElem?_toArray, List.getElem?_cons_succ, List.getElem?_cons_zero]; rfl
        case hq20r4 => exact fun _ _ _ h => h
        case hy20r4 => exact Or.inr ⟨by rfl, rfl⟩
        try simp only [Act.put, List.setIfInBounds_toArray, List.set_cons_zero, List.set_cons_succ]
        refine' wpAnyH_take (i := 21) (oi := _) (v := undef) ?hi21r4 (by kernel_rfl) (by kernel_rfl) (by kernel_rfl) ?hq21r4 ?hy21r4 (by assumption) ?re21r4
        case hi21r4 => simp only [List.getElem?_toArray, List.getElem?_cons_succ, List.getElem?_cons_zero]; rfl
        case hq21r4 => exact fun _ _ _ h => h
        case hy21r4 => exact Or.inr ⟨by rfl, rfl⟩
        try simp only [Act.put, List.setIfInBounds_toArray, List.set_cons_zero, List.set_cons_succ]
        refine' wpAnyH_take (i := 22) (oi := _) (v := undef) ?hi22r4 (by kernel_rfl) (by kernel_rfl) (by kernel_rfl) ?hq22r4 ?hy22r4 (by assumption) ?re22r4
        case hi22r4 => simp only [List.getElem?_toArray, List.getElem?_cons_succ, List.getElem?_cons_zero]; rfl
        case hq22r4 => exact fun _ _ _ h => h
        case hy22r4 => exact Or.inr ⟨by rfl, rfl⟩
        try simp only [Act.put, List.setIfInBounds_toArray, List.set_cons_zero, List.set_cons_succ]
        refine' wpAnyH_take (i := 23) (oi := _) (v := undef) ?hi23r4 (by kernel_rfl) (by kernel_rfl) (by kernel_rfl) ?hq23r4 ?hy23r4 (by assumption) ?re23r4
        case hi23r4 => simp only [List.getElem?_toArray, List.getElem?_cons_succ, List.getElem?_cons_zero]; rfl
        case hq23r4 => exact fun _ _ _ h => h
        case hy23r4 => exact Or.inr ⟨by rfl, rfl⟩
        try simp only [Act.put, List.setIfInBounds_toArray, List.set_cons_zero, List.set_cons_succ]
        refine' wpAnyH_take (i := 24) (oi := _) (v := _) ?hi24r4 (by kernel_rfl) (by kernel_rfl) (by kernel_rfl) ?hq24r4 ?hy24r4 (by assumption) ?re24r4
        case hi24r4 => simp only [List.getElem?_toArray, List.getElem?_cons_succ, List.getElem?_cons_zero]; rfl
        case hq24r4 => exact fun _ _ _ h => h
        case hy24r4 =>
          refine Or.inl ⟨by rfl, ?_⟩
          intro w hSw; (try dsimp only at hSw); go_simp; try with_reducible rfl
        try simp only [Act.put, List.setIfInBounds_toArray, List.set_cons_zero, List.set_cons_succ]
        refine' wpAnyH_take (i := 25) (oi := _) (v := _) ?hi25r4 (by kernel_rfl) (by kernel_rfl) (by kernel_rfl) ?hq25r4 ?hy25r4 (by assumption) ?re25r4
        case hi25r4 => simp only [List.getElem?_toArray, List.getElem?_cons_succ, List.getElem?_cons_zero]; rfl
        case hq25r4 => exact fun _ _ _ h => h
        case hy25r4 =>
          refine Or.inl ⟨by rfl, ?_⟩
          intro w hSw; (try dsimp only at hSw); go_simp; try with_reducible rfl
        try simp only [Act.put, List.setIfInBounds_toArray, List.set_cons_zero, List.set_cons_succ]
        refine wpAnyH_ready (rs := [26]) (by kernel_rfl) (by simp) ?_
        refine' AllReadyH.cons (o := _) ?hi26r4 (fun K hK => ?st26r4) AllReadyH.nil
        case hi26r4 => simp only [List.getElem?_toArray, List.getElem?_cons_succ, List.getElem?_cons_zero]; rfl
        go_simp
        go_at_call 11; refine (HW.out _ hHeld).mono ?_; rintro e w8 ⟨rfl, c8⟩; have k8 := hHeld.trans (c8.mono hHeld.size)
        try go_wp2_with fail
        refine hK.out _ _ ?_ (fun hHeld => ?_)
        · exact k8
        clear hK K
        try simp only [Act.put, List.setIfInBounds_toArray, List.set_cons_zero, List.set_cons_succ]
        refine' wpAnyH_take (i := 27) (oi := _) (v := _) ?hi27r4 (by kernel_rfl) (by kernel_rfl) (by kernel_rfl) ?hq27r4 ?hy27r4 (by assumption) ?re27r4
        case hi27r4 => simp only [List.getElem?_toArray, List.getElem?_cons_succ, List.getElem?_cons_zero]; rfl
        case hq27r4 => exact fun _ _ _ h => h
        case hy27r4 =>
          refine Or.inl ⟨by rfl, ?_⟩
          intro w hSw; (try dsimp only at hSw); go_simp; try with_reducible rfl
        try simp only [Act.put, List.setIfInBounds_toArray, List.set_cons_zero, List.set_cons_succ]
        refine' wpAnyH_take (i := 28) (oi := _) (v := _) ?hi28r4 (by kernel_rfl) (by kernel_rfl) (by kernel_rfl) ?hq28r4 ?hy28r4 (by assumption) ?re28r4
        case hi28r4 => simp only [List.getElem?_toArray, List.getElem?_cons_succ, List.getElem?_cons_zero]; rfl
        case hq28r4 => exact fun _ _ _ h => h
        case hy28r4 =>
          refine Or.inl ⟨by rfl, ?_⟩
          intro w hSw; (try dsimp only at hSw); go_simp; try with_reducible rfl
        try simp only [Act.put, List.setIfInBounds_toArray, List.set_cons_zero, List.set_cons_succ]
        refine wpAnyH_done (by kernel_rfl) ?_ _
        go_wp2_with fail
        go_ret
        exact ⟨rfl, k8⟩

set_option maxRecDepth 100000 in
/-- What the walk gives, for every argument that can be read. -/
theorem contract (H : Type) (enc : TypeId × Value → H) (W : World) (base : Nat) (args : Array Value) (ds gs : List (DataW H)) (before : List MemPlace)
    (hval : ∀ (j : Nat) t v, Tryd.f7.params[j]? = some t → args[j]? = some v → Value.okWide Tryd.prog W .any base t v)
    (hW : DataW.Whole enc Tryd.prog Tryd.f7.params.toList Rows.eventSameSpec.vars false W args.toList ds gs before) (hsz : (DataW.weightsEach Tryd.prog (Tryd.f7.params.toList ++ (OpenSpec.ofChange Rows.eventSameSpec).bare.plain.varTypes Tryd.prog) (ds ++ gs)).all (· ≤ reachBytes) = true) (hL : laidMetH Tryd.prog Rows.eventSameRow.laid W) (hsh : W.ShapedOpen Tryd.prog) :
    Calls Tryd.prog 7 args W fun e W' => ∃ v, e = .returned v ∧ Rows.eventSameSpec.post enc Tryd.prog Tryd.f7 false true false false W args v W' := by
  have hW' := hW
  obtain ⟨p, q, hA0, hV, rfl, hfz, hnd⟩ := hW
  have hA : DataW.TrodAll enc Tryd.prog W 0 (fun _ => true) true Tryd.f7.params.toList args.toList ds p := hA0
  rw [Tryd.params7] at hA hval
  obtain ⟨v0, vs0, d0, ds0, p0, q0, hargs, rfl, rfl, h0, r0⟩ := trodAll_cons hA
  obtain ⟨v1, vs1, d1, ds1, p1, q1, rfl, rfl, rfl, h1, r1⟩ := trodAll_cons r0
  obtain ⟨rfl, rfl, rfl⟩ := trodAll_nil r1
  obtain rfl : args = #[v0, v1] := by cases args; simp_all
  obtain ⟨rfl, rfl⟩ := trodVars_none hV
  obtain ⟨a0, len0, cap0, rfl⟩ := okWide_slice Tryd.underlying36 (hval 0 36 v0 rfl rfl)
  have k0 := h0
  have lt0 : ∀ x ∈ p0, x.block < W.heap.size := by obtain ⟨m, hm⟩ := k0; exact DataW.trod_lt m _ _ _ hm
  obtain ⟨⟨L0, z0⟩, n0⟩ : (∃ L, EvsIn W a0 len0 L) ∧ (a0 = none → cap0 = 0) := by
    obtain ⟨fuel, hf⟩ := h0
    exact evsIn_of hf
  obtain ⟨a1, len1, cap1, rfl⟩ := okWide_slice Tryd.underlying36 (hval 1 36 v1 rfl rfl)
  have k1 := h1
  have lt1 : ∀ x ∈ p1, x.block < W.heap.size := by obtain ⟨m, hm⟩ := k1; exact DataW.trod_lt m _ _ _ hm
  obtain ⟨⟨L1, z1⟩, n1⟩ : (∃ L, EvsIn W a1 len1 L) ∧ (a1 = none → cap1 = 0) := by
    obtain ⟨fuel, hf⟩ := h1
    exact evsIn_of hf
  clear hA0
  refine (walk W a0 len0 cap0 L0 z0 n0 a1 len1 cap1 L1 z1 n1 (env_of hL hsh)).mono fun e W' ⟨he, bel⟩ => ?_
  subst he
  exact ⟨_, rfl, _, _, _, [], _, [], hW', trodAll_mk1 (shut_bool Tryd.underlying4 _), (trodAll_cons_mk (Below.trod laidOut (by kernel_rfl) (of_decide_eq_true (by kernel_rfl)) k0 bel lt0) (trodAll_cons_mk (Below.trod laidOut (by kernel_rfl) (of_decide_eq_true (by kernel_rfl)) k1 bel lt1) trodAll_mk0)), rfl, bel.frame _, fun h => by cases h⟩

set_option maxRecDepth 100000 in
theorem reads (os : Os) {H : Type} (enc : TypeId × Value → H) : ∃ places, DataW.whole enc Tryd.prog ((World.laidAll Tryd.prog os Rows.eventOnesRow.laid).forCall (fun _ _ => 0) ⟨#[], #[.slice none 0 0, .slice none 0 0], []⟩).memory Tryd.f7.params.toList Rows.eventSameSpec.vars false (#[.slice none 0 0, .slice none 0 0] : Array Value).toList 8 = some ([.nil, .nil], [], places) :=
  ⟨[], by kernel_rfl⟩

set_option maxRecDepth 100000 in
theorem lifted (os : Os) (started : os.Started) (H : Type) (enc : TypeId × Value → H) (F : Stop.Interp) :
    ReturnsInHanded {} Tryd.checked os 7 .any ((OpenSpec.ofChange Rows.eventSameSpec).preRow enc Tryd.prog Tryd.f7 Rows.eventSameRow.domain false Rows.eventSameRow.laid) (((OpenSpec.ofChange Rows.eventSameSpec).at F).post enc Tryd.prog Tryd.f7 false true false false) := by
  obtain ⟨places, hx⟩ := reads os enc
  refine returnsInHanded_of_row (C := Tryd.checked) (s := OpenSpec.ofChange Rows.eventSameSpec) own started (by kernel_rfl) Tryd.func7
    (witness_row_atRef (enc := enc) (C := Tryd.checked) false (World.laidAll Tryd.prog os Rows.eventOnesRow.laid) #[.slice none 0 0, .slice none 0 0] (World.laidAll_os _ _ _) (door_vars os _) (door_rest os _) (by kernel_rfl)
      (OpenSpec.preRow_of_cond 8 hx (by kernel_rfl) (fun k hk => by cases hk) (by kernel_rfl) (door_laid os _))) ?_
  intro W base args ds gs before hval hW _ _ hsz hL hsh _
  exact contract H enc W base args ds gs before hval hW hsz hL hsh

theorem said : Rows.EventSameSaid :=
  OpenClaim.holds_of_cond 7 Tryd.f7 rfl rfl rfl rfl rfl rfl rfl ⟨rfl, rfl, rfl, rfl, rfl⟩ rfl rfl rfl rfl rfl (by kernel_rfl) Tryd.func7 (by kernel_rfl)
    (of_decide_eq_true (by kernel_rfl)) (by unfold Func.isWrapper; first | (rw [if_pos (by decide +kernel)]; kernel_rfl) | (rw [if_neg (by decide +kernel)]; exact ⟨rfl, rfl⟩))
    (fun os started H enc _ F => by rw [OpenClaim.pre_eq_preRow]; exact lifted os started H enc F)

theorem plain (f : FuncId) (fn : Func) (hf : Tryd.pinned.checked.prog.funcNamed "wakeman/wakemanlaw36.EventSame" = some f) (hfn : Tryd.pinned.checked.prog.funcs[f]? = some fn) :
    Rows.eventSameCard.stood.looks = Tryd.pinned.checked.prog.looks [] ∧ ∀ (j : Nat) t, fn.params[j]? = some t → Tryd.pinned.checked.prog.wantsStandIn t = false := by
  obtain rfl : f = 7 := Option.some.inj ((show Tryd.prog.funcNamed "wakeman/wakemanlaw36.EventSame" = some 7 by kernel_rfl).symm.trans hf) |>.symm
  obtain rfl : fn = Tryd.f7 := (Option.some.inj (Tryd.func7.symm.trans hfn)).symm
  refine ⟨by kernel_rfl, fun j t ht => ?_⟩
  rw [Tryd.params7] at ht
  have hm : t ∈ [36] := by
    have := Array.mem_of_getElem? ht
    simpa using this
  have hall : ([36].all fun u => !Tryd.prog.wantsStandIn u) = true := by kernel_rfl
  exact (show Tryd.prog.wantsStandIn t = false by simpa using List.all_eq_true.1 hall t hm)

/-- The card. -/
theorem card : Rows.EventSameCardSaid :=
  Claim7.holds_tied_plain_at .later [] _ _ _ _ said (fun _ h => by cases h) (by kernel_rfl) (fun _ h => by cases h) eventSame_row_tie rfl ⟨rfl, rfl⟩ (by kernel_rfl) rfl plain (by kernel_rfl)
end Go.Proofs.YtmpcekpdnikghaaDoor.lawEventSame
