/- UnitsLimitBack: for every limit the law returns true; what the call was given reads as before. Conditions: the nine listed variables lie as the program lays them. -/
import Derived.Test.YtfcodadmfgpgcaaGreatDoorUnFrame
import Derived.Test.YtfcodadmfgpgcaaGreatDoorUnWorks
import Derived.Test.YtfcodadmfgpgcaaGreatDoorUnLim2
import Derived.Test.YtfcodadmfgpgcaaGreatDoorUnWordsLx
import Derived.Test.YtfcodadmfgpgcaaGreatDoorUnBackLx
import Derived.SevenTiedAt
import Derived.Lib.SmallJoins
namespace Go.Proofs.YtfcodadmfgpgcaaGreatDoor.lawUnitsLimitBack
open Go.ChangeShapes Go.WideShapes Go.ChangeAt Go.RowKit

/-- units.Limit at a text that is none. -/
theorem limit_none (x : ByteArray) (h1 : Lx.limT x = 0) (h2 : Lx.limU x = 0) (h3 : Lx.limE x = 10) (hs : x.size ≤ 1000000000) (W : World) (E : UEnv W) :
    Calls Tryz.prog 16 #[.string x] W fun e w' => e = .returned (.tuple #[.agg #[.int .i64 0, .int .i64 0], .int .i64 10]) ∧ Below W.heap.size W w' := by
  have := limit_any x hs W E
  rw [h1, h2, h3] at this
  exact this
theorem Lx.cells_set {w : World} {B : Nat} {x y : Value} (a b : Value) (h0 : w.cell? ⟨B, 0, none⟩ = some x) (h1 : w.cell? ⟨B, 1, none⟩ = some y) :
    ((w.setCell ⟨B, 0, none⟩ a).setCell ⟨B, 1, none⟩ b).cell? ⟨B, 0, none⟩ = some a ∧ ((w.setCell ⟨B, 0, none⟩ a).setCell ⟨B, 1, none⟩ b).cell? ⟨B, 1, none⟩ = some b := by
  have e1 : (w.setCell ⟨B, 0, none⟩ a).cell? ⟨B, 0, none⟩ = some a := by apply World.cell?_setCell_same; exact h0
  have e2 : (w.setCell ⟨B, 0, none⟩ a).cell? ⟨B, 1, none⟩ = some y := by
    refine Eq.trans ?_ h1
    apply World.cell?_setCell_other
    intro e; injection e with e1 e2; omega
  refine ⟨Eq.trans ?_ e1, ?_⟩
  · apply World.cell?_setCell_other
    intro e; injection e with e1 e2; omega
  · apply World.cell?_setCell_same; exact e2
theorem Lx.cells_set1 {w : World} {B : Nat} {x y : Value} (b : Value) (h0 : w.cell? ⟨B, 0, none⟩ = some x) (h1 : w.cell? ⟨B, 1, none⟩ = some y) :
    (w.setCell ⟨B, 1, none⟩ b).cell? ⟨B, 0, none⟩ = some x ∧ (w.setCell ⟨B, 1, none⟩ b).cell? ⟨B, 1, none⟩ = some b := by
  refine ⟨Eq.trans ?_ h0, ?_⟩
  · apply World.cell?_setCell_other
    intro e; injection e with e1 e2; omega
  · apply World.cell?_setCell_same; exact h1
theorem Lx.limOk_true {t u : Nat} (h1 : t ≤ 68719476736) (h2 : u ≤ 68719476736) (h3 : t = 0 → u = 0) : Lx.limOk t u = true := by
  unfold Lx.limOk; rw [decide_eq_true_iff]; omega

set_option maxRecDepth 100000 in
set_option maxHeartbeats 6400000 in
theorem walk (t u : Int) (w : World) (env : UEnv w) :
    Calls Tryz.prog 5 #[.agg #[.int .i64 t, .int .i64 u]] w fun e w' => e = .returned (.bool true) ∧ Below w.heap.size w w' := by
  have hk : Lx.limOk t u = decide (0 ≤ t ∧ t ≤ 68719476736 ∧ 0 ≤ u ∧ u ≤ 68719476736 ∧ (0 < t ∨ u = 0)) := rfl
  have hba : Below w.heap.size w (w.alloc (.cells #[.int .i64 t, .int .i64 u] 41)) := (Below.refl _ _).alloc (Nat.le_refl _) _
  have hlt0 : w.heap.size < (w.alloc (.cells #[.int .i64 t, .int .i64 u] 41)).heap.size := by simp
  have hm := Lx.and_mask t
  obtain ⟨x, hx⟩ : ∃ x, bits .and .i64 t 9223372036854775807 = x := ⟨_, rfl⟩
  rw [hx] at hm
  have hm2 := Lx.and_mask u
  obtain ⟨y, hy⟩ : ∃ y, bits .and .i64 u 9223372036854775807 = y := ⟨_, rfl⟩
  rw [hy] at hm2
  obtain ⟨n, hnx⟩ : ∃ n : Nat, x % 68719476737 = (n : Int) := ⟨(x % 68719476737).toNat, by omega⟩
  obtain ⟨v, hvy⟩ : ∃ v : Nat, y % 68719476737 = (v : Int) := ⟨(y % 68719476737).toNat, by omega⟩
  have hn : n ≤ 68719476736 := by omega
  have hv : v ≤ 68719476736 := by omega
  -- the second limit
  obtain ⟨v2, hv2, hv20, hv2n⟩ : ∃ v2 : Nat, v2 ≤ 68719476736 ∧ (n = 0 → v2 = 0) ∧ (n ≠ 0 → v2 = v) := by
    by_cases h : n = 0
    · exact ⟨0, by omega, fun _ => rfl, fun h2 => absurd h h2⟩
    · exact ⟨v, hv, fun h2 => absurd h2 h, fun _ => rfl⟩
  obtain ⟨S, hS⟩ : ∃ S : ByteArray, S = ⟨(Lx.limTx n v2).toArray⟩ := ⟨_, rfl⟩
  have hSl : S.data.toList = Lx.limTx n v2 := by rw [hS]
  have hSs : S.size ≤ 100 := by rw [Lib.size_eq, hSl]; exact Lx.limTx_len n v2 hn hv2 (fun d hd => Lx.prn_size d hd)
  have H2 := Lib.hid (fun W (E : UEnv W) => plimit_any n v2 W E)
  have hok := Lx.limOk_true hn hv2 hv20
  rw [(Lx.plim_tx hok).1, (Lx.plim_tx hok).2, ← hS] at H2
  have H3 := Lib.hid (fun W (E : UEnv W) => limit_any S (by omega) W E)
  obtain ⟨q1, q2, q3⟩ := Lx.lim_in (Lx.lim_back S n v2 hSl hv20) hn hv2
  rw [q1, q2, q3] at H3
  obtain ⟨U, hU⟩ : ∃ U : ByteArray, U = ⟨(Lib.toUpperA S.data.toList).toArray⟩ := ⟨_, rfl⟩
  have HU := Lib.hid (fun W => Tryz.strings_ToUpper_ascii S W (by omega) (by rw [hSl]; exact Lx.limTx_ascii n v2))
  rw [← hU] at HU
  have hUl : U.data.toList = Lib.toUpperA (Lx.limTx n v2) := by rw [hU, hSl]
  have hUs : U.size ≤ 100 := by rw [Lib.size_eq, hUl]; unfold Lib.toUpperA; rw [List.length_map]; rw [Lib.size_eq, hSl] at hSs; exact hSs
  obtain ⟨R, hR⟩ : ∃ R : ByteArray, R = ⟨(Lib.replace S.data.toList (⟨#[43]⟩ : ByteArray).data.toList (⟨#[45]⟩ : ByteArray).data.toList 1).toArray⟩ := ⟨_, rfl⟩
  have hRl : R.data.toList = Lib.replace (Lx.limTx n v2) [43] [45] 1 := by rw [hR, hSl]
  have hRs : R.size ≤ 100 := by rw [Lib.size_eq, hRl]; exact Lx.repl_len n v2 hn hv2 (fun d hd => Lx.prn_size d hd)
  have hcp := Lx.count_plus S
  have HR : Hid (∀ W, UEnv W → Calls Tryz.prog 17 #[.string S, .string ⟨#[43]⟩, .string ⟨#[45]⟩, .int .i64 1] W fun e w' => e = .returned (.string R) ∧ Below W.heap.size W w') := Lib.hid (by
    intro W E
    obtain ⟨mx, hmx⟩ := E.env.mx
    have := Tryz.strings_Replace S ⟨#[43]⟩ ⟨#[45]⟩ 1 mx W (by omega) hmx (by decide) (by show S.size + Lib.countB S ⟨#[43]⟩ * 1 ≤ _; omega)
    rw [← hR] at this
    exact this)
  have hnone : (S.toList == [110, 111, 110, 101]) = ((n : Int) == 0) := by
    rw [Lib.toList_data, hSl]
    by_cases h : n = 0
    · subst h; rfl
    · rw [Lx.limTx_pos v2 h]
      have : ((n : Int) == 0) = false := by rw [beq_eq_false_iff_ne]; omega
      rw [this, beq_eq_false_iff_ne]
      intro e; simp at e
  have Hfive := Lib.hid (Lx.five_no S U R n v2 hSl hUl hRl)
  have Hnone := Lib.hid hnone
  have H1 := Lib.hid (fun W (E : UEnv W) => plimit_any t u W E)
  have env0 := env.below hba
  have H1' := Lib.hid (H1.out _ env0)
  have z1 : (⟨#[32]⟩ : ByteArray).size = 1 := rfl
  have z2 : (⟨#[43, 48, 115]⟩ : ByteArray).size = 3 := rfl
  have z3 : (⟨#[50]⟩ : ByteArray).size = 1 := rfl
  have z4 : (⟨#[63]⟩ : ByteArray).size = 1 := rfl
  clear H1 env0 hS hSl hok q1 q2 q3 hU hUl hR hRl hcp hnone
  go_enter Tryz.func5, Tryz.ntmps5
  go_wp2_with fail
  refine H1'.out.mono ?_
  rintro e w1 ⟨rfl, k1⟩
  have b1 := hba.trans (k1.mono hba.size)
  have p0 : w1.cell? ⟨w.heap.size, 0, none⟩ = some (.int .i64 t) := (k1.cell (p := ⟨w.heap.size, 0, none⟩) hlt0).trans (by simp)
  have p1 : w1.cell? ⟨w.heap.size, 1, none⟩ = some (.int .i64 u) := (k1.cell (p := ⟨w.heap.size, 1, none⟩) hlt0).trans (by simp)
  have hblk0 : (w.alloc (.cells #[.int .i64 t, .int .i64 u] 41)).heap[w.heap.size]? = some (.cells #[.int .i64 t, .int .i64 u] 41 (0, 0)) := Lx.alloc_block _ _
  have hblk1 := (k1.block _ hlt0).trans hblk0
  have f0 : w1.frozen? ⟨w.heap.size, 0, none⟩ = false := by unfold World.frozen?; rw [hblk1]; simp
  have f1 : w1.frozen? ⟨w.heap.size, 1, none⟩ = false := by unfold World.frozen?; rw [hblk1]; simp
  have l1 := Nat.lt_of_lt_of_le hlt0 k1.size
  clear H1' k1 hblk0 hblk1
  go_upto_region 2 with (fail)
  go_cut [5] (fun s5 wx => s5 = .bool (Lx.limOk t u) ∧ w1 = wx)
  case first =>
    clear hx hy hnx hvy hm hm2
    rcases (show t < 0 ∨ (0 ≤ t ∧ 68719476736 < t) ∨ (0 ≤ t ∧ t ≤ 68719476736 ∧ u < 0) ∨ (0 ≤ t ∧ t ≤ 68719476736 ∧ 0 ≤ u ∧ 68719476736 < u) ∨ (0 < t ∧ t ≤ 68719476736 ∧ 0 ≤ u ∧ u ≤ 68719476736) ∨ (t = 0 ∧ u = 0) ∨ (t = 0 ∧ 0 < u ∧ u ≤ 68719476736) by omega) with h | ⟨h1, h2⟩ | ⟨h1, h2, h3⟩ | ⟨h1, h2, h3, h4⟩ | ⟨h1, h2, h3, h4⟩ | ⟨h1, h2⟩ | ⟨h1, h2, h3⟩
    · have hv : Lx.limOk t u = false := by rw [hk, decide_eq_false_iff_not]; omega
      have HV := Lib.hid hv
      clear hk hv
      go_wp2_with fail
      go_meet
      exact ⟨by rw [HV.out], rfl⟩
    · have hv : Lx.limOk t u = false := by rw [hk, decide_eq_false_iff_not]; omega
      have HV := Lib.hid hv
      clear hk hv
      go_wp2_with fail
      go_meet
      exact ⟨by rw [HV.out], rfl⟩
    · have hv : Lx.limOk t u = false := by rw [hk, decide_eq_false_iff_not]; omega
      have HV := Lib.hid hv
      clear hk hv
      go_wp2_with fail
      go_meet
      exact ⟨by rw [HV.out], rfl⟩
    · have hv : Lx.limOk t u = false := by rw [hk, decide_eq_false_iff_not]; omega
      have HV := Lib.hid hv
      clear hk hv
      go_wp2_with fail
      go_meet
      exact ⟨by rw [HV.out], rfl⟩
    · have hv : Lx.limOk t u = true := by rw [hk, decide_eq_true_iff]; omega
      have HV := Lib.hid hv
      have h5 : 0 ≤ t := by omega
      clear hk hv
      go_wp2_with fail
      go_meet
      exact ⟨by rw [HV.out], rfl⟩
    · have hv : Lx.limOk t u = true := by rw [hk, decide_eq_true_iff]; omega
      have HV := Lib.hid hv
      clear hk hv
      subst h1
      subst h2
      go_wp2_with fail
      go_meet
      exact ⟨by rw [HV.out], rfl⟩
    · have hv : Lx.limOk t u = false := by rw [hk, decide_eq_false_iff_not]; omega
      have HV := Lib.hid hv
      have h4 : 0 ≤ u := by omega
      have h5 : (u == 0) = false := by rw [beq_eq_false_iff_ne]; omega
      clear hk hv
      subst h1
      go_wp2_with fail
      go_meet
      exact ⟨by rw [HV.out], rfl⟩
  case rest =>
    obtain ⟨rfl, rfl⟩ := hcut
    go_upto_region 3 with (fail)
    go_cut [60] (fun s60 wx => s60 = .bool false ∧ w1 = wx)
    case first =>
      clear hx hy hnx hvy hm hm2 hk
      by_cases hk1 : Lx.limOk t u = true
      · have hE : Lx.plimE t u = 0 := by unfold Lx.plimE; rw [hk1, if_pos rfl]
        go_wp2_with fail
        go_meet
        exact ⟨rfl, rfl⟩
      · have hk2 : Lx.limOk t u = false := by simpa using hk1
        obtain ⟨hP, hE⟩ := Lx.plim_bad hk2
        clear hk1
        go_wp2_with fail
        go_meet
        exact ⟨rfl, rfl⟩
    case rest =>
      obtain ⟨rfl, rfl⟩ := hcut
      have Hv20 := Lib.hid hv20
      have Hv2n := Lib.hid hv2n
      clear hv20 hv2n hk
      obtain ⟨B, hB⟩ : ∃ B, B = w.heap.size := ⟨_, rfl⟩
      have hB0 : w.heap.size ≤ B := by omega
      rw [← hB] at p0 p1 f0 f1 l1 ⊢
      by_cases hn0 : n = 0
      case' pos =>
        have hz : ((n : Int) == 0) = true := by rw [beq_iff_eq]; omega
        have hb8 : Below w.heap.size w (((w1.setCell ⟨B, 0, none⟩ (.int .i64 n)).setCell ⟨B, 1, none⟩ (.int .i64 v)).setCell ⟨B, 1, none⟩ (.int .i64 0)) := ((b1.setCell hB0 _).setCell hB0 _).setCell hB0 _
        have hv0 : v2 = 0 := Hv20.out hn0
        have Hv0 := Lib.hid hv0
        clear hn0 hv0 hB
        go_upto_region 8 with (fail)
        obtain ⟨d0, d1⟩ := Lx.cells_set (.int .i64 n) (.int .i64 v) p0 p1
        obtain ⟨c0, c1'⟩ := Lx.cells_set1 (.int .i64 0) d0 d1
        have c1 := c1'.trans (show some (Value.int .i64 0) = some (Value.int .i64 (v2 : Int)) by rw [Hv0.out]; rfl)
        clear c1'
        have hl8 : B < (((w1.setCell ⟨B, 0, none⟩ (.int .i64 n)).setCell ⟨B, 1, none⟩ (.int .i64 v)).setCell ⟨B, 1, none⟩ (.int .i64 0)).heap.size := by simpa using l1
        have hnb : (S.toList == [110, 111, 110, 101]) = true := by rw [Hnone.out]; exact hz
        clear d0 d1 p0 p1 f0 f1 b1 l1
        generalize ((w1.setCell ⟨B, 0, none⟩ (.int .i64 n)).setCell ⟨B, 1, none⟩ (.int .i64 v)).setCell ⟨B, 1, none⟩ (.int .i64 0) = w8 at hb8 c0 c1 hl8 ⊢
      case' neg =>
        have hz : ((n : Int) == 0) = false := by rw [beq_eq_false_iff_ne]; omega
        have hb8 : Below w.heap.size w ((w1.setCell ⟨B, 0, none⟩ (.int .i64 n)).setCell ⟨B, 1, none⟩ (.int .i64 v)) := (b1.setCell hB0 _).setCell hB0 _
        have hv0 : v2 = v := Hv2n.out hn0
        have Hv0 := Lib.hid hv0
        clear hn0 hv0 hB
        go_upto_region 8 with (fail)
        obtain ⟨c0, c1⟩ := Lx.cells_set (.int .i64 n) (.int .i64 v) p0 p1
        rw [show (v : Int) = (v2 : Int) by rw [Hv0.out]] at c1
        have hl8 : B < ((w1.setCell ⟨B, 0, none⟩ (.int .i64 n)).setCell ⟨B, 1, none⟩ (.int .i64 v)).heap.size := by simpa using l1
        have hnb : (S.toList == [110, 111, 110, 101]) = false := by rw [Hnone.out]; exact hz
        clear p0 p1 f0 f1 b1 l1
        rw [show (v : Int) = (v2 : Int) by rw [Hv0.out]] at hb8 c0 hl8 ⊢
        generalize (w1.setCell ⟨B, 0, none⟩ (.int .i64 n)).setCell ⟨B, 1, none⟩ (.int .i64 v2) = w8 at hb8 c0 c1 hl8 ⊢
      all_goals
        clear hx hy hnx hvy hm hm2 Hnone
        go_wp2_with fail
        refine (H2.out _ (env.below hb8)).mono ?_
        rintro e w9 ⟨rfl, k9⟩
        have b9 := hb8.trans (k9.mono hb8.size)
        have c90 := (k9.cell (p := ⟨B, 0, none⟩) hl8).trans c0
        have c91 := (k9.cell (p := ⟨B, 1, none⟩) hl8).trans c1
        have l9 := Nat.lt_of_lt_of_le hl8 k9.size
        clear k9 c0 c1 hl8 hb8
        go_wp2_with fail
        refine (H3.out _ (env.below b9)).mono ?_
        rintro e w10 ⟨rfl, k10⟩
        have b10 := b9.trans (k10.mono b9.size)
        have c0 := (k10.cell (p := ⟨B, 0, none⟩) l9).trans c90
        have c1 := (k10.cell (p := ⟨B, 1, none⟩) l9).trans c91
        have l10 := Nat.lt_of_lt_of_le l9 k10.size
        have ca : Below w10.heap.size w10 (w10.alloc (.cells #[.int .i64 n, .int .i64 v2] 41)) := (Below.refl _ _).alloc (Nat.le_refl _) _
        have ba := b10.trans (ca.mono b10.size)
        have e0 := (ca.cell (p := ⟨B, 0, none⟩) l10).trans c0
        have e1 := (ca.cell (p := ⟨B, 1, none⟩) l10).trans c1
        clear k10 c90 c91 l9 b9 c0 c1 l10 ca b10
        go_wp2_with fail
        refine (HU.out _).mono ?_
        rintro e w11 ⟨rfl, k11⟩
        have b11 := ba.trans (k11.mono ba.size)
        clear k11 e0 e1 ba
        go_wp2_with fail
        refine (HR.out _ (env.below b11)).mono ?_
        rintro e w5 ⟨rfl, k12⟩
        have b12 := b11.trans (k12.mono b11.size)
        have hb6 := b12.alloc b12.size (.cells #[.string (S ++ ⟨#[32]⟩), .string (S ++ ⟨#[43, 48, 115]⟩), .string (⟨#[50]⟩ ++ S), .string U, .string (R ++ ⟨#[63]⟩)] 9)
        have hlt6 : w5.heap.size < (w5.alloc (.cells #[.string (S ++ ⟨#[32]⟩), .string (S ++ ⟨#[43, 48, 115]⟩), .string (⟨#[50]⟩ ++ S), .string U, .string (R ++ ⟨#[63]⟩)] 9)).heap.size := by rw [World.size_alloc]; omega
        have Hc6 := Lib.hid (Lx.five_cell w5 S U R 9)
        clear k12 b12 b11
        go_wp2_with fail
        generalize w5.alloc (.cells #[.string (S ++ ⟨#[32]⟩), .string (S ++ ⟨#[43, 48, 115]⟩), .string (⟨#[50]⟩ ++ S), .string U, .string (R ++ ⟨#[63]⟩)] 9) = w6 at hb6 hlt6 Hc6 ⊢
        generalize w5.heap.size = B6 at hlt6 Hc6 ⊢
        go_loopw [117] (fun i wr => ∃ k : Nat, k ≤ 5 ∧ i = .int .i64 k ∧ Below w6.heap.size w6 wr) (fun i _ => 5 - (intOf i).toNat)
        case atStart => exact ⟨0, Nat.zero_le _, rfl, Below.refl _ _⟩
        case round =>
          obtain ⟨k, hk, rfl, hbel⟩ := hrel
          have hbr := hb6.trans (hbel.mono hb6.size)
          have envr := env.below hbr
          by_cases hlt : k < 5
          · obtain ⟨x, hx⟩ : ∃ x, (Lx.fiveL S U R)[k]? = some x := ⟨_, List.getElem?_eq_getElem (show k < (Lx.fiveL S U R).length from hlt)⟩
            have r0 := (hbel.cell (p := ⟨B6, k, none⟩) hlt6).trans (Hc6.out k x hx)
            obtain ⟨y1, y2, y3, y4⟩ := Hfive.out x (List.mem_of_getElem? hx)
            have HX := Lib.hid (limit_none x y1 y2 y3 (by omega) wr envr)
            have hki : (k : Int) < 5 := by omega
            clear hx y1 y2 y3
            go_wp2_with fail
            refine HX.out.mono ?_
            rintro e w7 ⟨rfl, hb7⟩
            have hb8 := hbel.trans (hb7.mono hbel.size)
            have hb9 := hb8.alloc hb8.size (.cells #[.int .i64 0, .int .i64 0] 41)
            go_wp2_with fail
            go_roundw
            case rel => exact ⟨k + 1, by omega, by go_num, hb9⟩
            case measure => simp [intOf]; omega
          · obtain rfl : k = 5 := by omega
            have HW := Lib.hid (uworks_any wr envr)
            go_wp2_with fail
            refine HW.out.mono ?_
            rintro e w7 ⟨rfl, hb7⟩
            go_wp2_with fail
            go_ret
            exact ⟨rfl, hbr.trans (hb7.mono hbr.size)⟩

set_option maxRecDepth 100000 in
/-- What the walk gives, for every argument that can be read. -/
theorem contract (H : Type) (enc : TypeId × Value → H) (W : World) (base : Nat) (args : Array Value) (ds gs : List (DataW H)) (before : List MemPlace)
    (hval : ∀ (j : Nat) t v, Tryz.f5.params[j]? = some t → args[j]? = some v → Value.okWide Tryz.prog W .any base t v)
    (hW : DataW.Whole enc Tryz.prog Tryz.f5.params.toList Rows.unitsLimitBackSpec.vars false W args.toList ds gs before) (hL : laidMetH Tryz.prog Rows.unitsLimitBackRow.laid W) (hsh : W.ShapedOpen Tryz.prog) :
    Calls Tryz.prog 5 args W fun e W' => ∃ v, e = .returned v ∧ Rows.unitsLimitBackSpec.post enc Tryz.prog Tryz.f5 false true false false W args v W' := by
  have hW' := hW
  obtain ⟨p, q, hA0, hV, rfl, hfz, hnd⟩ := hW
  have hA : DataW.TrodAll enc Tryz.prog W 0 (fun _ => true) true Tryz.f5.params.toList args.toList ds p := hA0
  rw [Tryz.params5] at hA hval
  obtain ⟨v0, vs0, d0, ds0, p0, q0, hargs, rfl, rfl, h0, r0⟩ := trodAll_cons hA
  obtain ⟨rfl, rfl, rfl⟩ := trodAll_nil r0
  obtain rfl : args = #[v0] := by cases args; simp_all
  obtain ⟨rfl, rfl⟩ := trodVars_none hV
  obtain ⟨c00, c10, y00, y10, m0, rfl, rfl, rfl, hy00, hy10⟩ := Go.Joins.open_agg2 Tryz.underlying41 (by kernel_rfl) (by kernel_rfl) (hval 0 41 v0 rfl rfl) h0
  obtain ⟨a0, e00, rfl, wa0⟩ := DataW.trod_int Tryz.underlying2 hy00
  obtain ⟨b0, e10, rfl, wb0⟩ := DataW.trod_int Tryz.underlying2 hy10
  simp at e00 e10
  subst e00 e10
  clear hA0
  refine (walk a0 b0 W (env_of hL hsh)).mono fun e W' ⟨he, bel⟩ => ?_
  subst he
  exact ⟨_, rfl, _, _, _, [], _, [], hW', trodAll_mk1 (shut_bool Tryz.underlying4 _), (trodAll_cons_mk (Go.Joins.shut_agg2 (y0 := (.lit (.int .i64 a0), [])) (y1 := (.lit (.int .i64 b0), [])) Tryz.underlying41 (by kernel_rfl) (by kernel_rfl) ⟨1, by simp [DataW.trod, Tryz.underlying2, wa0]⟩ ⟨1, by simp [DataW.trod, Tryz.underlying2, wb0]⟩) trodAll_mk0), rfl, bel.frame _, fun h => by cases h⟩

set_option maxRecDepth 100000 in
theorem reads (os : Os) {H : Type} (enc : TypeId × Value → H) : ∃ places, DataW.whole enc Tryz.prog ((World.laidAll Tryz.prog os Rows.unitsWordsRow.laid).forCall (fun _ _ => 0) ⟨#[], #[.agg #[.int .i64 0, .int .i64 0]], []⟩).memory Tryz.f5.params.toList Rows.unitsLimitBackSpec.vars false (#[.agg #[.int .i64 0, .int .i64 0]] : Array Value).toList 8 = some ([.agg [.lit (.int .i64 0), .lit (.int .i64 0)]], [], places) :=
  ⟨[], by kernel_rfl⟩

set_option maxRecDepth 100000 in
theorem lifted (os : Os) (started : os.Started) (H : Type) (enc : TypeId × Value → H) (F : Stop.Interp) :
    ReturnsInHanded {} Tryz.checked os 5 .any ((OpenSpec.ofChange Rows.unitsLimitBackSpec).preRow enc Tryz.prog Tryz.f5 Rows.unitsLimitBackRow.domain false Rows.unitsLimitBackRow.laid) (((OpenSpec.ofChange Rows.unitsLimitBackSpec).at F).post enc Tryz.prog Tryz.f5 false true false false) := by
  obtain ⟨places, hx⟩ := reads os enc
  refine returnsInHanded_of_row (C := Tryz.checked) (s := OpenSpec.ofChange Rows.unitsLimitBackSpec) own started (by kernel_rfl) Tryz.func5
    (witness_row_atRef (enc := enc) (C := Tryz.checked) false (World.laidAll Tryz.prog os Rows.unitsWordsRow.laid) #[.agg #[.int .i64 0, .int .i64 0]] (World.laidAll_os _ _ _) (door_vars os _) (door_rest os _) (by kernel_rfl)
      (OpenSpec.preRow_of_cond 8 hx (by kernel_rfl) (fun k hk => by cases hk) (by kernel_rfl) (door_laid os _))) ?_
  intro W base args ds gs before hval hW _ _ _ hL hsh _
  exact contract H enc W base args ds gs before hval hW hL hsh

theorem said : Rows.UnitsLimitBackSaid :=
  OpenClaim.holds_of_cond 5 Tryz.f5 rfl rfl rfl rfl rfl rfl rfl ⟨rfl, rfl, rfl, rfl, rfl⟩ rfl rfl rfl rfl rfl (by kernel_rfl) Tryz.func5 (by kernel_rfl)
    (of_decide_eq_true (by kernel_rfl)) (by unfold Func.isWrapper; first | (rw [if_pos (by decide +kernel)]; kernel_rfl) | (rw [if_neg (by decide +kernel)]; exact ⟨rfl, rfl⟩))
    (fun os started H enc _ F => by rw [OpenClaim.pre_eq_preRow]; exact lifted os started H enc F)

theorem plain (f : FuncId) (fn : Func) (hf : Tryz.pinned.checked.prog.funcNamed "wakeman/wakemanlaw13.UnitsLimitBack" = some f) (hfn : Tryz.pinned.checked.prog.funcs[f]? = some fn) :
    Rows.unitsLimitBackCard.stood.looks = Tryz.pinned.checked.prog.looks [] ∧ ∀ (j : Nat) t, fn.params[j]? = some t → Tryz.pinned.checked.prog.wantsStandIn t = false := by
  obtain rfl : f = 5 := Option.some.inj ((show Tryz.prog.funcNamed "wakeman/wakemanlaw13.UnitsLimitBack" = some 5 by kernel_rfl).symm.trans hf) |>.symm
  obtain rfl : fn = Tryz.f5 := (Option.some.inj (Tryz.func5.symm.trans hfn)).symm
  refine ⟨by kernel_rfl, fun j t ht => ?_⟩
  rw [Tryz.params5] at ht
  have hm : t ∈ [41] := by
    have := Array.mem_of_getElem? ht
    simpa using this
  have hall : ([41].all fun u => !Tryz.prog.wantsStandIn u) = true := by kernel_rfl
  exact (show Tryz.prog.wantsStandIn t = false by simpa using List.all_eq_true.1 hall t hm)

/-- The card. -/
theorem card : Rows.UnitsLimitBackCardSaid :=
  Claim7.holds_tied_plain_at .later [] _ _ _ _ said (fun _ h => by cases h) (by kernel_rfl) (fun _ h => by cases h) unitsLimitBack_row_tie rfl ⟨rfl, rfl⟩ (by kernel_rfl) rfl plain (by kernel_rfl)
end Go.Proofs.YtfcodadmfgpgcaaGreatDoor.lawUnitsLimitBack
