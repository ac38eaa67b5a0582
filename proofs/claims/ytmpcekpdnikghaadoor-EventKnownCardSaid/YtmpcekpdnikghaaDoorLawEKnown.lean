/- EventKnown: it has no argument and the law returns true; what the call was given reads as before. Conditions: the eight listed variables lie as the program lays them. -/
import Derived.Test.YtmpcekpdnikghaaDoorEvFrame
import Derived.Test.YtmpcekpdnikghaaDoorEvFr
import Derived.Test.YtmpcekpdnikghaaDoorEvO
import Derived.Test.YtmpcekpdnikghaaDoorEvKn
import Derived.Test.YtmpcekpdnikghaaDoorEvI
import Derived.Deep.QuietTactic
import Derived.BigQuiet
import Derived.BigRegion
import Derived.Deep.DeepCutAuto
import Derived.SevenTiedAt
namespace Go.Proofs.YtmpcekpdnikghaaDoor.lawEventKnown
open Go.ChangeShapes Go.WideShapes Go.ChangeAt Go.RowKit
set_option maxRecDepth 100000 in
set_option maxHeartbeats 6400000 in
theorem walk (w : World) (env : EEnv w) :
    Calls Tryd.prog 6 #[] w fun e w' => e = .returned (.bool true) ∧ Below w.heap.size w w' := by
  have HW := Lib.hid (fun W (b : Below w.heap.size w W) => evworks_any W (env.below b))
  have hz2 : ∀ x ∈ Lx.nmAB, x.size ≤ maxLen := by unfold maxLen; decide
  have hm2 : 2 ≤ maxLen := by unfold maxLen; omega
  have HP := Lib.hid (fun o A W (b : Below w.heap.size w W) (h : Lx.IsNames W A 2 Lx.nmAB) => evprint_any o A 2 2 Lx.nmAB W (env.below b) h hz2 hm2)
  unfold WriteIs at HP
  have HK := Lib.hid (fun A W (b : Below w.heap.size w W) (h : Lx.IsNames W A 2 Lx.nmAB) => evparseAll_at _ _ _ _ A 2 2 Lx.nmAB W (env.below b) h hz2 hm2 Lx.kn_k)
  have HM := Lib.hid (fun A W (b : Below w.heap.size w W) (h : Lx.IsNames W A 2 Lx.nmAB) => evparseAll_at _ _ _ _ A 2 2 Lx.nmAB W (env.below b) h hz2 hm2 Lx.kn_m)
  have HJ := Lib.hid (fun A W (b : Below w.heap.size w W) (h : Lx.IsNames W A 2 Lx.nmAB) => evparse_at _ _ _ A 2 2 Lx.nmAB W (env.below b) h hz2 hm2 Lx.kn_j)
  have HCK := Lib.hid (fun o W => evcheck_any o W)
  unfold EvCheckIs at HCK
  have HPN := Lib.hid (fun o W (b : Below w.heap.size w W) => evprint_any o none 0 0 [] W (env.below b) ⟨rfl, fun h => absurd h (by omega)⟩ (by intro x hx; cases hx) (by unfold maxLen; omega))
  unfold WriteIs at HPN
  have hzz : ∀ (L : List ByteArray), (∀ x ∈ L, x.size ≤ 1000) → ∀ x ∈ L, x.size ≤ maxLen := fun L h x hx => Nat.le_trans (h x hx) (by unfold maxLen; omega)
  have HF := Lib.hid (fun A W (b : Below w.heap.size w W) (h : Lx.IsNames W A 1 [⟨#[97]⟩]) => evprint_any Lx.knL A 1 2 [⟨#[97]⟩] W (env.below b) h (hzz _ (by decide)) (by unfold maxLen; omega))
  have HG := Lib.hid (fun A W (b : Below w.heap.size w W) (h : Lx.IsNames W A 2 [⟨#[97]⟩, ⟨#[97]⟩]) => evprint_any Lx.knL A 2 2 [⟨#[97]⟩, ⟨#[97]⟩] W (env.below b) h (hzz _ (by decide)) (by unfold maxLen; omega))
  have HH := Lib.hid (fun A W (b : Below w.heap.size w W) (h : Lx.IsNames W A 3 [⟨#[97]⟩, ⟨#[97]⟩, ⟨#[97, 32, 98]⟩]) => evprint_any ⟨1, 120, 1, 121, 1, 7, 0, 0⟩ A 3 3 [⟨#[97]⟩, ⟨#[97]⟩, ⟨#[97, 32, 98]⟩] W (env.below b) h (hzz _ (by decide)) (by unfold maxLen; omega))
  have HI := Lib.hid (fun A W (b : Below w.heap.size w W) (h : Lx.IsNames W A 65 (List.replicate 65 ⟨#[]⟩)) => evparse_at _ _ _ A 65 65 (List.replicate 65 ⟨#[]⟩) W (env.below b) h (hzz _ (by intro x hx; rw [(List.mem_replicate.1 hx).2]; decide)) (by unfold maxLen; omega) Lx.kn_i)
  rw [Lx.kn_f] at HF
  rw [Lx.kn_g] at HG
  rw [Lx.kn_h] at HH
  unfold WriteIs Lx.EvV.val at HF HG HH
  unfold Lx.EvV.val at HI HJ
  unfold Lx.knL at HF HG
  unfold Lx.evZ at HI HJ
  dsimp only at HF HG HH HI HJ
  generalize (Lx.prS [⟨#[97]⟩] ⟨1, 120, 1, 110, 1, 7, 0, 0⟩).toArray = SF at HF
  generalize (Lx.prS [⟨#[97]⟩, ⟨#[97]⟩] ⟨1, 120, 1, 110, 1, 7, 0, 0⟩).toArray = SG at HG
  generalize (Lx.prS [⟨#[97]⟩, ⟨#[97]⟩, ⟨#[97, 32, 98]⟩] ⟨1, 120, 1, 121, 1, 7, 0, 0⟩).toArray = SH at HH
  have HC1 := Lib.hid (HCK.out ⟨1, 120, 1, -1, 1, 0, 0, 0⟩)
  have HC2 := Lib.hid (HCK.out ⟨8, 253402300800, 1, 0, 0, 1, 0, 0⟩)
  rw [Lx.kn_late.1] at HC1
  rw [Lx.kn_late.2] at HC2
  unfold Lx.EvV.val at HC1 HC2
  dsimp only at HC1 HC2
  clear hz2 hm2 hzz
  go_enter Tryd.func6, Tryd.ntmps6
  go_upto_region 5 with (fail)
  obtain ⟨W4, hW4⟩ : ∃ W4, W4 = (((w.alloc (.cells #[.string ⟨#[97]⟩, .string ⟨#[98]⟩] 9)).alloc (.cells #[.int .i64 1, .int .i64 120, .int .i64 1, .int .i64 110, .int .i64 1, .int .i64 7, .int .i64 0, .int .i64 0] 23)).alloc (.cells #[.int .i64 1, .int .i64 120, .int .i64 1, .int .i64 110, .int .i64 1, .int .i64 7, .int .i64 0, .int .i64 0, .int .i64 4, .int .i64 130, .int .i64 0, .int .i64 110, .int .i64 2, .int .i64 0, .int .i64 0, .int .i64 140, .int .i64 5, .int .i64 5, .int .i64 0, .int .i64 5, .int .i64 1, .int .i64 0, .int .i64 6, .int .i64 0, .int .i64 6, .int .i64 7, .int .i64 0, .int .i64 0, .int .i64 0, .int .i64 0, .int .i64 5, .int .i64 0, .int .i64 8, .int .i64 0, .int .i64 1, .int .i64 0, .int .i64 0, .int .i64 0, .int .i64 0, .int .i64 0] 23)).alloc (.cells #[.string ⟨#[49, 50, 48, 32, 108, 97, 117, 110, 99, 104, 32, 98, 32, 49, 49, 48, 32, 49, 32, 55]⟩, .string ⟨#[49, 51, 48, 32, 114, 101, 116, 114, 121, 32, 97, 32, 49, 49, 48, 32, 50, 32, 49, 52, 48]⟩, .string ⟨#[53, 32, 100, 114, 111, 112, 32, 97, 32, 53, 32, 49, 32, 109, 105, 115, 102, 105, 114, 101]⟩, .string ⟨#[55, 32, 114, 101, 106, 101, 99, 116, 32, 53]⟩, .string ⟨#[48, 32, 99, 108, 111, 115, 101, 32, 98]⟩] 9) := ⟨_, rfl⟩
  rw [← hW4]
  obtain ⟨n4, l4, g4, t4, b4⟩ := kn_world w W4 hW4
  have N4 := Lib.hid n4
  have L4 := Lib.hid l4
  have G4 := Lib.hid g4
  have T4 := Lib.hid t4
  have B4 := Lib.hid b4
  clear hW4 n4 l4 g4 t4 b4
  generalize w.heap.size + 1 + 1 + 1 = tb at *
  generalize w.heap.size + 1 + 1 = gb at *
  generalize w.heap.size + 1 = lb at *
  go_wp2_with fail
  go_loopw [5] (fun i wr => ∃ k : Nat, k ≤ 5 ∧ i = .int .i64 k ∧ Below W4.heap.size W4 wr) (fun i _ => 5 - (intOf i).toNat)
  case atStart => exact ⟨0, Nat.zero_le _, rfl, Below.refl _ _⟩
  case round =>
    obtain ⟨k, hk, rfl, hb⟩ := hrel
    have Hb := Lib.hid hb
    have NR := Lib.hid (N4.out.below hb)
    have GR := Lib.hid (G4.out.below hb)
    have BR := Lib.hid (B4.out.trans (hb.mono B4.out.size))
    have TR := Lib.hid (T4.out.below hb)
    have LR := Lib.hid (L4.out.below hb)
    clear hb
    by_cases hlt : k < 5
    · have hki : (k : Int) < 5 := by omega
      obtain ⟨o, ho⟩ : ∃ o, Lx.knGood[k]? = some o := ⟨_, List.getElem?_eq_getElem hlt⟩
      obtain ⟨e1, t, ht, e2⟩ := Lx.kn_good k o ho
      have HPO := Lib.hid (HP.out o _ wr BR.out NR.out)
      rw [e1, e2] at HPO
      have ct := TR.out.at0 ht
      have hg := GR.out
      have c0 := hg.at0 ho 0 _ rfl
      have c1 := hg.at0 ho 1 _ rfl
      have c2 := hg.at0 ho 2 _ rfl
      have c3 := hg.at0 ho 3 _ rfl
      have c4 := hg.at0 ho 4 _ rfl
      have c5 := hg.at0 ho 5 _ rfl
      have c6 := hg.at0 ho 6 _ rfl
      have c7 := hg.at0 ho 7 _ rfl
      have TL := Lib.hid (TR.out.2 (by omega))
      clear hg e1 e2 ho
      obtain ⟨ok, ot, oj, od, oa, orr, oy, on⟩ := o
      unfold Lx.EvV.val at HPO
      dsimp only at HPO c0 c1 c2 c3 c4 c5 c6 c7
      rw [Nat.add_zero] at c0
      have ht2 : (⟨t.data.toList.toArray⟩ : ByteArray) = t := rfl
      rw [ht2] at HPO
      have HT := Lib.hid ht
      clear ht ht2
      go_wp2_with fail
      refine HPO.out.mono ?_
      rintro e w1 ⟨rfl, d1⟩
      have ct1 : w1.cell? ⟨tb, k, none⟩ = some (.string t) := (TR.out.below d1).at0 HT.out
      have hb1 := Hb.out.trans (d1.mono Hb.out.size)
      have Hb1 := Lib.hid hb1
      clear hb1 d1 c0 c1 c2 c3 c4 c5 c6 c7
      go_wp2_with fail
      go_roundw
      case rel => exact ⟨k + 1, by omega, by go_num, Hb1.out⟩
      case measure => simp [intOf]; omega
    · obtain rfl : k = 5 := by omega
      rw [show ((5 : Nat) : Int) = 5 from rfl]
      clear hlt hk
      obtain ⟨q0, q1, q2, q3, q4, q5, q6, q7⟩ := LR.out.eight
      have hl := LR.out.1
      have hg := GR.out
      have hgl := hg.lt0 (by omega)
      have p1_0 : wr.cell? ⟨gb, 8, none⟩ = some (.int .i64 4) := hg.at0 (k := 1) (o := ⟨4, 130, 0, 110, 2, 0, 0, 140⟩) rfl 0 _ rfl
      have p1_1 : wr.cell? ⟨gb, 9, none⟩ = some (.int .i64 130) := hg.at0 (k := 1) (o := ⟨4, 130, 0, 110, 2, 0, 0, 140⟩) rfl 1 _ rfl
      have p1_2 : wr.cell? ⟨gb, 10, none⟩ = some (.int .i64 0) := hg.at0 (k := 1) (o := ⟨4, 130, 0, 110, 2, 0, 0, 140⟩) rfl 2 _ rfl
      have p1_3 : wr.cell? ⟨gb, 11, none⟩ = some (.int .i64 110) := hg.at0 (k := 1) (o := ⟨4, 130, 0, 110, 2, 0, 0, 140⟩) rfl 3 _ rfl
      have p1_4 : wr.cell? ⟨gb, 12, none⟩ = some (.int .i64 2) := hg.at0 (k := 1) (o := ⟨4, 130, 0, 110, 2, 0, 0, 140⟩) rfl 4 _ rfl
      have p1_5 : wr.cell? ⟨gb, 13, none⟩ = some (.int .i64 0) := hg.at0 (k := 1) (o := ⟨4, 130, 0, 110, 2, 0, 0, 140⟩) rfl 5 _ rfl
      have p1_6 : wr.cell? ⟨gb, 14, none⟩ = some (.int .i64 0) := hg.at0 (k := 1) (o := ⟨4, 130, 0, 110, 2, 0, 0, 140⟩) rfl 6 _ rfl
      have p1_7 : wr.cell? ⟨gb, 15, none⟩ = some (.int .i64 140) := hg.at0 (k := 1) (o := ⟨4, 130, 0, 110, 2, 0, 0, 140⟩) rfl 7 _ rfl
      have p2_0 : wr.cell? ⟨gb, 16, none⟩ = some (.int .i64 5) := hg.at0 (k := 2) (o := ⟨5, 5, 0, 5, 1, 0, 6, 0⟩) rfl 0 _ rfl
      have p2_1 : wr.cell? ⟨gb, 17, none⟩ = some (.int .i64 5) := hg.at0 (k := 2) (o := ⟨5, 5, 0, 5, 1, 0, 6, 0⟩) rfl 1 _ rfl
      have p2_2 : wr.cell? ⟨gb, 18, none⟩ = some (.int .i64 0) := hg.at0 (k := 2) (o := ⟨5, 5, 0, 5, 1, 0, 6, 0⟩) rfl 2 _ rfl
      have p2_3 : wr.cell? ⟨gb, 19, none⟩ = some (.int .i64 5) := hg.at0 (k := 2) (o := ⟨5, 5, 0, 5, 1, 0, 6, 0⟩) rfl 3 _ rfl
      have p2_4 : wr.cell? ⟨gb, 20, none⟩ = some (.int .i64 1) := hg.at0 (k := 2) (o := ⟨5, 5, 0, 5, 1, 0, 6, 0⟩) rfl 4 _ rfl
      have p2_5 : wr.cell? ⟨gb, 21, none⟩ = some (.int .i64 0) := hg.at0 (k := 2) (o := ⟨5, 5, 0, 5, 1, 0, 6, 0⟩) rfl 5 _ rfl
      have p2_6 : wr.cell? ⟨gb, 22, none⟩ = some (.int .i64 6) := hg.at0 (k := 2) (o := ⟨5, 5, 0, 5, 1, 0, 6, 0⟩) rfl 6 _ rfl
      have p2_7 : wr.cell? ⟨gb, 23, none⟩ = some (.int .i64 0) := hg.at0 (k := 2) (o := ⟨5, 5, 0, 5, 1, 0, 6, 0⟩) rfl 7 _ rfl
      have p3_0 : wr.cell? ⟨gb, 24, none⟩ = some (.int .i64 6) := hg.at0 (k := 3) (o := ⟨6, 7, 0, 0, 0, 0, 5, 0⟩) rfl 0 _ rfl
      have p3_1 : wr.cell? ⟨gb, 25, none⟩ = some (.int .i64 7) := hg.at0 (k := 3) (o := ⟨6, 7, 0, 0, 0, 0, 5, 0⟩) rfl 1 _ rfl
      have p3_2 : wr.cell? ⟨gb, 26, none⟩ = some (.int .i64 0) := hg.at0 (k := 3) (o := ⟨6, 7, 0, 0, 0, 0, 5, 0⟩) rfl 2 _ rfl
      have p3_3 : wr.cell? ⟨gb, 27, none⟩ = some (.int .i64 0) := hg.at0 (k := 3) (o := ⟨6, 7, 0, 0, 0, 0, 5, 0⟩) rfl 3 _ rfl
      have p3_4 : wr.cell? ⟨gb, 28, none⟩ = some (.int .i64 0) := hg.at0 (k := 3) (o := ⟨6, 7, 0, 0, 0, 0, 5, 0⟩) rfl 4 _ rfl
      have p3_5 : wr.cell? ⟨gb, 29, none⟩ = some (.int .i64 0) := hg.at0 (k := 3) (o := ⟨6, 7, 0, 0, 0, 0, 5, 0⟩) rfl 5 _ rfl
      have p3_6 : wr.cell? ⟨gb, 30, none⟩ = some (.int .i64 5) := hg.at0 (k := 3) (o := ⟨6, 7, 0, 0, 0, 0, 5, 0⟩) rfl 6 _ rfl
      have p3_7 : wr.cell? ⟨gb, 31, none⟩ = some (.int .i64 0) := hg.at0 (k := 3) (o := ⟨6, 7, 0, 0, 0, 0, 5, 0⟩) rfl 7 _ rfl
      have p4_0 : wr.cell? ⟨gb, 32, none⟩ = some (.int .i64 8) := hg.at0 (k := 4) (o := ⟨8, 0, 1, 0, 0, 0, 0, 0⟩) rfl 0 _ rfl
      have p4_1 : wr.cell? ⟨gb, 33, none⟩ = some (.int .i64 0) := hg.at0 (k := 4) (o := ⟨8, 0, 1, 0, 0, 0, 0, 0⟩) rfl 1 _ rfl
      have p4_2 : wr.cell? ⟨gb, 34, none⟩ = some (.int .i64 1) := hg.at0 (k := 4) (o := ⟨8, 0, 1, 0, 0, 0, 0, 0⟩) rfl 2 _ rfl
      have p4_3 : wr.cell? ⟨gb, 35, none⟩ = some (.int .i64 0) := hg.at0 (k := 4) (o := ⟨8, 0, 1, 0, 0, 0, 0, 0⟩) rfl 3 _ rfl
      have p4_4 : wr.cell? ⟨gb, 36, none⟩ = some (.int .i64 0) := hg.at0 (k := 4) (o := ⟨8, 0, 1, 0, 0, 0, 0, 0⟩) rfl 4 _ rfl
      have p4_5 : wr.cell? ⟨gb, 37, none⟩ = some (.int .i64 0) := hg.at0 (k := 4) (o := ⟨8, 0, 1, 0, 0, 0, 0, 0⟩) rfl 5 _ rfl
      have p4_6 : wr.cell? ⟨gb, 38, none⟩ = some (.int .i64 0) := hg.at0 (k := 4) (o := ⟨8, 0, 1, 0, 0, 0, 0, 0⟩) rfl 6 _ rfl
      have p4_7 : wr.cell? ⟨gb, 39, none⟩ = some (.int .i64 0) := hg.at0 (k := 4) (o := ⟨8, 0, 1, 0, 0, 0, 0, 0⟩) rfl 7 _ rfl
      clear hg
      go_upto_region 11 with (fail)
      have B5 := Lib.hid BR.out
      have N5 := Lib.hid NR.out
      have L5 := Lib.hid LR.out
      have G5 := Lib.hid GR.out
      clear Hb N4 L4 G4 T4 B4 NR GR BR TR LR
      obtain ⟨W5, rfl⟩ : ∃ W, W = wr := ⟨_, rfl⟩
      go_cut [8] (fun s8 wx => ∃ g, s8 = .slice (some ⟨g, 0, none⟩) 19 19 ∧ W5.heap.size ≤ g ∧ Lx.IsEvs wx (some ⟨g, 0, none⟩) 19 Lx.knBase ∧ (∀ p, wx.frozen? ⟨g, p, none⟩ = false) ∧ Below W5.heap.size W5 wx)
      case first =>
        have HSS := Lib.hid (show ∀ wx, Below W5.heap.size W5 wx → Below W5.heap.size W5 wx ∧ wx.cell? ⟨lb, 0, none⟩ = some (.int .i64 1) ∧ wx.cell? ⟨lb, 1, none⟩ = some (.int .i64 120) ∧ wx.cell? ⟨lb, 2, none⟩ = some (.int .i64 1) ∧ wx.cell? ⟨lb, 3, none⟩ = some (.int .i64 110) ∧ wx.cell? ⟨lb, 4, none⟩ = some (.int .i64 1) ∧ wx.cell? ⟨lb, 5, none⟩ = some (.int .i64 7) ∧ wx.cell? ⟨lb, 6, none⟩ = some (.int .i64 0) ∧ wx.cell? ⟨lb, 7, none⟩ = some (.int .i64 0) ∧ wx.cell? ⟨gb, 8, none⟩ = some (.int .i64 4) ∧ wx.cell? ⟨gb, 9, none⟩ = some (.int .i64 130) ∧ wx.cell? ⟨gb, 10, none⟩ = some (.int .i64 0) ∧ wx.cell? ⟨gb, 11, none⟩ = some (.int .i64 110) ∧ wx.cell? ⟨gb, 12, none⟩ = some (.int .i64 2) ∧ wx.cell? ⟨gb, 13, none⟩ = some (.int .i64 0) ∧ wx.cell? ⟨gb, 14, none⟩ = some (.int .i64 0) ∧ wx.cell? ⟨gb, 15, none⟩ = some (.int .i64 140) ∧ wx.cell? ⟨gb, 16, none⟩ = some (.int .i64 5) ∧ wx.cell? ⟨gb, 17, none⟩ = some (.int .i64 5) ∧ wx.cell? ⟨gb, 18, none⟩ = some (.int .i64 0) ∧ wx.cell? ⟨gb, 19, none⟩ = some (.int .i64 5) ∧ wx.cell? ⟨gb, 20, none⟩ = some (.int .i64 1) ∧ wx.cell? ⟨gb, 21, none⟩ = some (.int .i64 0) ∧ wx.cell? ⟨gb, 22, none⟩ = some (.int .i64 6) ∧ wx.cell? ⟨gb, 23, none⟩ = some (.int .i64 0) ∧ wx.cell? ⟨gb, 24, none⟩ = some (.int .i64 6) ∧ wx.cell? ⟨gb, 25, none⟩ = some (.int .i64 7) ∧ wx.cell? ⟨gb, 26, none⟩ = some (.int .i64 0) ∧ wx.cell? ⟨gb, 27, none⟩ = some (.int .i64 0) ∧ wx.cell? ⟨gb, 28, none⟩ = some (.int .i64 0) ∧ wx.cell? ⟨gb, 29, none⟩ = some (.int .i64 0) ∧ wx.cell? ⟨gb, 30, none⟩ = some (.int .i64 5) ∧ wx.cell? ⟨gb, 31, none⟩ = some (.int .i64 0) ∧ wx.cell? ⟨gb, 32, none⟩ = some (.int .i64 8) ∧ wx.cell? ⟨gb, 33, none⟩ = some (.int .i64 0) ∧ wx.cell? ⟨gb, 34, none⟩ = some (.int .i64 1) ∧ wx.cell? ⟨gb, 35, none⟩ = some (.int .i64 0) ∧ wx.cell? ⟨gb, 36, none⟩ = some (.int .i64 0) ∧ wx.cell? ⟨gb, 37, none⟩ = some (.int .i64 0) ∧ wx.cell? ⟨gb, 38, none⟩ = some (.int .i64 0) ∧ wx.cell? ⟨gb, 39, none⟩ = some (.int .i64 0) from fun wx b => ⟨b, (b.cell (p := ⟨lb, 0, none⟩) hl).trans q0, (b.cell (p := ⟨lb, 1, none⟩) hl).trans q1, (b.cell (p := ⟨lb, 2, none⟩) hl).trans q2, (b.cell (p := ⟨lb, 3, none⟩) hl).trans q3, (b.cell (p := ⟨lb, 4, none⟩) hl).trans q4, (b.cell (p := ⟨lb, 5, none⟩) hl).trans q5, (b.cell (p := ⟨lb, 6, none⟩) hl).trans q6, (b.cell (p := ⟨lb, 7, none⟩) hl).trans q7, (b.cell (p := ⟨gb, 8, none⟩) hgl).trans p1_0, (b.cell (p := ⟨gb, 9, none⟩) hgl).trans p1_1, (b.cell (p := ⟨gb, 10, none⟩) hgl).trans p1_2, (b.cell (p := ⟨gb, 11, none⟩) hgl).trans p1_3, (b.cell (p := ⟨gb, 12, none⟩) hgl).trans p1_4, (b.cell (p := ⟨gb, 13, none⟩) hgl).trans p1_5, (b.cell (p := ⟨gb, 14, none⟩) hgl).trans p1_6, (b.cell (p := ⟨gb, 15, none⟩) hgl).trans p1_7, (b.cell (p := ⟨gb, 16, none⟩) hgl).trans p2_0, (b.cell (p := ⟨gb, 17, none⟩) hgl).trans p2_1, (b.cell (p := ⟨gb, 18, none⟩) hgl).trans p2_2, (b.cell (p := ⟨gb, 19, none⟩) hgl).trans p2_3, (b.cell (p := ⟨gb, 20, none⟩) hgl).trans p2_4, (b.cell (p := ⟨gb, 21, none⟩) hgl).trans p2_5, (b.cell (p := ⟨gb, 22, none⟩) hgl).trans p2_6, (b.cell (p := ⟨gb, 23, none⟩) hgl).trans p2_7, (b.cell (p := ⟨gb, 24, none⟩) hgl).trans p3_0, (b.cell (p := ⟨gb, 25, none⟩) hgl).trans p3_1, (b.cell (p := ⟨gb, 26, none⟩) hgl).trans p3_2, (b.cell (p := ⟨gb, 27, none⟩) hgl).trans p3_3, (b.cell (p := ⟨gb, 28, none⟩) hgl).trans p3_4, (b.cell (p := ⟨gb, 29, none⟩) hgl).trans p3_5, (b.cell (p := ⟨gb, 30, none⟩) hgl).trans p3_6, (b.cell (p := ⟨gb, 31, none⟩) hgl).trans p3_7, (b.cell (p := ⟨gb, 32, none⟩) hgl).trans p4_0, (b.cell (p := ⟨gb, 33, none⟩) hgl).trans p4_1, (b.cell (p := ⟨gb, 34, none⟩) hgl).trans p4_2, (b.cell (p := ⟨gb, 35, none⟩) hgl).trans p4_3, (b.cell (p := ⟨gb, 36, none⟩) hgl).trans p4_4, (b.cell (p := ⟨gb, 37, none⟩) hgl).trans p4_5, (b.cell (p := ⟨gb, 38, none⟩) hgl).trans p4_6, (b.cell (p := ⟨gb, 39, none⟩) hgl).trans p4_7⟩)
        have hS0 := HSS.out W5.drew ((Below.refl _ _).drew)
        clear q0 q1 q2 q3 q4 q5 q6 q7 p1_0 p1_1 p1_2 p1_3 p1_4 p1_5 p1_6 p1_7 p2_0 p2_1 p2_2 p2_3 p2_4 p2_5 p2_6 p2_7 p3_0 p3_1 p3_2 p3_3 p3_4 p3_5 p3_6 p3_7 p4_0 p4_1 p4_2 p4_3 p4_4 p4_5 p4_6 p4_7
        refine wp_region_held_drew (S := (fun wx => Below W5.heap.size W5 wx ∧ wx.cell? ⟨lb, 0, none⟩ = some (.int .i64 1) ∧ wx.cell? ⟨lb, 1, none⟩ = some (.int .i64 120) ∧ wx.cell? ⟨lb, 2, none⟩ = some (.int .i64 1) ∧ wx.cell? ⟨lb, 3, none⟩ = some (.int .i64 110) ∧ wx.cell? ⟨lb, 4, none⟩ = some (.int .i64 1) ∧ wx.cell? ⟨lb, 5, none⟩ = some (.int .i64 7) ∧ wx.cell? ⟨lb, 6, none⟩ = some (.int .i64 0) ∧ wx.cell? ⟨lb, 7, none⟩ = some (.int .i64 0) ∧ wx.cell? ⟨gb, 8, none⟩ = some (.int .i64 4) ∧ wx.cell? ⟨gb, 9, none⟩ = some (.int .i64 130) ∧ wx.cell? ⟨gb, 10, none⟩ = some (.int .i64 0) ∧ wx.cell? ⟨gb, 11, none⟩ = some (.int .i64 110) ∧ wx.cell? ⟨gb, 12, none⟩ = some (.int .i64 2) ∧ wx.cell? ⟨gb, 13, none⟩ = some (.int .i64 0) ∧ wx.cell? ⟨gb, 14, none⟩ = some (.int .i64 0) ∧ wx.cell? ⟨gb, 15, none⟩ = some (.int .i64 140) ∧ wx.cell? ⟨gb, 16, none⟩ = some (.int .i64 5) ∧ wx.cell? ⟨gb, 17, none⟩ = some (.int .i64 5) ∧ wx.cell? ⟨gb, 18, none⟩ = some (.int .i64 0) ∧ wx.cell? ⟨gb, 19, none⟩ = some (.int .i64 5) ∧ wx.cell? ⟨gb, 20, none⟩ = some (.int .i64 1) ∧ wx.cell? ⟨gb, 21, none⟩ = some (.int .i64 0) ∧ wx.cell? ⟨gb, 22, none⟩ = some (.int .i64 6) ∧ wx.cell? ⟨gb, 23, none⟩ = some (.int .i64 0) ∧ wx.cell? ⟨gb, 24, none⟩ = some (.int .i64 6) ∧ wx.cell? ⟨gb, 25, none⟩ = some (.int .i64 7) ∧ wx.cell? ⟨gb, 26, none⟩ = some (.int .i64 0) ∧ wx.cell? ⟨gb, 27, none⟩ = some (.int .i64 0) ∧ wx.cell? ⟨gb, 28, none⟩ = some (.int .i64 0) ∧ wx.cell? ⟨gb, 29, none⟩ = some (.int .i64 0) ∧ wx.cell? ⟨gb, 30, none⟩ = some (.int .i64 5) ∧ wx.cell? ⟨gb, 31, none⟩ = some (.int .i64 0) ∧ wx.cell? ⟨gb, 32, none⟩ = some (.int .i64 8) ∧ wx.cell? ⟨gb, 33, none⟩ = some (.int .i64 0) ∧ wx.cell? ⟨gb, 34, none⟩ = some (.int .i64 1) ∧ wx.cell? ⟨gb, 35, none⟩ = some (.int .i64 0) ∧ wx.cell? ⟨gb, 36, none⟩ = some (.int .i64 0) ∧ wx.cell? ⟨gb, 37, none⟩ = some (.int .i64 0) ∧ wx.cell? ⟨gb, 38, none⟩ = some (.int .i64 0) ∧ wx.cell? ⟨gb, 39, none⟩ = some (.int .i64 0))) (by kernel_rfl) ?_ (fun hHeld => ?_)
        · exact hS0
        refine' wpAnyH_take (i := 0) (oi := _) (v := _) ?hi0r1 (by kernel_rfl) (by kernel_rfl) (by kernel_rfl) ?hq0r1 ?hy0r1 (by assumption) ?re0r1
        case hi0r1 => simp only [List.getElem?_toArray, List.getElem?_cons_zero]; rfl
        case hq0r1 => exact fun _ _ _ h => h
        case hy0r1 =>
          refine Or.inl ⟨by rfl, ?_⟩
          intro w hSw; (try dsimp only at hSw); go_simp; try with_reducible rfl
        try simp only [Act.put, List.setIfInBounds_toArray, List.set_cons_zero, List.set_cons_succ]
        refine' wpAnyH_take (i := 1) (oi := _) (v := _) ?hi1r1 (by kernel_rfl) (by kernel_rfl) (by kernel_rfl) ?hq1r1 ?hy1r1 (by assumption) ?re1r1
        case hi1r1 => simp only [List.getElem?_toArray, List.getElem?_cons_succ, List.getElem?_cons_zero]; rfl
        case hq1r1 => exact fun _ _ _ h => h
        case hy1r1 =>
          refine Or.inl ⟨by rfl, ?_⟩
          intro w hSw; (try dsimp only at hSw); go_simp; try with_reducible rfl
        try simp only [Act.put, List.setIfInBounds_toArray, List.set_cons_zero, List.set_cons_succ]
        refine' wpAnyH_take (i := 2) (oi := _) (v := _) ?hi2r1 (by kernel_rfl) (by kernel_rfl) (by kernel_rfl) ?hq2r1 ?hy2r1 (by assumption) ?re2r1
        case hi2r1 => simp only [List.getElem?_toArray, List.getElem?_cons_succ, List.getElem?_cons_zero]; rfl
        case hq2r1 => exact fun _ _ _ h => h
        case hy2r1 =>
          refine Or.inl ⟨by rfl, ?_⟩
          intro w hSw; (try dsimp only at hSw); go_simp; try with_reducible rfl
        try simp only [Act.put, List.setIfInBounds_toArray, List.set_cons_zero, List.set_cons_succ]
        refine' wpAnyH_take (i := 3) (oi := _) (v := _) ?hi3r1 (by kernel_rfl) (by kernel_rfl) (by kernel_rfl) ?hq3r1 ?hy3r1 (by assumption) ?re3r1
        case hi3r1 => simp only [List.getElem?_toArray, List.getElem?_cons_succ, List.getElem?_cons_zero]; rfl
        case hq3r1 => exact fun _ _ _ h => h
        case hy3r1 =>
          refine Or.inl ⟨by rfl, ?_⟩
          intro w hSw; (try dsimp only at hSw); go_simp; try with_reducible rfl
        try simp only [Act.put, List.setIfInBounds_toArray, List.set_cons_zero, List.set_cons_succ]
        refine' wpAnyH_take (i := 4) (oi := _) (v := _) ?hi4r1 (by kernel_rfl) (by kernel_rfl) (by kernel_rfl) ?hq4r1 ?hy4r1 (by assumption) ?re4r1
        case hi4r1 => simp only [List.getElem?_toArray, List.getElem?_cons_succ, List.getElem?_cons_zero]; rfl
        case hq4r1 => exact fun _ _ _ h => h
        case hy4r1 =>
          refine Or.inl ⟨by rfl, ?_⟩
          intro w hSw; (try dsimp only at hSw); go_simp; try with_reducible rfl
        try simp only [Act.put, List.setIfInBounds_toArray, List.set_cons_zero, List.set_cons_succ]
        refine' wpAnyH_take (i := 5) (oi := _) (v := _) ?hi5r1 (by kernel_rfl) (by kernel_rfl) (by kernel_rfl) ?hq5r1 ?hy5r1 (by assumption) ?re5r1
        case hi5r1 => simp only [List.getElem?_toArray, List.getElem?_cons_succ, List.getElem?_cons_zero]; rfl
        case hq5r1 => exact fun _ _ _ h => h
        case hy5r1 =>
          refine Or.inl ⟨by rfl, ?_⟩
          intro w hSw; (try dsimp only at hSw); go_simp; try with_reducible rfl
        try simp only [Act.put, List.setIfInBounds_toArray, List.set_cons_zero, List.set_cons_succ]
        refine' wpAnyH_take (i := 6) (oi := _) (v := _) ?hi6r1 (by kernel_rfl) (by kernel_rfl) (by kernel_rfl) ?hq6r1 ?hy6r1 (by assumption) ?re6r1
        case hi6r1 => simp only [List.getElem?_toArray, List.getElem?_cons_succ, List.getElem?_cons_zero]; rfl
        case hq6r1 => exact fun _ _ _ h => h
        case hy6r1 =>
          refine Or.inl ⟨by rfl, ?_⟩
          intro w hSw; (try dsimp only at hSw); go_simp; try with_reducible rfl
        try simp only [Act.put, List.setIfInBounds_toArray, List.set_cons_zero, List.set_cons_succ]
        refine' wpAnyH_take (i := 7) (oi := _) (v := _) ?hi7r1 (by kernel_rfl) (by kernel_rfl) (by kernel_rfl) ?hq7r1 ?hy7r1 (by assumption) ?re7r1
        case hi7r1 => simp only [List.getElem?_toArray, List.getElem?_cons_succ, List.getElem?_cons_zero]; rfl
        case hq7r1 => exact fun _ _ _ h => h
        case hy7r1 =>
          refine Or.inl ⟨by rfl, ?_⟩
          intro w hSw; (try dsimp only at hSw); go_simp; try with_reducible rfl
        try simp only [Act.put, List.setIfInBounds_toArray, List.set_cons_zero, List.set_cons_succ]
        refine' wpAnyH_take (i := 8) (oi := _) (v := _) ?hi8r1 (by kernel_rfl) (by kernel_rfl) (by kernel_rfl) ?hq8r1 ?hy8r1 (by assumption) ?re8r1
        case hi8r1 => simp only [List.getElem?_toArray, List.getElem?_cons_succ, List.getElem?_cons_zero]; rfl
        case hq8r1 => exact fun _ _ _ h => h
        case hy8r1 =>
          refine Or.inl ⟨by rfl, ?_⟩
          intro w hSw; (try dsimp only at hSw); go_simp; try with_reducible rfl
        try simp only [Act.put, List.setIfInBounds_toArray, List.set_cons_zero, List.set_cons_succ]
        refine' wpAnyH_take (i := 9) (oi := _) (v := _) ?hi9r1 (by kernel_rfl) (by kernel_rfl) (by kernel_rfl) ?hq9r1 ?hy9r1 (by assumption) ?re9r1
        case hi9r1 => simp only [List.getElem?_toArray, List.getElem?_cons_succ, List.getElem?_cons_zero]; rfl
        case hq9r1 => exact fun _ _ _ h => h
        case hy9r1 =>
          refine Or.inl ⟨by rfl, ?_⟩
          intro w hSw; (try dsimp only at hSw); go_simp; try with_reducible rfl
        try simp only [Act.put, List.setIfInBounds_toArray, List.set_cons_zero, List.set_cons_succ]
        refine' wpAnyH_take (i := 10) (oi := _) (v := _) ?hi10r1 (by kernel_rfl) (by kernel_rfl) (by kernel_rfl) ?hq10r1 ?hy10r1 (by assumption) ?re10r1
        case hi10r1 => simp only [List.getElem?_toArray, List.getElem?_cons_succ, List.getElem?_cons_zero]; rfl
        case hq10r1 => exact fun _ _ _ h => h
        case hy10r1 =>
          refine Or.inl ⟨by rfl, ?_⟩
          intro w hSw; (try dsimp only at hSw); go_simp; try with_reducible rfl
        try simp only [Act.put, List.setIfInBounds_toArray, List.set_cons_zero, List.set_cons_succ]
        refine' wpAnyH_take (i := 11) (oi := _) (v := _) ?hi11r1 (by kernel_rfl) (by kernel_rfl) (by kernel_rfl) ?hq11r1 ?hy11r1 (by assumption) ?re11r1
        case hi11r1 => simp only [List.getElem?_toArray, List.getElem?_cons_succ, List.getElem?_cons_zero]; rfl
        case hq11r1 => exact fun _ _ _ h => h
        case hy11r1 =>
          refine Or.inl ⟨by rfl, ?_⟩
          intro w hSw; (try dsimp only at hSw); go_simp; try with_reducible rfl
        try simp only [Act.put, List.setIfInBounds_toArray, List.set_cons_zero, List.set_cons_succ]
        refine' wpAnyH_take (i := 12) (oi := _) (v := _) ?hi12r1 (by kernel_rfl) (by kernel_rfl) (by kernel_rfl) ?hq12r1 ?hy12r1 (by assumption) ?re12r1
        case hi12r1 => simp only [List.getElem?_toArray, List.getElem?_cons_succ, List.getElem?_cons_zero]; rfl
        case hq12r1 => exact fun _ _ _ h => h
        case hy12r1 =>
          refine Or.inl ⟨by rfl, ?_⟩
          intro w hSw; (try dsimp only at hSw); go_simp; try with_reducible rfl
        try simp only [Act.put, List.setIfInBounds_toArray, List.set_cons_zero, List.set_cons_succ]
        refine' wpAnyH_take (i := 13) (oi := _) (v := _) ?hi13r1 (by kernel_rfl) (by kernel_rfl) (by kernel_rfl) ?hq13r1 ?hy13r1 (by assumption) ?re13r1
        case hi13r1 => simp only [List.getElem?_toArray, List.getElem?_cons_succ, List.getElem?_cons_zero]; rfl
        case hq13r1 => exact fun _ _ _ h => h
        case hy13r1 =>
          refine Or.inl ⟨by rfl, ?_⟩
          intro w hSw; (try dsimp only at hSw); go_simp; try with_reducible rfl
        try simp only [Act.put, List.setIfInBounds_toArray, List.set_cons_zero, List.set_cons_succ]
        refine' wpAnyH_take (i := 14) (oi := _) (v := _) ?hi14r1 (by kernel_rfl) (by kernel_rfl) (by kernel_rfl) ?hq14r1 ?hy14r1 (by assumption) ?re14r1
        case hi14r1 => simp only [List.getElem?_toArray, List.getElem?_cons_succ, List.getElem?_cons_zero]; rfl
        case hq14r1 => exact fun _ _ _ h => h
        case hy14r1 =>
          refine Or.inl ⟨by rfl, ?_⟩
          intro w hSw; (try dsimp only at hSw); go_simp; try with_reducible rfl
        try simp only [Act.put, List.setIfInBounds_toArray, List.set_cons_zero, List.set_cons_succ]
        refine' wpAnyH_take (i := 15) (oi := _) (v := _) ?hi15r1 (by kernel_rfl) (by kernel_rfl) (by kernel_rfl) ?hq15r1 ?hy15r1 (by assumption) ?re15r1
        case hi15r1 => simp only [List.getElem?_toArray, List.getElem?_cons_succ, List.getElem?_cons_zero]; rfl
        case hq15r1 => exact fun _ _ _ h => h
        case hy15r1 =>
          refine Or.inl ⟨by rfl, ?_⟩
          intro w hSw; (try dsimp only at hSw); go_simp; try with_reducible rfl
        try simp only [Act.put, List.setIfInBounds_toArray, List.set_cons_zero, List.set_cons_succ]
        refine' wpAnyH_take (i := 16) (oi := _) (v := _) ?hi16r1 (by kernel_rfl) (by kernel_rfl) (by kernel_rfl) ?hq16r1 ?hy16r1 (by assumption) ?re16r1
        case hi16r1 => simp only [List.getElem?_toArray, List.getElem?_cons_succ, List.getElem?_cons_zero]; rfl
        case hq16r1 => exact fun _ _ _ h => h
        case hy16r1 =>
          refine Or.inl ⟨by rfl, ?_⟩
          intro w hSw; (try dsimp only at hSw); go_simp; try with_reducible rfl
        try simp only [Act.put, List.setIfInBounds_toArray, List.set_cons_zero, List.set_cons_succ]
        refine' wpAnyH_take (i := 17) (oi := _) (v := _) ?hi17r1 (by kernel_rfl) (by kernel_rfl) (by kernel_rfl) ?hq17r1 ?hy17r1 (by assumption) ?re17r1
        case hi17r1 => simp only [List.getElem?_toArray, List.getElem?_cons_succ, List.getElem?_cons_zero]; rfl
        case hq17r1 => exact fun _ _ _ h => h
        case hy17r1 =>
          refine Or.inl ⟨by rfl, ?_⟩
          intro w hSw; (try dsimp only at hSw); go_simp; try with_reducible rfl
        try simp only [Act.put, List.setIfInBounds_toArray, List.set_cons_zero, List.set_cons_succ]
        refine' wpAnyH_take (i := 18) (oi := _) (v := _) ?hi18r1 (by kernel_rfl) (by kernel_rfl) (by kernel_rfl) ?hq18r1 ?hy18r1 (by assumption) ?re18r1
        case hi18r1 => simp only [List.getElem?_toArray, List.getElem?_cons_succ, List.getElem?_cons_zero]; rfl
        case hq18r1 => exact fun _ _ _ h => h
        case hy18r1 =>
          refine Or.inl ⟨by rfl, ?_⟩
          intro w hSw; (try dsimp only at hSw); go_simp; try with_reducible rfl
        try simp only [Act.put, List.setIfInBounds_toArray, List.set_cons_zero, List.set_cons_succ]
        refine' wpAnyH_take (i := 19) (oi := _) (v := _) ?hi19r1 (by kernel_rfl) (by kernel_rfl) (by kernel_rfl) ?hq19r1 ?hy19r1 (by assumption) ?re19r1
        case hi19r1 => simp only [List.getElem?_toArray, List.getElem?_cons_succ, List.getElem?_cons_zero]; rfl
        case hq19r1 => exact fun _ _ _ h => h
        case hy19r1 =>
          refine Or.inl ⟨by rfl, ?_⟩
          intro w hSw; (try dsimp only at hSw); go_simp; try with_reducible rfl
        try simp only [Act.put, List.setIfInBounds_toArray, List.set_cons_zero, List.set_cons_succ]
        refine' wpAnyH_take (i := 20) (oi := _) (v := _) ?hi20r1 (by kernel_rfl) (by kernel_rfl) (by kernel_rfl) ?hq20r1 ?hy20r1 (by assumption) ?re20r1
        case hi20r1 => simp only [List.getElem?_toArray, List.getElem?_cons_succ, List.getElem?_cons_zero]; rfl
        case hq20r1 => exact fun _ _ _ h => h
        case hy20r1 =>
          refine Or.inl ⟨by rfl, ?_⟩
          intro w hSw; (try dsimp only at hSw); go_simp; try with_reducible rfl
        try simp only [Act.put, List.setIfInBounds_toArray, List.set_cons_zero, List.set_cons_succ]
        refine' wpAnyH_take (i := 21) (oi := _) (v := _) ?hi21r1 (by kernel_rfl) (by kernel_rfl) (by kernel_rfl) ?hq21r1 ?hy21r1 (by assumption) ?re21r1
        case hi21r1 => simp only [List.getElem?_toArray, List.getElem?_cons_succ, List.getElem?_cons_zero]; rfl
        case hq21r1 => exact fun _ _ _ h => h
        case hy21r1 =>
          refine Or.inl ⟨by rfl, ?_⟩
          intro w hSw; (try dsimp only at hSw); go_simp; try with_reducible rfl
        try simp only [Act.put, List.setIfInBounds_toArray, List.set_cons_zero, List.set_cons_succ]
        refine' wpAnyH_take (i := 22) (oi := _) (v := _) ?hi22r1 (by kernel_rfl) (by kernel_rfl) (by kernel_rfl) ?hq22r1 ?hy22r1 (by assumption) ?re22r1
        case hi22r1 => simp only [List.getElem?_toArray, List.getElem?_cons_succ, List.getElem?_cons_zero]; rfl
        case hq22r1 => exact fun _ _ _ h => h
        case hy22r1 =>
          refine Or.inl ⟨by rfl, ?_⟩
          intro w hSw; (try dsimp only at hSw); go_simp; try with_reducible rfl
        try simp only [Act.put, List.setIfInBounds_toArray, List.set_cons_zero, List.set_cons_succ]
        refine' wpAnyH_take (i := 23) (oi := _) (v := _) ?hi23r1 (by kernel_rfl) (by kernel_rfl) (by kernel_rfl) ?hq23r1 ?hy23r1 (by assumption) ?re23r1
        case hi23r1 => simp only [List.getElem?_toArray, List.getElem?_cons_succ, List.getElem?_cons_zero]; rfl
        case hq23r1 => exact fun _ _ _ h => h
        case hy23r1 =>
          refine Or.inl ⟨by rfl, ?_⟩
          intro w hSw; (try dsimp only at hSw); go_simp; try with_reducible rfl
        try simp only [Act.put, List.setIfInBounds_toArray, List.set_cons_zero, List.set_cons_succ]
        refine' wpAnyH_take (i := 24) (oi := _) (v := _) ?hi24r1 (by kernel_rfl) (by kernel_rfl) (by kernel_rfl) ?hq24r1 ?hy24r1 (by assumption) ?re24r1
        case hi24r1 => simp only [List.getElem?_toArray, List.getElem?_cons_succ, List.getElem?_cons_zero]; rfl
        case hq24r1 => exact fun _ _ _ h => h
        case hy24r1 =>
          refine Or.inl ⟨by rfl, ?_⟩
          intro w hSw; (try dsimp only at hSw); go_simp; try with_reducible rfl
        try simp only [Act.put, List.setIfInBounds_toArray, List.set_cons_zero, List.set_cons_succ]
        refine' wpAnyH_take (i := 25) (oi := _) (v := _) ?hi25r1 (by kernel_rfl) (by kernel_rfl) (by kernel_rfl) ?hq25r1 ?hy25r1 (by assumption) ?re25r1
        case hi25r1 => simp only [List.getElem?_toArray, List.getElem?_cons_succ, List.getElem?_cons_zero]; rfl
        case hq25r1 => exact fun _ _ _ h => h
        case hy25r1 =>
          refine Or.inl ⟨by rfl, ?_⟩
          intro w hSw; (try dsimp only at hSw); go_simp; try with_reducible rfl
        try simp only [Act.put, List.setIfInBounds_toArray, List.set_cons_zero, List.set_cons_succ]
        refine' wpAnyH_take (i := 26) (oi := _) (v := _) ?hi26r1 (by kernel_rfl) (by kernel_rfl) (by kernel_rfl) ?hq26r1 ?hy26r1 (by assumption) ?re26r1
        case hi26r1 => simp only [List.getElem?_toArray, List.getElem?_cons_succ, List.getElem?_cons_zero]; rfl
        case hq26r1 => exact fun _ _ _ h => h
        case hy26r1 =>
          refine Or.inl ⟨by rfl, ?_⟩
          intro w hSw; (try dsimp only at hSw); go_simp; try with_reducible rfl
        try simp only [Act.put, List.setIfInBounds_toArray, List.set_cons_zero, List.set_cons_succ]
        refine' wpAnyH_take (i := 27) (oi := _) (v := _) ?hi27r1 (by kernel_rfl) (by kernel_rfl) (by kernel_rfl) ?hq27r1 ?hy27r1 (by assumption) ?re27r1
        case hi27r1 => simp only [List.getElem?_toArray, List.getElem?_cons_succ, List.getElem?_cons_zero]; rfl
        case hq27r1 => exact fun _ _ _ h => h
        case hy27r1 =>
          refine Or.inl ⟨by rfl, ?_⟩
          intro w hSw; (try dsimp only at hSw); go_simp; try with_reducible rfl
        try simp only [Act.put, List.setIfInBounds_toArray, List.set_cons_zero, List.set_cons_succ]
        refine' wpAnyH_take (i := 28) (oi := _) (v := _) ?hi28r1 (by kernel_rfl) (by kernel_rfl) (by kernel_rfl) ?hq28r1 ?hy28r1 (by assumption) ?re28r1
        case hi28r1 => simp only [List.getElem?_toArray, List.getElem?_cons_succ, List.getElem?_cons_zero]; rfl
        case hq28r1 => exact fun _ _ _ h => h
        case hy28r1 =>
          refine Or.inl ⟨by rfl, ?_⟩
          intro w hSw; (try dsimp only at hSw); go_simp; try with_reducible rfl
        try simp only [Act.put, List.setIfInBounds_toArray, List.set_cons_zero, List.set_cons_succ]
        refine' wpAnyH_take (i := 29) (oi := _) (v := _) ?hi29r1 (by kernel_rfl) (by kernel_rfl) (by kernel_rfl) ?hq29r1 ?hy29r1 (by assumption) ?re29r1
        case hi29r1 => simp only [List.getElem?_toArray, List.getElem?_cons_succ, List.getElem?_cons_zero]; rfl
        case hq29r1 => exact fun _ _ _ h => h
        case hy29r1 =>
          refine Or.inl ⟨by rfl, ?_⟩
          intro w hSw; (try dsimp only at hSw); go_simp; try with_reducible rfl
        try simp only [Act.put, List.setIfInBounds_toArray, List.set_cons_zero, List.set_cons_succ]
        refine' wpAnyH_take (i := 30) (oi := _) (v := _) ?hi30r1 (by kernel_rfl) (by kernel_rfl) (by kernel_rfl) ?hq30r1 ?hy30r1 (by assumption) ?re30r1
        case hi30r1 => simp only [List.getElem?_toArray, List.getElem?_cons_succ, List.getElem?_cons_zero]; rfl
        case hq30r1 => exact fun _ _ _ h => h
        case hy30r1 =>
          refine Or.inl ⟨by rfl, ?_⟩
          intro w hSw; (try dsimp only at hSw); go_simp; try with_reducible rfl
        try simp only [Act.put, List.setIfInBounds_toArray, List.set_cons_zero, List.set_cons_succ]
        refine' wpAnyH_take (i := 31) (oi := _) (v := _) ?hi31r1 (by kernel_rfl) (by kernel_rfl) (by kernel_rfl) ?hq31r1 ?hy31r1 (by assumption) ?re31r1
        case hi31r1 => simp only [List.getElem?_toArray, List.getElem?_cons_succ, List.getElem?_cons_zero]; rfl
        case hq31r1 => exact fun _ _ _ h => h
        case hy31r1 =>
          refine Or.inl ⟨by rfl, ?_⟩
          intro w hSw; (try dsimp only at hSw); go_simp; try with_reducible rfl
        try simp only [Act.put, List.setIfInBounds_toArray, List.set_cons_zero, List.set_cons_succ]
        refine' wpAnyH_take (i := 32) (oi := _) (v := _) ?hi32r1 (by kernel_rfl) (by kernel_rfl) (by kernel_rfl) ?hq32r1 ?hy32r1 (by assumption) ?re32r1
        case hi32r1 => simp only [List.getElem?_toArray, List.getElem?_cons_succ, List.getElem?_cons_zero]; rfl
        case hq32r1 => exact fun _ _ _ h => h
        case hy32r1 =>
          refine Or.inl ⟨by rfl, ?_⟩
          intro w hSw; (try dsimp only at hSw); go_simp; try with_reducible rfl
        try simp only [Act.put, List.setIfInBounds_toArray, List.set_cons_zero, List.set_cons_succ]
        refine' wpAnyH_take (i := 33) (oi := _) (v := _) ?hi33r1 (by kernel_rfl) (by kernel_rfl) (by kernel_rfl) ?hq33r1 ?hy33r1 (by assumption) ?re33r1
        case hi33r1 => simp only [List.getElem?_toArray, List.getElem?_cons_succ, List.getElem?_cons_zero]; rfl
        case hq33r1 => exact fun _ _ _ h => h
        case hy33r1 =>
          refine Or.inl ⟨by rfl, ?_⟩
          intro w hSw; (try dsimp only at hSw); go_simp; try with_reducible rfl
        try simp only [Act.put, List.setIfInBounds_toArray, List.set_cons_zero, List.set_cons_succ]
        refine' wpAnyH_take (i := 34) (oi := _) (v := _) ?hi34r1 (by kernel_rfl) (by kernel_rfl) (by kernel_rfl) ?hq34r1 ?hy34r1 (by assumption) ?re34r1
        case hi34r1 => simp only [List.getElem?_toArray, List.getElem?_cons_succ, List.getElem?_cons_zero]; rfl
        case hq34r1 => exact fun _ _ _ h => h
        case hy34r1 =>
          refine Or.inl ⟨by rfl, ?_⟩
          intro w hSw; (try dsimp only at hSw); go_simp; try with_reducible rfl
        try simp only [Act.put, List.setIfInBounds_toArray, List.set_cons_zero, List.set_cons_succ]
        refine' wpAnyH_take (i := 35) (oi := _) (v := _) ?hi35r1 (by kernel_rfl) (by kernel_rfl) (by kernel_rfl) ?hq35r1 ?hy35r1 (by assumption) ?re35r1
        case hi35r1 => simp only [List.getElem?_toArray, List.getElem?_cons_succ, List.getElem?_cons_zero]; rfl
        case hq35r1 => exact fun _ _ _ h => h
        case hy35r1 =>
          refine Or.inl ⟨by rfl, ?_⟩
          intro w hSw; (try dsimp only at hSw); go_simp; try with_reducible rfl
        try simp only [Act.put, List.setIfInBounds_toArray, List.set_cons_zero, List.set_cons_succ]
        refine' wpAnyH_take (i := 36) (oi := _) (v := _) ?hi36r1 (by kernel_rfl) (by kernel_rfl) (by kernel_rfl) ?hq36r1 ?hy36r1 (by assumption) ?re36r1
        case hi36r1 => simp only [List.getElem?_toArray, List.getElem?_cons_succ, List.getElem?_cons_zero]; rfl
        case hq36r1 => exact fun _ _ _ h => h
        case hy36r1 =>
          refine Or.inl ⟨by rfl, ?_⟩
          intro w hSw; (try dsimp only at hSw); go_simp; try with_reducible rfl
        try simp only [Act.put, List.setIfInBounds_toArray, List.set_cons_zero, List.set_cons_succ]
        refine wpAnyH_ready (rs := [37]) (by kernel_rfl) (by simp) ?_
        refine' AllReadyH.cons (o := _) ?hi37r1 (fun K hK => ?st37r1) AllReadyH.nil
        case hi37r1 => simp only [List.getElem?_toArray, List.getElem?_cons_succ, List.getElem?_cons_zero]; rfl
        skip
        refine step_of_run rfl (.slice (some ⟨W5.heap.size, 0, none⟩) 19 19) (w' := W5.drew.alloc (.cells #[.int .i64 1, .int .i64 120, .int .i64 1, .int .i64 110, .int .i64 1, .int .i64 7, .int .i64 0, .int .i64 0, .int .i64 1, .int .i64 120, .int .i64 1, .int .i64 110, .int .i64 1, .int .i64 7, .int .i64 0, .int .i64 0, .int .i64 1, .int .i64 120, .int .i64 1, .int .i64 110, .int .i64 1, .int .i64 7, .int .i64 0, .int .i64 0, .int .i64 1, .int .i64 120, .int .i64 1, .int .i64 110, .int .i64 1, .int .i64 7, .int .i64 0, .int .i64 0, .int .i64 1, .int .i64 120, .int .i64 1, .int .i64 110, .int .i64 1, .int .i64 7, .int .i64 0, .int .i64 0, .int .i64 1, .int .i64 120, .int .i64 1, .int .i64 110, .int .i64 1, .int .i64 7, .int .i64 0, .int .i64 0, .int .i64 4, .int .i64 130, .int .i64 0, .int .i64 110, .int .i64 2, .int .i64 0, .int .i64 0, .int .i64 140, .int .i64 4, .int .i64 130, .int .i64 0, .int .i64 110, .int .i64 2, .int .i64 0, .int .i64 0, .int .i64 140, .int .i64 4, .int .i64 130, .int .i64 0, .int .i64 110, .int .i64 2, .int .i64 0, .int .i64 0, .int .i64 140, .int .i64 5, .int .i64 5, .int .i64 0, .int .i64 5, .int .i64 1, .int .i64 0, .int .i64 6, .int .i64 0, .int .i64 5, .int .i64 5, .int .i64 0, .int .i64 5, .int .i64 1, .int .i64 0, .int .i64 6, .int .i64 0, .int .i64 6, .int .i64 7, .int .i64 0, .int .i64 0, .int .i64 0, .int .i64 0, .int .i64 5, .int .i64 0, .int .i64 6, .int .i64 7, .int .i64 0, .int .i64 0, .int .i64 0, .int .i64 0, .int .i64 5, .int .i64 0, .int .i64 6, .int .i64 7, .int .i64 0, .int .i64 0, .int .i64 0, .int .i64 0, .int .i64 5, .int .i64 0, .int .i64 8, .int .i64 0, .int .i64 1, .int .i64 0, .int .i64 0, .int .i64 0, .int .i64 0, .int .i64 0, .int .i64 9, .int .i64 0, .int .i64 0, .int .i64 0, .int .i64 0, .int .i64 0, .int .i64 0, .int .i64 0, .int .i64 0, .int .i64 0, .int .i64 0, .int .i64 0, .int .i64 0, .int .i64 0, .int .i64 0, .int .i64 0, .int .i64 7, .int .i64 5, .int .i64 0, .int .i64 0, .int .i64 0, .int .i64 0, .int .i64 0, .int .i64 5, .int .i64 7, .int .i64 5, .int .i64 0, .int .i64 0, .int .i64 0, .int .i64 0, .int .i64 0, .int .i64 4611686018427387905] 23)) (by kernel_rfl) ?_; have k8 := HSS.out (W5.drew.alloc (.cells #[.int .i64 1, .int .i64 120, .int .i64 1, .int .i64 110, .int .i64 1, .int .i64 7, .int .i64 0, .int .i64 0, .int .i64 1, .int .i64 120, .int .i64 1, .int .i64 110, .int .i64 1, .int .i64 7, .int .i64 0, .int .i64 0, .int .i64 1, .int .i64 120, .int .i64 1, .int .i64 110, .int .i64 1, .int .i64 7, .int .i64 0, .int .i64 0, .int .i64 1, .int .i64 120, .int .i64 1, .int .i64 110, .int .i64 1, .int .i64 7, .int .i64 0, .int .i64 0, .int .i64 1, .int .i64 120, .int .i64 1, .int .i64 110, .int .i64 1, .int .i64 7, .int .i64 0, .int .i64 0, .int .i64 1, .int .i64 120, .int .i64 1, .int .i64 110, .int .i64 1, .int .i64 7, .int .i64 0, .int .i64 0, .int .i64 4, .int .i64 130, .int .i64 0, .int .i64 110, .int .i64 2, .int .i64 0, .int .i64 0, .int .i64 140, .int .i64 4, .int .i64 130, .int .i64 0, .int .i64 110, .int .i64 2, .int .i64 0, .int .i64 0, .int .i64 140, .int .i64 4, .int .i64 130, .int .i64 0, .int .i64 110, .int .i64 2, .int .i64 0, .int .i64 0, .int .i64 140, .int .i64 5, .int .i64 5, .int .i64 0, .int .i64 5, .int .i64 1, .int .i64 0, .int .i64 6, .int .i64 0, .int .i64 5, .int .i64 5, .int .i64 0, .int .i64 5, .int .i64 1, .int .i64 0, .int .i64 6, .int .i64 0, .int .i64 6, .int .i64 7, .int .i64 0, .int .i64 0, .int .i64 0, .int .i64 0, .int .i64 5, .int .i64 0, .int .i64 6, .int .i64 7, .int .i64 0, .int .i64 0, .int .i64 0, .int .i64 0, .int .i64 5, .int .i64 0, .int .i64 6, .int .i64 7, .int .i64 0, .int .i64 0, .int .i64 0, .int .i64 0, .int .i64 5, .int .i64 0, .int .i64 8, .int .i64 0, .int .i64 1, .int .i64 0, .int .i64 0, .int .i64 0, .int .i64 0, .int .i64 0, .int .i64 9, .int .i64 0, .int .i64 0, .int .i64 0, .int .i64 0, .int .i64 0, .int .i64 0, .int .i64 0, .int .i64 0, .int .i64 0, .int .i64 0, .int .i64 0, .int .i64 0, .int .i64 0, .int .i64 0, .int .i64 0, .int .i64 7, .int .i64 5, .int .i64 0, .int .i64 0, .int .i64 0, .int .i64 0, .int .i64 0, .int .i64 5, .int .i64 7, .int .i64 5, .int .i64 0, .int .i64 0, .int .i64 0, .int .i64 0, .int .i64 0, .int .i64 4611686018427387905] 23)) (((Below.refl _ _).drew).alloc (Nat.le_refl _) _)
        refine hK.out _ _ ?_ (fun hHeld => ?_)
        · exact k8
        clear hK K
        try simp only [Act.put, List.setIfInBounds_toArray, List.set_cons_zero, List.set_cons_succ]
        refine' wpAnyH_take (i := 38) (oi := _) (v := _) ?hi38r1 (by kernel_rfl) (by kernel_rfl) (by kernel_rfl) ?hq38r1 ?hy38r1 (by assumption) ?re38r1
        case hi38r1 => simp only [List.getElem?_toArray, List.getElem?_cons_succ, List.getElem?_cons_zero]; rfl
        case hq38r1 => exact fun _ _ _ h => h
        case hy38r1 =>
          refine Or.inl ⟨by rfl, ?_⟩
          intro w hSw; (try dsimp only at hSw); go_simp; try with_reducible rfl
        try simp only [Act.put, List.setIfInBounds_toArray, List.set_cons_zero, List.set_cons_succ]
        refine wpAnyH_done (by kernel_rfl) ?_ _
        go_wp2_with fail
        go_meet
        exact ⟨_, rfl, Nat.le_refl _, (Lx.isEvs_lit W5 _ _ 19 Lx.knBase rfl (by kernel_rfl)).below ((Below.refl _ _).drew), fun p => by simp, ((Below.refl _ _).alloc (Nat.le_refl _) _).drew⟩
      case rest =>
        obtain ⟨g8, rfl, hge, hev, hfr, hb5⟩ := hcut
        obtain ⟨W6, rfl⟩ : ∃ W, W = wc := ⟨_, rfl⟩
        clear q0 q1 q2 q3 q4 q5 q6 q7 hl hgl p1_0 p1_1 p1_2 p1_3 p1_4 p1_5 p1_6 p1_7 p2_0 p2_1 p2_2 p2_3 p2_4 p2_5 p2_6 p2_7 p3_0 p3_1 p3_2 p3_3 p3_4 p3_5 p3_6 p3_7 p4_0 p4_1 p4_2 p4_3 p4_4 p4_5 p4_6 p4_7
        have st0 : W6.cell? ⟨g8, 3, none⟩ = some (.int .i64 110) := hev.at0 (k := 0) (o := ⟨1, 120, 1, 110, 1, 7, 0, 0⟩) rfl 3 _ rfl
        have sf0 : W6.frozen? ⟨g8, 3, none⟩ = false := hfr _
        have st1 : W6.cell? ⟨g8, 12, none⟩ = some (.int .i64 1) := hev.at0 (k := 1) (o := ⟨1, 120, 1, 110, 1, 7, 0, 0⟩) rfl 4 _ rfl
        have sf1 : W6.frozen? ⟨g8, 12, none⟩ = false := hfr _
        have st2 : W6.cell? ⟨g8, 21, none⟩ = some (.int .i64 7) := hev.at0 (k := 2) (o := ⟨1, 120, 1, 110, 1, 7, 0, 0⟩) rfl 5 _ rfl
        have sf2 : W6.frozen? ⟨g8, 21, none⟩ = false := hfr _
        have st3 : W6.cell? ⟨g8, 26, none⟩ = some (.int .i64 1) := hev.at0 (k := 3) (o := ⟨1, 120, 1, 110, 1, 7, 0, 0⟩) rfl 2 _ rfl
        have sf3 : W6.frozen? ⟨g8, 26, none⟩ = false := hfr _
        have st4 : W6.cell? ⟨g8, 38, none⟩ = some (.int .i64 0) := hev.at0 (k := 4) (o := ⟨1, 120, 1, 110, 1, 7, 0, 0⟩) rfl 6 _ rfl
        have sf4 : W6.frozen? ⟨g8, 38, none⟩ = false := hfr _
        have st5 : W6.cell? ⟨g8, 47, none⟩ = some (.int .i64 0) := hev.at0 (k := 5) (o := ⟨1, 120, 1, 110, 1, 7, 0, 0⟩) rfl 7 _ rfl
        have sf5 : W6.frozen? ⟨g8, 47, none⟩ = false := hfr _
        have st6 : W6.cell? ⟨g8, 52, none⟩ = some (.int .i64 2) := hev.at0 (k := 6) (o := ⟨4, 130, 0, 110, 2, 0, 0, 140⟩) rfl 4 _ rfl
        have sf6 : W6.frozen? ⟨g8, 52, none⟩ = false := hfr _
        have st7 : W6.cell? ⟨g8, 63, none⟩ = some (.int .i64 140) := hev.at0 (k := 7) (o := ⟨4, 130, 0, 110, 2, 0, 0, 140⟩) rfl 7 _ rfl
        have sf7 : W6.frozen? ⟨g8, 63, none⟩ = false := hfr _
        have st8 : W6.cell? ⟨g8, 69, none⟩ = some (.int .i64 0) := hev.at0 (k := 8) (o := ⟨4, 130, 0, 110, 2, 0, 0, 140⟩) rfl 5 _ rfl
        have sf8 : W6.frozen? ⟨g8, 69, none⟩ = false := hfr _
        have st9 : W6.cell? ⟨g8, 78, none⟩ = some (.int .i64 6) := hev.at0 (k := 9) (o := ⟨5, 5, 0, 5, 1, 0, 6, 0⟩) rfl 6 _ rfl
        have sf9 : W6.frozen? ⟨g8, 78, none⟩ = false := hfr _
        have st10 : W6.cell? ⟨g8, 86, none⟩ = some (.int .i64 6) := hev.at0 (k := 10) (o := ⟨5, 5, 0, 5, 1, 0, 6, 0⟩) rfl 6 _ rfl
        have sf10 : W6.frozen? ⟨g8, 86, none⟩ = false := hfr _
        have st11 : W6.cell? ⟨g8, 90, none⟩ = some (.int .i64 0) := hev.at0 (k := 11) (o := ⟨6, 7, 0, 0, 0, 0, 5, 0⟩) rfl 2 _ rfl
        have sf11 : W6.frozen? ⟨g8, 90, none⟩ = false := hfr _
        have st12 : W6.cell? ⟨g8, 102, none⟩ = some (.int .i64 5) := hev.at0 (k := 12) (o := ⟨6, 7, 0, 0, 0, 0, 5, 0⟩) rfl 6 _ rfl
        have sf12 : W6.frozen? ⟨g8, 102, none⟩ = false := hfr _
        have st13 : W6.cell? ⟨g8, 110, none⟩ = some (.int .i64 5) := hev.at0 (k := 13) (o := ⟨6, 7, 0, 0, 0, 0, 5, 0⟩) rfl 6 _ rfl
        have sf13 : W6.frozen? ⟨g8, 110, none⟩ = false := hfr _
        have st14 : W6.cell? ⟨g8, 117, none⟩ = some (.int .i64 0) := hev.at0 (k := 14) (o := ⟨8, 0, 1, 0, 0, 0, 0, 0⟩) rfl 5 _ rfl
        have sf14 : W6.frozen? ⟨g8, 117, none⟩ = false := hfr _
        have e0 := hev
        have e1 := e0.set (i := 0) (j := 3) (o := ⟨1, 120, 1, 110, 1, 7, 0, 0⟩) (o' := ⟨1, 120, 1, 121, 1, 7, 0, 0⟩) (v := .int .i64 121) rfl (by omega) rfl 3 rfl
        have e2 := e1.set (i := 1) (j := 4) (o := ⟨1, 120, 1, 110, 1, 7, 0, 0⟩) (o' := ⟨1, 120, 1, 110, 22, 7, 0, 0⟩) (v := .int .i64 22) rfl (by omega) rfl 12 rfl
        have e3 := e2.set (i := 2) (j := 5) (o := ⟨1, 120, 1, 110, 1, 7, 0, 0⟩) (o' := ⟨1, 120, 1, 110, 1, 0, 0, 0⟩) (v := .int .i64 0) rfl (by omega) rfl 21 rfl
        have e4 := e3.set (i := 3) (j := 2) (o := ⟨1, 120, 1, 110, 1, 7, 0, 0⟩) (o' := ⟨1, 120, 64, 110, 1, 7, 0, 0⟩) (v := .int .i64 64) rfl (by omega) rfl 26 rfl
        have e5 := e4.set (i := 4) (j := 6) (o := ⟨1, 120, 1, 110, 1, 7, 0, 0⟩) (o' := ⟨1, 120, 1, 110, 1, 7, 1, 0⟩) (v := .int .i64 1) rfl (by omega) rfl 38 rfl
        have e6 := e5.set (i := 5) (j := 7) (o := ⟨1, 120, 1, 110, 1, 7, 0, 0⟩) (o' := ⟨1, 120, 1, 110, 1, 7, 0, 130⟩) (v := .int .i64 130) rfl (by omega) rfl 47 rfl
        have e7 := e6.set (i := 6) (j := 4) (o := ⟨4, 130, 0, 110, 2, 0, 0, 140⟩) (o' := ⟨4, 130, 0, 110, 1, 0, 0, 140⟩) (v := .int .i64 1) rfl (by omega) rfl 52 rfl
        have e8 := e7.set (i := 7) (j := 7) (o := ⟨4, 130, 0, 110, 2, 0, 0, 140⟩) (o' := ⟨4, 130, 0, 110, 2, 0, 0, 130⟩) (v := .int .i64 130) rfl (by omega) rfl 63 rfl
        have e9 := e8.set (i := 8) (j := 5) (o := ⟨4, 130, 0, 110, 2, 0, 0, 140⟩) (o' := ⟨4, 130, 0, 110, 2, 1, 0, 140⟩) (v := .int .i64 1) rfl (by omega) rfl 69 rfl
        have e10 := e9.set (i := 9) (j := 6) (o := ⟨5, 5, 0, 5, 1, 0, 6, 0⟩) (o' := ⟨5, 5, 0, 5, 1, 0, 7, 0⟩) (v := .int .i64 7) rfl (by omega) rfl 78 rfl
        have e11 := e10.set (i := 10) (j := 6) (o := ⟨5, 5, 0, 5, 1, 0, 6, 0⟩) (o' := ⟨5, 5, 0, 5, 1, 0, 0, 0⟩) (v := .int .i64 0) rfl (by omega) rfl 86 rfl
        have e12 := e11.set (i := 11) (j := 2) (o := ⟨6, 7, 0, 0, 0, 0, 5, 0⟩) (o' := ⟨6, 7, 1, 0, 0, 0, 5, 0⟩) (v := .int .i64 1) rfl (by omega) rfl 90 rfl
        have e13 := e12.set (i := 12) (j := 6) (o := ⟨6, 7, 0, 0, 0, 0, 5, 0⟩) (o' := ⟨6, 7, 0, 0, 0, 0, 17, 0⟩) (v := .int .i64 17) rfl (by omega) rfl 102 rfl
        have e14 := e13.set (i := 13) (j := 6) (o := ⟨6, 7, 0, 0, 0, 0, 5, 0⟩) (o' := ⟨6, 7, 0, 0, 0, 0, 0, 0⟩) (v := .int .i64 0) rfl (by omega) rfl 110 rfl
        have e15 := e14.set (i := 14) (j := 5) (o := ⟨8, 0, 1, 0, 0, 0, 0, 0⟩) (o' := ⟨8, 0, 1, 0, 0, 1, 0, 0⟩) (v := .int .i64 1) rfl (by omega) rfl 117 rfl
        have e15' : Lx.IsEvs _ (some ⟨g8, 0, none⟩) 19 Lx.knWrong := e15
        have E15 := Lib.hid e15'
        have y0 := hb5
        have y1 := y0.setCell (p := ⟨g8, 3, none⟩) hge (.int .i64 121)
        have y2 := y1.setCell (p := ⟨g8, 12, none⟩) hge (.int .i64 22)
        have y3 := y2.setCell (p := ⟨g8, 21, none⟩) hge (.int .i64 0)
        have y4 := y3.setCell (p := ⟨g8, 26, none⟩) hge (.int .i64 64)
        have y5 := y4.setCell (p := ⟨g8, 38, none⟩) hge (.int .i64 1)
        have y6 := y5.setCell (p := ⟨g8, 47, none⟩) hge (.int .i64 130)
        have y7 := y6.setCell (p := ⟨g8, 52, none⟩) hge (.int .i64 1)
        have y8 := y7.setCell (p := ⟨g8, 63, none⟩) hge (.int .i64 130)
        have y9 := y8.setCell (p := ⟨g8, 69, none⟩) hge (.int .i64 1)
        have y10 := y9.setCell (p := ⟨g8, 78, none⟩) hge (.int .i64 7)
        have y11 := y10.setCell (p := ⟨g8, 86, none⟩) hge (.int .i64 0)
        have y12 := y11.setCell (p := ⟨g8, 90, none⟩) hge (.int .i64 1)
        have y13 := y12.setCell (p := ⟨g8, 102, none⟩) hge (.int .i64 17)
        have y14 := y13.setCell (p := ⟨g8, 110, none⟩) hge (.int .i64 0)
        have y15 := y14.setCell (p := ⟨g8, 117, none⟩) hge (.int .i64 1)
        have B15 := Lib.hid y15
        clear e15' e0 y0 e1 y1 e2 y2 e3 y3 e4 y4 e5 y5 e6 y6 e7 y7 e8 y8 e9 y9 e10 y10 e11 y11 e12 y12 e13 y13 e14 y14 e15 y15 hev hfr hb5
        go_wp2_with fail
        clear st0 sf0 st1 sf1 st2 sf2 st3 sf3 st4 sf4 st5 sf5 st6 sf6 st7 sf7 st8 sf8 st9 sf9 st10 sf10 st11 sf11 st12 sf12 st13 sf13 st14 sf14
        go_loopw [9] (fun i wr => ∃ k : Nat, k ≤ 19 ∧ i = .int .i64 k ∧ Lx.IsEvs wr (some ⟨g8, 0, none⟩) 19 Lx.knWrong ∧ Below W5.heap.size W5 wr) (fun i _ => 19 - (intOf i).toNat)
        case atStart => exact ⟨0, Nat.zero_le _, rfl, E15.out, B15.out⟩
        case round =>
          obtain ⟨k, hk, rfl, hev, hb⟩ := hrel
          have Hb := Lib.hid hb
          have EV := Lib.hid hev
          clear hb hev E15 B15
          by_cases hlt : k < 19
          · have hki : (k : Int) < 19 := by omega
            obtain ⟨o, ho⟩ : ∃ o, Lx.knWrong[k]? = some o := ⟨_, List.getElem?_eq_getElem hlt⟩
            obtain ⟨x1, x2, x3⟩ := Lx.kn_wrong o (List.mem_of_getElem? ho)
            have HPO := Lib.hid (HPN.out o wr (B5.out.trans (Hb.out.mono B5.out.size)))
            rw [x2, x3] at HPO
            have HCO := Lib.hid (HCK.out o)
            rw [x1] at HCO
            have hg := EV.out
            have c0 := hg.at0 ho 0 _ rfl
            have c1 := hg.at0 ho 1 _ rfl
            have c2 := hg.at0 ho 2 _ rfl
            have c3 := hg.at0 ho 3 _ rfl
            have c4 := hg.at0 ho 4 _ rfl
            have c5 := hg.at0 ho 5 _ rfl
            have c6 := hg.at0 ho 6 _ rfl
            have c7 := hg.at0 ho 7 _ rfl
            have HO := Lib.hid ho
            clear hg x1 x2 x3 ho
            obtain ⟨ok, ot, oj, od, oa, orr, oy, on⟩ := o
            unfold Lx.EvV.val at HPO HCO
            dsimp only at HPO HCO c0 c1 c2 c3 c4 c5 c6 c7
            rw [Nat.add_zero] at c0
            go_wp2_with fail
            refine HPO.out.mono ?_
            rintro e w1 ⟨rfl, d1⟩
            have EV1 := Lib.hid (EV.out.below d1)
            have Hb1 := Lib.hid (Hb.out.trans (d1.mono Hb.out.size))
            clear d1 c0 c1 c2 c3 c4 c5 c6 c7 EV Hb HPO
            have hg := EV1.out
            have c0 := hg.at0 HO.out 0 _ rfl
            have c1 := hg.at0 HO.out 1 _ rfl
            have c2 := hg.at0 HO.out 2 _ rfl
            have c3 := hg.at0 HO.out 3 _ rfl
            have c4 := hg.at0 HO.out 4 _ rfl
            have c5 := hg.at0 HO.out 5 _ rfl
            have c6 := hg.at0 HO.out 6 _ rfl
            have c7 := hg.at0 HO.out 7 _ rfl
            dsimp only at c0 c1 c2 c3 c4 c5 c6 c7
            rw [Nat.add_zero] at c0
            clear hg
            go_wp2_with fail
            refine (HCO.out _).mono ?_
            rintro e w2 ⟨rfl, d2⟩
            have EV2 := Lib.hid (EV1.out.below d2)
            have Hb2 := Lib.hid (Hb1.out.trans (d2.mono Hb1.out.size))
            clear d2 c0 c1 c2 c3 c4 c5 c6 c7 EV1 Hb1 HCO
            go_wp2_with fail
            go_roundw
            case rel => exact ⟨k + 1, by omega, by go_num, EV2.out, Hb2.out⟩
            case measure => simp [intOf]; omega
          · obtain rfl : k = 19 := by omega
            rw [show ((19 : Nat) : Int) = 19 from rfl]
            clear hlt hk HPN
            have L6 := Lib.hid (L5.out.below Hb.out)
            have G6 := Lib.hid (G5.out.below Hb.out)
            have N6 := Lib.hid (N5.out.below Hb.out)
            have B6 := Lib.hid (B5.out.trans (Hb.out.mono B5.out.size))
            obtain ⟨q0, q1, q2, q3, q4, q5, q6, q7⟩ := L6.out.eight
            have hg := G6.out
            have hgl6 := hg.lt0 (by omega)
            have hll6 := L6.out.1
            have p4_0 : wr.cell? ⟨gb, 32, none⟩ = some (.int .i64 8) := hg.at0 (k := 4) (o := ⟨8, 0, 1, 0, 0, 0, 0, 0⟩) rfl 0 _ rfl
            have p4_1 : wr.cell? ⟨gb, 33, none⟩ = some (.int .i64 0) := hg.at0 (k := 4) (o := ⟨8, 0, 1, 0, 0, 0, 0, 0⟩) rfl 1 _ rfl
            have p4_2 : wr.cell? ⟨gb, 34, none⟩ = some (.int .i64 1) := hg.at0 (k := 4) (o := ⟨8, 0, 1, 0, 0, 0, 0, 0⟩) rfl 2 _ rfl
            have p4_3 : wr.cell? ⟨gb, 35, none⟩ = some (.int .i64 0) := hg.at0 (k := 4) (o := ⟨8, 0, 1, 0, 0, 0, 0, 0⟩) rfl 3 _ rfl
            have p4_4 : wr.cell? ⟨gb, 36, none⟩ = some (.int .i64 0) := hg.at0 (k := 4) (o := ⟨8, 0, 1, 0, 0, 0, 0, 0⟩) rfl 4 _ rfl
            have p4_5 : wr.cell? ⟨gb, 37, none⟩ = some (.int .i64 0) := hg.at0 (k := 4) (o := ⟨8, 0, 1, 0, 0, 0, 0, 0⟩) rfl 5 _ rfl
            have p4_6 : wr.cell? ⟨gb, 38, none⟩ = some (.int .i64 0) := hg.at0 (k := 4) (o := ⟨8, 0, 1, 0, 0, 0, 0, 0⟩) rfl 6 _ rfl
            have p4_7 : wr.cell? ⟨gb, 39, none⟩ = some (.int .i64 0) := hg.at0 (k := 4) (o := ⟨8, 0, 1, 0, 0, 0, 0, 0⟩) rfl 7 _ rfl
            clear hg Hb L5 G5 N5 B5
            go_upto_region 39 with (fail)
            obtain ⟨W7, hW7⟩ : ∃ W7, W7 = (wr.alloc (.cells #[.int .i64 1, .int .i64 120, .int .i64 1, .int .i64 (-1), .int .i64 1, .int .i64 0, .int .i64 0, .int .i64 0] 23)).alloc (.cells #[.int .i64 8, .int .i64 253402300800, .int .i64 1, .int .i64 0, .int .i64 0, .int .i64 1, .int .i64 0, .int .i64 0] 23) := ⟨_, rfl⟩
            rw [← hW7]
            obtain ⟨lt7, ea7, b7⟩ := kn_boxes wr W7 hW7
            have LT7 := Lib.hid lt7
            have EA7 := Lib.hid ea7
            have L7 := Lib.hid (L6.out.below b7)
            have N7 := Lib.hid (N6.out.below b7)
            have E7 := Lib.hid (EV.out.below b7)
            have B7 := Lib.hid (B6.out.trans (b7.mono B6.out.size))
            clear hW7 lt7 ea7 b7 L6 G6 N6 B6 EV hgl6 hll6 q0 q1 q2 q3 q4 q5 q6 q7 p4_0 p4_1 p4_2 p4_3 p4_4 p4_5 p4_6 p4_7
            generalize wr.heap.size + 1 = ea at *
            generalize wr.heap.size = la at *
            have hl7 := L7.out.1
            obtain ⟨q0, q1, q2, q3, q4, q5, q6, q7⟩ := L7.out.eight
            have HSS := Lib.hid (show ∀ wx, Below W7.heap.size W7 wx → Below W7.heap.size W7 wx ∧ wx.cell? ⟨lb, 0, none⟩ = some (.int .i64 1) ∧ wx.cell? ⟨lb, 1, none⟩ = some (.int .i64 120) ∧ wx.cell? ⟨lb, 2, none⟩ = some (.int .i64 1) ∧ wx.cell? ⟨lb, 3, none⟩ = some (.int .i64 110) ∧ wx.cell? ⟨lb, 4, none⟩ = some (.int .i64 1) ∧ wx.cell? ⟨lb, 5, none⟩ = some (.int .i64 7) ∧ wx.cell? ⟨lb, 6, none⟩ = some (.int .i64 0) ∧ wx.cell? ⟨lb, 7, none⟩ = some (.int .i64 0) from fun wx b => ⟨b, (b.cell (p := ⟨lb, 0, none⟩) hl7).trans q0, (b.cell (p := ⟨lb, 1, none⟩) hl7).trans q1, (b.cell (p := ⟨lb, 2, none⟩) hl7).trans q2, (b.cell (p := ⟨lb, 3, none⟩) hl7).trans q3, (b.cell (p := ⟨lb, 4, none⟩) hl7).trans q4, (b.cell (p := ⟨lb, 5, none⟩) hl7).trans q5, (b.cell (p := ⟨lb, 6, none⟩) hl7).trans q6, (b.cell (p := ⟨lb, 7, none⟩) hl7).trans q7⟩)
            have hS0 := HSS.out W7.drew ((Below.refl _ _).drew)
            clear q0 q1 q2 q3 q4 q5 q6 q7 hl7
            refine wp_region_held_drew (S := (fun wx => Below W7.heap.size W7 wx ∧ wx.cell? ⟨lb, 0, none⟩ = some (.int .i64 1) ∧ wx.cell? ⟨lb, 1, none⟩ = some (.int .i64 120) ∧ wx.cell? ⟨lb, 2, none⟩ = some (.int .i64 1) ∧ wx.cell? ⟨lb, 3, none⟩ = some (.int .i64 110) ∧ wx.cell? ⟨lb, 4, none⟩ = some (.int .i64 1) ∧ wx.cell? ⟨lb, 5, none⟩ = some (.int .i64 7) ∧ wx.cell? ⟨lb, 6, none⟩ = some (.int .i64 0) ∧ wx.cell? ⟨lb, 7, none⟩ = some (.int .i64 0))) (by kernel_rfl) ?_ (fun hHeld => ?_)
            · exact hS0
            refine' wpAnyH_take (i := 0) (oi := _) (v := _) ?hi0r2 (by kernel_rfl) (by kernel_rfl) (by kernel_rfl) ?hq0r2 ?hy0r2 (by assumption) ?re0r2
            case hi0r2 => simp only [List.getElem?_toArray, List.getElem?_cons_zero]; rfl
            case hq0r2 => exact fun _ _ _ h => h
            case hy0r2 =>
              refine Or.inl ⟨by rfl, ?_⟩
              intro w hSw; (try dsimp only at hSw); go_simp; try with_reducible rfl
            try simp only [Act.put, List.setIfInBounds_toArray, List.set_cons_zero, List.set_cons_succ]
            refine' wpAnyH_take (i := 1) (oi := _) (v := _) ?hi1r2 (by kernel_rfl) (by kernel_rfl) (by kernel_rfl) ?hq1r2 ?hy1r2 (by assumption) ?re1r2
            case hi1r2 => simp only [List.getElem?_toArray, List.getElem?_cons_succ, List.getElem?_cons_zero]; rfl
            case hq1r2 => exact fun _ _ _ h => h
            case hy1r2 =>
              refine Or.inl ⟨by rfl, ?_⟩
              intro w hSw; (try dsimp only at hSw); go_simp; try with_reducible rfl
            try simp only [Act.put, List.setIfInBounds_toArray, List.set_cons_zero, List.set_cons_succ]
            refine' wpAnyH_take (i := 2) (oi := _) (v := _) ?hi2r2 (by kernel_rfl) (by kernel_rfl) (by kernel_rfl) ?hq2r2 ?hy2r2 (by assumption) ?re2r2
            case hi2r2 => simp only [List.getElem?_toArray, List.getElem?_cons_succ, List.getElem?_cons_zero]; rfl
            case hq2r2 => exact fun _ _ _ h => h
            case hy2r2 =>
              refine Or.inl ⟨by rfl, ?_⟩
              intro w hSw; (try dsimp only at hSw); go_simp; try with_reducible rfl
            try simp only [Act.put, List.setIfInBounds_toArray, List.set_cons_zero, List.set_cons_succ]
            refine wpAnyH_ready (rs := [3]) (by kernel_rfl) (by simp) ?_
            refine' AllReadyH.cons (o := _) ?hi3r2 (fun K hK => ?st3r2) AllReadyH.nil
            case hi3r2 => simp only [List.getElem?_toArray, List.getElem?_cons_succ, List.getElem?_cons_zero]; rfl
            go_simp
            go_at_call 12; refine (HF.out _ _ (B7.out.trans (hHeld.1.mono B7.out.size)) (kn_take1 (N7.out.below hHeld.1))).mono ?_; rintro e w8 ⟨rfl, c8⟩; have k8 := HSS.out w8 (hHeld.1.trans (c8.mono hHeld.1.size))
            try go_wp2_with fail
            refine hK.out _ _ ?_ (fun hHeld => ?_)
            · exact k8
            clear hK K
            try simp only [Act.put, List.setIfInBounds_toArray, List.set_cons_zero, List.set_cons_succ]
            refine' wpAnyH_take (i := 4) (oi := _) (v := _) ?hi4r2 (by kernel_rfl) (by kernel_rfl) (by kernel_rfl) ?hq4r2 ?hy4r2 (by assumption) ?re4r2
            case hi4r2 => simp only [List.getElem?_toArray, List.getElem?_cons_succ, List.getElem?_cons_zero]; rfl
            case hq4r2 => exact fun _ _ _ h => h
            case hy4r2 =>
              refine Or.inl ⟨by rfl, ?_⟩
              intro w hSw; (try dsimp only at hSw); go_simp; try with_reducible rfl
            try simp only [Act.put, List.setIfInBounds_toArray, List.set_cons_zero, List.set_cons_succ]
            refine' wpAnyH_take (i := 5) (oi := _) (v := _) ?hi5r2 (by kernel_rfl) (by kernel_rfl) (by kernel_rfl) ?hq5r2 ?hy5r2 (by assumption) ?re5r2
            case hi5r2 => simp only [List.getElem?_toArray, List.getElem?_cons_succ, List.getElem?_cons_zero]; rfl
            case hq5r2 => exact fun _ _ _ h => h
            case hy5r2 =>
              refine Or.inl ⟨by rfl, ?_⟩
              intro w hSw; (try dsimp only at hSw); go_simp; try with_reducible rfl
            try simp only [Act.put, List.setIfInBounds_toArray, List.set_cons_zero, List.set_cons_succ]
            refine' wpAnyH_take (i := 6) (oi := _) (v := _) ?hi6r2 (by kernel_rfl) (by kernel_rfl) (by kernel_rfl) ?hq6r2 ?hy6r2 (by assumption) ?re6r2
            case hi6r2 => simp only [List.getElem?_toArray, List.getElem?_cons_succ, List.getElem?_cons_zero]; rfl
            case hq6r2 => exact fun _ _ _ h => h
            case hy6r2 =>
              refine Or.inl ⟨by rfl, ?_⟩
              intro w hSw; (try dsimp only at hSw); go_simp; try with_reducible rfl
            try simp only [Act.put, List.setIfInBounds_toArray, List.set_cons_zero, List.set_cons_succ]
            refine' wpAnyH_take (i := 7) (oi := _) (v := _) ?hi7r2 (by kernel_rfl) (by kernel_rfl) (by kernel_rfl) ?hq7r2 ?hy7r2 (by assumption) ?re7r2
            case hi7r2 => simp only [List.getElem?_toArray, List.getElem?_cons_succ, List.getElem?_cons_zero]; rfl
            case hq7r2 => exact fun _ _ _ h => h
            case hy7r2 =>
              refine Or.inl ⟨by rfl, ?_⟩
              intro w hSw; (try dsimp only at hSw); go_simp; try with_reducible rfl
            try simp only [Act.put, List.setIfInBounds_toArray, List.set_cons_zero, List.set_cons_succ]
            refine' wpAnyH_take (i := 8) (oi := _) (v := _) ?hi8r2 (by kernel_rfl) (by kernel_rfl) (by kernel_rfl) ?hq8r2 ?hy8r2 (by assumption) ?re8r2
            case hi8r2 => simp only [List.getElem?_toArray, List.getElem?_cons_succ, List.getElem?_cons_zero]; rfl
            case hq8r2 => exact fun _ _ _ h => h
            case hy8r2 =>
              refine Or.inl ⟨by rfl, ?_⟩
              intro w hSw; (try dsimp only at hSw); go_simp; try with_reducible rfl
            try simp only [Act.put, List.setIfInBounds_toArray, List.set_cons_zero, List.set_cons_succ]
            refine wpAnyH_done (by kernel_rfl) ?_ _
            have L8 := Lib.hid (L7.out.below k8.1)
            have N8 := Lib.hid (N7.out.below k8.1)
            have E8 := Lib.hid (E7.out.below k8.1)
            have LT8 := Lib.hid (LT7.out.below k8.1)
            have EA8 := Lib.hid (EA7.out.below k8.1)
            have B8 := Lib.hid (B7.out.trans (k8.1.mono B7.out.size))
            clear k8 hHeld hS0 HSS L7 N7 E7 LT7 EA7 B7 HF c8
            obtain ⟨q0, q1, q2, q3, q4, q5, q6, q7⟩ := L8.out.eight
            have b9 := (Below.refl w8.heap.size w8).alloc (Nat.le_refl _) (.cells #[.string ⟨#[97]⟩, .string ⟨#[97]⟩] 9)
            have n9 := Lx.isNames_lit w8 #[.string ⟨#[97]⟩, .string ⟨#[97]⟩] 9 2 [⟨#[97]⟩, ⟨#[97]⟩] rfl rfl
            have HGo := Lib.hid (HG.out _ _ (B8.out.trans (b9.mono B8.out.size)) n9)
            have B9 := Lib.hid b9
            clear b9 n9
            go_wp2_with fail
            refine HGo.out.mono ?_
            rintro e w9 ⟨rfl, c9⟩
            have b9 := B9.out.trans (c9.mono B9.out.size)
            have N9 := Lib.hid (N8.out.below b9)
            have E9 := Lib.hid (E8.out.below b9)
            have LT9 := Lib.hid (LT8.out.below b9)
            have EA9 := Lib.hid (EA8.out.below b9)
            have X9 := Lib.hid (B8.out.trans (b9.mono B8.out.size))
            clear b9 c9 B9 N8 E8 LT8 EA8 B8 L8 HGo q0 q1 q2 q3 q4 q5 q6 q7
            have hg := E9.out
            have p0 : w9.cell? ⟨g8, 0, none⟩ = some (.int .i64 1) := hg.at0 (k := 0) (o := ⟨1, 120, 1, 121, 1, 7, 0, 0⟩) rfl 0 _ rfl
            have p1 : w9.cell? ⟨g8, 1, none⟩ = some (.int .i64 120) := hg.at0 (k := 0) (o := ⟨1, 120, 1, 121, 1, 7, 0, 0⟩) rfl 1 _ rfl
            have p2 : w9.cell? ⟨g8, 2, none⟩ = some (.int .i64 1) := hg.at0 (k := 0) (o := ⟨1, 120, 1, 121, 1, 7, 0, 0⟩) rfl 2 _ rfl
            have p3 : w9.cell? ⟨g8, 3, none⟩ = some (.int .i64 121) := hg.at0 (k := 0) (o := ⟨1, 120, 1, 121, 1, 7, 0, 0⟩) rfl 3 _ rfl
            have p4 : w9.cell? ⟨g8, 4, none⟩ = some (.int .i64 1) := hg.at0 (k := 0) (o := ⟨1, 120, 1, 121, 1, 7, 0, 0⟩) rfl 4 _ rfl
            have p5 : w9.cell? ⟨g8, 5, none⟩ = some (.int .i64 7) := hg.at0 (k := 0) (o := ⟨1, 120, 1, 121, 1, 7, 0, 0⟩) rfl 5 _ rfl
            have p6 : w9.cell? ⟨g8, 6, none⟩ = some (.int .i64 0) := hg.at0 (k := 0) (o := ⟨1, 120, 1, 121, 1, 7, 0, 0⟩) rfl 6 _ rfl
            have p7 : w9.cell? ⟨g8, 7, none⟩ = some (.int .i64 0) := hg.at0 (k := 0) (o := ⟨1, 120, 1, 121, 1, 7, 0, 0⟩) rfl 7 _ rfl
            have b10 := (Below.refl w9.heap.size w9).alloc (Nat.le_refl _) (.cells #[.string ⟨#[97]⟩, .string ⟨#[97]⟩, .string ⟨#[97, 32, 98]⟩] 9)
            have n10 := Lx.isNames_lit w9 #[.string ⟨#[97]⟩, .string ⟨#[97]⟩, .string ⟨#[97, 32, 98]⟩] 9 3 [⟨#[97]⟩, ⟨#[97]⟩, ⟨#[97, 32, 98]⟩] rfl rfl
            have HHo := Lib.hid (HH.out _ _ (X9.out.trans (b10.mono X9.out.size)) n10)
            have B10 := Lib.hid b10
            clear b10 n10 hg
            go_wp2_with fail
            refine HHo.out.mono ?_
            rintro e w10 ⟨rfl, c10⟩
            have b10 := B10.out.trans (c10.mono B10.out.size)
            have N10 := Lib.hid (N9.out.below b10)
            have LT10 := Lib.hid (LT9.out.below b10)
            have EA10 := Lib.hid (EA9.out.below b10)
            have X10 := Lib.hid (X9.out.trans (b10.mono X9.out.size))
            clear b10 c10 B10 N9 E9 LT9 EA9 X9 HHo p0 p1 p2 p3 p4 p5 p6 p7
            have hmk := kn_make w10
            have b11 := (Below.refl w10.heap.size w10).alloc (Nat.le_refl _) (.cells (Array.replicate 65 (.string ⟨#[]⟩)) 9)
            have n11 := Lx.isNames_lit w10 (Array.replicate 65 (.string ⟨#[]⟩)) 9 65 (List.replicate 65 ⟨#[]⟩) List.length_replicate (by rw [Array.toList_replicate, List.map_replicate])
            have HIo := Lib.hid (HI.out _ _ (X10.out.trans (b11.mono X10.out.size)) n11)
            have B11 := Lib.hid b11
            clear b11 n11
            go_wp2_with fail
            refine HIo.out.mono ?_
            rintro e w11 ⟨rfl, c11⟩
            clear hmk
            have b12 := (B11.out.trans (c11.mono B11.out.size)).alloc (B11.out.trans (c11.mono B11.out.size)).size (.cells #[.int .i64 0, .int .i64 0, .int .i64 0, .int .i64 0, .int .i64 0, .int .i64 0, .int .i64 0, .int .i64 0] 23)
            have N12 := Lib.hid (N10.out.below b12)
            have LT12 := Lib.hid (LT10.out.below b12)
            have EA12 := Lib.hid (EA10.out.below b12)
            have X12 := Lib.hid (X10.out.trans (b12.mono X10.out.size))
            have HJo := Lib.hid (HJ.out _ _ X12.out N12.out)
            clear b12 c11 B11 N10 LT10 EA10 X10 HIo
            go_wp2_with fail
            refine HJo.out.mono ?_
            rintro e w13 ⟨rfl, c13⟩
            have b13 := c13.alloc c13.size (.cells #[.int .i64 0, .int .i64 0, .int .i64 0, .int .i64 0, .int .i64 0, .int .i64 0, .int .i64 0, .int .i64 0] 23)
            have N13 := Lib.hid (N12.out.below b13)
            have LT13 := Lib.hid (LT12.out.below b13)
            have EA13 := Lib.hid (EA12.out.below b13)
            have X13 := Lib.hid (X12.out.trans (b13.mono X12.out.size))
            have HKo := Lib.hid (HK.out _ _ X13.out N13.out)
            clear b13 c13 N12 LT12 EA12 X12 HJo
            go_wp2_with fail
            refine HKo.out.mono ?_
            rintro e w14 ⟨A14, k14, rfl, -, -, c14⟩
            have N14 := Lib.hid (N13.out.below c14)
            have LT14 := Lib.hid (LT13.out.below c14)
            have EA14 := Lib.hid (EA13.out.below c14)
            have X14 := Lib.hid (X13.out.trans (c14.mono X13.out.size))
            have HMo := Lib.hid (HM.out _ _ X14.out N14.out)
            clear c14 N13 LT13 EA13 X13 HKo
            go_wp2_with fail
            refine HMo.out.mono ?_
            rintro e w15 ⟨A15, k15, rfl, -, -, c15⟩
            have LT15 := Lib.hid (LT14.out.below c15)
            have EA15 := Lib.hid (EA14.out.below c15)
            have X15 := Lib.hid (X14.out.trans (c15.mono X14.out.size))
            clear c15 N14 LT14 EA14 X14 HMo
            obtain ⟨q0, q1, q2, q3, q4, q5, q6, q7⟩ := LT15.out.eight
            go_wp2_with fail
            refine (HC1.out _).mono ?_
            rintro e w16 ⟨rfl, c16⟩
            have EA16 := Lib.hid (EA15.out.below c16)
            have X16 := Lib.hid (X15.out.trans (c16.mono X15.out.size))
            clear c16 LT15 EA15 X15 q0 q1 q2 q3 q4 q5 q6 q7
            obtain ⟨q0, q1, q2, q3, q4, q5, q6, q7⟩ := EA16.out.eight
            go_wp2_with fail
            refine (HC2.out _).mono ?_
            rintro e w17 ⟨rfl, c17⟩
            have X17 := Lib.hid (X16.out.trans (c17.mono X16.out.size))
            clear c17 EA16 X16 q0 q1 q2 q3 q4 q5 q6 q7
            go_wp2_with fail
            refine (HW.out _ X17.out).mono ?_
            rintro e w18 ⟨rfl, c18⟩
            go_wp2_with fail
            go_ret
            exact ⟨rfl, X17.out.trans (c18.mono X17.out.size)⟩

set_option maxRecDepth 100000 in
/-- What the walk gives, for every argument that can be read. -/
theorem contract (H : Type) (enc : TypeId × Value → H) (W : World) (base : Nat) (args : Array Value) (ds gs : List (DataW H)) (before : List MemPlace)
    (hval : ∀ (j : Nat) t v, Tryd.f6.params[j]? = some t → args[j]? = some v → Value.okWide Tryd.prog W .any base t v)
    (hW : DataW.Whole enc Tryd.prog Tryd.f6.params.toList Rows.eventKnownSpec.vars false W args.toList ds gs before) (hL : laidMetH Tryd.prog Rows.eventKnownRow.laid W) (hsh : W.ShapedOpen Tryd.prog) :
    Calls Tryd.prog 6 args W fun e W' => ∃ v, e = .returned v ∧ Rows.eventKnownSpec.post enc Tryd.prog Tryd.f6 false true false false W args v W' := by
  have hW' := hW
  obtain ⟨p, q, hA0, hV, rfl, hfz, hnd⟩ := hW
  have hA : DataW.TrodAll enc Tryd.prog W 0 (fun _ => true) true Tryd.f6.params.toList args.toList ds p := hA0
  rw [Tryd.params6] at hA hval
  obtain ⟨hargs, rfl, rfl⟩ := trodAll_nil hA
  obtain rfl : args = #[] := by cases args; simp_all
  obtain ⟨rfl, rfl⟩ := trodVars_none hV
  clear hA0
  refine (walk W (env_of hL hsh)).mono fun e W' ⟨he, bel⟩ => ?_
  subst he
  exact ⟨_, rfl, _, _, _, [], _, [], hW', trodAll_mk1 (shut_bool Tryd.underlying4 _), trodAll_mk0, rfl, bel.frame _, fun h => by cases h⟩

set_option maxRecDepth 100000 in
theorem reads (os : Os) {H : Type} (enc : TypeId × Value → H) : ∃ places, DataW.whole enc Tryd.prog ((World.laidAll Tryd.prog os Rows.eventOnesRow.laid).forCall (fun _ _ => 0) ⟨#[], #[], []⟩).memory Tryd.f6.params.toList Rows.eventKnownSpec.vars false (#[] : Array Value).toList 8 = some ([], [], places) :=
  ⟨[], by kernel_rfl⟩

set_option maxRecDepth 100000 in
theorem lifted (os : Os) (started : os.Started) (H : Type) (enc : TypeId × Value → H) (F : Stop.Interp) :
    ReturnsInHanded {} Tryd.checked os 6 .any ((OpenSpec.ofChange Rows.eventKnownSpec).preRow enc Tryd.prog Tryd.f6 Rows.eventKnownRow.domain false Rows.eventKnownRow.laid) (((OpenSpec.ofChange Rows.eventKnownSpec).at F).post enc Tryd.prog Tryd.f6 false true false false) := by
  obtain ⟨places, hx⟩ := reads os enc
  refine returnsInHanded_of_row (C := Tryd.checked) (s := OpenSpec.ofChange Rows.eventKnownSpec) own started (by kernel_rfl) Tryd.func6
    (witness_row_atRef (enc := enc) (C := Tryd.checked) false (World.laidAll Tryd.prog os Rows.eventOnesRow.laid) #[] (World.laidAll_os _ _ _) (door_vars os _) (door_rest os _) (by kernel_rfl)
      (OpenSpec.preRow_of_cond 8 hx (by kernel_rfl) (fun k hk => by cases hk) (by kernel_rfl) (door_laid os _))) ?_
  intro W base args ds gs before hval hW _ _ _ hL hsh _
  exact contract H enc W base args ds gs before hval hW hL hsh

theorem said : Rows.EventKnownSaid :=
  OpenClaim.holds_of_cond 6 Tryd.f6 rfl rfl rfl rfl rfl rfl rfl ⟨rfl, rfl, rfl, rfl, rfl⟩ rfl rfl rfl rfl rfl (by kernel_rfl) Tryd.func6 (by kernel_rfl)
    (of_decide_eq_true (by kernel_rfl)) (by unfold Func.isWrapper; first | (rw [if_pos (by decide +kernel)]; kernel_rfl) | (rw [if_neg (by decide +kernel)]; exact ⟨rfl, rfl⟩))
    (fun os started H enc _ F => by rw [OpenClaim.pre_eq_preRow]; exact lifted os started H enc F)

theorem plain (f : FuncId) (fn : Func) (hf : Tryd.pinned.checked.prog.funcNamed "wakeman/wakemanlaw36.EventKnown" = some f) (hfn : Tryd.pinned.checked.prog.funcs[f]? = some fn) :
    Rows.eventKnownCard.stood.looks = Tryd.pinned.checked.prog.looks [] ∧ ∀ (j : Nat) t, fn.params[j]? = some t → Tryd.pinned.checked.prog.wantsStandIn t = false := by
  obtain rfl : f = 6 := Option.some.inj ((show Tryd.prog.funcNamed "wakeman/wakemanlaw36.EventKnown" = some 6 by kernel_rfl).symm.trans hf) |>.symm
  obtain rfl : fn = Tryd.f6 := (Option.some.inj (Tryd.func6.symm.trans hfn)).symm
  refine ⟨by kernel_rfl, fun j t ht => ?_⟩
  rw [Tryd.params6] at ht
  simp at ht

/-- The card. -/
theorem card : Rows.EventKnownCardSaid :=
  Claim7.holds_tied_plain_at .later [] _ _ _ _ said (fun _ h => by cases h) (by kernel_rfl) (fun _ h => by cases h) eventKnown_row_tie rfl ⟨rfl, rfl⟩ (by kernel_rfl) rfl plain (by kernel_rfl)
end Go.Proofs.YtmpcekpdnikghaaDoor.lawEventKnown
