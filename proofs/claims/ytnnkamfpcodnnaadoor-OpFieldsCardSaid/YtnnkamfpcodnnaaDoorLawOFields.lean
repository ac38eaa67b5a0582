/- OpFields: for every operation and every byte the law returns true; what the call was given reads as before. Conditions: the five listed variables lie as the program lays them. -/
import Derived.Test.YtnnkamfpcodnnaaDoorOpFrame
import Derived.Test.YtnnkamfpcodnnaaDoorOpFr
import Derived.Test.YtnnkamfpcodnnaaDoorOpWk
import Derived.Test.YtnnkamfpcodnnaaDoorOpN
import Derived.Deep.CutBlock
import Derived.SevenTiedAt
namespace Go.Proofs.YtnnkamfpcodnnaaDoor.lawOpFields
open Go.ChangeShapes Go.WideShapes Go.ChangeAt Go.RowKit
namespace L
theorem unbare {o : Lx.OpV} (h : Lx.bareB o = false) : Lx.opErr o = 2 := by
  unfold Lx.opErr
  by_cases hk : o.k < 1 ∨ 6 < o.k
  · rw [if_pos hk]
  · rw [if_neg hk, if_pos h]
theorem out (d t r : Int) (ok : Bool) (job : ByteArray) : Lx.opErr ⟨7, d, t, r, ok, job⟩ = 2 ∧ Lx.opErr ⟨0, d, t, r, ok, job⟩ = 2 := by
  unfold Lx.opErr; simp
theorem run1 (d t r : Int) (ok : Bool) (job : ByteArray) (h : r ≠ 0) : Lx.opErr ⟨1, d, t, r, ok, job⟩ = 2 := unbare (by unfold Lx.bareB; simp [h])
theorem dn (k d t r : Int) (ok : Bool) (job : ByteArray) (hk : k ≠ 1) (h : d ≠ 0) : Lx.opErr ⟨k, d, t, r, ok, job⟩ = 2 := unbare (by
  unfold Lx.bareB; simp only [hk, if_false]
  by_cases h2 : k = 2
  · simp [h2, h]
  · by_cases h3 : k = 3
    · simp [h3, h]
    · simp [h2, h3, h])
theorem tn (k d t r : Int) (ok : Bool) (job : ByteArray) (hk : k ≠ 2) (h : t ≠ 0) : Lx.opErr ⟨k, d, t, r, ok, job⟩ = 2 := unbare (by
  unfold Lx.bareB; simp only [hk, if_false]
  by_cases h2 : k = 1
  · simp [h2, h]
  · by_cases h3 : k = 3
    · simp [h3, h]
    · simp [h2, h3, h])
theorem okn (k d t r : Int) (job : ByteArray) (hk : k ≠ 3) : Lx.opErr ⟨k, d, t, r, true, job⟩ = 2 := unbare (by
  unfold Lx.bareB; simp only [hk, if_false]
  by_cases h2 : k = 1
  · simp [h2]
  · by_cases h3 : k = 2
    · simp [h3]
    · simp [h2, h3])
theorem rn (k d t r : Int) (ok : Bool) (job : ByteArray) (hk : k ≠ 3) (h : r ≠ 0) : Lx.opErr ⟨k, d, t, r, ok, job⟩ = 2 := unbare (by
  unfold Lx.bareB; simp only [hk, if_false]
  by_cases h2 : k = 1
  · simp [h2, h]
  · by_cases h3 : k = 2
    · simp [h3, h]
    · simp [h2, h3, h])
theorem jobn (k d t r : Int) (ok : Bool) (hk : k ≤ 3) : Lx.opErr ⟨k, d, t, r, ok, ⟨#[97]⟩⟩ = 2 := by
  have z : (⟨#[97]⟩ : ByteArray).size = 1 := rfl
  by_cases h1 : k < 1
  · unfold Lx.opErr; rw [if_pos (.inl h1)]
  · have : k = 1 ∨ k = 2 ∨ k = 3 := by omega
    rcases this with rfl | rfl | rfl <;> exact unbare (by unfold Lx.bareB; simp [z])
theorem run0 (d t : Int) (ok : Bool) (job : ByteArray) : Lx.opErr ⟨3, d, t, 0, ok, job⟩ = 2 := by
  by_cases hb : Lx.bareB ⟨3, d, t, 0, ok, job⟩ = false
  · exact unbare hb
  · unfold Lx.opErr; rw [if_neg (by simp), if_neg hb]; simp
theorem a1 : (⟨#[97]⟩ : ByteArray).size ≤ maxLen := by unfold maxLen; decide
end L
theorem box_set {w : World} {b : Nat} {o : Lx.OpV} (o' : Lx.OpV) (h : Lx.OpBox w b o) (j : Nat) (v : Value) (hj : j < 6) (hs : o'.cells = o.cells.set j v) : Lx.OpBox (w.setCell ⟨b, j, none⟩ v) b o' := by
  refine ⟨by rw [World.size_setCell]; exact h.1, fun i u hi => ?_⟩
  rw [hs] at hi
  by_cases e : i = j
  · subst e
    rw [List.getElem?_set_self (show i < o.cells.length from hj)] at hi
    obtain rfl := Option.some.inj hi
    obtain ⟨u, hu⟩ : ∃ u, o.cells[i]? = some u := ⟨_, List.getElem?_eq_getElem (show i < o.cells.length from hj)⟩
    exact World.cell?_setCell_same w _ _ (h.2 i u hu)
  · rw [List.getElem?_set_ne (fun hh => e hh.symm)] at hi
    exact (World.cell?_setCell_other w ⟨b, j, none⟩ ⟨b, i, none⟩ v (by intro hh; injection hh with _ h2; exact e h2.symm)).trans (h.2 i u hi)
theorem len2 (W : World) (k' d' t' r' : Int) (ok' : Bool) (job' : ByteArray) (hj : job'.size ≤ maxLen) (hse : Lx.scriptErr [Lx.tickV 1, ⟨k', d', t', r', ok', job'⟩] = 2) :
    Calls Tryd.prog 20 #[.slice (some ⟨W.heap.size, 0, none⟩) 2 2] (W.alloc (.cells #[.int .i64 1, .int .i64 1, .int .i64 0, .int .i64 0, .bool false, .string ⟨#[]⟩, .int .i64 k', .int .i64 d', .int .i64 t', .int .i64 r', .bool ok', .string job'] 23)) (LenIs 0 2 (W.alloc (.cells #[.int .i64 1, .int .i64 1, .int .i64 0, .int .i64 0, .bool false, .string ⟨#[]⟩, .int .i64 k', .int .i64 d', .int .i64 t', .int .i64 r', .bool ok', .string job'] 23))) := by
  have io := Lx.isOps_lit W #[.int .i64 1, .int .i64 1, .int .i64 0, .int .i64 0, .bool false, .string ⟨#[]⟩, .int .i64 k', .int .i64 d', .int .i64 t', .int .i64 r', .bool ok', .string job'] 23 2 [Lx.tickV 1, ⟨k', d', t', r', ok', job'⟩] rfl rfl
  have HL := length_any _ 2 2 _ _ io (by intro o ho; simp only [List.mem_cons, List.not_mem_nil, or_false] at ho; rcases ho with rfl | rfl <;> first | exact hj | (unfold maxLen; decide)) (by omega)
  have e : Lx.lenV [Lx.tickV 1, ⟨k', d', t', r', ok', job'⟩] = 0 := by unfold Lx.lenV; rw [hse]; rfl
  rw [hse, e] at HL
  exact HL
set_option maxRecDepth 100000 in
set_option maxHeartbeats 3200000 in
theorem walk (o : Lx.OpV) (hi : o.In) (hj : o.job.size ≤ maxLen) (c : Int) (hc : (Lit.int .u8 c).wf = true) (w : World) (env : Env w) :
    Calls Tryd.prog 7 #[o.val, .int .u8 c] w fun e w' => e = .returned (.bool true) ∧ Below w.heap.size w w' := by
  have hcb := bounds_u8 hc
  have HC := Lib.hid (fun W => check_any o W hj)
  unfold CheckIs at HC
  obtain ⟨x, hx⟩ : ∃ x, Lx.opErr o = x := ⟨_, rfl⟩
  rw [hx] at HC
  have HX := Lib.hid hx
  obtain ⟨k, d, t, r, ok, job⟩ := o
  unfold Lx.OpV.val at HC ⊢
  dsimp only at hj HC ⊢
  have hba : Below w.heap.size w (w.alloc (.cells #[.int .i64 k, .int .i64 d, .int .i64 t, .int .i64 r, .bool ok, .string job] 23)) := (Below.refl _ _).alloc (Nat.le_refl _) _
  have BO0 := Lib.hid (Lx.OpBox.new w k d t r ok job 23)
  have HW := Lib.hid (opworks_any _ (env.below hba))
  have B0 := Lib.hid hba
  have c0 : 0 ≤ c := by omega
  have c255 : c ≤ 255 := by omega
  have HJ := Lib.hid hj
  clear hba hx hi hj hc hcb
  by_cases hbig : 100 < job.size
  · have hbi : (100 : Int) < (job.size : Int) := by omega
    go_enter Tryd.func7, Tryd.ntmps7
    go_wp2_with fail
    refine (HW.out).mono ?_
    rintro e w1 ⟨rfl, c1⟩
    have B1 := Lib.hid (B0.out.trans (c1.mono B0.out.size))
    clear c1  B0
    go_wp2_with fail
    go_ret
    exact ⟨rfl, B1.out⟩
  · have g1 : decide (100 < (job.size : Int)) = false := decide_eq_false (by omega)
    by_cases hx : x = 0
    · subst hx
      go_enter Tryd.func7, Tryd.ntmps7
      go_wp2_with fail
      refine (HC.out _).mono ?_
      rintro e w1 ⟨rfl, c1⟩
      have hf := Lx.boxFree c1
      have f0 := hf 0
      have f1 := hf 1
      have f2 := hf 2
      have f3 := hf 3
      have f4 := hf 4
      have f5 := hf 5
      have BO1 := Lib.hid (BO0.out.below c1)
      have B1 := Lib.hid (B0.out.trans (c1.mono B0.out.size))
      clear c1 B0 BO0 hf
      have hq : c % 7 = 0 ∨ c % 7 = 1 ∨ c % 7 = 2 ∨ c % 7 = 3 ∨ c % 7 = 4 ∨ c % 7 = 5 ∨ c % 7 = 6 := by omega
      have hv := Lx.opErr_zero HX.out
      have hk : 1 ≤ k ∧ k ≤ 6 := Lx.kind_bd HX.out
      obtain ⟨hk1, hk6⟩ := hk
      have HV := Lib.hid hv
      clear hv g1 hbig
      go_upto_block 0 with (fail)
      go_cut [] from 9 to 60 (fun wx => ∃ o' : Lx.OpV, Lx.OpBox wx w.heap.size o' ∧ Lx.opErr o' = 2 ∧ o'.job.size ≤ maxLen ∧ Below w.heap.size w wx)
      case first =>
        obtain ⟨q0, q1, q2, q3, q4, q5⟩ := BO1.out.six
        rcases hq with hq | hq | hq | hq | hq | hq | hq
        · go_wp2_with fail
          go_meet
          exact ⟨⟨7, d, t, r, ok, job⟩, box_set ⟨7, d, t, r, ok, job⟩ BO1.out 0 (.int .i64 7) (by omega) rfl, (L.out _ _ _ _ _).1, HJ.out, B1.out.setCell (p := ⟨w.heap.size, 0, none⟩) (Nat.le_refl _) _⟩
        · go_wp2_with fail
          go_meet
          exact ⟨⟨0, d, t, r, ok, job⟩, box_set ⟨0, d, t, r, ok, job⟩ BO1.out 0 (.int .i64 0) (by omega) rfl, (L.out _ _ _ _ _).2, HJ.out, B1.out.setCell (p := ⟨w.heap.size, 0, none⟩) (Nat.le_refl _) _⟩
        · by_cases kk : k = 1
          · subst kk
            go_wp2_with fail
            go_meet
            exact ⟨⟨1, d, t, 1, ok, job⟩, box_set ⟨1, d, t, 1, ok, job⟩ BO1.out 3 (.int .i64 1) (by omega) rfl, L.run1 _ _ _ _ _ (by decide), HJ.out, B1.out.setCell (p := ⟨w.heap.size, 3, none⟩) (Nat.le_refl _) _⟩
          · have ke : (k == 1) = false := by rw [beq_eq_false_iff_ne]; exact kk
            go_wp2_with fail
            go_meet
            exact ⟨⟨k, 1, t, r, ok, job⟩, box_set ⟨k, 1, t, r, ok, job⟩ BO1.out 1 (.int .i64 1) (by omega) rfl, L.dn _ _ _ _ _ _ kk (by decide), HJ.out, B1.out.setCell (p := ⟨w.heap.size, 1, none⟩) (Nat.le_refl _) _⟩
        · by_cases kk : k = 2
          · subst kk
            go_wp2_with fail
            go_meet
            exact ⟨⟨2, d, t, r, true, job⟩, box_set ⟨2, d, t, r, true, job⟩ BO1.out 4 (.bool true) (by omega) rfl, L.okn _ _ _ _ _ (by decide), HJ.out, B1.out.setCell (p := ⟨w.heap.size, 4, none⟩) (Nat.le_refl _) _⟩
          · have ke : (k == 2) = false := by rw [beq_eq_false_iff_ne]; exact kk
            go_wp2_with fail
            go_meet
            exact ⟨⟨k, d, 1, r, ok, job⟩, box_set ⟨k, d, 1, r, ok, job⟩ BO1.out 2 (.int .i64 1) (by omega) rfl, L.tn _ _ _ _ _ _ kk (by decide), HJ.out, B1.out.setCell (p := ⟨w.heap.size, 2, none⟩) (Nat.le_refl _) _⟩
        · by_cases kk : k = 3
          · subst kk
            go_wp2_with fail
            go_meet
            exact ⟨⟨3, d, t, r, ok, ⟨#[97]⟩⟩, box_set ⟨3, d, t, r, ok, ⟨#[97]⟩⟩ BO1.out 5 (.string ⟨#[97]⟩) (by omega) rfl, L.jobn _ _ _ _ _ (by decide), L.a1, B1.out.setCell (p := ⟨w.heap.size, 5, none⟩) (Nat.le_refl _) _⟩
          · have ke : (k == 3) = false := by rw [beq_eq_false_iff_ne]; exact kk
            go_wp2_with fail
            go_meet
            exact ⟨⟨k, d, t, r, true, job⟩, box_set ⟨k, d, t, r, true, job⟩ BO1.out 4 (.bool true) (by omega) rfl, L.okn _ _ _ _ _ kk, HJ.out, B1.out.setCell (p := ⟨w.heap.size, 4, none⟩) (Nat.le_refl _) _⟩
        · by_cases kk : k = 3
          · subst kk
            go_wp2_with fail
            go_meet
            exact ⟨⟨3, d, t, 0, ok, job⟩, box_set ⟨3, d, t, 0, ok, job⟩ BO1.out 3 (.int .i64 0) (by omega) rfl, L.run0 _ _ _ _, HJ.out, B1.out.setCell (p := ⟨w.heap.size, 3, none⟩) (Nat.le_refl _) _⟩
          · have ke : (k == 3) = false := by rw [beq_eq_false_iff_ne]; exact kk
            go_wp2_with fail
            go_meet
            exact ⟨⟨k, d, t, 2, ok, job⟩, box_set ⟨k, d, t, 2, ok, job⟩ BO1.out 3 (.int .i64 2) (by omega) rfl, L.rn _ _ _ _ _ _ kk (by decide), HJ.out, B1.out.setCell (p := ⟨w.heap.size, 3, none⟩) (Nat.le_refl _) _⟩
        · by_cases kk : 4 ≤ k
          · have ke : decide (4 ≤ k) = true := decide_eq_true kk
            go_wp2_with fail
            go_meet
            exact ⟨⟨k, -1, t, r, ok, job⟩, box_set ⟨k, -1, t, r, ok, job⟩ BO1.out 1 (.int .i64 (-1)) (by omega) rfl, L.dn _ _ _ _ _ _ (by omega) (by decide), HJ.out, B1.out.setCell (p := ⟨w.heap.size, 1, none⟩) (Nat.le_refl _) _⟩
          · have ke : decide (4 ≤ k) = false := decide_eq_false kk
            go_wp2_with fail
            go_meet
            exact ⟨⟨k, d, t, r, ok, ⟨#[97]⟩⟩, box_set ⟨k, d, t, r, ok, ⟨#[97]⟩⟩ BO1.out 5 (.string ⟨#[97]⟩) (by omega) rfl, L.jobn _ _ _ _ _ (by omega), L.a1, B1.out.setCell (p := ⟨w.heap.size, 5, none⟩) (Nat.le_refl _) _⟩
      case rest =>
        obtain ⟨⟨k', d', t', r', ok', job'⟩, bo, he, hj', hb⟩ := hcut
        have BO2 := Lib.hid bo
        have B2 := Lib.hid hb
        obtain ⟨W2, rfl⟩ : ∃ W, W = wc := ⟨_, rfl⟩
        have HP := Lib.hid (fun W => print_bad ⟨k', d', t', r', ok', job'⟩ W hj' (by rw [he]; decide))
        have HC2 := Lib.hid (fun W => check_any ⟨k', d', t', r', ok', job'⟩ W hj')
        unfold CheckIs at HC2
        rw [he] at HP HC2
        unfold Lx.OpV.val at HP HC2
        have hse : Lx.scriptErr [Lx.tickV 1, ⟨k', d', t', r', ok', job'⟩] = 2 := by
          unfold Lx.scriptErr Lx.firstErr Lx.firstErr
          rw [if_neg (by simp), if_pos (by decide +kernel), if_neg (by rw [he]; decide), he]
        have HSE := Lib.hid hse
        have HJ2 := Lib.hid hj'
        clear bo he hj' hb BO1 B1 f0 f1 f2 f3 f4 f5 hse hq
        obtain ⟨q0, q1, q2, q3, q4, q5⟩ := BO2.out.six
        go_wp2_with fail
        refine (HP.out _).mono ?_
        rintro e w3 ⟨rfl, c3⟩
        have BO3 := Lib.hid (BO2.out.below c3)
        have B3 := Lib.hid (B2.out.trans (c3.mono B2.out.size))
        clear c3 BO2 B2
        clear q0 q1 q2 q3 q4 q5
        have HL := Lib.hid (fun W => len2 W k' d' t' r' ok' job' HJ2.out HSE.out)
        obtain ⟨q0, q1, q2, q3, q4, q5⟩ := BO3.out.six
        have hS0 : (fun wx => Below w.heap.size w wx ∧ w.heap.size < wx.heap.size ∧ wx.cell? ⟨w.heap.size, 0, none⟩ = some (.int .i64 k') ∧ wx.cell? ⟨w.heap.size, 1, none⟩ = some (.int .i64 d') ∧ wx.cell? ⟨w.heap.size, 2, none⟩ = some (.int .i64 t') ∧ wx.cell? ⟨w.heap.size, 3, none⟩ = some (.int .i64 r') ∧ wx.cell? ⟨w.heap.size, 4, none⟩ = some (.bool ok') ∧ wx.cell? ⟨w.heap.size, 5, none⟩ = some (.string job')) w3.drew := ⟨B3.out.drew, BO3.out.1, q0, q1, q2, q3, q4, q5⟩
        clear q0 q1 q2 q3 q4 q5
        dsimp only at hS0
        go_wp2_with fail
        go_region_held3 (fun wx => Below w.heap.size w wx ∧ w.heap.size < wx.heap.size ∧ wx.cell? ⟨w.heap.size, 0, none⟩ = some (.int .i64 k') ∧ wx.cell? ⟨w.heap.size, 1, none⟩ = some (.int .i64 d') ∧ wx.cell? ⟨w.heap.size, 2, none⟩ = some (.int .i64 t') ∧ wx.cell? ⟨w.heap.size, 3, none⟩ = some (.int .i64 r') ∧ wx.cell? ⟨w.heap.size, 4, none⟩ = some (.bool ok') ∧ wx.cell? ⟨w.heap.size, 5, none⟩ = some (.string job')) (first | assumption | exact Lx.keep6 (by assumption) ((Below.refl _ _).alloc (Nat.le_refl _) _) | go_keep)
          (first
            | (go_at_call 22; refine (tick_any 1 _).mono ?_; rintro e w4 ⟨rfl, c4⟩; have k4 := Lx.keep6 (by assumption) c4)
            | (go_at_call 20; refine (HL.out _).mono ?_; rintro e w6 ⟨rfl, c6⟩; have k6 := Lx.keep6 (by assumption) c6))
        obtain ⟨b6, lt6, q0, q1, q2, q3, q4, q5⟩ := k6
        have B6 := Lib.hid b6
        clear b6 k4 c4 c6 hS0
        go_wp2_with fail
        refine (HC2.out _).mono ?_
        rintro e w7 ⟨rfl, c7⟩
        have B7 := Lib.hid (B6.out.trans (c7.mono B6.out.size))
        clear c7  B6
        go_wp2_with fail
        refine (opworks_any _ (env.below B7.out)).mono ?_
        rintro e w8 ⟨rfl, c8⟩
        have B8 := Lib.hid (B7.out.trans (c8.mono B7.out.size))
        clear c8  B7
        go_wp2_with fail
        go_ret
        exact ⟨rfl, B8.out⟩
    · have xe : (x != 0) = true := by rw [bne_iff_ne]; exact hx
      go_enter Tryd.func7, Tryd.ntmps7
      go_wp2_with fail
      refine (HC.out _).mono ?_
      rintro e w1 ⟨rfl, c1⟩
      have BO1 := Lib.hid (BO0.out.below c1)
      have B1 := Lib.hid (B0.out.trans (c1.mono B0.out.size))
      clear c1 BO0 B0
      go_wp2_with fail
      refine (opworks_any _ (env.below B1.out)).mono ?_
      rintro e w2 ⟨rfl, c2⟩
      have B2 := Lib.hid (B1.out.trans (c2.mono B1.out.size))
      clear c2  B1
      go_wp2_with fail
      go_ret
      exact ⟨rfl, B2.out⟩

set_option maxRecDepth 100000 in
/-- What the walk gives, for every argument that can be read. -/
theorem contract (H : Type) (enc : TypeId × Value → H) (W : World) (base : Nat) (args : Array Value) (ds gs : List (DataW H)) (before : List MemPlace)
    (hval : ∀ (j : Nat) t v, Tryd.f7.params[j]? = some t → args[j]? = some v → Value.okWide Tryd.prog W .any base t v)
    (hW : DataW.Whole enc Tryd.prog Tryd.f7.params.toList Rows.opFieldsSpec.vars false W args.toList ds gs before) (hL : laidMetH Tryd.prog Rows.opFieldsRow.laid W) (hsh : W.ShapedOpen Tryd.prog) :
    Calls Tryd.prog 7 args W fun e W' => ∃ v, e = .returned v ∧ Rows.opFieldsSpec.post enc Tryd.prog Tryd.f7 false true false false W args v W' := by
  have hW' := hW
  obtain ⟨p, q, hA0, hV, rfl, hfz, hnd⟩ := hW
  have hA : DataW.TrodAll enc Tryd.prog W 0 (fun _ => true) true Tryd.f7.params.toList args.toList ds p := hA0
  rw [Tryd.params7] at hA hval
  obtain ⟨v0, vs0, d0, ds0, p0, q0, hargs, rfl, rfl, h0, r0⟩ := trodAll_cons hA
  obtain ⟨v1, vs1, d1, ds1, p1, q1, rfl, rfl, rfl, h1, r1⟩ := trodAll_cons r0
  obtain ⟨rfl, rfl, rfl⟩ := trodAll_nil r1
  obtain rfl : args = #[v0, v1] := by cases args; simp_all
  obtain ⟨rfl, rfl⟩ := trodVars_none hV
  have k0 := h0
  have lt0 : ∀ x ∈ p0, x.block < W.heap.size := by obtain ⟨m, hm⟩ := k0; exact DataW.trod_lt m _ _ _ hm
  obtain ⟨o0, rfl, in0, job0⟩ := isOp_of (hval 0 23 v0 rfl rfl) h0
  obtain ⟨s1, rfl, rfl, rfl, w1⟩ := open_int Tryd.underlying5 (hval 1 5 v1 rfl rfl) h1
  clear hA0
  refine (walk o0 in0 job0 s1 w1 W (env_of hL hsh)).mono fun e W' ⟨he, bel⟩ => ?_
  subst he
  exact ⟨_, rfl, _, _, _, [], _, [], hW', trodAll_mk1 (shut_bool Tryd.underlying4 _), (trodAll_cons_mk (Below.trod laidOut (by kernel_rfl) (of_decide_eq_true (by kernel_rfl)) k0 bel lt0) (trodAll_cons_mk (shut_int Tryd.underlying5 w1) trodAll_mk0)), rfl, bel.frame _, fun h => by cases h⟩

set_option maxRecDepth 100000 in
theorem reads (os : Os) {H : Type} (enc : TypeId × Value → H) : ∃ places, DataW.whole enc Tryd.prog ((World.doorLaid Tryd.prog 72 os).forCall (fun _ _ => 0) ⟨#[], #[.agg #[.int .i64 0, .int .i64 0, .int .i64 0, .int .i64 0, .bool false, .string ⟨#[]⟩], .int .u8 0], []⟩).memory Tryd.f7.params.toList Rows.opFieldsSpec.vars false (#[.agg #[.int .i64 0, .int .i64 0, .int .i64 0, .int .i64 0, .bool false, .string ⟨#[]⟩], .int .u8 0] : Array Value).toList 8 = some ([.agg [.lit (.int .i64 0), .lit (.int .i64 0), .lit (.int .i64 0), .lit (.int .i64 0), .lit (.bool false), .lit (.string [])], .lit (.int .u8 0)], [], places) :=
  ⟨[], by kernel_rfl⟩

set_option maxRecDepth 100000 in
theorem lifted (os : Os) (started : os.Started) (H : Type) (enc : TypeId × Value → H) (F : Stop.Interp) :
    ReturnsInHanded {} Tryd.checked os 7 .any ((OpenSpec.ofChange Rows.opFieldsSpec).preRow enc Tryd.prog Tryd.f7 Rows.opFieldsRow.domain false Rows.opFieldsRow.laid) (((OpenSpec.ofChange Rows.opFieldsSpec).at F).post enc Tryd.prog Tryd.f7 false true false false) := by
  obtain ⟨places, hx⟩ := reads os enc
  refine returnsInHanded_of_row (C := Tryd.checked) (s := OpenSpec.ofChange Rows.opFieldsSpec) own started (by kernel_rfl) Tryd.func7
    (witness_row_atRef (enc := enc) (C := Tryd.checked) false (World.doorLaid Tryd.prog 72 os) #[.agg #[.int .i64 0, .int .i64 0, .int .i64 0, .int .i64 0, .bool false, .string ⟨#[]⟩], .int .u8 0] rfl (door_vars os _) (door_rest os _) (by kernel_rfl)
      (OpenSpec.preRow_of_cond 8 hx (by kernel_rfl) (fun k hk => by cases hk) (by kernel_rfl) (door_laid os _))) ?_
  intro W base args ds gs before hval hW _ _ _ hL hsh _
  exact contract H enc W base args ds gs before hval hW hL hsh

theorem said : Rows.OpFieldsSaid :=
  OpenClaim.holds_of_cond 7 Tryd.f7 rfl rfl rfl rfl rfl rfl rfl ⟨rfl, rfl, rfl, rfl, rfl⟩ rfl rfl rfl rfl rfl (by kernel_rfl) Tryd.func7 (by kernel_rfl)
    (of_decide_eq_true (by kernel_rfl)) (by unfold Func.isWrapper; first | (rw [if_pos (by decide +kernel)]; kernel_rfl) | (rw [if_neg (by decide +kernel)]; exact ⟨rfl, rfl⟩))
    (fun os started H enc _ F => by rw [OpenClaim.pre_eq_preRow]; exact lifted os started H enc F)

theorem plain (f : FuncId) (fn : Func) (hf : Tryd.pinned.checked.prog.funcNamed "wakeman/wakemanlaw38.OpFields" = some f) (hfn : Tryd.pinned.checked.prog.funcs[f]? = some fn) :
    Rows.opFieldsCard.stood.looks = Tryd.pinned.checked.prog.looks [] ∧ ∀ (j : Nat) t, fn.params[j]? = some t → Tryd.pinned.checked.prog.wantsStandIn t = false := by
  obtain rfl : f = 7 := Option.some.inj ((show Tryd.prog.funcNamed "wakeman/wakemanlaw38.OpFields" = some 7 by kernel_rfl).symm.trans hf) |>.symm
  obtain rfl : fn = Tryd.f7 := (Option.some.inj (Tryd.func7.symm.trans hfn)).symm
  refine ⟨by kernel_rfl, fun j t ht => ?_⟩
  rw [Tryd.params7] at ht
  have hm : t ∈ [23, 5] := by
    have := Array.mem_of_getElem? ht
    simpa using this
  have hall : ([23, 5].all fun u => !Tryd.prog.wantsStandIn u) = true := by kernel_rfl
  exact (show Tryd.prog.wantsStandIn t = false by simpa using List.all_eq_true.1 hall t hm)

/-- The card. -/
theorem card : Rows.OpFieldsCardSaid :=
  Claim7.holds_tied_plain_at .later [] _ _ _ _ said (fun _ h => by cases h) (by kernel_rfl) (fun _ h => by cases h) opFields_row_tie rfl ⟨rfl, rfl⟩ (by kernel_rfl) rfl plain (by kernel_rfl)
end Go.Proofs.YtnnkamfpcodnnaaDoor.lawOpFields
