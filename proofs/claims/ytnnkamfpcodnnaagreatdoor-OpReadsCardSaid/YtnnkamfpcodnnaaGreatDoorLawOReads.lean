/- Plain facts on the lines of a text, one taken off after the other. No program in sight. The walks of the reference of scripts: their errors, texts read, lengths, joined ticks. OpReads: for every text the law returns true; what the call was given reads as before. Conditions: the five listed variables lie as the program lays them. -/
import Derived.Test.YtnnkamfpcodnnaaGreatDoorOpX
import Derived.Test.YtnnkamfpcodnnaaGreatDoorR38
import Derived.Test.YtnnkamfpcodnnaaGreatDoorOpFrame
import Derived.Test.YtnnkamfpcodnnaaGreatDoorOpFr
import Derived.Test.YtnnkamfpcodnnaaGreatDoorOpWk
import Derived.SevenTiedAt
namespace Go.Proofs.YtnnkamfpcodnnaaGreatDoor.Lx
open Go Go.RowKit

/-- A text with a line feed at its end. -/
def fullT (l : List UInt8) : List UInt8 := if l = [] ∨ [10].isSuffixOf l = true then l else l ++ [10]
theorem fullT_nil : fullT [] = [] := rfl
theorem textLines_full {s : ByteArray} {A : List ByteArray} (hA : ∀ x ∈ A, (10 : UInt8) ∉ x.data.toList) (h : (A.flatMap fun x => x.data.toList ++ [10]) = fullT s.data.toList) : textLines s = A := by
  have hg := lines_good s
  unfold textLines
  generalize linesOf s.size (pieces s isLF) = l at hg
  obtain ⟨g, hb⟩ := hg
  have hc : (if s.size = 0 ∨ endsLF s = true then s.data.toList else s.data.toList ++ [10]) = fullT s.data.toList := by
    unfold fullT endsLF Lib.hasSuffix
    have e : s.size = 0 ↔ s.data.toList = [] := by rw [Lib.size_eq]; exact List.length_eq_zero_iff
    simp only [e]
  rw [hc, ← h] at hb
  have e : (l.map (·.2)).map (fun x : ByteArray => x.data.toList) = A.map (fun x : ByteArray => x.data.toList) := by
    refine lines_one ?_ ?_ ?_
    · intro y hy
      obtain ⟨z, hz, rfl⟩ := List.mem_map.1 hy
      obtain ⟨x, hx, rfl⟩ := List.mem_map.1 hz
      obtain ⟨j, hj⟩ := List.mem_iff_getElem?.1 hx
      exact (g j x hj).2.1
    · intro y hy
      obtain ⟨z, hz, rfl⟩ := List.mem_map.1 hy
      exact hA z hz
    · rw [List.flatMap_map, List.flatMap_map, List.flatMap_map]; exact hb
  exact (List.map_inj_right (fun a b h => ByteArray.ext (Array.toList_inj.1 h))).1 e
theorem textLines_is (s : ByteArray) : (∀ x ∈ textLines s, (10 : UInt8) ∉ x.data.toList) ∧ ((textLines s).flatMap fun x => x.data.toList ++ [10]) = fullT s.data.toList := by
  have hg := lines_good s
  unfold textLines
  generalize linesOf s.size (pieces s isLF) = l at hg
  obtain ⟨g, hb⟩ := hg
  have hc : (if s.size = 0 ∨ endsLF s = true then s.data.toList else s.data.toList ++ [10]) = fullT s.data.toList := by
    unfold fullT endsLF Lib.hasSuffix
    have e : s.size = 0 ↔ s.data.toList = [] := by rw [Lib.size_eq]; exact List.length_eq_zero_iff
    simp only [e]
  refine ⟨fun x hx => ?_, ?_⟩
  · obtain ⟨y, hy, rfl⟩ := List.mem_map.1 hx
    obtain ⟨j, hj⟩ := List.mem_iff_getElem?.1 hy
    exact (g j y hj).2.1
  · rw [List.flatMap_map, ← hc, ← hb]; rfl
theorem textLines_nil {s : ByteArray} (h : s.size = 0) : textLines s = [] := by
  have e : s.data.toList = [] := by rw [Lib.size_eq] at h; exact List.length_eq_zero_iff.1 h
  exact textLines_full (A := []) (fun x hx => by cases hx) (by rw [e]; rfl)
theorem suffix_cons (a b : List UInt8) (hb : b ≠ []) : [10].isSuffixOf (a ++ 10 :: b) = [10].isSuffixOf b := by
  rw [Bool.eq_iff_iff, List.isSuffixOf_iff_suffix, List.isSuffixOf_iff_suffix, List.singleton_suffix_iff_getLast?_eq_some, List.singleton_suffix_iff_getLast?_eq_some]
  rw [List.getLast?_append, List.getLast?_cons_of_ne_nil hb]
  cases h : b.getLast? with
  | none => exact absurd (List.getLast?_eq_none_iff.1 h) hb
  | some y => simp
theorem fullT_cons (a b : List UInt8) : fullT (a ++ 10 :: b) = (a ++ [10]) ++ fullT b := by
  unfold fullT
  by_cases hb : b = []
  · subst hb
    rw [if_pos (.inr (by rw [List.isSuffixOf_iff_suffix]; exact ⟨a, rfl⟩)), if_pos (.inl rfl), List.append_nil]
  · rw [suffix_cons a b hb]
    by_cases h : [10].isSuffixOf b = true
    · rw [if_pos (.inr h), if_pos (.inr h)]; simp
    · rw [if_neg (fun h' => h'.elim (fun e => by simp at e) h), if_neg (fun h' => h'.elim hb h)]; simp
/-- The first line off. -/
theorem textLines_cons (s : ByteArray) (hs : 0 < s.size) : textLines s = s.extract 0 (idx s 10) :: textLines (s.extract (if idx s 10 < s.size then idx s 10 + 1 else idx s 10) s.size) := by
  have hle := idx_le s 10
  have hno : (10 : UInt8) ∉ (s.extract 0 (idx s 10)).data.toList := by
    rw [ext_data]
    unfold idx
    intro hm
    obtain ⟨i, hi, he⟩ := List.mem_take_iff_getElem.1 hm
    have := List.not_of_lt_findIdx (p := (· == 10)) (xs := s.data.toList) (i := i) (by omega)
    simp at this
    exact this he
  have hr := textLines_is (s.extract (if idx s 10 < s.size then idx s 10 + 1 else idx s 10) s.size)
  refine textLines_full ?_ ?_
  · intro x hx
    rcases List.mem_cons.1 hx with rfl | hx
    · exact hno
    · exact hr.1 x hx
  · rw [List.flatMap_cons, hr.2]
    by_cases h : idx s 10 < s.size
    · rw [if_pos h]
      have hsp : s.data.toList = (s.extract 0 (idx s 10)).data.toList ++ 10 :: (s.extract (idx s 10 + 1) s.size).data.toList := by
        have hl : idx s 10 < s.data.toList.length := by rw [← Lib.size_eq]; exact h
        have h1 : (s.extract 0 (idx s 10)).data.toList = s.data.toList.take (idx s 10) := ext_data s _
        have h2 : (s.extract (idx s 10 + 1) s.size).data.toList = s.data.toList.drop (idx s 10 + 1) := by
          rw [Lib.extract_data]
          apply List.take_of_length_le
          rw [List.length_drop, ← Lib.size_eq]; omega
        have hg : s.data.toList[idx s 10]'hl = 10 := beq_iff_eq.1 (List.findIdx_getElem (p := (· == (10 : UInt8))) (xs := s.data.toList) (w := hl))
        rw [h1, h2]
        exact (List.take_append_drop (idx s 10) s.data.toList).symm.trans (by rw [List.drop_eq_getElem_cons hl, hg])
      conv => rhs; rw [hsp]
      rw [fullT_cons]
    · rw [if_neg h]
      have e : idx s 10 = s.size := by omega
      rw [e] at hno ⊢
      have e1 : (s.extract 0 s.size).data.toList = s.data.toList := by rw [ext_data, List.take_of_length_le (by rw [← Lib.size_eq]; exact Nat.le_refl _)]
      have e2 : (s.extract s.size s.size).data.toList = [] := by rw [Lib.extract_data]; simp
      rw [e1] at hno
      rw [e1, e2, fullT_nil, List.append_nil]
      unfold fullT
      rw [if_neg]
      rintro (h' | h')
      · rw [Lib.size_eq, h'] at hs; exact absurd hs (by decide)
      · rw [List.isSuffixOf_iff_suffix] at h'
        obtain ⟨t, ht⟩ := h'
        exact hno (by rw [← ht]; simp)
end Go.Proofs.YtnnkamfpcodnnaaGreatDoor.Lx
namespace Go.Proofs.YtnnkamfpcodnnaaGreatDoor
open Go.RowKit

def Lx.sizeV : Value → Nat | .string s => s.size | _ => 0
theorem r38_parseAll_long (s : ByteArray) (w : World) (hs : 65536 < s.size) :
    Calls Tryz.prog 7 #[.string s] w fun e w' => e = .returned (.tuple #[.slice none 0 0, .int .i64 0, .int .i64 11]) ∧ Below w.heap.size w w' := by
  have h : (65536 : Int) < (s.size : Int) := by omega
  go_enter Tryz.func7, Tryz.ntmps7
  go_wp2_with fail
  go_ret3
  exact ⟨rfl, Below.refl _ _⟩
set_option maxRecDepth 100000 in
set_option maxHeartbeats 3200000 in
theorem r38_parseAll (s0 : ByteArray) (w : World) (hs : s0.size ≤ 65536) :
    Calls Tryz.prog 7 #[.string s0] w (AllPost (Lx.textLines s0) w) := by
  obtain ⟨i0, hi, hz0, hz1, hz2⟩ := info_parts infoOp
  have h : (s0.size : Int) ≤ 65536 := by omega
  go_enter Tryz.func7, Tryz.ntmps7
  go_wp2_with fail
  clear h
  go_loopw [0, 5, 6] (fun sv tx lv wr => ∃ (r : ByteArray) (A : List ByteArray) (out : List Lx.OpV), sv = .string r ∧ lv = .int .i64 A.length ∧ A.length + r.size ≤ 65536 ∧ Lx.textLines s0 = A ++ Lx.textLines r ∧ Lx.LinesRead A out ∧ wr.ownsRow w.heap.size 40 6 tx out.length (Lx.opCells out) ∧ Below w.heap.size w wr) (fun sv _ _ _ => Lx.sizeV sv)
  case atStart => exact ⟨s0, [], [], rfl, rfl, by simpa using hs, rfl, by unfold Lx.LinesRead; rfl, World.ownsRow_nil _ _ _ _, Below.refl _ _⟩
  case round =>
    obtain ⟨r, A, out, rfl, rfl, hAr, htl, hlr, hrow, hbel⟩ := hrel
    have hol := Lx.linesRead_len hlr
    obtain ⟨a, ha⟩ : ∃ a, A.length = a := ⟨_, rfl⟩
    obtain ⟨q, hq⟩ : ∃ q, out.length = q := ⟨_, rfl⟩
    rw [ha] at hAr hol
    rw [hq] at hol hrow
    have HA := Lib.hid ha
    have HQ := Lib.hid hq
    have Htl := Lib.hid htl
    have Hlr := Lib.hid hlr
    have Hrow := Lib.hid hrow
    have Hbel := Lib.hid hbel
    clear htl hlr hrow hbel hq
    by_cases hr0 : 0 < r.size
    · have hr0i : (0 : Int) < (r.size : Int) := by omega
      have hcons := Lx.textLines_cons r hr0
      have HC := Lib.hid hcons
      clear hcons
      have hri : (r.size : Int) ≤ 65536 := by omega
      have hai : (a : Int) ≤ 65536 := by omega
      go_wp2_with fail
      go_loop [7] (fun ii => ∃ k : Nat, k ≤ r.size ∧ ii = .int .i64 k ∧ k ≤ Lx.idx r 10) (fun i => r.size - (intOf i).toNat)
      case atStart => exact ⟨0, Nat.zero_le _, rfl, Nat.zero_le _⟩
      case round =>
        obtain ⟨k, hk, rfl, hki⟩ := hrel
        have hkI : (k : Int) ≤ (r.size : Int) := by omega
        have hk0 : (0 : Int) ≤ (k : Int) := by omega
        by_cases hlt : k < r.size
        · by_cases h10 : r[k] = 10
          · have hc : ((r[k].toNat : Int) != 10) = false := by rw [h10]; rfl
            have hnlt : (k : Int) < (r.size : Int) := by omega
            have hidx := (Lx.idx_hit r 10 k hlt hki h10).1
            clear h10
            have hRz : (r.extract (k + 1) r.size).size < r.size := by rw [ByteArray.size_extract]; omega
            have hTz : (r.extract 0 k).size = k := by rw [ByteArray.size_extract]; omega
            have HC2 := Lib.hid (show Lx.textLines r = r.extract 0 k :: Lx.textLines (r.extract (k + 1) r.size) by rw [HC.out, hidx]; rw [if_pos hlt])
            have HAL := Lib.hid (fun T => (by rw [List.length_append, HA.out]; rfl : (A ++ [T]).length = a + 1))
            clear hidx hki
            go_upto_region 10 with (fail)
            generalize r.extract 0 k = T at *
            have hres : Lx.textLines s0 = (A ++ [T]) ++ Lx.textLines (r.extract (k + 1) r.size) := by rw [Htl.out, HC2.out]; simp
            have HRES := Lib.hid hres
            clear hres
            by_cases h0 : T.size = 0
            · have heb := Lx.streq h0
              have hsk := Lib.hid (Lx.linesRead_snoc_skip Hlr.out (Lx.skip_empty h0))
              clear h0
              go_wp2_with fail
              go_roundw
              case rel => exact ⟨_, A ++ [T], out, rfl, by rw [HAL.out]; go_num, by rw [HAL.out]; omega, HRES.out, hsk.out, by rw [HQ.out]; exact Hrow.out, Hbel.out⟩
              case measure => exact hRz
            · have heb := Lx.strne h0
              have hp : 0 < T.size := by omega
              have hpi : (0 : Int) < (T.size : Int) := by omega
              have hskip := Lx.skip_head hp
              clear h0
              by_cases h35 : ((T[0].toNat : Int) == 35) = true
              · have hsk := Lib.hid (Lx.linesRead_snoc_skip Hlr.out (hskip.trans h35))
                clear hskip
                go_wp2_with fail
                go_roundw
                case rel => exact ⟨_, A ++ [T], out, rfl, by rw [HAL.out]; go_num, by rw [HAL.out]; omega, HRES.out, hsk.out, by rw [HQ.out]; exact Hrow.out, Hbel.out⟩
                case measure => exact hRz
              · have h35' : ((T[0].toNat : Int) == 35) = false := by simpa using h35
                have hns := Lib.hid (hskip.trans h35')
                have HP := Lib.hid (fun W => r38_parse T W (by omega))
                clear h35 hskip
                obtain ⟨ad, cap, rfl⟩ := Lx.slice_of_row Hrow.out
                go_wp2_with fail
                refine (HP.out _).mono ?_
                rintro e w5 ⟨⟨ok, od, ot, or, oo, oj⟩, x, rfl, hro, hb5⟩
                unfold Lx.OpV.val
                dsimp only
                have HB5 := Lib.hid (Hbel.out.trans (hb5.mono Hbel.out.size))
                have Hrow5 := Lib.hid (Lx.ownBelowO Hrow.out hb5)
                clear hb5
                rcases hro with ⟨rfl, hpp, hin⟩ | ⟨rfl, hz, hno⟩
                · have hrd : Lx.ReadsOp T.data.toList ⟨ok, od, ot, or, oo, oj⟩ 0 := .inl ⟨rfl, hpp, hin⟩
                  have hsn := Lib.hid (Lx.linesRead_snoc Hlr.out hns.out hrd)
                  have hoc := Lib.hid (Lx.opCells_snoc out ⟨ok, od, ot, or, oo, oj⟩)
                  have hcs : ∀ j u, ([.int .i64 ok, .int .i64 od, .int .i64 ot, .int .i64 or, .bool oo, .string oj] : List Value)[j]? = some u → ((w5.alloc (.cells #[.int .i64 ok, .int .i64 od, .int .i64 ot, .int .i64 or, .bool oo, .string oj] 40)).alloc (.cells #[.int .i64 ok, .int .i64 od, .int .i64 ot, .int .i64 or, .bool oo, .string oj] 40)).cell? ((⟨w5.heap.size + 1, 0, none⟩ : Addr).add j) = some u := by
                    have := Lx.cell_six_new (w5.alloc (.cells #[.int .i64 ok, .int .i64 od, .int .i64 ot, .int .i64 or, .bool oo, .string oj] 40)) ⟨ok, od, ot, or, oo, oj⟩ 40
                    rw [World.size_alloc] at this
                    exact this
                  have HCS := Lib.hid hcs
                  have hbz := HB5.out.size
                  clear hpp hin hrd hcs
                  go_wp2_with (at_builtin; refine wpList_append_own _ rfl _ _ 23 rfl w.heap.size 40 i0 _ 6 56 Tryz.underlying23 hi hz0 hz1 hz2 rfl (by decide) _ _ _ rfl ((Hrow5.out.alloc _).alloc _) ⟨w5.heap.size + 1, 0, none⟩ 1 1 [.int .i64 ok, .int .i64 od, .int .i64 ot, .int .i64 or, .bool oo, .string oj] rfl rfl HCS.out (by simp [Value.oneCell']) (by unfold maxLen; omega) (by omega) (by simp; omega) ?_)
                  intro v' w6 hown' hgrow _
                  have hb6 := ((HB5.out.alloc HB5.out.size (.cells #[.int .i64 ok, .int .i64 od, .int .i64 ot, .int .i64 or, .bool oo, .string oj] 40)).alloc (HB5.out.alloc HB5.out.size _).size (.cells #[.int .i64 ok, .int .i64 od, .int .i64 ot, .int .i64 or, .bool oo, .string oj] 40)).grown hgrow (by simp; omega) (Lx.ownBase Hrow5.out)
                  clear hgrow
                  go_wp2_with fail
                  go_roundw
                  case rel => exact ⟨_, A ++ [T], out ++ [⟨ok, od, ot, or, oo, oj⟩], rfl, by rw [HAL.out]; go_num, by rw [HAL.out]; omega, HRES.out, hsn.out, by rw [List.length_append, HQ.out, hoc.out]; exact hown', hb6⟩
                  case measure => exact hRz
                · have hall : Lx.AllIs (Lx.textLines s0) [] ((a : Int) + 1) 10 := by
                    rw [HRES.out]
                    refine .inr ⟨rfl, rfl, a, T, out, ?_, rfl, hns.out, Lx.reads_no hno, ?_⟩
                    · rw [List.append_assoc, List.getElem?_append_right (by rw [HA.out]; exact Nat.le_refl _), HA.out, Nat.sub_self]; rfl
                    · rw [List.append_assoc, List.take_left' HA.out]; exact Hlr.out
                  have HALL := Lib.hid hall
                  injection hz with z1 z2 z3 z4 z5 z6
                  subst z1 z2 z3 z4 z5 z6
                  clear hno hall
                  go_wp2_with fail
                  go_ret3
                  exact ⟨_, [], _, _, rfl, HALL.out, World.ownsRow_nil _ _ _ _, HB5.out.alloc HB5.out.size _⟩
          · have hc : ((r[k].toNat : Int) != 10) = true := by
              rw [bne_iff_ne]
              intro e
              exact h10 (UInt8.toNat_inj.1 (by show r[k].toNat = 10; omega))
            have hm := Lx.idx_miss r 10 k hlt hki h10
            have HM := Lib.hid hm
            clear hm h10
            go_wp2_with fail
            go_round
            case rel => exact ⟨k + 1, by omega, by go_num, HM.out⟩
            case measure => simp [intOf]; omega
        · have hge : decide (k < r.size) = false := decide_eq_false hlt
          have hidx : Lx.idx r 10 = k := by have := Lx.idx_le r 10; omega
          have hRz : (r.extract k r.size).size < r.size := by rw [ByteArray.size_extract]; omega
          have hTz : (r.extract 0 k).size = k := by rw [ByteArray.size_extract]; omega
          have HC2 := Lib.hid (show Lx.textLines r = r.extract 0 k :: Lx.textLines (r.extract k r.size) by rw [HC.out, hidx]; rw [if_neg hlt])
          have HAL := Lib.hid (fun T => (by rw [List.length_append, HA.out]; rfl : (A ++ [T]).length = a + 1))
          clear hidx hki
          go_upto_region 10 with (fail)
          generalize r.extract 0 k = T at *
          have hres : Lx.textLines s0 = (A ++ [T]) ++ Lx.textLines (r.extract k r.size) := by rw [Htl.out, HC2.out]; simp
          have HRES := Lib.hid hres
          clear hres
          by_cases h0 : T.size = 0
          · have heb := Lx.streq h0
            have hsk := Lib.hid (Lx.linesRead_snoc_skip Hlr.out (Lx.skip_empty h0))
            clear h0
            go_wp2_with fail
            go_roundw
            case rel => exact ⟨_, A ++ [T], out, rfl, by rw [HAL.out]; go_num, by rw [HAL.out]; omega, HRES.out, hsk.out, by rw [HQ.out]; exact Hrow.out, Hbel.out⟩
            case measure => exact hRz
          · have heb := Lx.strne h0
            have hp : 0 < T.size := by omega
            have hpi : (0 : Int) < (T.size : Int) := by omega
            have hskip := Lx.skip_head hp
            clear h0
            by_cases h35 : ((T[0].toNat : Int) == 35) = true
            · have hsk := Lib.hid (Lx.linesRead_snoc_skip Hlr.out (hskip.trans h35))
              clear hskip
              go_wp2_with fail
              go_roundw
              case rel => exact ⟨_, A ++ [T], out, rfl, by rw [HAL.out]; go_num, by rw [HAL.out]; omega, HRES.out, hsk.out, by rw [HQ.out]; exact Hrow.out, Hbel.out⟩
              case measure => exact hRz
            · have h35' : ((T[0].toNat : Int) == 35) = false := by simpa using h35
              have hns := Lib.hid (hskip.trans h35')
              have HP := Lib.hid (fun W => r38_parse T W (by omega))
              clear h35 hskip
              obtain ⟨ad, cap, rfl⟩ := Lx.slice_of_row Hrow.out
              go_wp2_with fail
              refine (HP.out _).mono ?_
              rintro e w5 ⟨⟨ok, od, ot, or, oo, oj⟩, x, rfl, hro, hb5⟩
              unfold Lx.OpV.val
              dsimp only
              have HB5 := Lib.hid (Hbel.out.trans (hb5.mono Hbel.out.size))
              have Hrow5 := Lib.hid (Lx.ownBelowO Hrow.out hb5)
              clear hb5
              rcases hro with ⟨rfl, hpp, hin⟩ | ⟨rfl, hz, hno⟩
              · have hrd : Lx.ReadsOp T.data.toList ⟨ok, od, ot, or, oo, oj⟩ 0 := .inl ⟨rfl, hpp, hin⟩
                have hsn := Lib.hid (Lx.linesRead_snoc Hlr.out hns.out hrd)
                have hoc := Lib.hid (Lx.opCells_snoc out ⟨ok, od, ot, or, oo, oj⟩)
                have hcs : ∀ j u, ([.int .i64 ok, .int .i64 od, .int .i64 ot, .int .i64 or, .bool oo, .string oj] : List Value)[j]? = some u → ((w5.alloc (.cells #[.int .i64 ok, .int .i64 od, .int .i64 ot, .int .i64 or, .bool oo, .string oj] 40)).alloc (.cells #[.int .i64 ok, .int .i64 od, .int .i64 ot, .int .i64 or, .bool oo, .string oj] 40)).cell? ((⟨w5.heap.size + 1, 0, none⟩ : Addr).add j) = some u := by
                  have := Lx.cell_six_new (w5.alloc (.cells #[.int .i64 ok, .int .i64 od, .int .i64 ot, .int .i64 or, .bool oo, .string oj] 40)) ⟨ok, od, ot, or, oo, oj⟩ 40
                  rw [World.size_alloc] at this
                  exact this
                have HCS := Lib.hid hcs
                have hbz := HB5.out.size
                clear hpp hin hrd hcs
                go_wp2_with (at_builtin; refine wpList_append_own _ rfl _ _ 23 rfl w.heap.size 40 i0 _ 6 56 Tryz.underlying23 hi hz0 hz1 hz2 rfl (by decide) _ _ _ rfl ((Hrow5.out.alloc _).alloc _) ⟨w5.heap.size + 1, 0, none⟩ 1 1 [.int .i64 ok, .int .i64 od, .int .i64 ot, .int .i64 or, .bool oo, .string oj] rfl rfl HCS.out (by simp [Value.oneCell']) (by unfold maxLen; omega) (by omega) (by simp; omega) ?_)
                intro v' w6 hown' hgrow _
                have hb6 := ((HB5.out.alloc HB5.out.size (.cells #[.int .i64 ok, .int .i64 od, .int .i64 ot, .int .i64 or, .bool oo, .string oj] 40)).alloc (HB5.out.alloc HB5.out.size _).size (.cells #[.int .i64 ok, .int .i64 od, .int .i64 ot, .int .i64 or, .bool oo, .string oj] 40)).grown hgrow (by simp; omega) (Lx.ownBase Hrow5.out)
                clear hgrow
                go_wp2_with fail
                go_roundw
                case rel => exact ⟨_, A ++ [T], out ++ [⟨ok, od, ot, or, oo, oj⟩], rfl, by rw [HAL.out]; go_num, by rw [HAL.out]; omega, HRES.out, hsn.out, by rw [List.length_append, HQ.out, hoc.out]; exact hown', hb6⟩
                case measure => exact hRz
              · have hall : Lx.AllIs (Lx.textLines s0) [] ((a : Int) + 1) 10 := by
                  rw [HRES.out]
                  refine .inr ⟨rfl, rfl, a, T, out, ?_, rfl, hns.out, Lx.reads_no hno, ?_⟩
                  · rw [List.append_assoc, List.getElem?_append_right (by rw [HA.out]; exact Nat.le_refl _), HA.out, Nat.sub_self]; rfl
                  · rw [List.append_assoc, List.take_left' HA.out]; exact Hlr.out
                have HALL := Lib.hid hall
                injection hz with z1 z2 z3 z4 z5 z6
                subst z1 z2 z3 z4 z5 z6
                clear hno hall
                go_wp2_with fail
                go_ret3
                exact ⟨_, [], _, _, rfl, HALL.out, World.ownsRow_nil _ _ _ _, HB5.out.alloc HB5.out.size _⟩
    · have hz := Lx.textLines_nil (s := r) (by omega)
      have hfin : Lx.AllIs (Lx.textLines s0) out 0 0 := by
        rw [Htl.out, hz, List.append_nil]
        exact .inl ⟨rfl, rfl, Hlr.out⟩
      have HF := Lib.hid hfin
      have hd : decide (0 < r.size) = false := decide_eq_false hr0
      clear hz hfin
      go_wp2_with fail
      go_ret3
      exact ⟨_, out, _, _, rfl, HF.out, by rw [HQ.out]; exact Hrow.out, Hbel.out⟩
end Go.Proofs.YtnnkamfpcodnnaaGreatDoor
namespace Go.Proofs.YtnnkamfpcodnnaaGreatDoor.lawOpReads
open Go.ChangeShapes Go.WideShapes Go.ChangeAt Go.RowKit
def AllP (s : ByteArray) (out : List Lx.OpV) (n x : Int) : Prop := (s.size ≤ 65536 ∧ Lx.AllIs (Lx.textLines s) out n x) ∨ (65536 < s.size ∧ out = [] ∧ n = 0 ∧ x = 11)
theorem allP_one {s : ByteArray} {out out' : List Lx.OpV} {n n' x x' : Int} (h : AllP s out n x) (h' : AllP s out' n' x') : out = out' ∧ n = n' ∧ x = x' := by
  rcases h with ⟨a, h⟩ | ⟨a, rfl, rfl, rfl⟩ <;> rcases h' with ⟨a', h'⟩ | ⟨a', rfl, rfl, rfl⟩
  · exact Lx.all_one h h'
  · omega
  · omega
  · exact ⟨rfl, rfl, rfl⟩
theorem allP_len {s : ByteArray} {out : List Lx.OpV} {n x : Int} (h : AllP s out n x) : out.length ≤ 65537 := by
  rcases h with ⟨a, h⟩ | ⟨_, rfl, _, _⟩
  · rcases h with ⟨_, _, h⟩ | ⟨_, rfl, _⟩
    · have h1 := Lx.linesRead_len h
      have h2 : (Lx.textLines s).length ≤ 65537 := by
        unfold Lx.textLines
        rw [List.length_map]
        have := Lx.pieces_le s isLF
        have := List.length_filter_le (fun x : Nat × ByteArray => decide (x.1 < s.size)) (Lx.pieces s isLF)
        unfold Lx.linesOf; omega
      omega
    · exact Nat.zero_le _
  · exact Nat.zero_le _
def RdPost (s : ByteArray) (W : World) (e : Ending) (w' : World) : Prop := ∃ A cap out q nn x, e = .returned (.tuple #[.slice A q cap, .int .i64 nn, .int .i64 x]) ∧ List.length out = q ∧ AllP s out nn x ∧ Lx.IsOps w' A q out ∧ Below W.heap.size W w'
theorem reads_prog (s : ByteArray) (W : World) (E : Env W) : Calls Tryz.prog 6 #[.string s] W (RdPost s W) := by
  by_cases h : s.size ≤ 65536
  · refine (parseAll_any s W E h).mono ?_
    rintro e w' ⟨v, out, n, x, rfl, ha, hrow, hb⟩
    obtain ⟨A, cap, rfl⟩ := Lx.slice_of_row hrow
    exact ⟨A, cap, out, _, n, x, rfl, rfl, .inl ⟨h, ha⟩, Lx.row_isOps hrow rfl, hb⟩
  · refine (parseAll_long s W (by omega)).mono ?_
    rintro e w' ⟨rfl, hb⟩
    exact ⟨none, 0, [], 0, 0, 11, rfl, rfl, .inr ⟨by omega, rfl, rfl, rfl⟩, ⟨rfl, fun h => absurd h (by decide)⟩, hb⟩
theorem reads_ref (s : ByteArray) (W : World) : Calls Tryz.prog 7 #[.string s] W (RdPost s W) := by
  by_cases h : s.size ≤ 65536
  · refine (r38_parseAll s W h).mono ?_
    rintro e w' ⟨v, out, n, x, rfl, ha, hrow, hb⟩
    obtain ⟨A, cap, rfl⟩ := Lx.slice_of_row hrow
    exact ⟨A, cap, out, _, n, x, rfl, rfl, .inl ⟨h, ha⟩, Lx.row_isOps hrow rfl, hb⟩
  · refine (r38_parseAll_long s W (by omega)).mono ?_
    rintro e w' ⟨rfl, hb⟩
    exact ⟨none, 0, [], 0, 0, 11, rfl, rfl, .inr ⟨by omega, rfl, rfl, rfl⟩, ⟨rfl, fun h => absurd h (by decide)⟩, hb⟩
set_option maxRecDepth 100000 in
set_option maxHeartbeats 1600000 in
theorem walk (s : ByteArray) (_hs : s.size ≤ maxLen) (w : World) (env : Env w) :
    Calls Tryz.prog 3 #[.string s] w fun e w' => e = .returned (.bool true) ∧ Below w.heap.size w w' := by
  have HW := Lib.hid (opworks_any w env)
  by_cases h1 : 1500 < s.size ∧ s.size < 60000
  · have d1 : decide (1500 < (s.size : Int)) = true := decide_eq_true (by omega)
    have d2 : decide ((s.size : Int) < 60000) = true := decide_eq_true (by omega)
    clear h1
    go_enter Tryz.func3, Tryz.ntmps3
    go_wp2_with fail
    refine HW.out.mono ?_
    rintro e w1 ⟨rfl, c1⟩
    go_wp2_with fail
    go_ret
    exact ⟨rfl, c1⟩
  · obtain ⟨b1, b2, hb1, hb2, hb⟩ : ∃ b1 b2, decide (1500 < (s.size : Int)) = b1 ∧ decide ((s.size : Int) < 60000) = b2 ∧ (b1 && b2) = false := by
      refine ⟨_, _, rfl, rfl, ?_⟩
      rw [Bool.eq_false_iff]
      intro h
      rw [Bool.and_eq_true, decide_eq_true_iff, decide_eq_true_iff] at h
      omega
    have hbc : (b1 = false) ∨ (b1 = true ∧ b2 = false) := by cases b1 <;> cases b2 <;> simp_all
    by_cases h2 : 65556 < s.size
    · have d3 : decide (65556 < (s.size : Int)) = true := decide_eq_true (by omega)
      rcases hbc with rfl | ⟨rfl, rfl⟩
      all_goals
        clear h1 hb
        go_enter Tryz.func3, Tryz.ntmps3
        go_wp2_with fail
        refine HW.out.mono ?_
        rintro e w1 ⟨rfl, c1⟩
        go_wp2_with fail
        go_ret
        exact ⟨rfl, c1⟩
    · have d3 : decide (65556 < (s.size : Int)) = false := decide_eq_false (by omega)
      have HWW := Lib.hid (fun W (b : Below w.heap.size w W) => opworks_any W (env.below b))
      have HP := Lib.hid (fun W E => reads_prog s W E)
      have HR := Lib.hid (fun W => reads_ref s W)
      unfold RdPost at HP HR
      rcases hbc with rfl | ⟨rfl, rfl⟩
      all_goals
        clear h1 hb h2
        go_enter Tryz.func3, Tryz.ntmps3
        go_wp2_with fail
        refine (HP.out _ env).mono ?_
        rintro e w1 ⟨A1, cap1, out, q, nn, x, rfl, hq, ha, l1, c1⟩
        have L1 := Lib.hid l1
        have B1 := Lib.hid c1
        clear l1 c1
        go_wp2_with fail
        refine (HR.out _).mono ?_
        rintro e w2 ⟨A2, cap2, out2, q2, nn2, x2, rfl, hq2, ha2, l2, c2⟩
        obtain ⟨rfl, rfl, rfl⟩ := allP_one ha ha2
        obtain rfl : q = q2 := by omega
        have hle := allP_len ha
        have M2 := Lib.hid l2
        have L2 := Lib.hid (L1.out.below c2)
        have B2 := Lib.hid (B1.out.trans (c2.mono B1.out.size))
        have HS := Lib.hid (same_any A1 q cap1 out A2 q cap2 out w2 L2.out M2.out (by omega) (by omega))
        unfold SameIs at HS
        rw [Lx.sameB_yes rfl] at HS
        clear l2 c2 B1 L1 ha ha2 hq hq2 hle
        go_wp2_with fail
        refine HS.out.mono ?_
        rintro e w3 ⟨rfl, c3⟩
        have B3 := Lib.hid (B2.out.trans (c3.mono B2.out.size))
        clear c3
        go_wp2_with fail
        refine (HWW.out _ B3.out).mono ?_
        rintro e w4 ⟨rfl, c4⟩
        go_wp2_with fail
        go_ret
        exact ⟨rfl, B3.out.trans (c4.mono B3.out.size)⟩

set_option maxRecDepth 100000 in
/-- What the walk gives, for every argument that can be read. -/
theorem contract (H : Type) (enc : TypeId × Value → H) (W : World) (base : Nat) (args : Array Value) (ds gs : List (DataW H)) (before : List MemPlace)
    (hval : ∀ (j : Nat) t v, Tryz.f3.params[j]? = some t → args[j]? = some v → Value.okWide Tryz.prog W .any base t v)
    (hW : DataW.Whole enc Tryz.prog Tryz.f3.params.toList Rows.opReadsSpec.vars false W args.toList ds gs before) (hL : laidMetH Tryz.prog Rows.opReadsRow.laid W) (hsh : W.ShapedOpen Tryz.prog) :
    Calls Tryz.prog 3 args W fun e W' => ∃ v, e = .returned v ∧ Rows.opReadsSpec.post enc Tryz.prog Tryz.f3 false true false false W args v W' := by
  have hW' := hW
  obtain ⟨p, q, hA0, hV, rfl, hfz, hnd⟩ := hW
  have hA : DataW.TrodAll enc Tryz.prog W 0 (fun _ => true) true Tryz.f3.params.toList args.toList ds p := hA0
  rw [Tryz.params3] at hA hval
  obtain ⟨v0, vs0, d0, ds0, p0, q0, hargs, rfl, rfl, h0, r0⟩ := trodAll_cons hA
  obtain ⟨rfl, rfl, rfl⟩ := trodAll_nil r0
  obtain rfl : args = #[v0] := by cases args; simp_all
  obtain ⟨rfl, rfl⟩ := trodVars_none hV
  obtain ⟨s0, rfl, rfl, rfl, w0⟩ := Go.ChangeMaps.open_string Tryz.underlying9 (hval 0 9 v0 rfl rfl) h0
  clear hA0
  refine (walk s0 w0 W (env_of hL hsh)).mono fun e W' ⟨he, bel⟩ => ?_
  subst he
  exact ⟨_, rfl, _, _, _, [], _, [], hW', trodAll_mk1 (shut_bool Tryz.underlying4 _), (trodAll_cons_mk (Go.ChangeMaps.shut_string Tryz.underlying9 w0) trodAll_mk0), rfl, bel.frame _, fun h => by cases h⟩

set_option maxRecDepth 100000 in
theorem reads (os : Os) {H : Type} (enc : TypeId × Value → H) : ∃ places, DataW.whole enc Tryz.prog ((World.doorLaid Tryz.prog 72 os).forCall (fun _ _ => 0) ⟨#[], #[.string ⟨#[]⟩], []⟩).memory Tryz.f3.params.toList Rows.opReadsSpec.vars false (#[.string ⟨#[]⟩] : Array Value).toList 8 = some ([.lit (.string [])], [], places) :=
  ⟨[], by kernel_rfl⟩

set_option maxRecDepth 100000 in
theorem lifted (os : Os) (started : os.Started) (H : Type) (enc : TypeId × Value → H) (F : Stop.Interp) :
    ReturnsInHanded {} Tryz.checked os 3 .any ((OpenSpec.ofChange Rows.opReadsSpec).preRow enc Tryz.prog Tryz.f3 Rows.opReadsRow.domain false Rows.opReadsRow.laid) (((OpenSpec.ofChange Rows.opReadsSpec).at F).post enc Tryz.prog Tryz.f3 false true false false) := by
  obtain ⟨places, hx⟩ := reads os enc
  refine returnsInHanded_of_row (C := Tryz.checked) (s := OpenSpec.ofChange Rows.opReadsSpec) own started (by kernel_rfl) Tryz.func3
    (witness_row_atRef (enc := enc) (C := Tryz.checked) false (World.doorLaid Tryz.prog 72 os) #[.string ⟨#[]⟩] rfl (door_vars os _) (door_rest os _) (by kernel_rfl)
      (OpenSpec.preRow_of_cond 8 hx (by kernel_rfl) (fun k hk => by cases hk) (by kernel_rfl) (door_laid os _))) ?_
  intro W base args ds gs before hval hW _ _ _ hL hsh _
  exact contract H enc W base args ds gs before hval hW hL hsh

theorem said : Rows.OpReadsSaid :=
  OpenClaim.holds_of_cond 3 Tryz.f3 rfl rfl rfl rfl rfl rfl rfl ⟨rfl, rfl, rfl, rfl, rfl⟩ rfl rfl rfl rfl rfl (by kernel_rfl) Tryz.func3 (by kernel_rfl)
    (of_decide_eq_true (by kernel_rfl)) (by unfold Func.isWrapper; first | (rw [if_pos (by decide +kernel)]; kernel_rfl) | (rw [if_neg (by decide +kernel)]; exact ⟨rfl, rfl⟩))
    (fun os started H enc _ F => by rw [OpenClaim.pre_eq_preRow]; exact lifted os started H enc F)

theorem plain (f : FuncId) (fn : Func) (hf : Tryz.pinned.checked.prog.funcNamed "wakeman/wakemanlaw38.OpReads" = some f) (hfn : Tryz.pinned.checked.prog.funcs[f]? = some fn) :
    Rows.opReadsCard.stood.looks = Tryz.pinned.checked.prog.looks [] ∧ ∀ (j : Nat) t, fn.params[j]? = some t → Tryz.pinned.checked.prog.wantsStandIn t = false := by
  obtain rfl : f = 3 := Option.some.inj ((show Tryz.prog.funcNamed "wakeman/wakemanlaw38.OpReads" = some 3 by kernel_rfl).symm.trans hf) |>.symm
  obtain rfl : fn = Tryz.f3 := (Option.some.inj (Tryz.func3.symm.trans hfn)).symm
  refine ⟨by kernel_rfl, fun j t ht => ?_⟩
  rw [Tryz.params3] at ht
  have hm : t ∈ [9] := by
    have := Array.mem_of_getElem? ht
    simpa using this
  have hall : ([9].all fun u => !Tryz.prog.wantsStandIn u) = true := by kernel_rfl
  exact (show Tryz.prog.wantsStandIn t = false by simpa using List.all_eq_true.1 hall t hm)

/-- The card. -/
theorem card : Rows.OpReadsCardSaid :=
  Claim7.holds_tied_plain_at .later [] _ _ _ _ said (fun _ h => by cases h) (by kernel_rfl) (fun _ h => by cases h) opReads_row_tie rfl ⟨rfl, rfl⟩ (by kernel_rfl) rfl plain (by kernel_rfl)
end Go.Proofs.YtnnkamfpcodnnaaGreatDoor.lawOpReads
