/- strings.IndexRune, IndexAny and ContainsAny at the two blanks, for every text. -/
import Derived.Test.YtcnhoolbnllmkaaDoorProg
import Derived.Test.YtcnhoolbnllmkaaDoorLx
import Derived.Test.YtcnhoolbnllmkaaDoorShelf
import Derived.Test.YtcnhoolbnllmkaaDoorShelf3
import Derived.Laws.RangeAny
import Derived.Laws.Runes
import Derived.WalkKit
import Derived.WalkMore
import Derived.WalkSpells
import Derived.WalkLawsBesides
import Derived.BigGuardPart
import Derived.BigQuiet
import Derived.Lib.Hide
import Derived.Lib.Strings
import Derived.Lib.Small
import Derived.Lib.OthersKept
import Derived.Shelf.Strings.SlTrimAscii
namespace Go.Proofs.YtcnhoolbnllmkaaDoor
open Go.RowKit

set_option maxRecDepth 100000 in
set_option maxHeartbeats 1600000 in
/-- A rune that is no ASCII byte is none of the two blanks. -/
theorem index_rune_hi (r : Int) (h : 128 ≤ r) (w : World) :
    Calls Tryd.prog 40 #[.string ⟨#[32, 9]⟩, .int .i32 r] w fun e w' => e = .returned (.int .i64 (-1)) ∧ Below w.heap.size w w' := by
  have h0 : (0 : Int) ≤ r := by omega
  have hib : ∀ (c : Int) (W : World), Calls Tryd.prog 33 #[.string ByteArray.empty, .int .u8 c] W fun e w' => e = .returned (.int .i64 (-1)) ∧ w' = W := fun c W => Tryd.strings_IndexByte ByteArray.empty c W
  have HIB := Lib.hid hib
  clear hib
  have h1 : ¬ r < 128 := by omega
  by_cases hE : r = 65533
  · subst hE
    go_enter Tryd.func40, Tryd.ntmps40
    go_wp2_with fail
    go_loopg [5, 6] 2 (fun g _ _ wx => ∃ i : Nat, i + g = 2 ∧ wx = w.iter ⟨#[32, 9]⟩ i)
    case atStart => exact ⟨0, rfl, rfl⟩
    case round =>
      obtain ⟨i, hig, rfl⟩ := hrel
      cases gk with
      | zero =>
        obtain rfl : i = 2 := by omega
        have hnx := fun ty => run_next_end (P := Tryd.prog) w ⟨#[32, 9]⟩ 2 ty (by decide)
        go_wp2
        go_ret
        exact ⟨rfl, (Below.refl _ w).alloc (Nat.le_refl _) _⟩
      | succ g =>
        rcases (show i = 0 ∨ i = 1 by omega) with rfl | rfl
        · have hnx : ∀ ty, (Instr.next (.pointer (some ⟨w.heap.size, 0, none⟩)) true ty).run Tryd.prog (w.iter ⟨#[32, 9]⟩ 0) = .ok (.tuple #[.bool true, .int .i64 (0 : Nat), .int .i32 32]) (w.iter ⟨#[32, 9]⟩ 1) := fun ty => run_next_ascii (P := Tryd.prog) w ⟨#[32, 9]⟩ 0 ty (by decide) (by decide)
          go_wp2_with fail
          go_roundg g
          case measure => omega
          case rel => exact ⟨1, by omega, rfl⟩
        · have hnx : ∀ ty, (Instr.next (.pointer (some ⟨w.heap.size, 0, none⟩)) true ty).run Tryd.prog (w.iter ⟨#[32, 9]⟩ 1) = .ok (.tuple #[.bool true, .int .i64 (1 : Nat), .int .i32 9]) (w.iter ⟨#[32, 9]⟩ 2) := fun ty => run_next_ascii (P := Tryd.prog) w ⟨#[32, 9]⟩ 1 ty (by decide) (by decide)
          go_wp2_with fail
          go_roundg g
          case measure => omega
          case rel => exact ⟨2, by omega, rfl⟩
  · have hne : (r == 65533) = false := by rw [beq_eq_false_iff_ne]; exact hE
    by_cases hv : Lib.validRune r = true
    · obtain ⟨e1, e2, e3⟩ := encode_facts r (by rw [validRune_eq]; exact hv) h
      generalize hX : Utf8.encode r = X at e1 e2 e3
      have hcv : ∀ W, (convert 21 9 (.int .i32 r)).run Tryd.prog W = .ok (.string X) W := fun W => by
        rw [← hX]; exact run_convert_int_string W 21 9 .i32 r (by rw [Tryd.underlying21]; rfl) Tryd.underlying9
      have Hcv := Lib.hid hcv
      clear hX hcv
      have hl : X.size - 1 < X.size := by omega
      have e3' := e3 hl
      by_cases hs2 : X.size = 2
      · have hcast : (X.size : Int) - 1 = 1 := by omega
        have hidx : ∀ h : 1 < X.size, ((9 : Int) == (X[1].toNat : Int)) = false := by
          intro h
          rw [beq_eq_false_iff_ne]
          have e : X[X.size - 1] = X[1] := by congr 1; omega
          rw [e] at e3'
          omega
        have h12 : 1 < X.size := by omega
        have hidx' : ((((⟨#[32, 9]⟩ : ByteArray)[1]'(by decide)).toNat : Int) != (X[1].toNat : Int)) = true := by
          have := hidx h12
          rw [show (((⟨#[32, 9]⟩ : ByteArray)[1]'(by decide)).toNat : Int) = 9 from by decide, bne, this]; rfl
        have h12i : (1 : Int) < (X.size : Int) := by omega
        go_enter Tryd.func40, Tryd.ntmps40
        go_wp2_with fail
        refine (Tryd.utf8_ValidRune r _).mono ?_
        rintro e w' ⟨rfl, rfl⟩
        have hcv := Hcv.out w'
        go_wp2_with fail
        go_step3
        go_wp2_with fail
        go_loop [9, 10] (fun i f => i = .int .i64 1 ∧ f = .int .i64 0) (fun _ _ => 0)
        case atStart => exact ⟨rfl, rfl⟩
        case round =>
          obtain ⟨rfl, rfl⟩ := hrel
          go_wp2_with fail
          go_step3
          go_wp2_with fail
          go_quiet (fail)
          go_wp2_with fail
          go_quiet ((go_at_call 33; exact (HIB.out _ _).mono (by rintro e w'' ⟨rfl, rfl⟩; exact ⟨rfl, _, rfl⟩)))
          go_wp2_with fail
          show bodyPost Tryd.prog Tryd.f40 (fun e w'' => e = Ending.returned (.int .i64 (-1)) ∧ Below w'.heap.size w' w'') Exit.ret _ _
          go_ret
          exact ⟨rfl, ⟨rfl, rfl, rfl, Nat.le_refl _, fun _ _ => rfl⟩⟩
      · have hge : (2 : Int) ≤ (X.size : Int) - 1 := by omega
        go_enter Tryd.func40, Tryd.ntmps40
        go_wp2_with fail
        refine (Tryd.utf8_ValidRune r _).mono ?_
        rintro e w' ⟨rfl, rfl⟩
        have hcv := Hcv.out w'
        go_wp2_with fail
        go_step3
        go_wp2_with fail
        go_loop [9, 10] (fun i f => i = .int .i64 ((X.size : Int) - 1) ∧ f = .int .i64 0) (fun _ _ => 0)
        case atStart => exact ⟨rfl, rfl⟩
        case round =>
          obtain ⟨rfl, rfl⟩ := hrel
          go_wp2_with fail
          go_ret
          exact ⟨rfl, Below.refl _ _⟩
    · have hv' : Lib.validRune r = false := by simpa using hv
      go_enter Tryd.func40, Tryd.ntmps40
      go_wp2_with fail
      refine (Tryd.utf8_ValidRune r _).mono ?_
      rintro e w' ⟨rfl, rfl⟩
      go_wp2_with fail
      go_ret
      exact ⟨rfl, Below.refl _ _⟩

theorem below_iterAt {B k : Nat} {a w : World} (h : Below B a w) (hk : B ≤ k) (s : ByteArray) (pos : Nat) : Below B a (w.iterAt k s pos) :=
  ⟨h.os, h.tape, h.output, by simp only [World.iterAt, Array.size_setIfInBounds]; exact h.size, fun j hj => by
    simp only [World.iterAt, Array.getElem?_setIfInBounds]
    rw [if_neg (by omega)]; exact h.block j hj⟩
/-- A text without blanks holds none. -/
theorem noany_blanks (s : ByteArray) (hno : ∀ b ∈ s.data.toList, b ≠ 32 ∧ b ≠ 9) (n : Nat) : Lib.NoAny s.data.toList [32, 9] n := by
  intro j b _ hb
  have := hno b (List.mem_of_getElem? hb)
  simp [this.1, this.2]
set_option maxRecDepth 100000 in
set_option maxHeartbeats 1600000 in
theorem index_any_none (s : ByteArray) (hs : s.size ≤ 1000000) (hno : ∀ b ∈ s.data.toList, b ≠ 32 ∧ b ≠ 9) (w : World) :
    Calls Tryd.prog 18 #[.string s, .string ⟨#[32, 9]⟩] w fun e w' => e = .returned (.int .i64 (-1)) ∧ Below w.heap.size w w' := by
  by_cases h8 : 8 < s.size
  · refine (Tryd.strings_IndexAny_long (fun w => (zero_of_info (P := Tryd.prog) (t := 54) (v := .agg (Array.replicate 256 (.bool false))) (n := 256) (by kernel_rfl)).1 w) s ⟨#[32, 9]⟩ w (by decide) h8 (by omega) (by decide) (by intro j b hb; match j, hb with | 0, hb => simp at hb; subst hb; decide | 1, hb => simp at hb; subst hb; decide)).mono ?_
    rintro e w' ⟨rfl, rfl⟩
    refine ⟨?_, ((Below.refl _ w).alloc (Nat.le_refl _) _).alloc (by simp) _⟩
    rw [Lib.indexAny_none (noany_blanks s hno _)]
  · have h8z : decide ((8 : Int) < (s.size : Int)) = false := decide_eq_false (by omega)
    have HN := Lib.hid hno
    clear hno
    go_enter Tryd.func18, Tryd.ntmps18
    go_wp2_with fail
    refine (Tryd.strings_shouldUseASCIISet _ _).mono ?_
    rintro e w' ⟨rfl, rfl⟩
    rw [h8z]
    go_wp2_with fail
    go_loopg [9, 10] s.size (fun g _ _ wx => ∃ i : Nat, s.size ≤ i + g ∧ wx.heap[w'.heap.size]? = some (.stringIter s i) ∧ Below w'.heap.size w' wx)
    case atStart => exact ⟨0, by omega, World.iter_heap w' s 0, (Below.refl _ w').alloc (Nat.le_refl _) _⟩
    case round =>
      obtain ⟨i, hig, hblk, hbel⟩ := hrel
      by_cases hi : i < s.size
      · obtain ⟨g, rfl⟩ : ∃ g, gk = g + 1 := ⟨gk - 1, by omega⟩
        by_cases ha : (s[i]'hi).toNat < 128
        · have hnx := fun ty => Lib.run_next_ascii_at (P := Tryd.prog) _ w'.heap.size s i ty hblk hi ha
          have hn := HN.out s[i] (by rw [ByteArray.getElem_eq_getElem_data]; exact Array.getElem_mem_toList ..)
          obtain ⟨x, hx⟩ : ∃ x, s[i]'hi = x := ⟨_, rfl⟩
          rw [hx] at hnx hn ha
          have hib : Lib.indexByte [32, 9] (x.toNat : Int).toNat.toUInt8 = -1 := by
            rw [show (x.toNat : Int).toNat.toUInt8 = x by simp]
            simp [Lib.indexByte, Ne.symm hn.1, Ne.symm hn.2]
          have hblk' := Lib.iterAt_heap _ w'.heap.size s i (i + 1) hblk
          have hbel' := below_iterAt hbel (Nat.le_refl _) s (i + 1)
          have HR := Lib.hid (fun W => Tryd.strings_IndexRune_ascii ⟨#[32, 9]⟩ (x.toNat : Int) W (by omega) (by omega))
          simp only [hib] at HR
          clear hx hn hib
          go_wp2_with fail
          refine (HR.out _).mono ?_
          rintro e w2 ⟨rfl, rfl⟩
          go_wp2_with fail
          go_roundg g
          case measure => omega
          case rel => exact ⟨i + 1, by omega, hblk', hbel'⟩
        · have hge : 128 ≤ (s[i]'hi).toNat := by omega
          obtain ⟨d1, d2⟩ := decode_high s i hi hge
          have hnx := fun ty => Lib.run_next_any_at (P := Tryd.prog) _ w'.heap.size s i ty hblk hi
          obtain ⟨c, hc⟩ : ∃ c, (Utf8.decode s i).1 = c := ⟨_, rfl⟩
          obtain ⟨st, hst⟩ : ∃ st, (Utf8.decode s i).2 = st := ⟨_, rfl⟩
          rw [hc, hst] at hnx
          rw [hc] at d1
          rw [hst] at d2
          have hblk' := Lib.iterAt_heap _ w'.heap.size s i (i + st) hblk
          have hbel' := below_iterAt hbel (Nat.le_refl _) s (i + st)
          have HR := Lib.hid (fun W => index_rune_hi (c : Int) (by omega) W)
          clear hc hst hge
          go_wp2_with fail
          refine (HR.out _).mono ?_
          rintro e w2 ⟨rfl, hb2⟩
          have hlt := (Array.getElem?_eq_some_iff.1 hblk').1
          go_wp2_with fail
          go_roundg g
          case measure => omega
          case rel => exact ⟨i + st, by omega, (hb2.block _ hlt).trans hblk', hbel'.trans (hb2.mono hbel'.size)⟩
      · have hnx := fun ty => Lib.run_next_end_at (P := Tryd.prog) _ w'.heap.size s i ty hblk hi
        go_wp2_with fail
        go_ret
        exact ⟨rfl, hbel⟩

set_option maxRecDepth 100000 in
theorem contains_any_none (s : ByteArray) (hs : s.size ≤ 1000000) (hno : ∀ b ∈ s.data.toList, b ≠ 32 ∧ b ≠ 9) (w : World) :
    Calls Tryd.prog 6 #[.string s, .string ⟨#[32, 9]⟩] w fun e w' => e = .returned (.bool false) ∧ Below w.heap.size w w' := by
  have HI := Lib.hid (fun W => index_any_none s hs hno W)
  clear hno
  go_enter Tryd.func6, Tryd.ntmps6
  go_wp2_with fail
  refine (HI.out _).mono ?_
  rintro e w' ⟨rfl, hb⟩
  go_wp2_with fail
  go_ret
  exact ⟨rfl, hb⟩

/-- The row-free contract of strings.Trim at the two blanks, where nothing else stands. -/
theorem trim_blanks (s : ByteArray) (hs : s.size ≤ 1000000) (hall : s.data.toList.all ([32, 9].contains ·) = true) (w : World) :
    Calls Tryd.prog 8 #[.string s, .string ⟨#[32, 9]⟩] w fun e w' => e = .returned (.string ⟨#[]⟩) ∧ Below w.heap.size w w' := by
  have hd : (s.data.toList).reverse.dropWhile ([32, 9].contains ·) = [] := by
    have : ∀ l : List UInt8, l.all ([32, 9].contains ·) = true → l.dropWhile ([32, 9].contains ·) = [] := by
      intro l
      induction l with
      | nil => intro _; rfl
      | cons c l ih =>
        intro h
        rw [List.all_cons, Bool.and_eq_true] at h
        rw [List.dropWhile_cons, if_pos h.1]; exact ih h.2
    exact this _ (by rw [List.all_reverse]; exact hall)
  have ht : Lib.trimS s.data.toList (⟨#[32, 9]⟩ : ByteArray).data.toList = [] := by
    show Lib.trimLeftS (Lib.trimRightS s.data.toList [32, 9]) [32, 9] = []
    unfold Lib.trimRightS; rw [hd]; rfl
  refine (Any.strings_Trim_laid Tryd.lays160 (by kernel_rfl) s ⟨#[32, 9]⟩ w (by omega) (by decide) (by intro j b hb; match j, hb with | 0, hb => simp at hb; subst hb; decide | 1, hb => simp at hb; subst hb; decide)).mono ?_
  rintro e w' ⟨rfl, hb⟩
  rw [ht]; exact ⟨rfl, hb⟩
end Go.Proofs.YtcnhoolbnllmkaaDoor
