/- The walks of the readers and writers of the forms of operations. -/
import Derived.Test.YtnnkamfpcodnnaaGreatDoorOpF
import Derived.Test.YtnnkamfpcodnnaaGreatDoorCut1
import Derived.Test.YtnnkamfpcodnnaaGreatDoorCv4
import Derived.Test.YtnnkamfpcodnnaaGreatDoorInt
import Derived.Test.YtnnkamfpcodnnaaGreatDoorDigits
import Derived.Lib.IndexBytes
namespace Go.Proofs.YtnnkamfpcodnnaaGreatDoor
open Go.RowKit

namespace Lx
theorem boxFree {w w' : World} {cs : Array Value} {T : TypeId} (hb : Below (w.alloc (.cells cs T)).heap.size (w.alloc (.cells cs T)) w') (k : Nat) : w'.frozen? ⟨w.heap.size, k, none⟩ = false :=
  (hb.frozen (p := ⟨w.heap.size, k, none⟩) (by show w.heap.size < _; rw [World.size_alloc]; omega)).trans (World.frozen?_alloc_at cs T w.heap.size k rfl)
theorem cut_sp (l : List UInt8) (c : UInt8) : (∃ a b, c ∉ a ∧ l = a ++ c :: b ∧ Lib.cut l [c] = (a, b, true)) ∨ (c ∉ l ∧ Lib.cut l [c] = (l, [], false)) := by
  unfold Lib.cut
  rw [Lib.index_one, indexByte_idx]
  by_cases h : l.findIdx (· == c) < l.length
  · left
    rw [if_pos h, if_pos (by omega)]
    have hd : l = l.take (l.findIdx (· == c)) ++ c :: l.drop (l.findIdx (· == c) + 1) := by
      have h1 := List.findIdx_getElem (w := h)
      rw [beq_iff_eq] at h1
      have h2 := List.take_append_drop (l.findIdx (· == c)) l
      rw [List.drop_eq_getElem_cons h, h1] at h2
      exact h2.symm
    refine ⟨_, _, ?_, hd, ?_⟩
    · intro hm
      obtain ⟨j, hj, e⟩ := List.getElem_of_mem hm
      rw [List.length_take] at hj
      have hj2 : j < l.findIdx (· == c) := by omega
      have := List.not_of_lt_findIdx hj2
      rw [List.getElem_take] at e
      rw [e] at this
      simp at this
    · simp
  · right
    rw [if_neg h, if_neg (by decide)]
    refine ⟨fun hm => h (List.findIdx_lt_length_of_exists ⟨c, hm, beq_self_eq_true c⟩), rfl⟩
theorem cut_bytes (s : ByteArray) (c : UInt8) : (∃ a b : ByteArray, c ∉ a.data.toList ∧ s.data.toList = a.data.toList ++ c :: b.data.toList ∧ Lib.cut s.data.toList [c] = (a.data.toList, b.data.toList, true)) ∨ (c ∉ s.data.toList ∧ Lib.cut s.data.toList [c] = (s.data.toList, [], false)) := by
  rcases cut_sp s.data.toList c with ⟨a, b, h1, h2, h3⟩ | h
  · exact .inl ⟨⟨a.toArray⟩, ⟨b.toArray⟩, h1, h2, h3⟩
  · exact .inr h
end Lx
theorem cut_yes (s a b : ByteArray) (w : World) (_env : Env w) (hs : s.size ≤ 140737488355328) (h : Lib.cut s.data.toList [32] = (a.data.toList, b.data.toList, true)) :
    Calls Tryz.prog 31 #[.string s, .string ⟨#[32]⟩] w fun e w' => e = .returned (.tuple #[.string a, .string b, .bool true]) ∧ Below w.heap.size w w' := by
  refine (cut_one s 32 w (by unfold maxLen; omega)).mono ?_
  rintro e w' ⟨rfl, n, rfl⟩
  refine ⟨?_, below_drewN _ _ _⟩
  show Ending.returned (.tuple #[.string ⟨(Lib.cut s.data.toList [32]).1.toArray⟩, .string ⟨(Lib.cut s.data.toList [32]).2.1.toArray⟩, .bool (Lib.cut s.data.toList [32]).2.2]) = _
  rw [h]
theorem cut_no (s : ByteArray) (w : World) (_env : Env w) (hs : s.size ≤ 140737488355328) (h : Lib.cut s.data.toList [32] = (s.data.toList, [], false)) :
    Calls Tryz.prog 31 #[.string s, .string ⟨#[32]⟩] w fun e w' => e = .returned (.tuple #[.string s, .string ⟨#[]⟩, .bool false]) ∧ Below w.heap.size w w' := by
  refine (cut_one s 32 w (by unfold maxLen; omega)).mono ?_
  rintro e w' ⟨rfl, n, rfl⟩
  refine ⟨?_, below_drewN _ _ _⟩
  show Ending.returned (.tuple #[.string ⟨(Lib.cut s.data.toList [32]).1.toArray⟩, .string ⟨(Lib.cut s.data.toList [32]).2.1.toArray⟩, .bool (Lib.cut s.data.toList [32]).2.2]) = _
  rw [h]
/-! ### writers -/
def WroteIs (l : List UInt8) (w : World) (e : Ending) (w' : World) : Prop := e = .returned (.string ⟨l.toArray⟩) ∧ Below w.heap.size w w'
theorem write_tick (k d t r : Int) (ok : Bool) (job : ByteArray) (w : World) (env : Env w) (h0 : 1 ≤ d) (h1 : d ≤ 100000) :
    Calls Tryz.prog 41 #[.agg #[.int .i64 k, .int .i64 d, .int .i64 t, .int .i64 r, .bool ok, .string job]] w (WroteIs (Lib.itoa d) w) := by
  have HD := Lib.hid (fun W (E : Env W) => digits_any d W (by omega) (by omega) E)
  go_enter Tryz.func41, Tryz.ntmps41
  go_wp2_with fail
  refine (HD.out _ (env.below ((Below.refl _ w).alloc (Nat.le_refl _) _))).mono ?_
  rintro e w' ⟨rfl, hb⟩
  go_wp2_with fail
  go_ret
  exact ⟨rfl, Lx.boxBelow hb⟩
theorem write_jump (k d t r : Int) (ok : Bool) (job : ByteArray) (w : World) (env : Env w) (h0 : 0 ≤ t) (h1 : t ≤ 253402300799) :
    Calls Tryz.prog 43 #[.agg #[.int .i64 k, .int .i64 d, .int .i64 t, .int .i64 r, .bool ok, .string job]] w (WroteIs (Lx.tmText t) w) := by
  have HD := Lib.hid (fun W (E : Env W) => cv_text_ok t W E h0 h1)
  go_enter Tryz.func43, Tryz.ntmps43
  go_wp2_with fail
  refine (HD.out _ (env.below ((Below.refl _ w).alloc (Nat.le_refl _) _))).mono ?_
  rintro e w' ⟨rfl, hb⟩
  go_wp2_with fail
  go_ret
  exact ⟨rfl, Lx.boxBelow hb⟩
theorem Lx.dd_len19 (u : Nat) (h : u ≤ 9223372036854775807) : (Lib.decDigits u).length ≤ 19 := by
  rw [Lib.decDigits_length]
  exact Lx.nDigits_le 18 u (by omega)
theorem Lx.itoa_len (r : Int) (h0 : 0 ≤ r) (h1 : r ≤ 9223372036854775807) : (Lib.itoa r).length ≤ 20 := by
  rw [itoa_pos h0]
  have h2 := dd_len19 r.natAbs (by omega)
  omega
theorem write_finish (k d t r : Int) (ok : Bool) (job : ByteArray) (w : World) (env : Env w) (h0 : 1 ≤ r) (h1 : r ≤ 9223372036854775807) :
    Calls Tryz.prog 45 #[.agg #[.int .i64 k, .int .i64 d, .int .i64 t, .int .i64 r, .bool ok, .string job]] w (WroteIs (Lib.itoa r ++ Lx.endW ok) w) := by
  have HD := Lib.hid (fun W (E : Env W) => digits_any r W (by omega) h1 E)
  obtain ⟨S, hS⟩ : ∃ S : ByteArray, S = ⟨(Lib.itoa r).toArray⟩ := ⟨_, rfl⟩
  have hsz : S.size ≤ 20 := by rw [Lib.size_eq, hS]; exact Lx.itoa_len r (by omega) h1
  have hfin : ∀ b : Bool, S ++ ⟨(Lx.endW b).toArray⟩ = (⟨(Lib.itoa r ++ Lx.endW b).toArray⟩ : ByteArray) := fun b => by
    apply ByteArray.ext; apply Array.toList_inj.1
    rw [ByteArray.data_append, Array.toList_append, hS]
  rw [← hS] at HD
  have Hfin := Lib.hid hfin
  clear hfin hS
  have z1 : (⟨#[32, 111, 107]⟩ : ByteArray).size = 3 := rfl
  have z2 : (⟨#[32, 102, 97, 105, 108]⟩ : ByteArray).size = 5 := rfl
  cases ok
  case' false =>
    have hf2 : S ++ ⟨#[32, 102, 97, 105, 108]⟩ = (⟨(Lib.itoa r ++ Lx.endW false).toArray⟩ : ByteArray) := Hfin.out false
  case' true =>
    have hf2 : S ++ ⟨#[32, 111, 107]⟩ = (⟨(Lib.itoa r ++ Lx.endW true).toArray⟩ : ByteArray) := Hfin.out true
  all_goals
    have Hf2 := Lib.hid hf2
    clear hf2
    go_enter Tryz.func45, Tryz.ntmps45
    go_wp2_with fail
    refine (HD.out _ (env.below ((Below.refl _ w).alloc (Nat.le_refl _) _))).mono ?_
    rintro e w' ⟨rfl, hb⟩
    go_wp2_with fail
    go_ret
    exact ⟨Lx.ret_str Hf2.out, Lx.boxBelow hb⟩
theorem write_named (k d t r : Int) (ok : Bool) (job : ByteArray) (w : World) :
    Calls Tryz.prog 61 #[.agg #[.int .i64 k, .int .i64 d, .int .i64 t, .int .i64 r, .bool ok, .string job]] w (WroteIs job.data.toList w) := by
  go_enter Tryz.func61, Tryz.ntmps61
  go_wp2_with fail
  go_ret
  exact ⟨rfl, (Below.refl _ w).alloc (Nat.le_refl _) _⟩
/-! ### readers -/
def ReadIs (o : Lx.OpV) (b : Bool) (w : World) (e : Ending) (w' : World) : Prop := e = .returned (.tuple #[o.val, .bool b]) ∧ Below w.heap.size w w'
theorem read_tick (s : ByteArray) (w : World) (env : Env w) (hs : s.size ≤ 140737488355328) :
    Calls Tryz.prog 42 #[.string s] w (ReadIs ⟨1, Lx.intV s.data.toList 1 100000, 0, 0, false, ⟨#[]⟩⟩ (decide (Lx.intE s.data.toList 1 100000 = 0)) w) := by
  have HI := Lib.hid (fun W (E : Env W) => int_any s 1 100000 W hs E)
  generalize Lx.intV s.data.toList 1 100000 = v at *
  generalize Lx.intE s.data.toList 1 100000 = x at *
  by_cases hx : x = 0
  · rw [decide_eq_true hx]
    have he : (x == 0) = true := by rw [beq_iff_eq]; exact hx
    clear hx
    go_enter Tryz.func42, Tryz.ntmps42
    go_wp2_with fail
    refine (HI.out _ (env.below ((Below.refl _ w).alloc (Nat.le_refl _) _))).mono ?_
    rintro e w' ⟨rfl, hb⟩
    have c0 := Lx.boxCell hb 0 _ rfl
    have f0 := Lx.boxFree hb 0
    have c1 := Lx.boxCell hb 1 _ rfl
    have f1 := Lx.boxFree hb 1
    have c2 := Lx.boxCell hb 2 _ rfl
    have f2 := Lx.boxFree hb 2
    have c3 := Lx.boxCell hb 3 _ rfl
    have f3 := Lx.boxFree hb 3
    have c4 := Lx.boxCell hb 4 _ rfl
    have f4 := Lx.boxFree hb 4
    have c5 := Lx.boxCell hb 5 _ rfl
    have f5 := Lx.boxFree hb 5
    have hb2 := Lx.boxBelow hb
    clear hb
    go_wp2_with fail
    refine bodyPost_ret (v := .tuple #[.agg #[.int .i64 1, .int .i64 v, .int .i64 0, .int .i64 0, .bool false, .string ⟨#[]⟩], .bool true]) (by simp [results, Tryz.results42, go_sem, c0, c1, c2, c3, c4, c5]) rfl ?_
    exact ⟨rfl, (((((hb2.setCell (Nat.le_refl _) _).setCell (Nat.le_refl _) _).setCell (Nat.le_refl _) _).setCell (Nat.le_refl _) _).setCell (Nat.le_refl _) _).setCell (Nat.le_refl _) _⟩
  · rw [decide_eq_false hx]
    have he : (x == 0) = false := by rw [beq_eq_false_iff_ne]; exact hx
    clear hx
    go_enter Tryz.func42, Tryz.ntmps42
    go_wp2_with fail
    refine (HI.out _ (env.below ((Below.refl _ w).alloc (Nat.le_refl _) _))).mono ?_
    rintro e w' ⟨rfl, hb⟩
    have c0 := Lx.boxCell hb 0 _ rfl
    have f0 := Lx.boxFree hb 0
    have c1 := Lx.boxCell hb 1 _ rfl
    have f1 := Lx.boxFree hb 1
    have c2 := Lx.boxCell hb 2 _ rfl
    have f2 := Lx.boxFree hb 2
    have c3 := Lx.boxCell hb 3 _ rfl
    have f3 := Lx.boxFree hb 3
    have c4 := Lx.boxCell hb 4 _ rfl
    have f4 := Lx.boxFree hb 4
    have c5 := Lx.boxCell hb 5 _ rfl
    have f5 := Lx.boxFree hb 5
    have hb2 := Lx.boxBelow hb
    clear hb
    go_wp2_with fail
    refine bodyPost_ret (v := .tuple #[.agg #[.int .i64 1, .int .i64 v, .int .i64 0, .int .i64 0, .bool false, .string ⟨#[]⟩], .bool false]) (by simp [results, Tryz.results42, go_sem, c0, c1, c2, c3, c4, c5]) rfl ?_
    exact ⟨rfl, (((((hb2.setCell (Nat.le_refl _) _).setCell (Nat.le_refl _) _).setCell (Nat.le_refl _) _).setCell (Nat.le_refl _) _).setCell (Nat.le_refl _) _).setCell (Nat.le_refl _) _⟩
def ReadJ (l : List UInt8) (w : World) (e : Ending) (w' : World) : Prop := ∃ v x, Lx.TimeIs l v x ∧ e = .returned (.tuple #[.agg #[.int .i64 2, .int .i64 0, .int .i64 v, .int .i64 0, .bool false, .string ⟨#[]⟩], .bool (decide (x = 0))]) ∧ Below w.heap.size w w'
theorem read_jump (s : ByteArray) (w : World) :
    Calls Tryz.prog 44 #[.string s] w (ReadJ s.data.toList w) := by
  have HI := Lib.hid (fun W => cv_parse s W)
  go_enter Tryz.func44, Tryz.ntmps44
  go_wp2_with fail
  refine (HI.out _).mono ?_
  rintro e w' ⟨v, x, rfl, hti, hb⟩
  have Hti := Lib.hid hti
  clear hti
  by_cases hx : x = 0
  · have hd := decide_eq_true hx
    have Hd := Lib.hid hd
    have he : (x == 0) = true := by rw [beq_iff_eq]; exact hx
    clear hx hd
    have c0 := Lx.boxCell hb 0 _ rfl
    have f0 := Lx.boxFree hb 0
    have c1 := Lx.boxCell hb 1 _ rfl
    have f1 := Lx.boxFree hb 1
    have c2 := Lx.boxCell hb 2 _ rfl
    have f2 := Lx.boxFree hb 2
    have c3 := Lx.boxCell hb 3 _ rfl
    have f3 := Lx.boxFree hb 3
    have c4 := Lx.boxCell hb 4 _ rfl
    have f4 := Lx.boxFree hb 4
    have c5 := Lx.boxCell hb 5 _ rfl
    have f5 := Lx.boxFree hb 5
    have hb2 := Lx.boxBelow hb
    clear hb
    go_wp2_with fail
    refine bodyPost_ret (v := .tuple #[.agg #[.int .i64 2, .int .i64 0, .int .i64 v, .int .i64 0, .bool false, .string ⟨#[]⟩], .bool true]) (by simp [results, Tryz.results44, go_sem, c0, c1, c2, c3, c4, c5]) rfl ?_
    exact ⟨v, x, Hti.out, by rw [Hd.out], (((((hb2.setCell (Nat.le_refl _) _).setCell (Nat.le_refl _) _).setCell (Nat.le_refl _) _).setCell (Nat.le_refl _) _).setCell (Nat.le_refl _) _).setCell (Nat.le_refl _) _⟩
  · have hd := decide_eq_false hx
    have Hd := Lib.hid hd
    have he : (x == 0) = false := by rw [beq_eq_false_iff_ne]; exact hx
    clear hx hd
    have c0 := Lx.boxCell hb 0 _ rfl
    have f0 := Lx.boxFree hb 0
    have c1 := Lx.boxCell hb 1 _ rfl
    have f1 := Lx.boxFree hb 1
    have c2 := Lx.boxCell hb 2 _ rfl
    have f2 := Lx.boxFree hb 2
    have c3 := Lx.boxCell hb 3 _ rfl
    have f3 := Lx.boxFree hb 3
    have c4 := Lx.boxCell hb 4 _ rfl
    have f4 := Lx.boxFree hb 4
    have c5 := Lx.boxCell hb 5 _ rfl
    have f5 := Lx.boxFree hb 5
    have hb2 := Lx.boxBelow hb
    clear hb
    go_wp2_with fail
    refine bodyPost_ret (v := .tuple #[.agg #[.int .i64 2, .int .i64 0, .int .i64 v, .int .i64 0, .bool false, .string ⟨#[]⟩], .bool false]) (by simp [results, Tryz.results44, go_sem, c0, c1, c2, c3, c4, c5]) rfl ?_
    exact ⟨v, x, Hti.out, by rw [Hd.out], (((((hb2.setCell (Nat.le_refl _) _).setCell (Nat.le_refl _) _).setCell (Nat.le_refl _) _).setCell (Nat.le_refl _) _).setCell (Nat.le_refl _) _).setCell (Nat.le_refl _) _⟩
theorem read_named (s : ByteArray) (k : Int) (b : Nat) (w : World) (hc : w.cell? ⟨b, 0, none⟩ = some (.int .i64 k)) (hl : b < w.heap.size) :
    Calls Tryz.prog 62 #[.string s, .pointer (some ⟨b, 0, none⟩)] w (ReadIs ⟨k, 0, 0, 0, false, s⟩ true w) := by
  go_enter Tryz.func62, Tryz.ntmps62
  go_wp2_with fail
  refine bodyPost_ret (v := .tuple #[.agg #[.int .i64 k, .int .i64 0, .int .i64 0, .int .i64 0, .bool false, .string s], .bool true]) (by simp [results, Tryz.results62, go_sem]) rfl ?_
  exact ⟨rfl, (Below.refl _ w).alloc (Nat.le_refl _) _⟩
def FinOk (b : ByteArray) (x : Int) : Bool := decide (x = 0) && (decide (b.data.toList = [111, 107]) || decide (b.data.toList = [102, 97, 105, 108]))
theorem Lx.toList_beq (b : ByteArray) (l : List UInt8) : (b.toList == l) = decide (b.data.toList = l) := by
  rw [Lib.toList_data, Bool.eq_iff_iff, beq_iff_eq, decide_eq_true_iff]
theorem read_finish (s a b : ByteArray) (f : Bool) (w : World) (env : Env w) (hs : a.size ≤ 140737488355328)
    (hcut : ∀ W, Env W → Calls Tryz.prog 31 #[.string s, .string ⟨#[32]⟩] W fun e w' => e = .returned (.tuple #[.string a, .string b, .bool f]) ∧ Below W.heap.size W w') :
    Calls Tryz.prog 46 #[.string s] w (ReadIs ⟨3, 0, 0, Lx.intV a.data.toList 1 9223372036854775807, decide (b.data.toList = [111, 107]), ⟨#[]⟩⟩ (FinOk b (Lx.intE a.data.toList 1 9223372036854775807)) w) := by
  have HC := Lib.hid hcut
  have HI := Lib.hid (fun W (E : Env W) => int_any a 1 9223372036854775807 W hs E)
  clear hcut
  generalize Lx.intV a.data.toList 1 9223372036854775807 = v at *
  generalize Lx.intE a.data.toList 1 9223372036854775807 = x at *
  have t1 := Lx.toList_beq b [111, 107]
  have t2 := Lx.toList_beq b [102, 97, 105, 108]
  unfold FinOk
  generalize decide (b.data.toList = [111, 107]) = p at *
  generalize decide (b.data.toList = [102, 97, 105, 108]) = q at *
  obtain ⟨hx, hxx⟩ : ∃ y, (x == 0) = y := ⟨_, rfl⟩
  have hd : decide (x = 0) = hx := by rw [← hxx]; rfl
  rw [hd]
  have Hd := Lib.hid hd
  clear hd
  cases hx <;> cases p <;> cases q
  all_goals
    go_enter Tryz.func46, Tryz.ntmps46
    go_wp2_with fail
    refine (HC.out _ (env.below ((Below.refl _ w).alloc (Nat.le_refl _) _))).mono ?_
    rintro e w1 ⟨rfl, hb1⟩
    go_wp2_with fail
    refine (HI.out _ ((env.below ((Below.refl _ w).alloc (Nat.le_refl _) _)).below hb1)).mono ?_
    rintro e w' ⟨rfl, hb2⟩
    have hb := hb1.trans (hb2.mono hb1.size)
    clear hb1 hb2
    have c0 := Lx.boxCell hb 0 _ rfl
    have f0 := Lx.boxFree hb 0
    have c1 := Lx.boxCell hb 1 _ rfl
    have f1 := Lx.boxFree hb 1
    have c2 := Lx.boxCell hb 2 _ rfl
    have f2 := Lx.boxFree hb 2
    have c3 := Lx.boxCell hb 3 _ rfl
    have f3 := Lx.boxFree hb 3
    have c4 := Lx.boxCell hb 4 _ rfl
    have f4 := Lx.boxFree hb 4
    have c5 := Lx.boxCell hb 5 _ rfl
    have f5 := Lx.boxFree hb 5
    have hb2 := Lx.boxBelow hb
    clear hb
    go_wp2_with fail
    refine bodyPost_ret (v := .tuple #[.agg #[.int .i64 3, .int .i64 0, .int .i64 0, .int .i64 v, .bool _, .string ⟨#[]⟩], .bool _]) (by simp [results, Tryz.results46, go_sem, c0, c1, c2, c3, c4, c5]; exact ⟨rfl, rfl⟩) rfl ?_
    exact ⟨rfl, (((((hb2.setCell (Nat.le_refl _) _).setCell (Nat.le_refl _) _).setCell (Nat.le_refl _) _).setCell (Nat.le_refl _) _).setCell (Nat.le_refl _) _).setCell (Nat.le_refl _) _⟩
end Go.Proofs.YtnnkamfpcodnnaaGreatDoor
