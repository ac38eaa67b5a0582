/- Plain facts on texts of scripts, line by line. No program in sight. -/
import Derived.Test.YtnnkamfpcodnnaaDoorOpT
namespace Go.Proofs.YtnnkamfpcodnnaaDoor.Lx
open Go Go.RowKit

theorem textLines_of {s : ByteArray} {A : List ByteArray} (hA : ∀ x ∈ A, (10 : UInt8) ∉ x.data.toList) (h : s.data.toList = A.flatMap fun x => x.data.toList ++ [10]) : textLines s = A := by
  have hg := lines_good s
  unfold textLines
  generalize linesOf s.size (pieces s isLF) = l at hg
  obtain ⟨g, hb⟩ := hg
  have hcond : s.size = 0 ∨ endsLF s = true := by
    rcases List.eq_nil_or_concat A with rfl | ⟨B, x, rfl⟩
    · left; rw [Lib.size_eq, h]; rfl
    · right
      unfold endsLF Lib.hasSuffix
      rw [List.isSuffixOf_iff_suffix, h, List.concat_eq_append, List.flatMap_append]
      exact ⟨(B.flatMap fun x => x.data.toList ++ [10]) ++ x.data.toList, by simp⟩
  rw [if_pos hcond, h] at hb
  have e : (l.map (·.2)).map (fun x : ByteArray => x.data.toList) = A.map (fun x : ByteArray => x.data.toList) := by
    refine lines_one ?_ ?_ ?_
    · intro y hy
      obtain ⟨z, hz, rfl⟩ := List.mem_map.1 hy
      obtain ⟨x, hx, rfl⟩ := List.mem_map.1 hz
      obtain ⟨j, hj⟩ := List.mem_iff_getElem?.1 hx
      exact (g j x hj).2.1
    · intro y hy
      obtain ⟨z, hz, rfl⟩ := List.mem_map.1 hy
      exact hA z hz
    · rw [List.flatMap_map, List.flatMap_map, List.flatMap_map]; exact hb
  exact (List.map_inj_right (fun a b h => ByteArray.ext (Array.toList_inj.1 h))).1 e
def txt (o : OpV) : ByteArray := ⟨(opText o).toArray⟩
theorem txt_data (o : OpV) : (txt o).data.toList = opText o := rfl
theorem skip_op (o : OpV) : skipL (opText o) = false := by
  unfold opText skipL
  rcases word_in o.k with h | h | h | h | h | h <;> rw [h] <;> rfl
/-- Valid operations with numbers in their ranges. -/
def Fine (L : List OpV) : Prop := ∀ o ∈ L, opErr o = 0 ∧ o.In
theorem reads_txt {o : OpV} (h : opErr o = 0 ∧ o.In) : ReadsOp (txt o).data.toList o 0 := .inl ⟨rfl, ⟨h.1, (txt_data o).symm⟩, h.2⟩
theorem noLF_txt {o : OpV} (h : opErr o = 0 ∧ o.In) : (10 : UInt8) ∉ (txt o).data.toList := by rw [txt_data]; exact (opText_facts h.1 h.2.2.2.2.2).1
theorem linesRead_txt : ∀ {L : List OpV}, Fine L → LinesRead (L.map txt) L
  | [], _ => by unfold LinesRead; rfl
  | o :: t, h => by
    rw [List.map_cons]
    unfold LinesRead
    rw [if_neg (by rw [txt_data, skip_op]; decide)]
    exact ⟨o, t, reads_txt (h o List.mem_cons_self), rfl, linesRead_txt fun x hx => h x (List.mem_cons_of_mem _ hx)⟩
theorem linesRead_app : ∀ {A B : List ByteArray} {X Y : List OpV}, LinesRead A X → LinesRead B Y → LinesRead (A ++ B) (X ++ Y)
  | [], B, X, Y, h, h' => by unfold LinesRead at h; subst h; exact h'
  | a :: A, B, X, Y, h, h' => by
    rw [List.cons_append]
    unfold LinesRead at h ⊢
    split
    · rename_i hs; rw [if_pos hs] at h; exact linesRead_app h h'
    · rename_i hs
      rw [if_neg hs] at h
      obtain ⟨o, rest, h1, rfl, h3⟩ := h
      exact ⟨o, rest ++ Y, h1, rfl, linesRead_app h3 h'⟩
theorem script_lines (L : List OpV) : scriptText L = (L.map txt).flatMap fun x => x.data.toList ++ [10] := by
  unfold scriptText; rw [List.flatMap_map]; rfl
theorem script_all {L : List OpV} (h : Fine L) {s : ByteArray} (hs : s.data.toList = scriptText L) : AllIs (textLines s) L 0 0 := by
  rw [textLines_of (A := L.map txt) (by intro x hx; obtain ⟨o, ho, rfl⟩ := List.mem_map.1 hx; exact noLF_txt (h o ho)) (by rw [hs, script_lines])]
  exact .inl ⟨rfl, rfl, linesRead_txt h⟩
/-! ### with comments and empty lines -/
def cmt (c : ByteArray) : ByteArray := ⟨(35 :: c.data.toList).toArray⟩
theorem cmt_data (c : ByteArray) : (cmt c).data.toList = 35 :: c.data.toList := rfl
def moreT (c : ByteArray) (L : List OpV) : List ByteArray := L.flatMap fun o => [txt o, cmt c, ⟨#[]⟩]
def moreL (c : ByteArray) (L : List OpV) : List UInt8 := (10 :: 35 :: c.data.toList ++ [10]) ++ L.flatMap fun o => opText o ++ (10 :: 35 :: c.data.toList ++ [10, 10])
theorem moreL_take (c : ByteArray) {L : List OpV} {k : Nat} {o : OpV} (h : L[k]? = some o) : moreL c (L.take (k + 1)) = moreL c (L.take k) ++ (opText o ++ (10 :: 35 :: c.data.toList ++ [10, 10])) := by
  obtain ⟨hk, hv⟩ := List.getElem?_eq_some_iff.1 h
  unfold moreL
  rw [List.take_succ_eq_append_getElem hk, hv, List.flatMap_append, List.append_assoc]
  simp
theorem moreL_len (c : ByteArray) (hc : c.size ≤ 60) : ∀ (L : List OpV), (∀ o ∈ L, (opText o).length ≤ 32) → (moreL c L).length ≤ 63 + 96 * L.length
  | [], _ => by
    have hc' := hc
    rw [Lib.size_eq] at hc'
    unfold moreL; simp; omega
  | o :: t, h => by
    have ih := moreL_len c hc t (fun x hx => h x (List.mem_cons_of_mem _ hx))
    have h1 := h o List.mem_cons_self
    rw [Lib.size_eq] at hc
    unfold moreL at ih ⊢
    rw [List.flatMap_cons]
    simp only [List.length_append, List.length_cons, List.length_nil] at ih ⊢
    omega
theorem moreT_lines (c : ByteArray) : ∀ (L : List OpV), (L.flatMap fun o => opText o ++ (10 :: 35 :: c.data.toList ++ [10, 10])) = (moreT c L).flatMap fun x => x.data.toList ++ [10]
  | [] => rfl
  | o :: t => by
    have ih := moreT_lines c t
    unfold moreT at ih ⊢
    rw [List.flatMap_cons, List.flatMap_cons, List.flatMap_append, ih]
    simp [cmt_data, txt_data]
theorem moreL_lines (c : ByteArray) (L : List OpV) : moreL c L = ([⟨#[]⟩, cmt c] ++ moreT c L).flatMap fun x => x.data.toList ++ [10] := by
  unfold moreL
  rw [List.flatMap_append, moreT_lines]
  simp [cmt_data]
theorem more_read (c : ByteArray) : ∀ {L : List OpV}, Fine L → LinesRead (moreT c L) L
  | [], _ => by show LinesRead [] []; unfold LinesRead; rfl
  | o :: t, h => by
    have e : moreT c (o :: t) = [txt o, cmt c, ⟨#[]⟩] ++ moreT c t := by unfold moreT; rw [List.flatMap_cons]
    rw [e]
    refine linesRead_app (X := [o]) ?_ (more_read c fun x hx => h x (List.mem_cons_of_mem _ hx))
    unfold LinesRead
    rw [if_neg (by rw [txt_data, skip_op]; decide)]
    refine ⟨o, [], reads_txt (h o List.mem_cons_self), rfl, ?_⟩
    unfold LinesRead; rw [if_pos (by rfl)]
    unfold LinesRead; rw [if_pos (by rfl)]
    unfold LinesRead; rfl
theorem more_all {L : List OpV} (h : Fine L) {c s : ByteArray} (hc : (10 : UInt8) ∉ c.data.toList) (hs : s.data.toList = moreL c L) : AllIs (textLines s) L 0 0 := by
  rw [textLines_of (A := [⟨#[]⟩, cmt c] ++ moreT c L) ?_ (by rw [hs, moreL_lines])]
  · refine .inl ⟨rfl, rfl, linesRead_app (X := []) ?_ (more_read c h)⟩
    unfold LinesRead; rw [if_pos (by rfl)]
    unfold LinesRead; rw [if_pos (by rfl)]
    unfold LinesRead; rfl
  · have hcm : (10 : UInt8) ∉ (cmt c).data.toList := by
      rw [cmt_data]
      intro h
      rcases List.mem_cons.1 h with h | h
      · revert h; decide
      · exact hc h
    intro x hx
    rcases List.mem_append.1 hx with hx | hx
    · simp only [List.mem_cons, List.not_mem_nil, or_false] at hx
      rcases hx with rfl | rfl
      · simp
      · exact hcm
    · unfold moreT at hx
      obtain ⟨o, ho, hx⟩ := List.mem_flatMap.1 hx
      simp only [List.mem_cons, List.not_mem_nil, or_false] at hx
      rcases hx with rfl | rfl | rfl
      · exact noLF_txt (h o ho)
      · exact hcm
      · simp
/-! ### with a line that is none -/
theorem wrong_all {X Y : List OpV} (hX : Fine X) (hY : Fine Y) {line s : ByteArray} (hl : (10 : UInt8) ∉ line.data.toList) (hk : skipL line.data.toList = false) (hr : ReadsOp line.data.toList opZ 10)
    (hs : s.data.toList = scriptText X ++ (line.data.toList ++ [10]) ++ scriptText Y) : AllIs (textLines s) [] ((X.length : Int) + 1) 10 := by
  rw [textLines_of (A := X.map txt ++ line :: Y.map txt) ?_ ?_]
  · refine .inr ⟨rfl, rfl, X.length, line, X, ?_, rfl, hk, hr, ?_⟩
    · rw [List.getElem?_append_right (by simp)]; simp
    · rw [List.take_left' (by simp)]; exact linesRead_txt hX
  · intro x hx
    rcases List.mem_append.1 hx with hx | hx
    · obtain ⟨o, ho, rfl⟩ := List.mem_map.1 hx; exact noLF_txt (hX o ho)
    · rcases List.mem_cons.1 hx with rfl | hx
      · exact hl
      · obtain ⟨o, ho, rfl⟩ := List.mem_map.1 hx; exact noLF_txt (hY o ho)
  · rw [hs, List.flatMap_append, List.flatMap_cons, script_lines, script_lines, List.append_assoc]
theorem fine_valid {L : List OpV} (h : ∀ o ∈ L, o.In ∧ o.job.size ≤ maxLen) : Fine (validL L) := by
  intro o ho
  unfold validL at ho
  obtain ⟨h1, h2⟩ := List.mem_filter.1 ho
  exact ⟨by simpa using h2, (h o (List.mem_of_mem_take h1)).1⟩
theorem fine_prn {L : List OpV} (h : Fine L) (hn : L.length ≤ 60) : prnAllS L = scriptText L ∧ prnAllE L = 0 ∧ (scriptText L).length ≤ 1980 := by
  have e := script_of (L := L) (by omega) (fun o ho => (h o ho).1)
  have hl := scriptText_len (L := L) (fun o ho => (h o ho).1) (fun o ho => (h o ho).2.2.2.2.2)
  unfold prnAllS prnAllE
  rw [if_pos ⟨e, by omega⟩, if_pos e, if_pos (by omega)]
  exact ⟨rfl, rfl, by omega⟩
end Go.Proofs.YtnnkamfpcodnnaaDoor.Lx
