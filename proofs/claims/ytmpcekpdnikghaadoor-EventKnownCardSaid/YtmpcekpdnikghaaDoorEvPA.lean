/- The walk of event.PrintAll. -/
import Derived.Test.YtmpcekpdnikghaaDoorEvI
import Derived.Test.YtmpcekpdnikghaaDoorEvCt
import Derived.Test.YtmpcekpdnikghaaDoorBld
import Derived.Test.YtmpcekpdnikghaaDoorJoin
namespace Go.Proofs.YtmpcekpdnikghaaDoor
open Go.RowKit

namespace Lx
/-- The texts of a list of events, one in a line. -/
def allTx (NS : List ByteArray) (L : List EvV) : List UInt8 := L.flatMap fun o => wrS NS o ++ [10]
/-- The first error of a list of events. -/
def badE (NS : List ByteArray) : List EvV → Int
  | [] => 0
  | o :: t => if wrE NS o = 0 then badE NS t else wrE NS o
def prAE (NS : List ByteArray) (L : List EvV) : Int := if nmErr NS = 0 then (if badE NS L = 0 then (if (allTx NS L).length ≤ 65536 then 0 else 11) else badE NS L) else nmErr NS
def prAS (NS : List ByteArray) (L : List EvV) : List UInt8 := if prAE NS L = 0 then allTx NS L else []
theorem badE_all {NS : List ByteArray} : ∀ {L : List EvV}, (∀ o ∈ L, wrE NS o = 0) → badE NS L = 0
  | [], _ => rfl
  | a :: t, h => by
    unfold badE
    rw [if_pos (h a (List.mem_cons_self ..))]
    exact badE_all fun o ho => h o (List.mem_cons_of_mem _ ho)
theorem badE_zero {NS : List ByteArray} : ∀ {L : List EvV}, badE NS L = 0 → ∀ o ∈ L, wrE NS o = 0
  | [], _, o, ho => by cases ho
  | a :: t, h, o, ho => by
    unfold badE at h
    by_cases ha : wrE NS a = 0
    · rw [if_pos ha] at h
      rcases List.mem_cons.1 ho with rfl | ho
      · exact ha
      · exact badE_zero h o ho
    · rw [if_neg ha] at h; exact absurd h ha
theorem badE_at {NS : List ByteArray} : ∀ {L : List EvV} {k : Nat} {o : EvV}, (∀ p ∈ L.take k, wrE NS p = 0) → L[k]? = some o → wrE NS o ≠ 0 → badE NS L = wrE NS o
  | [], k, o, _, h, _ => by simp at h
  | a :: t, 0, o, _, h, hn => by
    simp at h; subst h
    unfold badE; rw [if_neg hn]
  | a :: t, k + 1, o, hp, h, hn => by
    unfold badE
    rw [if_pos (hp a (by simp))]
    exact badE_at (k := k) (fun p h' => hp p (by rw [List.take_succ_cons]; exact List.mem_cons_of_mem _ h')) (by simpa using h) hn
theorem allTx_take {NS : List ByteArray} {L : List EvV} {k : Nat} {o : EvV} (h : L[k]? = some o) : allTx NS (L.take (k + 1)) = allTx NS (L.take k) ++ (wrS NS o ++ [10]) := by
  unfold allTx
  rw [List.take_add_one, h, List.flatMap_append]; simp
theorem allTx_app (NS : List ByteArray) (A B : List EvV) : allTx NS (A ++ B) = allTx NS A ++ allTx NS B := by unfold allTx; rw [List.flatMap_append]
theorem wr_len {NS : List ByteArray} (hN : NOk NS) (o : EvV) : (wrS NS o).length ≤ 150 := by
  by_cases h : wrE NS o = 0
  · have e : prE NS o = 0 := by unfold prE; rw [if_neg (fun c => c ((nmErr_ok NS).2 hN))]; exact h
    have := pr_rd e
    unfold prS at this
    rw [if_pos e] at this
    unfold wrS; rw [if_pos h]; exact this
  · unfold wrS; rw [if_neg h]; exact Nat.zero_le _
theorem allTx_len {NS : List ByteArray} (hN : NOk NS) : ∀ (L : List EvV), (allTx NS L).length ≤ 151 * L.length
  | [] => Nat.le_refl _
  | a :: t => by
    have h1 := wr_len hN a
    have h2 := allTx_len hN t
    have e : allTx NS (a :: t) = (wrS NS a ++ [10]) ++ allTx NS t := rfl
    have e1 : (wrS NS a ++ [10]).length = (wrS NS a).length + 1 := by simp
    rw [e, List.length_append, e1, List.length_cons]
    omega
end Lx
theorem bldAtBelow {T e : TypeId} {B b : Nat} {p : Value} {bs : List Value} {W W' : World} (h : Lib.BuilderAtF T e B b p bs W) (hb : Below W.heap.size W W') : Lib.BuilderAtF T e B b p bs W' := by
  have hlt := h.lt
  obtain ⟨hB, v, hv, hown, hne⟩ := h
  exact ⟨hB, v, (hb.block b hlt).trans hv, hown.kept (row := none) ⟨hb.os, hb.tape, hb.output, hb.size, fun k hk _ => hb.block k hk⟩ (Classical.em _), hne⟩
theorem bldBelow {T e : TypeId} {B b : Nat} {bs : List Value} {W W' : World} (h : Lib.IsBuilderF T e B b bs W) (hb : Below W.heap.size W W') : Lib.IsBuilderF T e B b bs W' :=
  h.elim (fun x => .inl (bldAtBelow x hb)) (fun x => .inr (bldAtBelow x hb))
set_option maxRecDepth 100000 in
set_option maxHeartbeats 3200000 in
theorem evprintAll_any (ad : Option Addr) (n cap : Nat) (L : List Lx.EvV) (ad' : Option Addr) (m cap' : Nat) (NS : List ByteArray) (w : World) (env : EEnv w) (hL : Lx.IsEvs w ad n L) (hn1 : n ≤ 10000) (h : Lx.IsNames w ad' m NS) (hz : ∀ x ∈ NS, x.size ≤ maxLen) (hm : m ≤ maxLen) :
    Calls Tryd.prog 21 #[.slice ad n cap, .slice ad' m cap'] w (WriteIs (Lx.prAS NS L) (Lx.prAE NS L) w) := by
  have HN2 := Lib.hid (names_any ad' m cap' NS w h hz hm)
  by_cases hn : Lx.nmErr NS = 0
  · have hN := (Lx.nmErr_ok NS).1 hn
    have h24 : ∀ x ∈ NS, x.size ≤ 24 := fun x hx => by
      have := hN.2.1 x hx
      unfold Lx.isName at this
      rw [Bool.and_eq_true, Bool.and_eq_true, decide_eq_true_iff, decide_eq_true_iff] at this
      exact this.1.2
    have HP := Lib.hid (fun o W (b : Below w.heap.size w W) => write_any o ad' m cap' NS W (env.below b) (h.below b) h24)
    rw [hn] at HN2
    have H := Lib.hid hL
    have HNK := Lib.hid hN
    have hE : Lx.prAE NS L = (if Lx.badE NS L = 0 then (if (Lx.allTx NS L).length ≤ 65536 then 0 else 11) else Lx.badE NS L) := by unfold Lx.prAE; rw [if_pos hn]
    have HE := Lib.hid hE
    have HSS := Lib.hid (show Lx.prAE NS L = 0 → Lx.prAS NS L = Lx.allTx NS L from fun e => by unfold Lx.prAS; rw [if_pos e])
    have HSN := Lib.hid (show Lx.prAE NS L ≠ 0 → Lx.prAS NS L = [] from fun e => by unfold Lx.prAS; rw [if_neg e])
    unfold WriteIs at HP
    clear h hz hm hn hN h24 env hL hE
    generalize Lx.prAE NS L = X at *
    generalize Lx.prAS NS L = S at *
    go_enter Tryd.func21, Tryd.ntmps21
    go_wp2_with fail
    refine HN2.out.mono ?_
    rintro e w1 ⟨rfl, hb1⟩
    have Hb1 := Lib.hid hb1
    clear hb1
    go_wp2_with fail
    have hba : Below w1.heap.size w1 (w1.alloc (.cells #[.pointer none, .slice none 0 0] 65)) := (Below.refl _ _).alloc (Nat.le_refl _) _
    have hfr : Lib.IsBuilderF 65 5 w1.heap.size w1.heap.size (Lib.byteCells []) (w1.alloc (.cells #[.pointer none, .slice none 0 0] 65)) := by
      rcases Lib.fresh_isBuilder 65 5 w1 with h | h
      · exact .inl (Lib.BuilderAtF.of h)
      · exact .inr (Lib.BuilderAtF.of h)
    have HFR := Lib.hid hfr
    have HBA := Lib.hid hba
    clear hfr hba
    go_loopw [19] (fun i wr => ∃ k : Nat, k ≤ n ∧ i = .int .i64 k ∧ (∀ o ∈ L.take k, Lx.wrE NS o = 0) ∧ Lib.IsBuilderF 65 5 w1.heap.size w1.heap.size (Lib.byteCells (Lx.allTx NS (L.take k))) wr ∧ Below w1.heap.size w1 wr) (fun i _ => n - (intOf i).toNat)
    case atStart => exact ⟨0, Nat.zero_le _, rfl, by simp, HFR.out, HBA.out⟩
    case round =>
      obtain ⟨k, hk, rfl, hall, hbd, hbel⟩ := hrel
      have hlen := Lx.allTx_len HNK.out (L.take k)
      have hl : (L.take k).length ≤ k := List.length_take_le _ _
      have Hbel := Lib.hid hbel
      have Hbd := Lib.hid hbd
      have HALL := Lib.hid hall
      clear hbel hbd hall
      by_cases hlt : k < n
      · obtain ⟨o, ho⟩ : ∃ o, L[k]? = some o := ⟨_, List.getElem?_eq_getElem (by rw [H.out.1]; exact hlt)⟩
        obtain ⟨g, off, rfl, lt, hc⟩ := (H.out.below (Hb1.out.trans (Hbel.out.mono Hb1.out.size))).2 (by omega)
        have hst := Lx.allTx_take (NS := NS) ho
        have hol := Lx.wr_len HNK.out o
        have HPO := Lib.hid (HP.out o)
        have hbad := fun e => Lx.badE_at HALL.out ho e
        have hgo : Lx.wrE NS o = 0 → ∀ p ∈ L.take (k + 1), Lx.wrE NS p = 0 := fun e p hp => by
          rw [List.take_add_one, ho, List.mem_append] at hp
          rcases hp with hp | hp
          · exact HALL.out p hp
          · simp at hp; subst hp; exact e
        have HBAD := Lib.hid hbad
        have HGO := Lib.hid hgo
        generalize Lx.allTx NS (L.take k) = T at *
        obtain ⟨V, hV⟩ : ∃ V : ByteArray, V = ⟨(Lx.wrS NS o).toArray⟩ := ⟨_, rfl⟩
        have hVd : V.data.toList = Lx.wrS NS o := by rw [hV]
        rw [← hV] at HPO
        have hVs : V.size ≤ 150 := by rw [Lib.size_eq, hVd]; exact hol
        have hst2 : Lx.allTx NS (L.take (k + 1)) = T ++ (V ++ ⟨#[10]⟩ : ByteArray).data.toList := by
          rw [hst, ByteArray.data_append, Array.toList_append, hVd]
        generalize Lx.wrE NS o = x at *
        obtain ⟨ok, ot, oj, od, oa, or, oy, on⟩ := o
        unfold Lx.EvV.val at HPO
        have c0 : wr.cell? ⟨g, off + k * 8, none⟩ = some (.int .i64 ok) := hc k _ ho 0 _ rfl
        have c1 : wr.cell? ⟨g, off + k * 8 + 1, none⟩ = some (.int .i64 ot) := hc k _ ho 1 _ rfl
        have c2 : wr.cell? ⟨g, off + k * 8 + 2, none⟩ = some (.int .i64 oj) := hc k _ ho 2 _ rfl
        have c3 : wr.cell? ⟨g, off + k * 8 + 3, none⟩ = some (.int .i64 od) := hc k _ ho 3 _ rfl
        have c4 : wr.cell? ⟨g, off + k * 8 + 4, none⟩ = some (.int .i64 oa) := hc k _ ho 4 _ rfl
        have c5 : wr.cell? ⟨g, off + k * 8 + 5, none⟩ = some (.int .i64 or) := hc k _ ho 5 _ rfl
        have c6 : wr.cell? ⟨g, off + k * 8 + 6, none⟩ = some (.int .i64 oy) := hc k _ ho 6 _ rfl
        have c7 : wr.cell? ⟨g, off + k * 8 + 7, none⟩ = some (.int .i64 on) := hc k _ ho 7 _ rfl
        have hki : (k : Int) < (n : Int) := by omega
        have hkb : (k : Int) ≤ 10000 := by omega
        have hTl : T.length ≤ 1510000 := by omega
        have HST := Lib.hid hst2
        have HVs := Lib.hid hVs
        clear hc ho hst hol hV hVd hst2 hVs hlen hl hbad hgo
        by_cases hx : x = 0
        · subst hx
          have HGO2 := Lib.hid (HGO.out rfl)
          clear HBAD HGO
          go_wp2_with fail
          have hb2 := Hbel.out.alloc Hbel.out.size (.cells #[.int .i64 ok, .int .i64 ot, .int .i64 oj, .int .i64 od, .int .i64 oa, .int .i64 or, .int .i64 oy, .int .i64 on] 23)
          refine (HPO.out _ (Hb1.out.trans (hb2.mono Hb1.out.size))).mono ?_
          rintro e w5 ⟨rfl, hb5⟩
          have hbd5 := bldBelow (Hbd.out.alloc (.cells #[.int .i64 ok, .int .i64 ot, .int .i64 oj, .int .i64 od, .int .i64 oa, .int .i64 or, .int .i64 oy, .int .i64 on] 23)) hb5
          have hb15 := hb2.trans (hb5.mono hb2.size)
          have hz5 : (V ++ ⟨#[10]⟩ : ByteArray).size ≤ 151 := by rw [ByteArray.size_append]; have := HVs.out; have : (⟨#[10]⟩ : ByteArray).size = 1 := rfl; omega
          have hvz : ¬ (9223372036854775807 < V.size + (⟨#[10]⟩ : ByteArray).size) := by have := HVs.out; have : (⟨#[10]⟩ : ByteArray).size = 1 := rfl; omega
          have HBD5 := Lib.hid hbd5
          have HB15 := Lib.hid hb15
          clear hb5 hb2 hbd5 hb15 c0 c1 c2 c3 c4 c5 c6 c7
          go_wp2_with fail
          have HW := Lib.hid (bld_write _ _ _ (V ++ ⟨#[10]⟩) w5 HBD5.out (by rw [Lx.cells_len]; omega) HB15.out.size)
          refine HW.out.mono ?_
          rintro e w6 ⟨rfl, hb6, hbl6, _⟩
          rw [Lx.cells_app, ← HST.out] at hb6
          have hb16 := HB15.out.trans hbl6
          have HB6 := Lib.hid hb6
          have HB16 := Lib.hid hb16
          clear hb6 hbl6 hb16
          go_wp2_with fail
          go_roundw
          case rel => exact ⟨k + 1, by omega, by go_num, HGO2.out, .inr HB6.out, HB16.out⟩
          case measure => simp [intOf]; omega
        · have hxe : (x != 0) = true := by rw [bne_iff_ne]; exact hx
          have hX : X = x := by rw [HE.out, HBAD.out hx, if_neg hx]
          have hS := HSN.out (by rw [hX]; exact hx)
          subst hX hS
          clear HBAD HGO hx HE HSS HSN
          go_wp2_with fail
          have hb2 := Hbel.out.alloc Hbel.out.size (.cells #[.int .i64 ok, .int .i64 ot, .int .i64 oj, .int .i64 od, .int .i64 oa, .int .i64 or, .int .i64 oy, .int .i64 on] 23)
          refine (HPO.out _ (Hb1.out.trans (hb2.mono Hb1.out.size))).mono ?_
          rintro e w5 ⟨rfl, hb5⟩
          have HB15 := Lib.hid ((Hb1.out.trans (hb2.mono Hb1.out.size)).trans (hb5.mono (Hb1.out.trans (hb2.mono Hb1.out.size)).size))
          clear hb5 hb2 c0 c1 c2 c3 c4 c5 c6 c7
          go_wp2_with fail
          go_ret2
          exact ⟨rfl, HB15.out⟩
      · obtain rfl : k = n := by omega
        have htk : L.take k = L := List.take_of_length_le (by rw [H.out.1]; exact Nat.le_refl _)
        rw [htk] at hlen
        have hbd := Hbd.out
        rw [htk] at hbd
        have hall := HALL.out
        rw [htk] at hall
        have hbz := Lx.badE_all hall
        have hx := HE.out
        rw [if_pos hbz] at hx
        have hL := Tryd.Builder_Len_f _ _ _ wr hbd
        rw [Lx.cells_len] at hL
        generalize Lx.allTx NS L = T at *
        obtain ⟨q, hq⟩ : ∃ q, T.length = q := ⟨_, rfl⟩
        rw [hq] at hL hx hlen
        have Hbd2 := Lib.hid hbd
        have HL := Lib.hid hL
        clear hL hbd htk Hbd hbz hall HALL HE
        by_cases hfit : q ≤ 65536
        · rw [if_pos hfit] at hx
          subst hx
          have hS := HSS.out rfl
          subst hS
          have hqi : (q : Int) ≤ 65536 := by omega
          have HS2 := Lib.hid (Tryd.Builder_String_any_k _ _ _ wr Hbd2.out Hbel.out.size)
          clear hq hlen HSS HSN
          go_wp2_with fail
          refine HL.out.mono ?_
          rintro e w3 ⟨rfl, rfl⟩
          go_wp2_with fail
          refine HS2.out.mono ?_
          rintro e w4 ⟨rfl, _, hb4, _⟩
          go_wp2_with fail
          go_ret2
          exact ⟨rfl, Hb1.out.trans ((Hbel.out.trans hb4).mono Hb1.out.size)⟩
        · rw [if_neg hfit] at hx
          subst hx
          have hS := HSN.out (by decide)
          subst hS
          have hqi : (65536 : Int) < (q : Int) := by omega
          clear hq hlen hfit HSS HSN
          go_wp2_with fail
          refine HL.out.mono ?_
          rintro e w3 ⟨rfl, rfl⟩
          go_wp2_with fail
          go_ret2
          exact ⟨rfl, Hb1.out.trans (Hbel.out.mono Hb1.out.size)⟩
  · have hne : (Lx.nmErr NS != 0) = true := by rw [bne_iff_ne]; exact hn
    have e2 : Lx.prAE NS L = Lx.nmErr NS := by unfold Lx.prAE; rw [if_neg hn]
    have e1 : Lx.prAS NS L = [] := by unfold Lx.prAS; rw [if_neg (by rw [e2]; exact hn)]
    rw [e1, e2]
    generalize Lx.nmErr NS = x at *
    clear hn h hz e1 e2 env hL
    go_enter Tryd.func21, Tryd.ntmps21
    go_wp2_with fail
    refine HN2.out.mono ?_
    rintro e w1 ⟨rfl, hb1⟩
    go_wp2_with fail
    go_ret2
    exact ⟨rfl, hb1⟩
end Go.Proofs.YtmpcekpdnikghaaDoor
