/- EventLines: for every list of events, every list of names and every byte the law returns true; what the call was given reads as before. Conditions: the eight listed variables lie as the program lays them. -/
import Derived.Test.YtmpcekpdnikghaaDoorEvFrame
import Derived.Test.YtmpcekpdnikghaaDoorEvFr
import Derived.Test.YtmpcekpdnikghaaDoorEvO
import Derived.Test.YtmpcekpdnikghaaDoorEvLn
import Derived.Test.YtmpcekpdnikghaaDoorEvSm
import Derived.SevenTiedAt
namespace Go.Proofs.YtmpcekpdnikghaaDoor.lawEventLines
open Go.ChangeShapes Go.WideShapes Go.ChangeAt Go.RowKit
theorem evsIn_cap {H : Type} {enc : TypeId × Value → H} {W : World} {fuel : Nat} {a : Option Addr} {len cap : Nat} {d : DataW H} {p : List MemPlace}
    (hf : DataW.trod enc Tryd.prog W 0 (fun _ => true) true fuel 36 (Value.slice a len cap).cells.toList = some (d, p)) : len ≤ cap ∧ cap ≤ maxLen := by
  rcases open_slice_fields Tryd.underlying36 Tryd.underlying23 (by kernel_rfl) (by kernel_rfl) hf with ⟨hcs, _⟩ | ⟨x, l, c, m, D, Pl, hcs, _, hl, hm, hmm, hx, hi⟩
  · simp [Value.cells] at hcs
    obtain ⟨rfl, rfl, rfl⟩ := hcs
    exact ⟨Nat.le_refl _, by unfold maxLen; omega⟩
  · simp [Value.cells] at hcs
    obtain ⟨rfl, rfl, rfl⟩ := hcs
    exact ⟨hl, hm⟩
set_option maxRecDepth 100000 in
set_option maxHeartbeats 3200000 in
theorem walk (w : World) (ad : Option Addr) (len cap : Nat) (L : List Lx.EvV) (z : EvsIn w ad len L) (nn : (ad = none → cap = 0) ∧ len ≤ cap ∧ cap ≤ maxLen) (ad' : Option Addr) (m cap' : Nat) (hz : ∃ ss, IsStrs w ad' m cap' ss) (c : Int) (hc : (Lit.int .u8 c).wf = true) (env : EEnv w) :
    Calls Tryd.prog 9 #[.slice ad len cap, .slice ad' m cap', .int .u8 c] w fun e w' => e = .returned (.bool true) ∧ Below w.heap.size w w' := by
  obtain ⟨hl, -, -⟩ := z
  obtain ⟨NS, hss⟩ := hz
  obtain ⟨hN, hsz, hlm, -⟩ := isNames_of hss
  have hcb := bounds_u8 hc
  have HW := Lib.hid (fun W (b : Below w.heap.size w W) => evworks_any W (env.below b))
  by_cases hbig : 60 < len
  · have hbi : (60 : Int) < (len : Int) := by omega
    clear hl hN hsz hss nn
    go_enter Tryd.func9, Tryd.ntmps9
    go_wp2_with fail
    refine (HW.out _ (Below.refl _ _)).mono ?_
    rintro e w1 ⟨rfl, c1⟩
    go_wp2_with fail
    go_ret
    exact ⟨rfl, c1⟩
  have hbi : (len : Int) ≤ 60 := by omega
  have hbd : decide ((60 : Int) < (len : Int)) = false := decide_eq_false (by omega)
  by_cases hbig' : 64 < m
  · have hbj : (64 : Int) < (m : Int) := by omega
    clear hl hN hsz hss nn
    go_enter Tryd.func9, Tryd.ntmps9
    go_wp2_with fail
    refine (HW.out _ (Below.refl _ _)).mono ?_
    rintro e w1 ⟨rfl, c1⟩
    go_wp2_with fail
    go_ret
    exact ⟨rfl, c1⟩
  have hbj : (m : Int) ≤ 64 := by omega
  have hbe : decide ((64 : Int) < (m : Int)) = false := decide_eq_false (by omega)
  have hlen := hl.1
  have HP1 := Lib.hid (evprintAll_any ad len cap L ad' m cap' NS w env hl (by omega) hN hsz hlm)
  unfold WriteIs at HP1
  have HPA := Lib.hid (fun A k cc K W (b : Below w.heap.size w W) (h : Lx.IsEvs W A k K) (hk : k ≤ 10000) => evprintAll_any A k cc K ad' m cap' NS W (env.below b) h hk (hN.below b) hsz hlm)
  have HR := Lib.hid (fun s W (b : Below w.heap.size w W) => evparseAll_any s ad' m cap' NS W (env.below b) (hN.below b) hsz hlm)
  have HSM := Lib.hid (fun A cc W (b : Below w.heap.size w W) (h : Lx.IsEvs W A len L) => evsame_any ad len cap L A len cc L W (hl.below b) h (by omega) (by omega))
  unfold WriteIs at HPA
  unfold AllPostE at HR
  unfold SameIsE at HSM
  have HL := Lib.hid hl
  have HLN := Lib.hid hlen
  clear hN hsz hss hbig hbig' hl hlen hlm
  by_cases hx : Lx.prAE NS L = 0
  · have hs : Lx.prAS NS L = Lx.allTx NS L := by unfold Lx.prAS; rw [if_pos hx]
    have hx2 := hx
    unfold Lx.prAE at hx2
    have hnm : Lx.nmErr NS = 0 := by
      by_cases h : Lx.nmErr NS = 0
      · exact h
      · rw [if_neg h] at hx2; exact absurd hx2 h
    rw [if_pos hnm] at hx2
    have hNK := (Lx.nmErr_ok NS).1 hnm
    have hbd0 : Lx.badE NS L = 0 := by
      by_cases h : Lx.badE NS L = 0
      · exact h
      · rw [if_neg h] at hx2; exact absurd hx2 h
    rw [if_pos hbd0] at hx2
    have hz16 : (Lx.allTx NS L).length ≤ 65536 := by
      by_cases h : (Lx.allTx NS L).length ≤ 65536
      · exact h
      · rw [if_neg h] at hx2; exact absurd hx2 (by decide)
    have hf : Lx.FineE NS L := Lx.badE_zero hbd0
    rw [hx, hs] at HP1
    obtain ⟨k, hkc⟩ : ∃ k : Nat, c % ((len : Int) + 1) = (k : Int) := ⟨(c % ((len : Int) + 1)).toNat, by rw [Int.toNat_of_nonneg (Int.emod_nonneg _ (by omega))]⟩
    have hkq : k ≤ len := by have := Int.emod_lt_of_pos c (show (0 : Int) < (len : Int) + 1 by omega); omega
    have hkl : (L.take k).length = k := by rw [List.length_take, HLN.out]; omega
    have hft := Lx.fineE_take hf k
    have hfd := Lx.fineE_drop hf k
    have hsum : Lx.allTx NS L = Lx.allTx NS (L.take k) ++ Lx.allTx NS (L.drop k) := by rw [← Lx.allTx_app, List.take_append_drop]
    have hln := Lx.allTx_len hNK L
    rw [HLN.out] at hln
    have prOf : ∀ K, Lx.FineE NS K → (Lx.allTx NS K).length ≤ 65536 → Lx.prAE NS K = 0 ∧ Lx.prAS NS K = Lx.allTx NS K := fun K h1 h2 => by
      have e : Lx.prAE NS K = 0 := by unfold Lx.prAE; rw [if_pos hnm, if_pos (Lx.badE_all h1), if_pos h2]
      exact ⟨e, by unfold Lx.prAS; rw [if_pos e]⟩
    have hsl : (Lx.allTx NS L).length = (Lx.allTx NS (L.take k)).length + (Lx.allTx NS (L.drop k)).length := by rw [hsum, List.length_append]
    obtain ⟨p1, p2⟩ := prOf _ hft (by omega)
    obtain ⟨p3, p4⟩ := prOf _ hfd (by omega)
    have HT := Lib.hid (fun A cc W (b : Below w.heap.size w W) (h : Lx.IsEvs W A k (L.take k)) => HPA.out A k cc (L.take k) W b h (by omega))
    have HD := Lib.hid (fun A cc W (b : Below w.heap.size w W) (h : Lx.IsEvs W A (len - k) (L.drop k)) => HPA.out A (len - k) cc (L.drop k) W b h (by omega))
    rw [p1, p2] at HT
    rw [p3, p4] at HD
    obtain ⟨S, hS⟩ : ∃ S : ByteArray, S = ⟨(Lx.allTx NS L).toArray⟩ := ⟨_, rfl⟩
    obtain ⟨S1, hS1⟩ : ∃ S : ByteArray, S = ⟨(Lx.allTx NS (L.take k)).toArray⟩ := ⟨_, rfl⟩
    obtain ⟨S2, hS2⟩ : ∃ S : ByteArray, S = ⟨(Lx.allTx NS (L.drop k)).toArray⟩ := ⟨_, rfl⟩
    have hSd : S.data.toList = Lx.allTx NS L := by rw [hS]
    have hS1d : S1.data.toList = Lx.allTx NS (L.take k) := by rw [hS1]
    have hS2d : S2.data.toList = Lx.allTx NS (L.drop k) := by rw [hS2]
    have hSz : S.size ≤ 9060 := by rw [Lib.size_eq, hSd]; omega
    have hS1z : S1.size ≤ 9060 := by rw [Lib.size_eq, hS1d]; omega
    have hS2z : S2.size ≤ 9060 := by rw [Lib.size_eq, hS2d]; omega
    rw [← hS] at HP1
    rw [← hS1] at HT
    rw [← hS2] at HD
    have hcat : (S1 ++ S2).toList = S.toList := by rw [Lib.toList_data, Lib.toList_data, ByteArray.data_append, Array.toList_append, hS1d, hS2d, hSd, hsum]
    have hceq : ((S1 ++ S2).toList == S.toList) = true := by rw [beq_iff_eq]; exact hcat
    have hR1 := Lx.all_fine hNK hf hSd (by omega)
    have hn12 : (⟨#[55, 32, 114, 101, 106, 101, 99, 116, 32, 48, 53, 10]⟩ : ByteArray).size = 12 := rfl
    have hR2 := Lx.all_wrong hNK hft (Y := L.drop k) (line := ⟨#[55, 32, 114, 101, 106, 101, 99, 116, 32, 48, 53]⟩) (s := S1 ++ ⟨#[55, 32, 114, 101, 106, 101, 99, 116, 32, 48, 53, 10]⟩ ++ S2) (by decide) (Lx.wrong_05 hNK) (by simp [ByteArray.data_append, hS1d, hS2d]) (by simp only [ByteArray.size_append]; omega)
    rw [hkl] at hR2
    have y1 : ¬ (9223372036854775807 < S1.size + (⟨#[55, 32, 114, 101, 106, 101, 99, 116, 32, 48, 53, 10]⟩ : ByteArray).size) := by omega
    have y2 : ¬ (9223372036854775807 < S1.size + (⟨#[55, 32, 114, 101, 106, 101, 99, 116, 32, 48, 53, 10]⟩ : ByteArray).size + S2.size) := by omega
    have y3 : ¬ (9223372036854775807 < S1.size + S2.size) := by omega
    have HR1 := Lib.hid hR1
    have HR2 := Lib.hid hR2
    have hki : (k : Int) ≤ (len : Int) := by omega
    have hkk : ((k : Int) + 1 == (k : Int) + 1) = true := by simp
    clear hx hs hx2 hnm hNK hbd0 hz16 hf hft hfd hsum hln prOf hsl p1 p2 p3 p4 hS hS1 hS2 hSd hS1d hS2d hcat hR1 hR2 hn12 hkl HPA
    go_enter Tryd.func9, Tryd.ntmps9
    go_wp2_with fail
    refine HP1.out.mono ?_
    rintro e w1 ⟨rfl, c1⟩
    have B1 := Lib.hid c1
    clear c1
    go_wp2_with fail
    refine (HR.out _ _ B1.out).mono ?_
    rintro e w2 ⟨v2, out, n2, x2, rfl, hp2, own2, c2⟩
    obtain ⟨e1, e2, e3⟩ := Lx.parseAllEv_one HR1.out hp2
    subst e1 e2 e3
    obtain ⟨A2, cp2, rfl, j2⟩ := Lx.row_isEvs' own2
    have B2 := Lib.hid (B1.out.trans (c2.mono B1.out.size))
    have j2' := j2 rfl
    rw [HLN.out] at j2'
    have I2 := Lib.hid j2'
    have HLl := HLN.out
    clear hp2 own2 c2 j2 j2' HR1
    rw [HLl]
    clear HLl
    go_wp2_with fail
    refine (HSM.out _ _ _ B2.out I2.out).mono ?_
    rintro e w3 ⟨i3, b3, rfl, hd3, c3⟩
    obtain ⟨hii, hbb⟩ := Lx.difIs_one (Lx.difIs_self L) hd3
    subst hii hbb
    have B3 := Lib.hid (B2.out.trans (c3.mono B2.out.size))
    clear hd3 c3 I2 HSM
    have HL3 := Lib.hid (HL.out.below B3.out)
    rcases Nat.eq_zero_or_pos len with h0 | h0
    · subst h0
      obtain rfl : k = 0 := by omega
      have hnil : L = [] := List.eq_nil_of_length_eq_zero HLN.out
      have HNT := Lib.hid (show L.take 0 = [] from by simp)
      have HND := Lib.hid (show L.drop 0 = [] from by simp [hnil])
      clear hnil
      cases ad with
      | none =>
        obtain rfl : cap = 0 := nn.1 rfl
        clear nn
        go_wp2_with fail
        refine (HT.out _ _ _ B3.out (Lx.isEvs_empty HNT.out)).mono ?_
        rintro e w4 ⟨rfl, c4⟩
        have B4 := Lib.hid (B3.out.trans (c4.mono B3.out.size))
        clear c4
        go_wp2_with fail
        refine (HD.out _ _ _ B4.out (Lx.isEvs_empty HND.out)).mono ?_
        rintro e w5 ⟨rfl, c5⟩
        have B5 := Lib.hid (B4.out.trans (c5.mono B4.out.size))
        clear c5
        go_wp2_with fail
        refine (HR.out _ _ B5.out).mono ?_
        rintro e w6 ⟨v6, out6, n6, x6, rfl, hp6, own6, c6⟩
        obtain ⟨e1, e2, e3⟩ := Lx.parseAllEv_one HR2.out hp6
        subst e1 e2 e3
        obtain ⟨A6, cp6, rfl, -⟩ := Lx.row_isEvs' own6
        have B6 := Lib.hid (B5.out.trans (c6.mono B5.out.size))
        clear hp6 own6 c6
        go_wp2_with fail
        refine (HW.out _ B6.out).mono ?_
        rintro e w7 ⟨rfl, c7⟩
        go_wp2_with fail
        go_ret
        exact ⟨rfl, B6.out.trans (c7.mono B6.out.size)⟩
      | some a =>
        obtain ⟨-, -, nn3⟩ := nn
        unfold maxLen at nn3
        by_cases hcap : 0 < cap
        · have hcapi : (0 : Int) < (cap : Int) := by omega
          go_wp2_with fail
          refine (HT.out _ _ _ B3.out (Lx.isEvs_empty HNT.out)).mono ?_
          rintro e w4 ⟨rfl, c4⟩
          have B4 := Lib.hid (B3.out.trans (c4.mono B3.out.size))
          clear c4
          go_wp2_with fail
          refine (HD.out _ _ _ B4.out (Lx.isEvs_empty HND.out)).mono ?_
          rintro e w5 ⟨rfl, c5⟩
          have B5 := Lib.hid (B4.out.trans (c5.mono B4.out.size))
          clear c5
          go_wp2_with fail
          refine (HR.out _ _ B5.out).mono ?_
          rintro e w6 ⟨v6, out6, n6, x6, rfl, hp6, own6, c6⟩
          obtain ⟨e1, e2, e3⟩ := Lx.parseAllEv_one HR2.out hp6
          subst e1 e2 e3
          obtain ⟨A6, cp6, rfl, -⟩ := Lx.row_isEvs' own6
          have B6 := Lib.hid (B5.out.trans (c6.mono B5.out.size))
          clear hp6 own6 c6
          go_wp2_with fail
          refine (HW.out _ B6.out).mono ?_
          rintro e w7 ⟨rfl, c7⟩
          go_wp2_with fail
          go_ret
          exact ⟨rfl, B6.out.trans (c7.mono B6.out.size)⟩
        · obtain rfl : cap = 0 := by omega
          go_wp2_with fail
          refine (HT.out _ _ _ B3.out (Lx.isEvs_empty HNT.out)).mono ?_
          rintro e w4 ⟨rfl, c4⟩
          have B4 := Lib.hid (B3.out.trans (c4.mono B3.out.size))
          clear c4
          go_wp2_with fail
          refine (HD.out _ _ _ B4.out (Lx.isEvs_empty HND.out)).mono ?_
          rintro e w5 ⟨rfl, c5⟩
          have B5 := Lib.hid (B4.out.trans (c5.mono B4.out.size))
          clear c5
          go_wp2_with fail
          refine (HR.out _ _ B5.out).mono ?_
          rintro e w6 ⟨v6, out6, n6, x6, rfl, hp6, own6, c6⟩
          obtain ⟨e1, e2, e3⟩ := Lx.parseAllEv_one HR2.out hp6
          subst e1 e2 e3
          obtain ⟨A6, cp6, rfl, -⟩ := Lx.row_isEvs' own6
          have B6 := Lib.hid (B5.out.trans (c6.mono B5.out.size))
          clear hp6 own6 c6
          go_wp2_with fail
          refine (HW.out _ B6.out).mono ?_
          rintro e w7 ⟨rfl, c7⟩
          go_wp2_with fail
          go_ret
          exact ⟨rfl, B6.out.trans (c7.mono B6.out.size)⟩
    · obtain ⟨g, off, rfl, -, -⟩ := HL3.out.2 h0
      obtain ⟨-, nn2, nn3⟩ := nn
      unfold maxLen at nn3
      have hkcap : (k : Int) ≤ (cap : Int) := by omega
      have hlcap : (len : Int) ≤ (cap : Int) := by omega
      by_cases hkc1 : k < cap
      · have hkci : (k : Int) < (cap : Int) := by omega
        go_wp2_with fail
        refine (HT.out _ _ _ B3.out (Lx.isEvs_take HL3.out hkq)).mono ?_
        rintro e w4 ⟨rfl, c4⟩
        have B4 := Lib.hid (B3.out.trans (c4.mono B3.out.size))
        clear c4
        go_wp2_with fail
        refine (HD.out _ _ _ B4.out (Lx.isEvs_drop (HL.out.below B4.out) hkq)).mono ?_
        rintro e w5 ⟨rfl, c5⟩
        have B5 := Lib.hid (B4.out.trans (c5.mono B4.out.size))
        clear c5
        go_wp2_with fail
        refine (HR.out _ _ B5.out).mono ?_
        rintro e w6 ⟨v6, out6, n6, x6, rfl, hp6, own6, c6⟩
        obtain ⟨e1, e2, e3⟩ := Lx.parseAllEv_one HR2.out hp6
        subst e1 e2 e3
        obtain ⟨A6, cp6, rfl, -⟩ := Lx.row_isEvs' own6
        have B6 := Lib.hid (B5.out.trans (c6.mono B5.out.size))
        clear hp6 own6 c6
        go_wp2_with fail
        refine (HW.out _ B6.out).mono ?_
        rintro e w7 ⟨rfl, c7⟩
        go_wp2_with fail
        go_ret
        exact ⟨rfl, B6.out.trans (c7.mono B6.out.size)⟩
      · obtain rfl : k = cap := by omega
        obtain rfl : k = len := by omega
        rw [Nat.sub_self] at HD
        have HND := Lib.hid (show L.drop k = [] from List.drop_eq_nil_of_le (by rw [HLN.out]; exact Nat.le_refl _))
        go_wp2_with fail
        refine (HT.out _ _ _ B3.out (Lx.isEvs_take HL3.out hkq)).mono ?_
        rintro e w4 ⟨rfl, c4⟩
        have B4 := Lib.hid (B3.out.trans (c4.mono B3.out.size))
        clear c4
        go_wp2_with fail
        refine (HD.out _ _ _ B4.out (Lx.isEvs_empty HND.out)).mono ?_
        rintro e w5 ⟨rfl, c5⟩
        have B5 := Lib.hid (B4.out.trans (c5.mono B4.out.size))
        clear c5
        go_wp2_with fail
        refine (HR.out _ _ B5.out).mono ?_
        rintro e w6 ⟨v6, out6, n6, x6, rfl, hp6, own6, c6⟩
        obtain ⟨e1, e2, e3⟩ := Lx.parseAllEv_one HR2.out hp6
        subst e1 e2 e3
        obtain ⟨A6, cp6, rfl, -⟩ := Lx.row_isEvs' own6
        have B6 := Lib.hid (B5.out.trans (c6.mono B5.out.size))
        clear hp6 own6 c6
        go_wp2_with fail
        refine (HW.out _ B6.out).mono ?_
        rintro e w7 ⟨rfl, c7⟩
        go_wp2_with fail
        go_ret
        exact ⟨rfl, B6.out.trans (c7.mono B6.out.size)⟩
  · have hs : Lx.prAS NS L = [] := by unfold Lx.prAS; rw [if_neg hx]
    rw [hs] at HP1
    have hxe : (Lx.prAE NS L != 0) = true := by rw [bne_iff_ne]; exact hx
    generalize Lx.prAE NS L = x at *
    clear hs hx HPA HR HSM HL HLN nn
    go_enter Tryd.func9, Tryd.ntmps9
    go_wp2_with fail
    refine HP1.out.mono ?_
    rintro e w1 ⟨rfl, c1⟩
    have B1 := Lib.hid c1
    clear c1
    go_wp2_with fail
    refine (HW.out _ B1.out).mono ?_
    rintro e w2 ⟨rfl, c2⟩
    go_wp2_with fail
    go_ret
    exact ⟨rfl, B1.out.trans (c2.mono B1.out.size)⟩

set_option maxRecDepth 100000 in
/-- What the walk gives, for every argument that can be read. -/
theorem contract (H : Type) (enc : TypeId × Value → H) (W : World) (base : Nat) (args : Array Value) (ds gs : List (DataW H)) (before : List MemPlace)
    (hval : ∀ (j : Nat) t v, Tryd.f9.params[j]? = some t → args[j]? = some v → Value.okWide Tryd.prog W .any base t v)
    (hW : DataW.Whole enc Tryd.prog Tryd.f9.params.toList Rows.eventLinesSpec.vars false W args.toList ds gs before) (hsz : (DataW.weightsEach Tryd.prog (Tryd.f9.params.toList ++ (OpenSpec.ofChange Rows.eventLinesSpec).bare.plain.varTypes Tryd.prog) (ds ++ gs)).all (· ≤ reachBytes) = true) (hL : laidMetH Tryd.prog Rows.eventLinesRow.laid W) (hsh : W.ShapedOpen Tryd.prog) :
    Calls Tryd.prog 9 args W fun e W' => ∃ v, e = .returned v ∧ Rows.eventLinesSpec.post enc Tryd.prog Tryd.f9 false true false false W args v W' := by
  have hW' := hW
  obtain ⟨p, q, hA0, hV, rfl, hfz, hnd⟩ := hW
  have hA : DataW.TrodAll enc Tryd.prog W 0 (fun _ => true) true Tryd.f9.params.toList args.toList ds p := hA0
  rw [Tryd.params9] at hA hval
  obtain ⟨v0, vs0, d0, ds0, p0, q0, hargs, rfl, rfl, h0, r0⟩ := trodAll_cons hA
  obtain ⟨v1, vs1, d1, ds1, p1, q1, rfl, rfl, rfl, h1, r1⟩ := trodAll_cons r0
  obtain ⟨v2, vs2, d2, ds2, p2, q2, rfl, rfl, rfl, h2, r2⟩ := trodAll_cons r1
  obtain ⟨rfl, rfl, rfl⟩ := trodAll_nil r2
  obtain rfl : args = #[v0, v1, v2] := by cases args; simp_all
  obtain ⟨rfl, rfl⟩ := trodVars_none hV
  obtain ⟨a0, len0, cap0, rfl⟩ := okWide_slice Tryd.underlying36 (hval 0 36 v0 rfl rfl)
  have k0 := h0
  have lt0 : ∀ x ∈ p0, x.block < W.heap.size := by obtain ⟨m, hm⟩ := k0; exact DataW.trod_lt m _ _ _ hm
  obtain ⟨⟨L0, z0⟩, n0⟩ : (∃ L, EvsIn W a0 len0 L) ∧ ((a0 = none → cap0 = 0) ∧ len0 ≤ cap0 ∧ cap0 ≤ maxLen) := by
    obtain ⟨fuel, hf⟩ := h0
    exact ⟨(evsIn_of hf).1, (evsIn_of hf).2, evsIn_cap hf⟩
  obtain ⟨a1, len1, cap1, rfl⟩ := okWide_slice Tryd.underlying24 (hval 1 24 v1 rfl rfl)
  have k1 := h1
  have lt1 : ∀ x ∈ p1, x.block < W.heap.size := by obtain ⟨m, hm⟩ := k1; exact DataW.trod_lt m _ _ _ hm
  have z1 : ∃ ss, IsStrs W a1 len1 cap1 ss := by
    obtain ⟨fuel, hf⟩ := h1
    refine isStrs_of hf (fun x hx => ?_)
    have := List.all_eq_true.1 hsz x (DataW.weights_mem_each (j := 1) (t := 24) rfl rfl x hx)
    simpa using this
  obtain ⟨s2, rfl, rfl, rfl, w2⟩ := open_int Tryd.underlying5 (hval 2 5 v2 rfl rfl) h2
  clear hA0
  refine (walk W a0 len0 cap0 L0 z0 n0 a1 len1 cap1 z1 s2 w2 (env_of hL hsh)).mono fun e W' ⟨he, bel⟩ => ?_
  subst he
  exact ⟨_, rfl, _, _, _, [], _, [], hW', trodAll_mk1 (shut_bool Tryd.underlying4 _), (trodAll_cons_mk (Below.trod laidOut (by kernel_rfl) (of_decide_eq_true (by kernel_rfl)) k0 bel lt0) (trodAll_cons_mk (Below.trod laidOut (by kernel_rfl) (of_decide_eq_true (by kernel_rfl)) k1 bel lt1) (trodAll_cons_mk (shut_int Tryd.underlying5 w2) trodAll_mk0))), rfl, bel.frame _, fun h => by cases h⟩

set_option maxRecDepth 100000 in
theorem reads (os : Os) {H : Type} (enc : TypeId × Value → H) : ∃ places, DataW.whole enc Tryd.prog ((World.laidAll Tryd.prog os Rows.eventOnesRow.laid).forCall (fun _ _ => 0) ⟨#[], #[.slice none 0 0, .slice none 0 0, .int .u8 0], []⟩).memory Tryd.f9.params.toList Rows.eventLinesSpec.vars false (#[.slice none 0 0, .slice none 0 0, .int .u8 0] : Array Value).toList 8 = some ([.nil, .nil, .lit (.int .u8 0)], [], places) :=
  ⟨[], by kernel_rfl⟩

set_option maxRecDepth 100000 in
theorem lifted (os : Os) (started : os.Started) (H : Type) (enc : TypeId × Value → H) (F : Stop.Interp) :
    ReturnsInHanded {} Tryd.checked os 9 .any ((OpenSpec.ofChange Rows.eventLinesSpec).preRow enc Tryd.prog Tryd.f9 Rows.eventLinesRow.domain false Rows.eventLinesRow.laid) (((OpenSpec.ofChange Rows.eventLinesSpec).at F).post enc Tryd.prog Tryd.f9 false true false false) := by
  obtain ⟨places, hx⟩ := reads os enc
  refine returnsInHanded_of_row (C := Tryd.checked) (s := OpenSpec.ofChange Rows.eventLinesSpec) own started (by kernel_rfl) Tryd.func9
    (witness_row_atRef (enc := enc) (C := Tryd.checked) false (World.laidAll Tryd.prog os Rows.eventOnesRow.laid) #[.slice none 0 0, .slice none 0 0, .int .u8 0] (World.laidAll_os _ _ _) (door_vars os _) (door_rest os _) (by kernel_rfl)
      (OpenSpec.preRow_of_cond 8 hx (by kernel_rfl) (fun k hk => by cases hk) (by kernel_rfl) (door_laid os _))) ?_
  intro W base args ds gs before hval hW _ _ hsz hL hsh _
  exact contract H enc W base args ds gs before hval hW hsz hL hsh

theorem said : Rows.EventLinesSaid :=
  OpenClaim.holds_of_cond 9 Tryd.f9 rfl rfl rfl rfl rfl rfl rfl ⟨rfl, rfl, rfl, rfl, rfl⟩ rfl rfl rfl rfl rfl (by kernel_rfl) Tryd.func9 (by kernel_rfl)
    (of_decide_eq_true (by kernel_rfl)) (by unfold Func.isWrapper; first | (rw [if_pos (by decide +kernel)]; kernel_rfl) | (rw [if_neg (by decide +kernel)]; exact ⟨rfl, rfl⟩))
    (fun os started H enc _ F => by rw [OpenClaim.pre_eq_preRow]; exact lifted os started H enc F)

theorem plain (f : FuncId) (fn : Func) (hf : Tryd.pinned.checked.prog.funcNamed "wakeman/wakemanlaw36.EventLines" = some f) (hfn : Tryd.pinned.checked.prog.funcs[f]? = some fn) :
    Rows.eventLinesCard.stood.looks = Tryd.pinned.checked.prog.looks [] ∧ ∀ (j : Nat) t, fn.params[j]? = some t → Tryd.pinned.checked.prog.wantsStandIn t = false := by
  obtain rfl : f = 9 := Option.some.inj ((show Tryd.prog.funcNamed "wakeman/wakemanlaw36.EventLines" = some 9 by kernel_rfl).symm.trans hf) |>.symm
  obtain rfl : fn = Tryd.f9 := (Option.some.inj (Tryd.func9.symm.trans hfn)).symm
  refine ⟨by kernel_rfl, fun j t ht => ?_⟩
  rw [Tryd.params9] at ht
  have hm : t ∈ [36, 24, 5] := by
    have := Array.mem_of_getElem? ht
    simpa using this
  have hall : ([36, 24, 5].all fun u => !Tryd.prog.wantsStandIn u) = true := by kernel_rfl
  exact (show Tryd.prog.wantsStandIn t = false by simpa using List.all_eq_true.1 hall t hm)

/-- The card. -/
theorem card : Rows.EventLinesCardSaid :=
  Claim7.holds_tied_plain_at .later [] _ _ _ _ said (fun _ h => by cases h) (by kernel_rfl) (fun _ h => by cases h) eventLines_row_tie rfl ⟨rfl, rfl⟩ (by kernel_rfl) rfl plain (by kernel_rfl)
end Go.Proofs.YtmpcekpdnikghaaDoor.lawEventLines
