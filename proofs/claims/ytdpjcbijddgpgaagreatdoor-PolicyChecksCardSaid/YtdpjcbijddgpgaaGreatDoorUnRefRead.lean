/- The walk of the reference of units.read. -/
import Derived.Test.YtdpjcbijddgpgaaGreatDoorUnSmall
import Derived.Test.YtdpjcbijddgpgaaGreatDoorUnRef
import Derived.Deep.QuietTactic
import Derived.BigQuiet
namespace Go.Proofs.YtdpjcbijddgpgaaGreatDoor
open Go.RowKit

namespace Lx
theorem drop_cons (s : ByteArray) (k : Nat) (h : k < s.size) : s.data.toList.drop k = s[k] :: s.data.toList.drop (k + 1) := by
  have hk : k < s.data.toList.length := by rw [← Lib.size_eq]; exact h
  rw [List.drop_eq_getElem_cons hk]; rfl
theorem drop_end (s : ByteArray) (k : Nat) (h : s.size ≤ k) : s.data.toList.drop k = [] := List.drop_eq_nil_of_le (by rw [← Lib.size_eq]; exact h)
end Lx

set_option maxRecDepth 100000 in
set_option maxHeartbeats 3200000 in
theorem ref_read_main (s : ByteArray) (w : World) (hs : s.size ≤ 1000000000) (hz : s.data.toList ≠ [48, 115]) (hn : s.size ≠ 0) :
    Calls Tryz.prog 64 #[.string s] w (ReadPost s.data.toList w) := by
  have hzb : (s.toList == [48, 115]) = false := by rw [Lib.toList_data, beq_eq_false_iff_ne]; exact hz
  have hsb := Lx.strne hn
  obtain ⟨L, hL⟩ : ∃ L, L = s.data.toList := ⟨_, rfl⟩
  have hdur : Lx.durS L = Lx.rd L 0 := Lx.dur_of (by rw [hL]; exact hz) (by rw [hL]; intro e; exact hn (by rw [Lib.size_eq, e]; rfl))
  have hdc : ∀ k (h : k < s.size), L.drop k = s[k] :: L.drop (k + 1) := fun k h => by rw [hL]; exact Lx.drop_cons s k h
  have hde : ∀ k, s.size ≤ k → L.drop k = [] := fun k h => by rw [hL]; exact Lx.drop_end s k h
  rw [← hL]
  have Hdc := Lib.hid hdc
  have Hde := Lib.hid hde
  have Hdur := Lib.hid hdur
  clear hz hn hL hdur hdc hde
  go_enter Tryz.func64, Tryz.ntmps64
  go_wp2
  go_loopw [4, 5, 6] (fun a b c wr => ∃ (k u : Nat) (sm : Int), a = .int .i64 sm ∧ b = .int .i64 u ∧ c = .int .i64 k ∧ k ≤ s.size ∧ u ≤ 4 ∧ Hid (Lx.RdRel L (L.drop k) u sm) ∧ 0 ≤ sm ∧ sm ≤ 1099511627776 ∧ Below w.heap.size w wr) (fun _ _ c _ => s.size - (intOf c).toNat)
  case atStart => exact ⟨0, 0, 0, rfl, rfl, rfl, by omega, by omega, Lib.hid (Lx.rdrel_start L), by omega, by omega, Below.refl _ _⟩
  case round =>
    obtain ⟨k, u, sm, rfl, rfl, rfl, hk, hu, hrel, sm0, sm1, hbel⟩ := hrel
    have Hno : Hid (Lx.rd (L.drop k) u = none → Lx.ReadIs L 0 false) := Lib.hid fun h => Lx.readIs_none (by rw [Hdur.out]; exact Lx.rdrel_none hrel.out h)
    by_cases hlt : k < s.size
    · have hkc := Hdc.out k hlt
      by_cases hd : 49 ≤ (s[k].toNat : Int) ∧ (s[k].toNat : Int) ≤ 57
      · obtain ⟨hd0, hd1⟩ := hd
        obtain ⟨hdne, hh48⟩ := Lx.first_ok (c := s[k]) (t := L.drop (k + 1)) ⟨hd0, hd1⟩
        rw [← hkc] at hdne hh48
        have Hd2 := Lib.hid (And.intro hdne hh48)
        have Hst := Lib.hid (Lx.digrel_start (L.drop k))
        have Hk48 : Hid (Lx.isDig s[k] = true) := Lib.hid ((Lx.isDig_iff _).2 ⟨by omega, hd1⟩)
        have hrel0 := hrel
        clear hdne hh48 hkc hrel
        go_wp2
        obtain ⟨wo, rfl⟩ : ∃ wo : World, wo = wr := ⟨_, rfl⟩
        go_loop [6, 7] (fun c n => ∃ (j : Nat) (nn : Int), c = .int .i64 j ∧ n = .int .i64 nn ∧ k ≤ j ∧ j ≤ s.size ∧ Hid (Lx.DigRel (L.drop k) (L.drop j) nn) ∧ 0 ≤ nn ∧ nn ≤ 1099511627776) (fun c _ => s.size - (intOf c).toNat)
        case atStart => exact ⟨k, 0, rfl, rfl, Nat.le_refl _, hk, Hst, by omega, by omega⟩
        case round =>
          obtain ⟨j, nn, rfl, rfl, hkj, hj, hdr, n0, n1⟩ := hrel
          clear Hst
          by_cases hjs : j < s.size
          · have hjc := Hdc.out j hjs
            have hji : (j : Int) < (s.size : Int) := by omega
            by_cases hdj : Lx.isDig s[j] = true
            · obtain ⟨j48, j57⟩ := (Lx.isDig_iff _).1 hdj
              have hstep := hdr.out
              rw [hjc] at hstep
              have hnx := Lx.digrel_step hstep hdj
              have hbd := Lx.digrel_bd hnx
              have Hnx := Lib.hid hnx
              clear hstep hnx hjc hdj hdr
              go_wp2
              go_round
              case rel => exact ⟨j + 1, _, by go_num, rfl, by omega, by omega, Hnx, hbd.1, hbd.2⟩
              case measure => simp [intOf]; omega
            · have hdj' : Lx.isDig s[j] = false := by simpa using hdj
              obtain ⟨hnn, hrs⟩ := Lx.digrel_end hdr.out (.inr ⟨_, _, hjc, hdj'⟩)
              rw [hjc] at hrs
              have hkj2 : k < j := by
                rcases Nat.lt_or_ge k j with h | h
                · exact h
                · have e : j = k := by omega
                  subst e
                  exact absurd Hk48.out hdj
              have hlow := (Lx.isDig_no _).1 hdj'
              obtain ⟨ix, hix⟩ : ∃ ix, ix = Lx.unitIx s[j] := ⟨_, rfl⟩
              have hix4 : ix ≤ 4 := by rw [hix]; exact Lx.unitIx_le _
              have hbadU : ix = 4 ∨ ix < u → Lx.ReadIs L 0 false := fun h => Hno.out (Lx.rd_unit u hrs (by rw [← hix]; exact h))
              have hgoodU : ix < 4 → u ≤ ix → Lx.RdRel L (L.drop (j + 1)) (ix + 1) (min (sm + nn * ((Lx.secs ix : Nat) : Int)) 1099511627776) := by
                intro h1 h2
                have := Lx.rdrel_step hrel0.out hrs Hd2.out.1 Hd2.out.2 (by rw [← hix]; exact h1) (by rw [← hix]; exact h2)
                rw [← hix, ← hnn] at this
                exact this
              have hlet : ∀ v, v < 4 → (((Lx.letr v).toNat : Int) != (s[j].toNat : Int)) = decide (ix ≠ v) := by
                intro v hv
                by_cases e : ix = v
                · have e2 := (Lx.letr_eq s[j] v hv).2 (by rw [← hix]; exact e)
                  rw [e2, e]; simp
                · have e2 : Lx.letr v ≠ s[j] := fun h => e (by rw [hix]; exact (Lx.letr_eq s[j] v hv).1 h)
                  rw [decide_eq_true e, bne_iff_ne]
                  intro h; exact e2 (UInt8.toNat_inj.1 (by omega))
              have HbadU := Lib.hid hbadU
              have HgoodU := Lib.hid hgoodU
              have Hlet := Lib.hid hlet
              have hjne : ((j : Int) == (s.size : Int)) = false := by rw [beq_eq_false_iff_ne]; omega
              have Hu0 : Hid (ix < u ∨ u ≤ ix) := Lib.hid (by omega)
              clear hbadU hgoodU hlet hnn hrs hix hdj hdj' hjc hdr
              rcases (show (s[j].toNat : Int) < 48 ∨ (48 ≤ (s[j].toNat : Int) ∧ 57 < (s[j].toNat : Int)) by omega) with hl48 | ⟨hl48, hh57⟩
              all_goals
                clear hlow
                go_wp2
                go_loopw [5] (fun b wq => ∃ (v n : Nat), b = .int .i64 v ∧ u ≤ v ∧ v ≤ 4 ∧ Hid (ix < u ∨ v ≤ ix) ∧ wq = wo.drewN n) (fun b _ => 4 - (intOf b).toNat)
                case atStart => exact ⟨u, 0, rfl, Nat.le_refl _, hu, Hu0, rfl⟩
                case round =>
                  obtain ⟨v, n, rfl, huv, hv4, hvx, rfl⟩ := hrel
                  clear Hu0
                  by_cases hv : v < 4
                  · have hvi : (v : Int) < 4 := by omega
                    have hl := Hlet.out v hv
                    by_cases hxv : ix = v
                    · rw [decide_eq_false (by omega)] at hl
                      have hv4b : ((v : Int) == 4) = false := by rw [beq_eq_false_iff_ne]; omega
                      go_wp2_with fail
                      go_quiet ((go_at_call 91; exact (letter_any v hv _).mono (by rintro e w ⟨rfl, rfl⟩; exact ⟨rfl, _, rfl⟩)))
                      go_wp2_with fail
                      have hux : u ≤ ix := by have := hvx.out; omega
                      have hnext := HgoodU.out (by omega) hux
                      have hsec := seconds_any v hv
                      have hS4 := Lx.secs_cases v hv
                      rw [hxv] at hnext
                      obtain ⟨S, hS⟩ : ∃ S : Int, S = ((Lx.secs v : Nat) : Int) := ⟨_, rfl⟩
                      have hS4' : S = 86400 ∨ S = 3600 ∨ S = 60 ∨ S = 1 := by omega
                      rw [← hS] at hnext hsec
                      have hnb := Lx.rdrel_bd hnext
                      have Hnext := Lib.hid hnext
                      have Hsec := Lib.hid hsec
                      clear hnext hsec hS hS4 hl
                      refine (Hsec.out _).mono ?_
                      rintro e w3 ⟨rfl, hb3⟩
                      have hb3' : Below w.heap.size w w3 := hbel.trans ((below_drewN _ wo _).trans (hb3.mono hbel.size))
                      clear Hsec hb3
                      rcases hS4' with rfl | rfl | rfl | rfl
                      all_goals
                        try simp only [Int.mul_one] at Hnext hnb
                        go_wp2_with fail
                        go_roundw
                        case rel => exact ⟨j + 1, v + 1, _, rfl, by go_num, by go_num, by omega, by omega, Hnext, hnb.1, hnb.2, hb3'⟩
                        case measure => simp [intOf]; omega
                    · rw [decide_eq_true hxv] at hl
                      have hvx2 : Hid (ix < u ∨ v + 1 ≤ ix) := Lib.hid (by have := hvx.out; omega)
                      go_wp2_with fail
                      go_quiet ((go_at_call 91; exact (letter_any v hv _).mono (by rintro e w ⟨rfl, rfl⟩; exact ⟨rfl, _, rfl⟩)))
                      go_wp2_with fail
                      go_roundw
                      case rel => exact ⟨v + 1, _, by go_num, by omega, by omega, hvx2, rfl⟩
                      case measure => simp [intOf]; omega
                  · obtain rfl : v = 4 := by omega
                    have hbad := HbadU.out (by have := hvx.out; omega)
                    have Hbad := Lib.hid hbad
                    clear hbad
                    go_wp2_with fail
                    go_quiet (fail)
                    go_wp2_with fail
                    go_ret2
                    exact ⟨_, _, rfl, Hbad.out, hbel.trans (below_drewN _ wo _)⟩
          · obtain rfl : j = s.size := by omega
            have hje := Hde.out s.size (Nat.le_refl _)
            obtain ⟨_, hrs⟩ := Lx.digrel_end hdr.out (.inl hje)
            rw [hje] at hrs
            have hne : L.drop k ≠ [] := by rw [Hdc.out k hlt]; exact List.cons_ne_nil _ _
            have Hbad := Lib.hid (Hno.out (Lx.rd_end u hne hrs))
            clear hne hrs hje hdr hrel0
            have hje : ((s.size : Int) == (s.size : Int)) = true := by simp
            go_wp2
            go_loopw [5] (fun b wq => ∃ (v n : Nat), b = .int .i64 v ∧ v ≤ 4 ∧ wq = wo.drewN n) (fun b _ => 4 - (intOf b).toNat)
            case atStart => exact ⟨u, 0, rfl, hu, rfl⟩
            case round =>
              obtain ⟨v, n, rfl, hv4, rfl⟩ := hrel
              by_cases hv : v < 4
              · have hvi : (v : Int) < 4 := by omega
                go_wp2_with fail
                go_quiet (fail)
                go_wp2_with fail
                go_roundw
                case rel => exact ⟨v + 1, _, by go_num, by omega, rfl⟩
                case measure => simp [intOf]; omega
              · obtain rfl : v = 4 := by omega
                go_wp2_with fail
                go_quiet (fail)
                go_wp2_with fail
                go_ret2
                exact ⟨_, _, rfl, Hbad.out, hbel.trans (below_drewN _ wo _)⟩
      · have hbad := Lx.first_bad (t := L.drop (k + 1)) hd
        rw [← hkc] at hbad
        have hne : L.drop k ≠ [] := by rw [hkc]; exact List.cons_ne_nil _ _
        have Hbad := Lib.hid (Hno.out (Lx.rd_bad u hne hbad))
        have hki : (k : Int) < (s.size : Int) := by omega
        clear hne hbad hrel
        rcases (show (s[k].toNat : Int) < 49 ∨ (49 ≤ (s[k].toNat : Int) ∧ 57 < (s[k].toNat : Int)) by omega) with h1 | ⟨h1, h2⟩
        all_goals
          clear hd hkc
          go_wp2
          go_ret2
          exact ⟨_, _, rfl, Hbad.out, hbel⟩
    · obtain rfl : k = s.size := by omega
      have hend := hrel.out
      rw [Hde.out s.size (Nat.le_refl _)] at hend
      obtain ⟨a, e1, e2⟩ := Lx.rdrel_end hend
      have Hr : Hid (Lx.ReadIs L sm true) := Lib.hid (Lx.readIs_some (by rw [Hdur.out]; exact e1) (by rw [e2]; exact Lx.cap_great a))
      clear hend e1 e2 hrel
      go_wp2
      go_ret2
      exact ⟨_, _, rfl, Hr.out, hbel⟩

theorem ref_read_any (s : ByteArray) (w : World) (hs : s.size ≤ 1000000000) :
    Calls Tryz.prog 64 #[.string s] w (ReadPost s.data.toList w) := by
  by_cases hz : s.data.toList = [48, 115]
  · have hzb : (s.toList == [48, 115]) = true := by rw [Lib.toList_data, hz]; rfl
    have Hr : Hid (Lx.ReadIs s.data.toList 0 true) := Lib.hid (by rw [hz]; exact Lx.readIs_zero)
    clear hz
    go_enter Tryz.func64, Tryz.ntmps64
    go_wp2
    go_ret2
    exact ⟨_, _, rfl, Hr.out, Below.refl _ _⟩
  · by_cases hn : s.size = 0
    · have hzb : (s.toList == [48, 115]) = false := by rw [Lib.toList_data, beq_eq_false_iff_ne]; exact hz
      have hsb := Lx.streq hn
      have Hr : Hid (Lx.ReadIs s.data.toList 0 false) := Lib.hid (by rw [Lx.nil_of_size hn]; exact Lx.readIs_nil)
      clear hz hn
      go_enter Tryz.func64, Tryz.ntmps64
      go_wp2
      go_ret2
      exact ⟨_, _, rfl, Hr.out, Below.refl _ _⟩
    · exact ref_read_main s w hs hz hn
theorem ref_parse_any (s : ByteArray) (hs : s.size ≤ 1000000000) (w : World) :
    Calls Tryz.prog 36 #[.string s] w fun e w' => e = .returned (.tuple #[.int .i64 (Lx.parV s.data.toList), .int .i64 (Lx.parE s.data.toList)]) ∧ Below w.heap.size w w' := by
  have HR := Lib.hid (ref_read_any s w hs)
  go_enter Tryz.func36, Tryz.ntmps36
  go_wp2_with fail
  refine HR.out.mono ?_
  rintro e w1 ⟨c, ok, rfl, hr, hb⟩
  rcases Lx.readIs_par hr with ⟨rfl, p1, p2⟩ | ⟨rfl, hc, p1, p2⟩ | ⟨rfl, hc, p1, p2⟩
  all_goals
    have P1 := Lib.hid p1
    have P2 := Lib.hid p2
    clear p1 p2 hr
    go_wp2_with fail
    go_ret2
    exact ⟨Lx.ret_t2 (Lx.v_int P1.out.symm) (Lx.v_int P2.out.symm), hb⟩
end Go.Proofs.YtdpjcbijddgpgaaGreatDoor
