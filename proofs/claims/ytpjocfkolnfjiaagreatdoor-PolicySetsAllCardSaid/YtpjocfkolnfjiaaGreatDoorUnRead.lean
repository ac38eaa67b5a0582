/- The walk of units.read: what a written duration stands for. -/
import Derived.Test.YtpjocfkolnfjiaaGreatDoorUnTrim
import Derived.Test.YtpjocfkolnfjiaaGreatDoorUnRd
import Derived.Test.YtpjocfkolnfjiaaGreatDoorUnFacts
import Derived.Test.YtpjocfkolnfjiaaGreatDoorNumber
import Derived.BigGuardPart
import Derived.OneCell
import Derived.Outline
namespace Go.Proofs.YtpjocfkolnfjiaaGreatDoor
open Go.RowKit

namespace Lx
theorem slice_eq (a : Option Addr) {m n : Nat} (h : m = n) : Value.slice a m m = Value.slice a n n := by rw [h]
def strV : Value → Nat
  | .string s => s.size
  | _ => 0
theorem digs_form {l : List UInt8} (h0 : digs l ≠ []) (h1 : (digs l).head? ≠ some 48) : numForm (digs l) = true ∧ numV (digs l) = (dval 0 (digs l) : Int) := by
  have hd := digs_all l
  have h45 : (digs l).head? ≠ some 45 := head_dig hd 45 (by decide)
  have hb := body_plain h45
  refine ⟨num_form (by rw [hb]; exact h0) (.inl (by rw [hb]; exact h1)) (by rw [hb]; exact hd), ?_⟩
  unfold numV
  rw [if_neg h45, hb]
/-- The number of a part, as the program takes it. -/
theorem part_num {l : List UInt8} (h0 : digs l ≠ []) (h1 : (digs l).head? ≠ some 48) :
    (numErr (digs l) = 0 ∧ numRes (digs l) = (dval 0 (digs l) : Int)) ∨ (numErr (digs l) = 7 ∧ 68719476737 ≤ dval 0 (digs l)) := by
  obtain ⟨hf, hv⟩ := digs_form h0 h1
  by_cases hin : numIn (digs l) = true
  · obtain ⟨e1, e2⟩ := num_ok hf hin
    exact .inl ⟨e2, by rw [e1, hv]⟩
  · have hin' : numIn (digs l) = false := by simpa using hin
    obtain ⟨_, e2⟩ := num_over hf hin'
    refine .inr ⟨e2, ?_⟩
    unfold numIn at hin'
    rw [hv, decide_eq_false_iff_not] at hin'
    omega
/-- The bytes of the digits before a rest. -/
theorem digs_ext (r b : ByteArray) (hb : b.data.toList = rests r.data.toList) : b.size ≤ r.size ∧ (r.extract 0 (r.size - b.size)).data.toList = digs r.data.toList := by
  have h := digs_rests r.data.toList
  have hl := congrArg List.length h
  rw [List.length_append, ← Lib.size_eq, ← hb, ← Lib.size_eq] at hl
  refine ⟨by omega, ?_⟩
  rw [ext_data]
  have e : r.size - b.size = (digs r.data.toList).length := by omega
  rw [e]
  have h2 := List.take_left' (l₁ := digs r.data.toList) (l₂ := rests r.data.toList) rfl
  rw [h] at h2
  exact h2
theorem ext_one (b : ByteArray) (c : UInt8) (t : List UInt8) (h : b.data.toList = c :: t) : (b.extract 1 b.size).data.toList = t ∧ b.size = t.length + 1 := by
  have hs : b.size = t.length + 1 := by rw [Lib.size_eq, h, List.length_cons]
  refine ⟨?_, hs⟩
  rw [Lib.extract_data, h, List.drop_succ_cons, List.drop_zero, List.take_of_length_le (by omega)]
end Lx
theorem left_cut (g off u ix kx : Nat) (hu : u ≤ ix) (hi : ix < 4) (ho : off = 2 * u) (hk : kx = ix - u) : ∃ off', (ix + 1 < 4 → off' = 2 * (ix + 1)) ∧ ∀ W, (Instr.sliceAt 138 (.slice (some ⟨g, off, none⟩) (4 - u) (4 - u)) (some (.int .i64 ((kx : Int) + 1))) none none).run Tryz.prog W = .ok (.slice (some ⟨g, off', none⟩) (4 - (ix + 1)) (4 - (ix + 1))) W := by
  refine ⟨if 4 - u = kx + 1 then off else off + (kx + 1) * 2, fun h => by rw [if_neg (by omega)]; omega, fun W => ?_⟩
  have e1 : ((kx : Int) + 1).toNat = kx + 1 := by omega
  have h0 : (0 : Int) ≤ (kx : Int) + 1 := by omega
  have h1 : (kx : Int) + 1 ≤ ((4 - u : Nat) : Int) := by omega
  have e2 : 4 - u - (kx + 1) = 4 - (ix + 1) := by omega
  rw [run_sliceAt_slice W 138 _ _ _ _ (by simp [Program.elem, Tryz.underlying138])]
  rw [run_slice_l W 138 _ _ _ (by simp [Program.elem, Tryz.underlying138]) .i64 _ h0 h1]
  have hz : ∀ W, (sizeOf (Tryz.prog.elem 138)).run Tryz.prog W = .ok 2 W := fun _ => by kernel_rfl
  rw [hz]
  simp only [Result.andThen, sliced, e1, e2]
  by_cases h : 4 - u = kx + 1
  · rw [if_pos h, if_pos h]
  · rw [if_neg h, if_neg h]
    simp [Addr.add]

/-- units.read at the two short texts. -/
theorem read_zero (s : ByteArray) (hz : s.data.toList = [48, 115]) (w : World) :
    Calls Tryz.prog 79 #[.string s] w fun e w' => e = .returned (.tuple #[.int .i64 0, .bool true]) ∧ w = w' := by
  have hzb : (s.toList == [48, 115]) = true := by rw [Lib.toList_data, hz]; rfl
  clear hz
  go_enter Tryz.func79, Tryz.ntmps79
  go_wp2
  go_ret2
  exact ⟨rfl, rfl⟩
theorem read_nil (s : ByteArray) (hz : s.size = 0) (w : World) :
    Calls Tryz.prog 79 #[.string s] w fun e w' => e = .returned (.tuple #[.int .i64 0, .bool false]) ∧ w = w' := by
  have hzb : (s.toList == [48, 115]) = false := by rw [Lib.toList_data, Lx.nil_of_size hz]; rfl
  have heb := Lx.streq hz
  clear hz
  go_enter Tryz.func79, Tryz.ntmps79
  go_wp2
  go_loop [4, 6] (fun a c => a = .int .i64 0 ∧ c = .string s) (fun _ _ => 0)
  case atStart => exact ⟨rfl, rfl⟩
  case round =>
    obtain ⟨rfl, rfl⟩ := hrel
    go_wp2
    go_ret2
    exact ⟨rfl, rfl⟩

def ReadPost (l : List UInt8) (w : World) (e : Ending) (w' : World) : Prop := ∃ (c : Int) (ok : Bool), e = .returned (.tuple #[.int .i64 c, .bool ok]) ∧ Lx.ReadIs l c ok ∧ Below w.heap.size w w'

set_option maxRecDepth 100000 in
set_option maxHeartbeats 3200000 in
theorem read_main (s : ByteArray) (w : World) (hs : s.size ≤ 1000000000) (hz : s.data.toList ≠ [48, 115]) (hn : s.size ≠ 0) (env : UEnv w) :
    Calls Tryz.prog 79 #[.string s] w (ReadPost s.data.toList w) := by
  have hzb : (s.toList == [48, 115]) = false := by rw [Lib.toList_data, beq_eq_false_iff_ne]; exact hz
  have hsb := Lx.strne hn
  obtain ⟨L, hL⟩ : ∃ L, L = s.data.toList := ⟨_, rfl⟩
  have hdur : Lx.durS L = Lx.rd L 0 := Lx.dur_of (by rw [hL]; exact hz) (by rw [hL]; intro e; exact hn (by rw [Lib.size_eq, e]; rfl))
  have hst := Lx.rdcap_start L
  rw [← hL]
  have HL := Lib.hid hL
  have Hdur := Lib.hid hdur
  clear hz hn hL hdur
  go_enter Tryz.func79, Tryz.ntmps79
  go_wp2
  go_loopw [4, 5, 6] (fun a b c wr => ∃ (r : ByteArray) (u off : Nat) (sm : Int), a = .int .i64 sm ∧ b = .slice (some ⟨0, off, none⟩) (4 - u) (4 - u) ∧ c = .string r ∧ r.size ≤ s.size ∧ u ≤ 4 ∧ Hid ((u < 4 → off = 2 * u) ∧ Lx.RdCap L r.data.toList u sm) ∧ 0 ≤ sm ∧ sm ≤ 90061 * 68719476737 ∧ Below w.heap.size w wr) (fun _ _ c _ => Lx.strV c)
  case atStart => exact ⟨s, 0, 0, 0, rfl, rfl, rfl, Nat.le_refl _, by omega, Lib.hid ⟨fun _ => rfl, by rw [← HL.out]; exact hst⟩, by omega, by omega, Below.refl _ _⟩
  case round =>
    obtain ⟨r, u, off, sm, rfl, rfl, rfl, hrs, hu, hrel, sm0, sm1, hbel⟩ := hrel
    clear hst
    by_cases hr0 : r.size = 0
    · have hrb := Lx.streq hr0
      have hend : Lx.ReadIs L sm true := by
        have h := hrel.out.2
        rw [Lx.nil_of_size hr0] at h
        obtain ⟨a, e1, e2⟩ := Lx.rdcap_end h
        exact Lx.readIs_some (by rw [Hdur.out]; exact e1) e2
      have Hend := Lib.hid hend
      clear hend hr0 hrel
      go_wp2
      go_ret2
      exact ⟨_, _, rfl, Hend.out, hbel⟩
    · have hrb := Lx.strne hr0
      have envr := env.below hbel
      have hT := trim_left r wr
      obtain ⟨b, hb⟩ : ∃ b : ByteArray, b = ⟨(Lx.rests r.data.toList).toArray⟩ := ⟨_, rfl⟩
      have hbl : b.data.toList = Lx.rests r.data.toList := by rw [hb]
      rw [← hb] at hT
      obtain ⟨hbs, hD⟩ := Lx.digs_ext r b hbl
      obtain ⟨m, hm⟩ : ∃ m, m = r.size - b.size := ⟨_, rfl⟩
      rw [← hm] at hD
      have hmi : (r.size : Int) - (b.size : Int) = (m : Int) := by omega
      have hmr : m ≤ r.size := by omega
      have hne : r.data.toList ≠ [] := fun e => hr0 (by rw [Lib.size_eq, e]; rfl)
      obtain ⟨D, hDD⟩ : ∃ D, r.extract 0 m = D := ⟨_, rfl⟩
      rw [hDD] at hD
      have hDs : D.size ≤ 1000000000 := by rw [← hDD, Lx.size_ext r m hmr]; omega
      have Hm := Lib.hid hm
      have hno : Lx.rd r.data.toList u = none → Lx.ReadIs L 0 false := fun h => Lx.readIs_none (by rw [Hdur.out]; exact Lx.rdcap_none hrel.out.2 h)
      have HT := Lib.hid hT
      have Hno := Lib.hid hno
      have HDl := Lib.hid hD
      have Hbl := Lib.hid hbl
      clear hb hm hT hno
      by_cases hD0 : D.size = 0
      · have hDb := Lx.streq hD0
        have hbad := Hno.out (Lx.rd_bad u hne (.inl (by rw [← HDl.out]; exact Lx.nil_of_size hD0)))
        have Hbad := Lib.hid hbad
        clear hbad hD hbl hrel hD0 hne
        go_wp2_with fail
        refine HT.out.mono ?_
        rintro e w1 ⟨rfl, hb1⟩
        have hb1' := hbel.trans (hb1.mono hbel.size)
        go_wp2_with fail
        go_ret2
        exact ⟨_, _, rfl, Hbad.out, (hb1'.alloc hb1'.size _).trans ⟨rfl, rfl, rfl, Nat.le_refl _, fun _ _ => rfl⟩⟩
      · have hDp : 0 < D.size := by omega
        have hDb := Lx.strne hD0
        have hhead : (Lx.digs r.data.toList).head? = some D[0] := by rw [← HDl.out]; exact Lx.head_of D hDp
        have hdne : Lx.digs r.data.toList ≠ [] := by intro e; rw [e] at hhead; cases hhead
        by_cases h48 : D[0] = 48
        · have h48b : ((D[0].toNat : Int) == 48) = true := by rw [h48]; rfl
          have hbad := Hno.out (Lx.rd_bad u hne (.inr (by rw [hhead, h48])))
          have Hbad := Lib.hid hbad
          clear hbad hD hbl hrel hD0 hne h48 hhead hdne
          go_wp2_with fail
          refine HT.out.mono ?_
          rintro e w1 ⟨rfl, hb1⟩
          have hb1' := hbel.trans (hb1.mono hbel.size)
          go_wp2_with fail
          go_ret2
          exact ⟨_, _, rfl, Hbad.out, (hb1'.alloc hb1'.size _).trans ⟨rfl, rfl, rfl, Nat.le_refl _, fun _ _ => rfl⟩⟩
        · have h48b : ((D[0].toNat : Int) == 48) = false := by
            rw [beq_eq_false_iff_ne]; intro e; exact h48 (UInt8.toNat_inj.1 (by show D[0].toNat = 48; omega))
          have hh48 : (Lx.digs r.data.toList).head? ≠ some 48 := by rw [hhead]; intro e; exact h48 (Option.some.inj e)
          by_cases hb0 : b.size = 0
          · have hbb := Lx.streq hb0
            have hbad := Hno.out (Lx.rd_end u hne (by rw [← Hbl.out]; exact Lx.nil_of_size hb0))
            have Hbad := Lib.hid hbad
            clear hbad hD hbl hrel hD0 hne h48 hhead hdne hh48 hb0
            go_wp2_with fail
            refine HT.out.mono ?_
            rintro e w1 ⟨rfl, hb1⟩
            have hb1' := hbel.trans (hb1.mono hbel.size)
            go_wp2_with fail
            go_ret2
            exact ⟨_, _, rfl, Hbad.out, (hb1'.alloc hb1'.size _).trans ⟨rfl, rfl, rfl, Nat.le_refl _, fun _ _ => rfl⟩⟩
          · have hbp : 0 < b.size := by omega
            have hbb := Lx.strne hb0
            obtain ⟨c, tl, hct⟩ : ∃ c tl, b.data.toList = c :: tl := by
              cases h : b.data.toList with
              | nil => exact absurd (by rw [Lib.size_eq, h]; rfl) hb0
              | cons c tl => exact ⟨c, tl, rfl⟩
            have hc0 : b[0] = c := by
              have h1 := Lx.head_of b hbp
              rw [hct] at h1
              exact (Option.some.inj h1).symm
            have hrests : Lx.rests r.data.toList = c :: tl := by rw [← Hbl.out]; exact hct
            obtain ⟨hx1, hx2⟩ := Lx.ext_one b c tl hct
            by_cases hunit : Lx.unitIx c = 4 ∨ Lx.unitIx c < u
            · have hbad := Hno.out (Lx.rd_unit u hrests hunit)
              have HI := Lib.hid (fun (W : World) (B : Nat) hB hc E => index_unit b hbp u off hu hrel.out.1 B W hB hc E)
              rw [hc0, if_pos hunit] at HI
              have Hbad := Lib.hid hbad
              clear hbad hD hbl hrel hD0 hne h48 hhead hdne hh48 hb0 hct hc0 hrests hx1 hx2 hunit
              go_wp2_with fail
              refine HT.out.mono ?_
              rintro e w1 ⟨rfl, hb1⟩
              have hb1' := hbel.trans (hb1.mono hbel.size)
              have env1 := envr.below hb1
              have hba : Below w1.heap.size w1 (w1.alloc (.cells #[.string b] 9)) := (Below.refl _ _).alloc (Nat.le_refl _) _
              have enva := env1.below hba
              go_wp2_with fail
              refine (HI.out _ w1.heap.size (by simp) (by simp) enva).mono ?_
              rintro e w2 ⟨rfl, hb2⟩
              have hb2' := hb1'.trans ((hba.mono hb1'.size).trans (hb2.mono (Nat.le_trans hb1'.size hba.size)))
              go_wp2_with fail
              go_ret2
              exact ⟨_, _, rfl, Hbad.out, hb2'⟩
            · obtain ⟨ix, hix⟩ : ∃ ix, ix = Lx.unitIx c := ⟨_, rfl⟩
              have hix4 : ix < 4 := by have := Lx.unitIx_le c; omega
              have hux : u ≤ ix := by omega
              have hu4 : u < 4 := by omega
              have hoff := hrel.out.1 hu4
              obtain ⟨kx, hkx⟩ : ∃ kx, kx = ix - u := ⟨_, rfl⟩
              have hk3 : (kx : Int) ≤ 3 := by omega
              have hku : (kx : Int) < ((4 - u : Nat) : Int) := by omega
              have HI := Lib.hid (fun (W : World) (B : Nat) hB hc E => index_unit b hbp u off hu hrel.out.1 B W hB hc E)
              rw [hc0, if_neg hunit, ← hix, ← hkx] at HI
              have hnext := Lx.rdcap_step hrel.out.2 hrests hdne hh48 (by rw [← hix]; exact hix4) (by rw [← hix]; exact hux)
              rw [← hix] at hnext
              obtain ⟨off', ho', hcut⟩ := left_cut 0 off u ix kx hux hix4 hoff hkx
              obtain ⟨S, hS⟩ : ∃ S : Int, S = ((Lx.secs ix : Nat) : Int) := ⟨_, rfl⟩
              have hS4 : S = 86400 ∨ S = 3600 ∨ S = 60 ∨ S = 1 := by
                rcases Lx.secs_cases ix hix4 with ⟨_, e⟩ | ⟨_, e⟩ | ⟨_, e⟩ | ⟨_, e⟩ <;> rw [e] at hS <;> omega
              have hcell : ∀ W, UEnv W → W.cell? ⟨0, off + kx * 2 + 1, none⟩ = some (.int .i64 S) := by
                intro W E
                refine E.un (off + kx * 2 + 1) _ ?_
                have e1 : off + kx * 2 + 1 = 2 * ix + 1 := by omega
                rw [e1]
                rcases Lx.secs_cases ix hix4 with ⟨e, e2⟩ | ⟨e, e2⟩ | ⟨e, e2⟩ | ⟨e, e2⟩ <;> rw [e2] at hS <;> subst e <;> rw [hS] <;> rfl
              rw [← hS] at hnext
              obtain ⟨N, e7, hN0, hN1, hN, hNmin⟩ : ∃ (N e7 : Int), 0 ≤ N ∧ N ≤ 9223372036854775807 ∧ (∀ W, Env W → Calls Tryz.prog 89 #[.string D] W fun e w' => e = .returned (.tuple #[.int .i64 N, .int .i64 e7]) ∧ Below W.heap.size W w') ∧ ((e7 = 0 ∧ min N 68719476737 = ((min (Lx.dval 0 (Lx.digs r.data.toList)) 68719476737 : Nat) : Int)) ∨ (e7 = 7 ∧ (68719476737 : Int) = ((min (Lx.dval 0 (Lx.digs r.data.toList)) 68719476737 : Nat) : Int))) := by
                rcases Lx.part_num hdne hh48 with ⟨p1, p2⟩ | ⟨p1, p2⟩
                · have hbd := Lx.num_bd (Lx.digs r.data.toList)
                  rw [p2] at hbd
                  refine ⟨(Lx.dval 0 (Lx.digs r.data.toList) : Int), 0, by omega, hbd.2, fun W E => ?_, .inl ⟨rfl, by omega⟩⟩
                  have := number_any D W (by omega) E
                  rw [HDl.out, p1, p2] at this
                  exact this
                · have hz : Lx.numRes (Lx.digs r.data.toList) = 0 := (Lx.read_bad (by rw [p1]; omega)).1
                  refine ⟨0, 7, by omega, by omega, fun W E => ?_, .inr ⟨rfl, by omega⟩⟩
                  have := number_any D W (by omega) E
                  rw [HDl.out, p1, hz] at this
                  exact this
              obtain ⟨M, hM⟩ : ∃ M : Int, M = ((min (Lx.dval 0 (Lx.digs r.data.toList)) 68719476737 : Nat) : Int) := ⟨_, rfl⟩
              have hM0 : 0 ≤ M := by omega
              have hM1 : M ≤ 68719476737 := by omega
              rw [← hM] at hnext hNmin
              have hNx := Lx.rdcap_bd hnext
              have Hnext := Lib.hid (show (ix + 1 < 4 → off' = 2 * (ix + 1)) ∧ Lx.RdCap L (b.extract 1 b.size).data.toList (ix + 1) (sm + M * S) from ⟨ho', by rw [hx1]; exact hnext⟩)
              have Hcell := Lib.hid hcell
              have HN := Lib.hid hN
              have Hix := Lib.hid hix
              have hbsz : (b.extract 1 b.size).size + 1 = b.size := by rw [Lib.size_eq (b.extract 1 b.size), hx1]; omega
              have hrsz : b.size ≤ r.size := hbs
              have Hbsz := Lib.hid hbsz
              clear hnext hcell hN hD hbl hrel hD0 hne h48 hhead hdne hh48 hb0 hct hc0 hrests hx1 hx2 hunit ho' hM hoff hix hkx hS hbsz
              rcases hNmin with ⟨rfl, hNM⟩ | ⟨rfl, hNM⟩
              · rcases hS4 with rfl | rfl | rfl | rfl
                all_goals
                  try simp only [Int.mul_one] at Hnext hNx
                  go_wp2_with fail
                  refine HT.out.mono ?_
                  rintro e w1 ⟨rfl, hb1⟩
                  have hb1' := hbel.trans (hb1.mono hbel.size)
                  have env1 := envr.below hb1
                  have hba : Below w1.heap.size w1 (w1.alloc (.cells #[.string b] 9)) := (Below.refl _ _).alloc (Nat.le_refl _) _
                  have enva := env1.below hba
                  go_wp2_with fail
                  refine (HI.out _ w1.heap.size (by simp) (by simp) enva).mono ?_
                  rintro e w2 ⟨rfl, hb2⟩
                  have hb2' := hb1'.trans ((hba.mono hb1'.size).trans (hb2.mono (Nat.le_trans hb1'.size hba.size)))
                  have env2 := enva.below hb2
                  have hc2 : w2.cell? ⟨w1.heap.size, 0, none⟩ = some (.string b) := (hb2.cell (p := ⟨w1.heap.size, 0, none⟩) (by simp)).trans (by simp)
                  have hl2 : w1.heap.size < w2.heap.size := by have := hb2.size; simp at this; omega
                  go_wp2_with fail
                  refine (HN.out _ env2.env).mono ?_
                  rintro e w3 ⟨rfl, hb3⟩
                  have hb3' := hb2'.trans (hb3.mono hb2'.size)
                  have env3 := env2.below hb3
                  have hc3 := (hb3.cell (p := ⟨w1.heap.size, 0, none⟩) hl2).trans hc2
                  have hu3 := Hcell.out _ env3
                  clear hc2 hl2 env2 enva env1 hba hb1 hb2 hb3 hb1' hb2'
                  go_wp2_with fail
                  go_roundw
                  case rel => exact ⟨_, ix + 1, off', _, rfl, Lx.slice_eq _ (by omega), rfl, by have := Hbsz.out; omega, by omega, Hnext, hNx.1, hNx.2, hb3'⟩
                  case measure => show (b.extract 1 b.size).size < r.size; have := Hbsz.out; omega
              · obtain rfl : M = 68719476737 := hNM.symm
                rcases hS4 with rfl | rfl | rfl | rfl
                all_goals
                  go_wp2_with fail
                  refine HT.out.mono ?_
                  rintro e w1 ⟨rfl, hb1⟩
                  have hb1' := hbel.trans (hb1.mono hbel.size)
                  have env1 := envr.below hb1
                  have hba : Below w1.heap.size w1 (w1.alloc (.cells #[.string b] 9)) := (Below.refl _ _).alloc (Nat.le_refl _) _
                  have enva := env1.below hba
                  go_wp2_with fail
                  refine (HI.out _ w1.heap.size (by simp) (by simp) enva).mono ?_
                  rintro e w2 ⟨rfl, hb2⟩
                  have hb2' := hb1'.trans ((hba.mono hb1'.size).trans (hb2.mono (Nat.le_trans hb1'.size hba.size)))
                  have env2 := enva.below hb2
                  have hc2 : w2.cell? ⟨w1.heap.size, 0, none⟩ = some (.string b) := (hb2.cell (p := ⟨w1.heap.size, 0, none⟩) (by simp)).trans (by simp)
                  have hl2 : w1.heap.size < w2.heap.size := by have := hb2.size; simp at this; omega
                  go_wp2_with fail
                  refine (HN.out _ env2.env).mono ?_
                  rintro e w3 ⟨rfl, hb3⟩
                  have hb3' := hb2'.trans (hb3.mono hb2'.size)
                  have env3 := env2.below hb3
                  have hc3 := (hb3.cell (p := ⟨w1.heap.size, 0, none⟩) hl2).trans hc2
                  have hu3 := Hcell.out _ env3
                  clear hc2 hl2 env2 enva env1 hba hb1 hb2 hb3 hb1' hb2'
                  go_wp2_with fail
                  go_roundw
                  case rel => exact ⟨_, ix + 1, off', _, rfl, Lx.slice_eq _ (by omega), rfl, by have := Hbsz.out; omega, by omega, Hnext, hNx.1, hNx.2, hb3'⟩
                  case measure => show (b.extract 1 b.size).size < r.size; have := Hbsz.out; omega
theorem read_any (s : ByteArray) (w : World) (hs : s.size ≤ 1000000000) (env : UEnv w) :
    Calls Tryz.prog 79 #[.string s] w (ReadPost s.data.toList w) := by
  by_cases hz : s.data.toList = [48, 115]
  · refine (read_zero s hz w).mono ?_
    rintro e w' ⟨rfl, rfl⟩
    exact ⟨_, _, rfl, by rw [hz]; exact Lx.readIs_zero, Below.refl _ _⟩
  · by_cases hn : s.size = 0
    · refine (read_nil s hn w).mono ?_
      rintro e w' ⟨rfl, rfl⟩
      exact ⟨_, _, rfl, by rw [Lx.nil_of_size hn]; exact Lx.readIs_nil, Below.refl _ _⟩
    · exact read_main s w hs hz hn env
end Go.Proofs.YtpjocfkolnfjiaaGreatDoor
