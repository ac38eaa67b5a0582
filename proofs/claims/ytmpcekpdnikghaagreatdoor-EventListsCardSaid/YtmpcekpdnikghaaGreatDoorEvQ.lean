/- The walks of event.read at any text, of event.Parse. -/
import Derived.Test.YtmpcekpdnikghaaGreatDoorEvKa
import Derived.Test.YtmpcekpdnikghaaGreatDoorEvKb
import Derived.Test.YtmpcekpdnikghaaGreatDoorEvKc
import Derived.Test.YtmpcekpdnikghaaGreatDoorEvKd
namespace Go.Proofs.YtmpcekpdnikghaaGreatDoor
open Go.RowKit

theorem read_any (s : ByteArray) (ad : Option Addr) (m cap : Nat) (NS : List ByteArray) (w : World) (env : EEnv w) (h : Lx.IsNames w ad m NS) (hN : Lx.NOk NS) (hs : s.size ≤ 65536) :
    Calls Tryz.prog 21 #[.string s, .slice ad m cap] w (ReadEv NS s w) := by
  have hb := Lx.kindOf_bd (Lx.pAt (Lx.bl (Lx.spS s)) 1)
  have hc : Lx.kindOf (Lx.pAt (Lx.bl (Lx.spS s)) 1) = 0 ∨ Lx.kindOf (Lx.pAt (Lx.bl (Lx.spS s)) 1) = 1 ∨ Lx.kindOf (Lx.pAt (Lx.bl (Lx.spS s)) 1) = 2 ∨ Lx.kindOf (Lx.pAt (Lx.bl (Lx.spS s)) 1) = 3 ∨ Lx.kindOf (Lx.pAt (Lx.bl (Lx.spS s)) 1) = 4 ∨ Lx.kindOf (Lx.pAt (Lx.bl (Lx.spS s)) 1) = 5 ∨ Lx.kindOf (Lx.pAt (Lx.bl (Lx.spS s)) 1) = 6 ∨ Lx.kindOf (Lx.pAt (Lx.bl (Lx.spS s)) 1) = 7 ∨ Lx.kindOf (Lx.pAt (Lx.bl (Lx.spS s)) 1) = 8 := by omega
  rcases hc with hk | hk | hk | hk | hk | hk | hk | hk | hk
  · exact read_0 s ad m cap NS w env h hN hs hk
  · exact read_1 s ad m cap NS w env h hN hs hk
  · exact read_2 s ad m cap NS w env h hN hs hk
  · exact read_3 s ad m cap NS w env h hN hs hk
  · exact read_4 s ad m cap NS w env h hN hs hk
  · exact read_5 s ad m cap NS w env h hN hs hk
  · exact read_6 s ad m cap NS w env h hN hs hk
  · exact read_7 s ad m cap NS w env h hN hs hk
  · exact read_8 s ad m cap NS w env h hN hs hk
/-- What Parse gives, names and lengths included. -/
def Lx.ParseEv (NS : List ByteArray) (s : ByteArray) (o : Lx.EvV) (x : Int) : Prop :=
  (Lx.nmErr NS ≠ 0 ∧ o = Lx.evZ ∧ x = Lx.nmErr NS) ∨ (Lx.nmErr NS = 0 ∧ 65536 < s.size ∧ o = Lx.evZ ∧ x = 11) ∨ (Lx.nmErr NS = 0 ∧ s.size ≤ 65536 ∧ Lx.ReadsEv NS s.data.toList o x)
theorem Lx.parseEv_one {NS : List ByteArray} {s : ByteArray} {o o' : Lx.EvV} {x x' : Int} (h : Lx.ParseEv NS s o x) (h' : Lx.ParseEv NS s o' x') : o = o' ∧ x = x' := by
  rcases h with ⟨a, b, c⟩ | ⟨a, b, c, d⟩ | ⟨a, b, c⟩ <;> rcases h' with ⟨a', b', c'⟩ | ⟨a', b', c', d'⟩ | ⟨a', b', c'⟩
  · exact ⟨b.trans b'.symm, c.trans c'.symm⟩
  · exact absurd a' a
  · exact absurd a' a
  · exact absurd a a'
  · exact ⟨c.trans c'.symm, d.trans d'.symm⟩
  · omega
  · exact absurd a a'
  · omega
  · exact Lx.readsEv_one ((Lx.nmErr_ok NS).1 a) c c'
def ParseIs (NS : List ByteArray) (s : ByteArray) (w : World) (e : Ending) (w' : World) : Prop := ∃ o x, e = .returned (.tuple #[o.val, .int .i64 x]) ∧ Lx.ParseEv NS s o x ∧ Below w.heap.size w w'
set_option maxRecDepth 100000 in
theorem evparse_any (s : ByteArray) (ad : Option Addr) (m cap : Nat) (NS : List ByteArray) (w : World) (env : EEnv w) (h : Lx.IsNames w ad m NS) (hz : ∀ x ∈ NS, x.size ≤ maxLen) (hm : m ≤ maxLen) :
    Calls Tryz.prog 7 #[.string s, .slice ad m cap] w (ParseIs NS s w) := by
  have hba : Below w.heap.size w (w.alloc (.cells #[.int .i64 0, .int .i64 0, .int .i64 0, .int .i64 0, .int .i64 0, .int .i64 0, .int .i64 0, .int .i64 0] 26)) := (Below.refl _ w).alloc (Nat.le_refl _) _
  have BO0 := Lib.hid (Lx.EvBox.new w 0 0 0 0 0 0 0 0 26)
  have B0 := Lib.hid hba
  have HN2 := Lib.hid (fun W (b : Below w.heap.size w W) => names_any ad m cap NS W (h.below b) hz hm)
  by_cases hn : Lx.nmErr NS = 0
  · rw [hn] at HN2
    have HNN := Lib.hid hn
    by_cases hbig : 65536 < s.size
    · have hbi : (65536 : Int) < (s.size : Int) := by omega
      have HBG := Lib.hid hbig
      clear h hz env hn hm hba hbig
      go_enter Tryz.func7, Tryz.ntmps7
      go_wp2_with fail
      refine (HN2.out _ B0.out).mono ?_
      rintro e w1 ⟨rfl, c1⟩
      have B1 := Lib.hid (B0.out.trans (c1.mono B0.out.size))
      have BO1 := Lib.hid (BO0.out.below c1)
      clear c1
      have z0 := (BO1.out.2 0 _ rfl).1
      have y0 := (BO1.out.2 0 _ rfl).2
      have z1 := (BO1.out.2 1 _ rfl).1
      have y1 := (BO1.out.2 1 _ rfl).2
      have z2 := (BO1.out.2 2 _ rfl).1
      have y2 := (BO1.out.2 2 _ rfl).2
      have z3 := (BO1.out.2 3 _ rfl).1
      have y3 := (BO1.out.2 3 _ rfl).2
      have z4 := (BO1.out.2 4 _ rfl).1
      have y4 := (BO1.out.2 4 _ rfl).2
      have z5 := (BO1.out.2 5 _ rfl).1
      have y5 := (BO1.out.2 5 _ rfl).2
      have z6 := (BO1.out.2 6 _ rfl).1
      have y6 := (BO1.out.2 6 _ rfl).2
      have z7 := (BO1.out.2 7 _ rfl).1
      have y7 := (BO1.out.2 7 _ rfl).2
      go_wp2_with fail
      refine bodyPost_ret (v := .tuple #[.agg #[.int .i64 0, .int .i64 0, .int .i64 0, .int .i64 0, .int .i64 0, .int .i64 0, .int .i64 0, .int .i64 0], .int .i64 11]) (by simp [results, Tryz.results7, go_sem, z0, z1, z2, z3, z4, z5, z6, z7]) rfl ?_
      exact ⟨Lx.evZ, 11, rfl, .inr (.inl ⟨HNN.out, HBG.out, rfl, rfl⟩), ((((((((B1.out.setCell (p := ⟨w.heap.size, 0, none⟩) (Nat.le_refl _) _).setCell (p := ⟨w.heap.size, 1, none⟩) (Nat.le_refl _) _).setCell (p := ⟨w.heap.size, 2, none⟩) (Nat.le_refl _) _).setCell (p := ⟨w.heap.size, 3, none⟩) (Nat.le_refl _) _).setCell (p := ⟨w.heap.size, 4, none⟩) (Nat.le_refl _) _).setCell (p := ⟨w.heap.size, 5, none⟩) (Nat.le_refl _) _).setCell (p := ⟨w.heap.size, 6, none⟩) (Nat.le_refl _) _).setCell (p := ⟨w.heap.size, 7, none⟩) (Nat.le_refl _) _)⟩
    · have hbi : (s.size : Int) ≤ 65536 := by omega
      have hbd : decide ((65536 : Int) < (s.size : Int)) = false := decide_eq_false (by omega)
      have HR := Lib.hid (fun W (b : Below w.heap.size w W) => read_any s ad m cap NS W (env.below b) (h.below b) ((Lx.nmErr_ok NS).1 hn) (by omega))
      have HBG := Lib.hid hbig
      unfold ReadEv at HR
      clear h hz env hn hm hba hbig
      go_enter Tryz.func7, Tryz.ntmps7
      go_wp2_with fail
      refine (HN2.out _ B0.out).mono ?_
      rintro e w1 ⟨rfl, c1⟩
      have B1 := Lib.hid (B0.out.trans (c1.mono B0.out.size))
      have BO1 := Lib.hid (BO0.out.below c1)
      clear c1
      go_wp2_with fail
      refine (HR.out _ B1.out).mono ?_
      rintro e w2 ⟨⟨ok, ot, oj, od, oa, orr, oy, on⟩, x, rfl, hrd, c2⟩
      have HRD := Lib.hid hrd
      have B2 := Lib.hid (B1.out.trans (c2.mono B1.out.size))
      have BO2 := Lib.hid (BO1.out.below c2)
      unfold Lx.EvV.val
      dsimp only
      clear hrd c2 BO1
      have z0 := (BO2.out.2 0 _ rfl).1
      have y0 := (BO2.out.2 0 _ rfl).2
      have z1 := (BO2.out.2 1 _ rfl).1
      have y1 := (BO2.out.2 1 _ rfl).2
      have z2 := (BO2.out.2 2 _ rfl).1
      have y2 := (BO2.out.2 2 _ rfl).2
      have z3 := (BO2.out.2 3 _ rfl).1
      have y3 := (BO2.out.2 3 _ rfl).2
      have z4 := (BO2.out.2 4 _ rfl).1
      have y4 := (BO2.out.2 4 _ rfl).2
      have z5 := (BO2.out.2 5 _ rfl).1
      have y5 := (BO2.out.2 5 _ rfl).2
      have z6 := (BO2.out.2 6 _ rfl).1
      have y6 := (BO2.out.2 6 _ rfl).2
      have z7 := (BO2.out.2 7 _ rfl).1
      have y7 := (BO2.out.2 7 _ rfl).2
      go_wp2_with fail
      refine bodyPost_ret (v := .tuple #[.agg #[.int .i64 ok, .int .i64 ot, .int .i64 oj, .int .i64 od, .int .i64 oa, .int .i64 orr, .int .i64 oy, .int .i64 on], .int .i64 x]) (by simp [results, Tryz.results7, go_sem, z0, z1, z2, z3, z4, z5, z6, z7]) rfl ?_
      exact ⟨⟨ok, ot, oj, od, oa, orr, oy, on⟩, x, rfl, .inr (.inr ⟨HNN.out, by have := HBG.out; omega, HRD.out⟩), ((((((((B2.out.setCell (p := ⟨w.heap.size, 0, none⟩) (Nat.le_refl _) _).setCell (p := ⟨w.heap.size, 1, none⟩) (Nat.le_refl _) _).setCell (p := ⟨w.heap.size, 2, none⟩) (Nat.le_refl _) _).setCell (p := ⟨w.heap.size, 3, none⟩) (Nat.le_refl _) _).setCell (p := ⟨w.heap.size, 4, none⟩) (Nat.le_refl _) _).setCell (p := ⟨w.heap.size, 5, none⟩) (Nat.le_refl _) _).setCell (p := ⟨w.heap.size, 6, none⟩) (Nat.le_refl _) _).setCell (p := ⟨w.heap.size, 7, none⟩) (Nat.le_refl _) _)⟩
  · have HNN := Lib.hid hn
    have hne : (Lx.nmErr NS != 0) = true := by rw [bne_iff_ne]; exact hn
    obtain ⟨x, hx⟩ : ∃ x, Lx.nmErr NS = x := ⟨_, rfl⟩
    have HXX := Lib.hid hx
    rw [hx] at HN2 hne
    clear h hz env hn hm hba hx
    go_enter Tryz.func7, Tryz.ntmps7
    go_wp2_with fail
    refine (HN2.out _ B0.out).mono ?_
    rintro e w1 ⟨rfl, c1⟩
    have B1 := Lib.hid (B0.out.trans (c1.mono B0.out.size))
    have BO1 := Lib.hid (BO0.out.below c1)
    clear c1
    have z0 := (BO1.out.2 0 _ rfl).1
    have y0 := (BO1.out.2 0 _ rfl).2
    have z1 := (BO1.out.2 1 _ rfl).1
    have y1 := (BO1.out.2 1 _ rfl).2
    have z2 := (BO1.out.2 2 _ rfl).1
    have y2 := (BO1.out.2 2 _ rfl).2
    have z3 := (BO1.out.2 3 _ rfl).1
    have y3 := (BO1.out.2 3 _ rfl).2
    have z4 := (BO1.out.2 4 _ rfl).1
    have y4 := (BO1.out.2 4 _ rfl).2
    have z5 := (BO1.out.2 5 _ rfl).1
    have y5 := (BO1.out.2 5 _ rfl).2
    have z6 := (BO1.out.2 6 _ rfl).1
    have y6 := (BO1.out.2 6 _ rfl).2
    have z7 := (BO1.out.2 7 _ rfl).1
    have y7 := (BO1.out.2 7 _ rfl).2
    go_wp2_with fail
    refine bodyPost_ret (v := .tuple #[.agg #[.int .i64 0, .int .i64 0, .int .i64 0, .int .i64 0, .int .i64 0, .int .i64 0, .int .i64 0, .int .i64 0], .int .i64 x]) (by simp [results, Tryz.results7, go_sem, z0, z1, z2, z3, z4, z5, z6, z7]) rfl ?_
    exact ⟨Lx.evZ, x, rfl, .inl ⟨HNN.out, rfl, HXX.out.symm⟩, ((((((((B1.out.setCell (p := ⟨w.heap.size, 0, none⟩) (Nat.le_refl _) _).setCell (p := ⟨w.heap.size, 1, none⟩) (Nat.le_refl _) _).setCell (p := ⟨w.heap.size, 2, none⟩) (Nat.le_refl _) _).setCell (p := ⟨w.heap.size, 3, none⟩) (Nat.le_refl _) _).setCell (p := ⟨w.heap.size, 4, none⟩) (Nat.le_refl _) _).setCell (p := ⟨w.heap.size, 5, none⟩) (Nat.le_refl _) _).setCell (p := ⟨w.heap.size, 6, none⟩) (Nat.le_refl _) _).setCell (p := ⟨w.heap.size, 7, none⟩) (Nat.le_refl _) _)⟩
end Go.Proofs.YtmpcekpdnikghaaGreatDoor
