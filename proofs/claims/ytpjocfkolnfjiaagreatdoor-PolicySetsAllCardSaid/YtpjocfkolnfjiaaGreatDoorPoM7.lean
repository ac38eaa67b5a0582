/- Policies: the function behind each key that sets its value; Set. Small lemmas on rows of cells that the call owns; the info of the type string. Policies: the default; what is blank; the words of a text. Policies: Print. (printed by gen_pq.py) -/
import Derived.Test.YtpjocfkolnfjiaaGreatDoorPoM6
import Derived.Test.YtpjocfkolnfjiaaGreatDoorPoM5
import Derived.Test.YtpjocfkolnfjiaaGreatDoorPoM1
import Derived.Test.YtpjocfkolnfjiaaGreatDoorProg
import Derived.WalkKit
import Derived.Laws.AppendOwn
import Derived.Below
import Derived.BigQuiet
import Derived.Deep.QuietTactic
import Derived.Test.YtpjocfkolnfjiaaGreatDoorShelf3
namespace Go.Proofs.YtpjocfkolnfjiaaGreatDoor
open Go.RowKit

namespace Lx
/-- A whole policy, laid into a box. -/
def putPol (w : World) (g : Nat) (x : PolV) : World := (((((((((((((((w.setCell ⟨g, 0, none⟩ (.int .i64 x.cap)).setCell ⟨g, 1, none⟩ (.int .i64 x.pri)).setCell ⟨g, 2, none⟩ (.int .i64 x.spl)).setCell ⟨g, 3, none⟩ (.int .i64 x.dl)).setCell ⟨g, 4, none⟩ (.int .i64 x.mis)).setCell ⟨g, 5, none⟩ (.int .i64 x.keep)).setCell ⟨g, 6, none⟩ (.int .i64 x.lt)).setCell ⟨g, 7, none⟩ (.int .i64 x.lu)).setCell ⟨g, 8, none⟩ (.int .i64 x.bf)).setCell ⟨g, 9, none⟩ (.int .i64 x.bo)).setCell ⟨g, 10, none⟩ (.int .i64 x.bp)).setCell ⟨g, 11, none⟩ (.int .i64 x.rm)).setCell ⟨g, 12, none⟩ (.int .i64 x.rb)).setCell ⟨g, 13, none⟩ (.int .i64 x.rc)).setCell ⟨g, 14, none⟩ (.int .i64 x.rj))
theorem PSt.put {g : Nat} {w wx : World} {q : PolV} (h : PSt g w wx q) (x : PolV) : PSt g w (putPol wx g x) x := by
  have h1 := h.set (j := 0) (q' := { q with cap := x.cap }) (v := .int .i64 x.cap) (by omega) rfl
  have h2 := h1.set (j := 1) (q' := { q with cap := x.cap, pri := x.pri }) (v := .int .i64 x.pri) (by omega) rfl
  have h3 := h2.set (j := 2) (q' := { q with cap := x.cap, pri := x.pri, spl := x.spl }) (v := .int .i64 x.spl) (by omega) rfl
  have h4 := h3.set (j := 3) (q' := { q with cap := x.cap, pri := x.pri, spl := x.spl, dl := x.dl }) (v := .int .i64 x.dl) (by omega) rfl
  have h5 := h4.set (j := 4) (q' := { q with cap := x.cap, pri := x.pri, spl := x.spl, dl := x.dl, mis := x.mis }) (v := .int .i64 x.mis) (by omega) rfl
  have h6 := h5.set (j := 5) (q' := { q with cap := x.cap, pri := x.pri, spl := x.spl, dl := x.dl, mis := x.mis, keep := x.keep }) (v := .int .i64 x.keep) (by omega) rfl
  have h7 := h6.set (j := 6) (q' := { q with cap := x.cap, pri := x.pri, spl := x.spl, dl := x.dl, mis := x.mis, keep := x.keep, lt := x.lt }) (v := .int .i64 x.lt) (by omega) rfl
  have h8 := h7.set (j := 7) (q' := { q with cap := x.cap, pri := x.pri, spl := x.spl, dl := x.dl, mis := x.mis, keep := x.keep, lt := x.lt, lu := x.lu }) (v := .int .i64 x.lu) (by omega) rfl
  have h9 := h8.set (j := 8) (q' := { q with cap := x.cap, pri := x.pri, spl := x.spl, dl := x.dl, mis := x.mis, keep := x.keep, lt := x.lt, lu := x.lu, bf := x.bf }) (v := .int .i64 x.bf) (by omega) rfl
  have h10 := h9.set (j := 9) (q' := { q with cap := x.cap, pri := x.pri, spl := x.spl, dl := x.dl, mis := x.mis, keep := x.keep, lt := x.lt, lu := x.lu, bf := x.bf, bo := x.bo }) (v := .int .i64 x.bo) (by omega) rfl
  have h11 := h10.set (j := 10) (q' := { q with cap := x.cap, pri := x.pri, spl := x.spl, dl := x.dl, mis := x.mis, keep := x.keep, lt := x.lt, lu := x.lu, bf := x.bf, bo := x.bo, bp := x.bp }) (v := .int .i64 x.bp) (by omega) rfl
  have h12 := h11.set (j := 11) (q' := { q with cap := x.cap, pri := x.pri, spl := x.spl, dl := x.dl, mis := x.mis, keep := x.keep, lt := x.lt, lu := x.lu, bf := x.bf, bo := x.bo, bp := x.bp, rm := x.rm }) (v := .int .i64 x.rm) (by omega) rfl
  have h13 := h12.set (j := 12) (q' := { q with cap := x.cap, pri := x.pri, spl := x.spl, dl := x.dl, mis := x.mis, keep := x.keep, lt := x.lt, lu := x.lu, bf := x.bf, bo := x.bo, bp := x.bp, rm := x.rm, rb := x.rb }) (v := .int .i64 x.rb) (by omega) rfl
  have h14 := h13.set (j := 13) (q' := { q with cap := x.cap, pri := x.pri, spl := x.spl, dl := x.dl, mis := x.mis, keep := x.keep, lt := x.lt, lu := x.lu, bf := x.bf, bo := x.bo, bp := x.bp, rm := x.rm, rb := x.rb, rc := x.rc }) (v := .int .i64 x.rc) (by omega) rfl
  have h15 := h14.set (j := 14) (q' := { q with cap := x.cap, pri := x.pri, spl := x.spl, dl := x.dl, mis := x.mis, keep := x.keep, lt := x.lt, lu := x.lu, bf := x.bf, bo := x.bo, bp := x.bp, rm := x.rm, rb := x.rb, rc := x.rc, rj := x.rj }) (v := .int .i64 x.rj) (by omega) rfl
  exact h15
end Lx
/-- The function behind a key sets the key's value. -/
theorem setFn_any (s : ByteArray) (hs : s.size ≤ 1000000) {k b1 b2 b3 b4 B g : Nat} (hk : k < 8) (hgB : g < B) (w : World) (KB : Lx.KeyBox w B b1 b2 b3 b4) :
    ∃ (F : FuncId) (C : Array Value), Lx.setF b1 b2 b3 b4 k = .func (.func F) #[] C ∧ (∀ (a : Array Value) (W : World), (callFunc F a).run Tryz.prog W = .ok (.enter F a) W) ∧
      ∀ (W : World) (q : Lx.PolV), Below w.heap.size w W → UEnv W → Lx.PSt g W W q → Calls Tryz.prog F (#[.pointer (some ⟨g, 0, none⟩), .string s] ++ C) W (Lx.SetPost g W (Lx.rdK k s) k q) := by
  obtain h | h | h | h | h | h | h | h : k = 0 ∨ k = 1 ∨ k = 2 ∨ k = 3 ∨ k = 4 ∨ k = 5 ∨ k = 6 ∨ k = 7 := by omega
  · subst h
    refine ⟨52, _, rfl, fun a W => Lx.enterF Tryz.func52 (by kernel_rfl) rfl a W, fun W q hb E P => ?_⟩
    have K := KB.below hb
    have n := K.n1
    refine (numSet1_any g b1 (b1 + 1) (b1 + 2) 1 1000 q.cap s hs W E P.size (P.cell 0 _ rfl) (P.fz 0 (by omega)) K.a0 K.a1 K.a2 (by omega) (by omega) (by omega)).mono ?_
    rintro e w' ⟨rfl, w1, b, rfl⟩
    exact ⟨rfl, { q with cap := _ }, (P.below b).set (j := 0) (by omega) rfl, fun _ => rfl⟩
  · subst h
    refine ⟨52, _, rfl, fun a W => Lx.enterF Tryz.func52 (by kernel_rfl) rfl a W, fun W q hb E P => ?_⟩
    have K := KB.below hb
    have n := K.n2
    refine (numSet2_any g b2 (b2 + 1) (b2 + 2) 0 100 q.pri s hs W E P.size (P.cell 1 _ rfl) (P.fz 1 (by omega)) K.p0 K.p1 K.p2 (by omega) (by omega) (by omega)).mono ?_
    rintro e w' ⟨rfl, w1, b, rfl⟩
    exact ⟨rfl, { q with pri := _ }, (P.below b).set (j := 1) (by omega) rfl, fun _ => rfl⟩
  · subst h
    refine ⟨56, _, rfl, fun a W => Lx.enterF Tryz.func56 (by kernel_rfl) rfl a W, fun W q hb E P => ?_⟩
    have K := KB.below hb
    refine (timSet3_any g b3 q.spl s hs W E P.size (P.cell 2 _ rfl) (P.fz 2 (by omega)) K.s0).mono ?_
    rintro e w' ⟨rfl, w1, b, rfl⟩
    exact ⟨rfl, { q with spl := _ }, (P.below b).set (j := 2) (by omega) rfl, fun _ => rfl⟩
  · subst h
    refine ⟨56, _, rfl, fun a W => Lx.enterF Tryz.func56 (by kernel_rfl) rfl a W, fun W q hb E P => ?_⟩
    have K := KB.below hb
    refine (timSet4_any g b4 q.dl s hs W E P.size (P.cell 3 _ rfl) (P.fz 3 (by omega)) K.d0).mono ?_
    rintro e w' ⟨rfl, w1, b, rfl⟩
    exact ⟨rfl, { q with dl := _ }, (P.below b).set (j := 3) (by omega) rfl, fun _ => rfl⟩
  · subst h
    exact ⟨35, _, rfl, fun a W => Lx.enterF Tryz.func35 (by kernel_rfl) rfl a W, fun W q _ E P => setMis_any g s hs q W E P⟩
  · subst h
    exact ⟨37, _, rfl, fun a W => Lx.enterF Tryz.func37 (by kernel_rfl) rfl a W, fun W q _ E P => setLim_any g s hs q W E P⟩
  · subst h
    exact ⟨39, _, rfl, fun a W => Lx.enterF Tryz.func39 (by kernel_rfl) rfl a W, fun W q _ E P => setBr_any g s hs q W E P⟩
  · subst h
    exact ⟨41, _, rfl, fun a W => Lx.enterF Tryz.func41 (by kernel_rfl) rfl a W, fun W q _ E P => setRe_any g s hs q W E P⟩
theorem Lx.setPol_none {q : Lx.PolV} {key s : ByteArray} (h : Lx.keyIx key.data.toList = 8) : Lx.setPol q key s = (Lx.polZ, 15) := by
  unfold Lx.setPol; rw [h, if_neg (by omega)]
theorem Lx.setPol_at {q : Lx.PolV} {key s : ByteArray} {k : Nat} (hk : k < 8) (h : Lx.keyIx key.data.toList = k) : Lx.setPol q key s = Lx.setK k s q := by
  unfold Lx.setPol; rw [h, if_pos hk]
theorem Lx.zeroC {j : Nat} (h : j < 15) : ((#[.int .i64 0, .int .i64 0, .int .i64 0, .int .i64 0, .int .i64 0, .int .i64 0, .int .i64 0, .int .i64 0, .int .i64 0, .int .i64 0, .int .i64 0, .int .i64 0, .int .i64 0, .int .i64 0, .int .i64 0] : Array Value))[j]? = some (.int .i64 0) := by
  match j, h with
  | 0, _ => rfl
  | 1, _ => rfl
  | 2, _ => rfl
  | 3, _ => rfl
  | 4, _ => rfl
  | 5, _ => rfl
  | 6, _ => rfl
  | 7, _ => rfl
  | 8, _ => rfl
  | 9, _ => rfl
  | 10, _ => rfl
  | 11, _ => rfl
  | 12, _ => rfl
  | 13, _ => rfl
  | 14, _ => rfl
set_option maxRecDepth 100000 in
set_option maxHeartbeats 3200000 in
/-- A policy with another value. -/
theorem polSet_any (p : Lx.PolV) (key s : ByteArray) (hs : s.size ≤ 1000000) (w : World) (env : UEnv w) :
    Calls Tryz.prog 8 #[p.val, .string key, .string s] w fun e w' => e = .returned (.tuple #[(Lx.setPol p key s).1.val, .int .i64 (Lx.setPol p key s).2]) ∧ Below w.heap.size w w' := by
  obtain ⟨W0, hW0⟩ : ∃ W0, W0 = w.alloc (.cells p.cells.toArray 29) := ⟨_, rfl⟩
  obtain ⟨W1, hW1⟩ : ∃ W1, W1 = W0.alloc (.cells #[.int .i64 0, .int .i64 0, .int .i64 0, .int .i64 0, .int .i64 0, .int .i64 0, .int .i64 0, .int .i64 0, .int .i64 0, .int .i64 0, .int .i64 0, .int .i64 0, .int .i64 0, .int .i64 0, .int .i64 0] 29) := ⟨_, rfl⟩
  have e0 : W0.heap.size = w.heap.size + 1 := by rw [hW0]; simp
  have hlt : w.heap.size < W1.heap.size := by rw [hW1]; simp; omega
  have hlt1 : w.heap.size + 1 < W1.heap.size := by rw [hW1]; simp; omega
  have B1 := Lib.hid (show Below w.heap.size w W1 from by rw [hW1, hW0]; exact ((Below.refl _ w).alloc (Nat.le_refl _) _).alloc (by simp) _)
  have P1 : Lx.PSt w.heap.size W1 W1 p := by
    refine ⟨hlt, env.env.lt, World.grownBy.refl _ _, fun j v hj => ?_, fun j hj => ?_⟩
    · rw [hW1, World.cell?_alloc_past _ _ _ (by show w.heap.size < W0.heap.size; omega), hW0]
      exact Lx.cellR _ _ _ _ _ (by rw [List.getElem?_toArray]; exact hj)
    · rw [hW1, hW0]; simp
  have HZ0 : ∀ j, j < 15 → W1.cell? ⟨w.heap.size + 1, j, none⟩ = some (.int .i64 0) ∧ W1.frozen? ⟨w.heap.size + 1, j, none⟩ = false := fun j hj => by
    rw [hW1, ← e0]
    exact ⟨Lx.cellR _ _ _ _ _ (Lx.zeroC hj), by simp⟩
  have HZ := Lib.hid (show ∀ wx, W1.grownBy wx (some w.heap.size) → Lx.PSt (w.heap.size + 1) wx wx Lx.polZ from fun wx hg => by
    have hb := hg.block (w.heap.size + 1) hlt1 (fun c => by injection c with c; omega)
    refine ⟨Nat.lt_of_lt_of_le hlt1 hg.size, Nat.le_succ_of_le env.env.lt, World.grownBy.refl _ _, fun j v hj => ?_, fun j hj => ?_⟩
    · have hj15 : j < 15 := (List.getElem?_eq_some_iff.1 hj).1
      have hv : v = .int .i64 0 := by
        have := Lx.zeroC hj15
        rw [List.getElem?_toArray] at this
        exact Option.some.inj (hj.symm.trans this)
      rw [hv]
      exact (World.cell?_of_block (w := W1) (a := ⟨w.heap.size + 1, j, none⟩) hb).trans (HZ0 j hj15).1
    · exact (World.frozen?_of_block (w := W1) (a := ⟨w.heap.size + 1, j, none⟩) hb).trans (HZ0 j hj).2)
  clear HZ0
  have HB := Lib.hid (show ∀ wx, Below W1.heap.size W1 wx → W1.grownBy wx (some w.heap.size) from fun wx b => ⟨b.os, b.tape, b.output, b.size, fun k hk _ => b.block k hk⟩)
  have HF := Lib.hid (fun W => find_any key W)
  have HFs := Lib.hid (fun (b : Nat) (W : World) (x : Int) hc => first_any b 1 1 [x] W rfl (by decide) hc)
  have HS := Lib.hid (show ∀ k, k < 8 → Lx.keyIx key.data.toList = k → Lx.setPol p key s = Lx.setK k s p from fun k hk h => Lx.setPol_at hk h)
  have HN := Lib.hid (show Lx.keyIx key.data.toList = 8 → Lx.setPol p key s = (Lx.polZ, 15) from fun h => Lx.setPol_none h)
  have env1 := env.below B1.out
  obtain ⟨R, hR⟩ : ∃ R, R = Lx.setPol p key s := ⟨_, rfl⟩
  rw [← hR] at HS HN ⊢
  have HP := Lib.hid P1
  obtain ⟨P, hP⟩ : ∃ P, P = p := ⟨_, rfl⟩
  rw [← hP] at HS HP
  rw [← hP] at hR
  clear hR P1 env
  obtain ⟨cap, pri, spl, dl, mis, keep, lt, lu, bf, bo, bp, rm, rb, rc, rj⟩ := p
  unfold Lx.PolV.cells at hW0
  dsimp only at hW0
  show Calls Tryz.prog 8 #[.agg #[.int .i64 cap, .int .i64 pri, .int .i64 spl, .int .i64 dl, .int .i64 mis, .int .i64 keep, .int .i64 lt, .int .i64 lu, .int .i64 bf, .int .i64 bo, .int .i64 bp, .int .i64 rm, .int .i64 rb, .int .i64 rc, .int .i64 rj], .string key, .string s] w _
  go_enter Tryz.func8, Tryz.ntmps8
  go_upto_region 1 with (fail)
  rw [show (w.alloc (.cells #[.int .i64 cap, .int .i64 pri, .int .i64 spl, .int .i64 dl, .int .i64 mis, .int .i64 keep, .int .i64 lt, .int .i64 lu, .int .i64 bf, .int .i64 bo, .int .i64 bp, .int .i64 rm, .int .i64 rb, .int .i64 rc, .int .i64 rj] 29)) = W0 from hW0.symm]
  rw [show W0.alloc (.cells #[.int .i64 0, .int .i64 0, .int .i64 0, .int .i64 0, .int .i64 0, .int .i64 0, .int .i64 0, .int .i64 0, .int .i64 0, .int .i64 0, .int .i64 0, .int .i64 0, .int .i64 0, .int .i64 0, .int .i64 0] 29) = W1 from hW1.symm]
  clear hW0 hW1
  go_wp2_with fail
  refine (HF.out _).mono ?_
  rintro e w2 (⟨hk, rfl, c2⟩ | ⟨k, b1, b2, b3, b4, hk, hx, rfl, kb, c2⟩)
  · have G := Lib.hid (HN.out hk)
    have Z := Lib.hid (HZ.out w2 (HB.out w2 c2))
    have z0 := Z.out.cell 0 _ rfl
    have y0 := Z.out.fz 0 (by omega)
    have z1 := Z.out.cell 1 _ rfl
    have y1 := Z.out.fz 1 (by omega)
    have z2 := Z.out.cell 2 _ rfl
    have y2 := Z.out.fz 2 (by omega)
    have z3 := Z.out.cell 3 _ rfl
    have y3 := Z.out.fz 3 (by omega)
    have z4 := Z.out.cell 4 _ rfl
    have y4 := Z.out.fz 4 (by omega)
    have z5 := Z.out.cell 5 _ rfl
    have y5 := Z.out.fz 5 (by omega)
    have z6 := Z.out.cell 6 _ rfl
    have y6 := Z.out.fz 6 (by omega)
    have z7 := Z.out.cell 7 _ rfl
    have y7 := Z.out.fz 7 (by omega)
    have z8 := Z.out.cell 8 _ rfl
    have y8 := Z.out.fz 8 (by omega)
    have z9 := Z.out.cell 9 _ rfl
    have y9 := Z.out.fz 9 (by omega)
    have z10 := Z.out.cell 10 _ rfl
    have y10 := Z.out.fz 10 (by omega)
    have z11 := Z.out.cell 11 _ rfl
    have y11 := Z.out.fz 11 (by omega)
    have z12 := Z.out.cell 12 _ rfl
    have y12 := Z.out.fz 12 (by omega)
    have z13 := Z.out.cell 13 _ rfl
    have y13 := Z.out.fz 13 (by omega)
    have z14 := Z.out.cell 14 _ rfl
    have y14 := Z.out.fz 14 (by omega)
    have B2 := Lib.hid (B1.out.trans (c2.mono B1.out.size))
    have hlt2 : w.heap.size + 1 < w2.heap.size := Nat.lt_of_lt_of_le hlt1 c2.size
    clear hk c2 HS HN HF HFs HP HZ HB e0 hlt hlt1 env1 hP
    have g3 : ∀ (q : Addr) (W : World), (store q .nilFunc).run Tryz.prog W = stored Tryz.prog W q .nilFunc .plain := fun q W => run_store Tryz.prog W q _ _ rfl
    go_wp2_with fail
    obtain ⟨W4, hW4⟩ : ∃ W4, W4 = ((((((((((((((((w2.setCell ⟨w.heap.size + 1, 0, none⟩ (.int .i64 0)).setCell ⟨w.heap.size + 1, 1, none⟩ (.int .i64 0)).setCell ⟨w.heap.size + 1, 2, none⟩ (.int .i64 0)).setCell ⟨w.heap.size + 1, 3, none⟩ (.int .i64 0)).setCell ⟨w.heap.size + 1, 4, none⟩ (.int .i64 0)).setCell ⟨w.heap.size + 1, 5, none⟩ (.int .i64 0)).setCell ⟨w.heap.size + 1, 6, none⟩ (.int .i64 0)).setCell ⟨w.heap.size + 1, 7, none⟩ (.int .i64 0)).setCell ⟨w.heap.size + 1, 8, none⟩ (.int .i64 0)).setCell ⟨w.heap.size + 1, 9, none⟩ (.int .i64 0)).setCell ⟨w.heap.size + 1, 10, none⟩ (.int .i64 0)).setCell ⟨w.heap.size + 1, 11, none⟩ (.int .i64 0)).setCell ⟨w.heap.size + 1, 12, none⟩ (.int .i64 0)).setCell ⟨w.heap.size + 1, 13, none⟩ (.int .i64 0)).setCell ⟨w.heap.size + 1, 14, none⟩ (.int .i64 0))).alloc (.cells #[.string ⟨#[]⟩, .nilFunc, .nilFunc] 59) := ⟨_, rfl⟩
    have Z4 := (Z.out.put Lx.polZ).below ((Below.refl _ _).alloc (Nat.le_refl _) (.cells #[.string ⟨#[]⟩, .nilFunc, .nilFunc] 59))
    rw [show (Lx.putPol w2 (w.heap.size + 1) Lx.polZ).alloc (.cells #[.string ⟨#[]⟩, .nilFunc, .nilFunc] 59) = W4 from hW4.symm] at Z4
    rw [← hW4]
    clear hW4 z0 z1 z2 z3 z4 z5 z6 z7 z8 z9 z10 z11 z12 z13 z14 y0 y1 y2 y3 y4 y5 y6 y7 y8 y9 y10 y11 y12 y13 y14
    have d0 := Z4.cell 0 _ rfl
    have d1 := Z4.cell 1 _ rfl
    have d2 := Z4.cell 2 _ rfl
    have d3 := Z4.cell 3 _ rfl
    have d4 := Z4.cell 4 _ rfl
    have d5 := Z4.cell 5 _ rfl
    have d6 := Z4.cell 6 _ rfl
    have d7 := Z4.cell 7 _ rfl
    have d8 := Z4.cell 8 _ rfl
    have d9 := Z4.cell 9 _ rfl
    have d10 := Z4.cell 10 _ rfl
    have d11 := Z4.cell 11 _ rfl
    have d12 := Z4.cell 12 _ rfl
    have d13 := Z4.cell 13 _ rfl
    have d14 := Z4.cell 14 _ rfl
    refine bodyPost_ret (v := .tuple #[.agg #[.int .i64 0, .int .i64 0, .int .i64 0, .int .i64 0, .int .i64 0, .int .i64 0, .int .i64 0, .int .i64 0, .int .i64 0, .int .i64 0, .int .i64 0, .int .i64 0, .int .i64 0, .int .i64 0, .int .i64 0], .int .i64 15]) ?_ rfl ⟨by rw [G.out]; rfl, B2.out.trans (Z4.toB.mono (Nat.le_succ _))⟩
    simp [results, Tryz.results8, go_sem, Lx.polZ, d0, d1, d2, d3, d4, d5, d6, d7, d8, d9, d10, d11, d12, d13, d14]
  · have HE := Lib.hid (HS.out k hk hx)
    have S2 := Lib.hid (HP.out.below c2)
    obtain ⟨FF, C, hF, heg, hG⟩ := setFn_any s hs hk (g := w.heap.size) hlt w2 (kb)
    obtain ⟨GV, hGV⟩ : ∃ G, G = Lx.getF b1 b2 b3 b4 k := ⟨_, rfl⟩
    have one := (Lx.one_fn (b1 := b1) (b2 := b2) (b3 := b3) (b4 := b4) hk).1
    rw [← hGV] at one
    rw [hF, ← hGV]
    obtain ⟨N, hN⟩ : ∃ N : ByteArray, N = ⟨(Lx.keyW k).toArray⟩ := ⟨_, rfl⟩
    rw [← hN]
    have hst : ∀ (q : Addr) (fn : Fn) (f c : Array Value) (W : World), (store q (.func fn f c)).run Tryz.prog W = stored Tryz.prog W q (.func fn f c) .plain := fun q fn f c W => run_store Tryz.prog W q _ _ rfl
    have g2 : ∀ (q : Addr) (W : World), (store q GV).run Tryz.prog W = stored Tryz.prog W q GV .plain := fun q W => run_store Tryz.prog W q _ _ one
    obtain ⟨W3, hW3⟩ : ∃ W3, W3 = w2.alloc (.cells #[.string N, GV, .func (.func FF) #[] C] 59) := ⟨_, rfl⟩
    have C3 : Below w2.heap.size w2 W3 := by rw [hW3]; exact (Below.refl _ _).alloc (Nat.le_refl _) _
    have S3 := S2.out.below C3
    have S33 : Lx.PSt w.heap.size W3 W3 P := ⟨S3.size, S3.gl, World.grownBy.refl _ _, S3.cell, S3.fz⟩
    have HG := Lib.hid (hG W3 P C3 (S3.env env1) S33)
    have r2 : W3.cell? ⟨w2.heap.size, 2, none⟩ = some (.func (.func FF) #[] C) := by rw [hW3]; exact Lx.cellR _ _ _ _ _ rfl
    have T3 := Lib.hid S3
    have HK := Lib.hid hk
    clear hx c2 HS HN HF HP HB kb hk hF one hGV hN hG C3 S3 S33 S2 e0 hs env1 hP
    go_upto_region 4 with (fail)
    rw [show w2.alloc (.cells #[.string N, GV, .func (.func FF) #[] C] 59) = W3 from hW3.symm]
    clear hW3 hst g2
    go_wp2_with fail
    refine HG.out.mono ?_
    rintro e w5 ⟨rfl, q', T5, hq⟩
    obtain ⟨X, hX⟩ : ∃ X, X = (Lx.rdK k s).2 := ⟨_, rfl⟩
    rw [← hX] at hq ⊢
    have hS : Lx.setK k s P = if X = 0 then (Lx.updK k (Lx.rdK k s).1 P, 0) else (Lx.polZ, Lx.firstE [X]) := by unfold Lx.setK; rw [hX]
    have HE2 := Lib.hid (HE.out.trans hS)
    have Hq := Lib.hid hq
    have T35 := Lib.hid (T3.out.trans T5)
    clear T5 hX hS hq HE HG r2 heg
    go_wp2_with fail
    refine (HFs.out _ _ _ (icells_new w5 [X] _)).mono ?_
    rintro e w6 ⟨rfl, rfl⟩
    obtain ⟨W6, hW6⟩ : ∃ W6, W6 = w5.alloc (.cells #[.int .i64 X] 30) := ⟨_, rfl⟩
    rw [show w5.alloc (.cells (([X] : List Int).map (Value.int .i64)).toArray 30) = W6 from hW6.symm]
    have T6 := Lib.hid (show Lx.PSt w.heap.size W1 W6 q' from by rw [hW6]; exact T35.out.below ((Below.refl _ _).alloc (Nat.le_refl _) _))
    have Z := Lib.hid (HZ.out W6 T6.out.gb)
    have z0 := Z.out.cell 0 _ rfl
    have y0 := Z.out.fz 0 (by omega)
    have z1 := Z.out.cell 1 _ rfl
    have y1 := Z.out.fz 1 (by omega)
    have z2 := Z.out.cell 2 _ rfl
    have y2 := Z.out.fz 2 (by omega)
    have z3 := Z.out.cell 3 _ rfl
    have y3 := Z.out.fz 3 (by omega)
    have z4 := Z.out.cell 4 _ rfl
    have y4 := Z.out.fz 4 (by omega)
    have z5 := Z.out.cell 5 _ rfl
    have y5 := Z.out.fz 5 (by omega)
    have z6 := Z.out.cell 6 _ rfl
    have y6 := Z.out.fz 6 (by omega)
    have z7 := Z.out.cell 7 _ rfl
    have y7 := Z.out.fz 7 (by omega)
    have z8 := Z.out.cell 8 _ rfl
    have y8 := Z.out.fz 8 (by omega)
    have z9 := Z.out.cell 9 _ rfl
    have y9 := Z.out.fz 9 (by omega)
    have z10 := Z.out.cell 10 _ rfl
    have y10 := Z.out.fz 10 (by omega)
    have z11 := Z.out.cell 11 _ rfl
    have y11 := Z.out.fz 11 (by omega)
    have z12 := Z.out.cell 12 _ rfl
    have y12 := Z.out.fz 12 (by omega)
    have z13 := Z.out.cell 13 _ rfl
    have y13 := Z.out.fz 13 (by omega)
    have z14 := Z.out.cell 14 _ rfl
    have y14 := Z.out.fz 14 (by omega)
    by_cases hx : X = 0
    · subst hx
      have HE3 := Lib.hid (show R = (Lx.updK k (Lx.rdK k s).1 P, 0) from by rw [HE2.out, if_pos rfl])
      have hq := Lib.hid (Hq.out rfl)
      have hE : Lx.firstE [0] = 0 := by decide
      rw [hE]
      have t0 := T6.out.cell 0 _ rfl
      have t1 := T6.out.cell 1 _ rfl
      have t2 := T6.out.cell 2 _ rfl
      have t3 := T6.out.cell 3 _ rfl
      have t4 := T6.out.cell 4 _ rfl
      have t5 := T6.out.cell 5 _ rfl
      have t6 := T6.out.cell 6 _ rfl
      have t7 := T6.out.cell 7 _ rfl
      have t8 := T6.out.cell 8 _ rfl
      have t9 := T6.out.cell 9 _ rfl
      have t10 := T6.out.cell 10 _ rfl
      have t11 := T6.out.cell 11 _ rfl
      have t12 := T6.out.cell 12 _ rfl
      have t13 := T6.out.cell 13 _ rfl
      have t14 := T6.out.cell 14 _ rfl
      clear hW6 T35 HE2 Hq HZ HFs hE HK hlt hlt1
      go_wp2_with fail
      obtain ⟨W4, hW4⟩ : ∃ W4, W4 = (((((((((((((((W6.setCell ⟨w.heap.size + 1, 0, none⟩ (.int .i64 q'.cap)).setCell ⟨w.heap.size + 1, 1, none⟩ (.int .i64 q'.pri)).setCell ⟨w.heap.size + 1, 2, none⟩ (.int .i64 q'.spl)).setCell ⟨w.heap.size + 1, 3, none⟩ (.int .i64 q'.dl)).setCell ⟨w.heap.size + 1, 4, none⟩ (.int .i64 q'.mis)).setCell ⟨w.heap.size + 1, 5, none⟩ (.int .i64 q'.keep)).setCell ⟨w.heap.size + 1, 6, none⟩ (.int .i64 q'.lt)).setCell ⟨w.heap.size + 1, 7, none⟩ (.int .i64 q'.lu)).setCell ⟨w.heap.size + 1, 8, none⟩ (.int .i64 q'.bf)).setCell ⟨w.heap.size + 1, 9, none⟩ (.int .i64 q'.bo)).setCell ⟨w.heap.size + 1, 10, none⟩ (.int .i64 q'.bp)).setCell ⟨w.heap.size + 1, 11, none⟩ (.int .i64 q'.rm)).setCell ⟨w.heap.size + 1, 12, none⟩ (.int .i64 q'.rb)).setCell ⟨w.heap.size + 1, 13, none⟩ (.int .i64 q'.rc)).setCell ⟨w.heap.size + 1, 14, none⟩ (.int .i64 q'.rj)) := ⟨_, rfl⟩
      have Z4 := Z.out.put q'
      rw [show Lx.putPol W6 (w.heap.size + 1) q' = W4 from hW4.symm] at Z4
      rw [← hW4]
      clear hW4 z0 z1 z2 z3 z4 z5 z6 z7 z8 z9 z10 z11 z12 z13 z14 y0 y1 y2 y3 y4 y5 y6 y7 y8 y9 y10 y11 y12 y13 y14 t0 t1 t2 t3 t4 t5 t6 t7 t8 t9 t10 t11 t12 t13 t14
      have d0 := Z4.cell 0 _ rfl
      have d1 := Z4.cell 1 _ rfl
      have d2 := Z4.cell 2 _ rfl
      have d3 := Z4.cell 3 _ rfl
      have d4 := Z4.cell 4 _ rfl
      have d5 := Z4.cell 5 _ rfl
      have d6 := Z4.cell 6 _ rfl
      have d7 := Z4.cell 7 _ rfl
      have d8 := Z4.cell 8 _ rfl
      have d9 := Z4.cell 9 _ rfl
      have d10 := Z4.cell 10 _ rfl
      have d11 := Z4.cell 11 _ rfl
      have d12 := Z4.cell 12 _ rfl
      have d13 := Z4.cell 13 _ rfl
      have d14 := Z4.cell 14 _ rfl
      refine bodyPost_ret (v := .tuple #[.agg #[.int .i64 q'.cap, .int .i64 q'.pri, .int .i64 q'.spl, .int .i64 q'.dl, .int .i64 q'.mis, .int .i64 q'.keep, .int .i64 q'.lt, .int .i64 q'.lu, .int .i64 q'.bf, .int .i64 q'.bo, .int .i64 q'.bp, .int .i64 q'.rm, .int .i64 q'.rb, .int .i64 q'.rc, .int .i64 q'.rj], .int .i64 0]) ?_ rfl ⟨by
        rw [HE3.out]
        show _ = Ending.returned (.tuple #[(Lx.updK k (Lx.rdK k s).1 P).val, .int .i64 0])
        rw [← hq.out]; rfl, B1.out.trans ((T6.out.toB).trans (Z4.toB.mono (Nat.le_succ _)))⟩
      simp [results, Tryz.results8, go_sem, d0, d1, d2, d3, d4, d5, d6, d7, d8, d9, d10, d11, d12, d13, d14]
    · have HE3 := Lib.hid (show R = (Lx.polZ, Lx.firstE [X]) from by rw [HE2.out, if_neg hx])
      obtain ⟨E, hE⟩ : ∃ E, E = Lx.firstE [X] := ⟨_, rfl⟩
      have hE0 : ¬ E = 0 := by rw [hE]; exact Lx.firstE_ne hx
      rw [← hE] at HE3 ⊢
      clear hW6 T35 HE2 Hq HZ HFs hE hx HK hlt hlt1
      go_wp2_with fail
      obtain ⟨W4, hW4⟩ : ∃ W4, W4 = (((((((((((((((W6.setCell ⟨w.heap.size + 1, 0, none⟩ (.int .i64 0)).setCell ⟨w.heap.size + 1, 1, none⟩ (.int .i64 0)).setCell ⟨w.heap.size + 1, 2, none⟩ (.int .i64 0)).setCell ⟨w.heap.size + 1, 3, none⟩ (.int .i64 0)).setCell ⟨w.heap.size + 1, 4, none⟩ (.int .i64 0)).setCell ⟨w.heap.size + 1, 5, none⟩ (.int .i64 0)).setCell ⟨w.heap.size + 1, 6, none⟩ (.int .i64 0)).setCell ⟨w.heap.size + 1, 7, none⟩ (.int .i64 0)).setCell ⟨w.heap.size + 1, 8, none⟩ (.int .i64 0)).setCell ⟨w.heap.size + 1, 9, none⟩ (.int .i64 0)).setCell ⟨w.heap.size + 1, 10, none⟩ (.int .i64 0)).setCell ⟨w.heap.size + 1, 11, none⟩ (.int .i64 0)).setCell ⟨w.heap.size + 1, 12, none⟩ (.int .i64 0)).setCell ⟨w.heap.size + 1, 13, none⟩ (.int .i64 0)).setCell ⟨w.heap.size + 1, 14, none⟩ (.int .i64 0)) := ⟨_, rfl⟩
      have Z4 := Z.out.put Lx.polZ
      rw [show Lx.putPol W6 (w.heap.size + 1) Lx.polZ = W4 from hW4.symm] at Z4
      rw [← hW4]
      clear hW4 z0 z1 z2 z3 z4 z5 z6 z7 z8 z9 z10 z11 z12 z13 z14 y0 y1 y2 y3 y4 y5 y6 y7 y8 y9 y10 y11 y12 y13 y14
      have d0 := Z4.cell 0 _ rfl
      have d1 := Z4.cell 1 _ rfl
      have d2 := Z4.cell 2 _ rfl
      have d3 := Z4.cell 3 _ rfl
      have d4 := Z4.cell 4 _ rfl
      have d5 := Z4.cell 5 _ rfl
      have d6 := Z4.cell 6 _ rfl
      have d7 := Z4.cell 7 _ rfl
      have d8 := Z4.cell 8 _ rfl
      have d9 := Z4.cell 9 _ rfl
      have d10 := Z4.cell 10 _ rfl
      have d11 := Z4.cell 11 _ rfl
      have d12 := Z4.cell 12 _ rfl
      have d13 := Z4.cell 13 _ rfl
      have d14 := Z4.cell 14 _ rfl
      refine bodyPost_ret (v := .tuple #[.agg #[.int .i64 0, .int .i64 0, .int .i64 0, .int .i64 0, .int .i64 0, .int .i64 0, .int .i64 0, .int .i64 0, .int .i64 0, .int .i64 0, .int .i64 0, .int .i64 0, .int .i64 0, .int .i64 0, .int .i64 0], .int .i64 E]) ?_ rfl ⟨by rw [HE3.out]; rfl, B1.out.trans ((T6.out.toB).trans (Z4.toB.mono (Nat.le_succ _)))⟩
      simp [results, Tryz.results8, go_sem, Lx.polZ, d0, d1, d2, d3, d4, d5, d6, d7, d8, d9, d10, d11, d12, d13, d14]
end Go.Proofs.YtpjocfkolnfjiaaGreatDoor
namespace Go.Proofs.YtpjocfkolnfjiaaGreatDoor
open Go.RowKit

theorem infoS : (Tryz.prog.info? 9).map (fun i => (i.zero, i.size, i.bytes)) = some (some (.string ⟨#[]⟩), 1, 16) := by kernel_rfl
namespace Lx
theorem ownSlice {w : World} {base : Nat} {e : TypeId} {size : Nat} {v : Value} {n : Nat} {xs : List Value} (h : w.ownsRow base e size v n xs) : ∃ ad cap, v = .slice ad n cap := by
  rcases h.2 with ⟨rfl, h0⟩ | ⟨g, cap, _, rfl, _⟩
  · exact ⟨none, 0, by simp_all⟩
  · exact ⟨_, cap, rfl⟩
theorem ownPos {w : World} {base : Nat} {e : TypeId} {size n : Nat} {v : Value} {xs : List Value} (h : w.ownsRow base e size v n xs) (hn : 0 < n) : ∃ g c, v = .slice (some ⟨g, 0, none⟩) n c ∧ g < w.heap.size ∧ ∀ j u, xs[j]? = some u → w.cell? ⟨g, j, none⟩ = some u := by
  have h0 := h
  rcases h.2 with ⟨_, h0⟩ | ⟨g, cap', cur, hv, _, hg, _⟩
  · omega
  · subst hv
    refine ⟨g, cap', rfl, (Array.getElem?_eq_some_iff.1 hg).1, fun j u hj => ?_⟩
    have := h0.cells (g := g) rfl j u hj
    rwa [show (⟨g, 0, none⟩ : Addr).add j = ⟨g, j, none⟩ from by simp [Addr.add]; intro h; exact h.symm] at this
theorem ownBase {w : World} {base : Nat} {e : TypeId} {size n : Nat} {v : Value} {xs : List Value} (h : w.ownsRow base e size v n xs) : ∀ g, v.ownBlock = some g → base ≤ g := by
  intro g hg
  rcases h.2 with ⟨rfl, _⟩ | ⟨g', cap, cur, rfl, hb, _⟩
  · simp [Value.ownBlock] at hg
  · have : g' = g := by simpa [Value.ownBlock] using hg
    omega
theorem ownLit (w : World) (base : Nat) (hb : base ≤ w.heap.size) (cs : List Value) (e : TypeId) (hn : cs.length ≤ maxLen) :
    (w.alloc (.cells cs.toArray e)).ownsRow base e 1 (.slice (some ⟨w.heap.size, 0, none⟩) cs.length cs.length) cs.length cs := by
  refine ⟨by omega, .inr ⟨w.heap.size, cs.length, cs.toArray, rfl, hb, heap_alloc_new w _, Nat.le_refl _, hn, by simp, ?_⟩⟩
  rw [Nat.mul_one]; simp
theorem ownDrew {w : World} {base : Nat} {e : TypeId} {size n : Nat} {v : Value} {xs : List Value} (h : w.ownsRow base e size v n xs) (k : Nat) : (w.drewN k).ownsRow base e size v n xs := h
/-- The cells of a new block of one value. -/
theorem cellNew (w : World) (a : Value) (t : TypeId) : ∀ j u, [a][j]? = some u → (w.alloc (.cells #[a] t)).cell? ((⟨w.heap.size, 0, none⟩ : Addr).add j) = some u := by
  intro j u hj
  match j, hj with
  | 0, hj => simp at hj; subst hj; simp [Addr.add]
end Lx
end Go.Proofs.YtpjocfkolnfjiaaGreatDoor
namespace Go.Proofs.YtpjocfkolnfjiaaGreatDoor
open Go.RowKit

theorem blank_any (x : Nat) (w : World) : Calls Tryz.prog 25 #[.int .i32 x] w fun e w' => e = .returned (.bool (Lx.isBlR x)) ∧ w' = w := by
  by_cases h : x = 32
  · subst h
    go_enter Tryz.func25, Tryz.ntmps25
    go_wp2_with fail
    go_ret
    exact ⟨rfl, rfl⟩
  · have h1 : ((x : Int) == 32) = false := by rw [beq_eq_false_iff_ne]; omega
    by_cases h9 : x = 9
    · subst h9
      go_enter Tryz.func25, Tryz.ntmps25
      go_wp2_with fail
      go_ret
      exact ⟨rfl, rfl⟩
    · have h2 : ((x : Int) == 9) = false := by rw [beq_eq_false_iff_ne]; omega
      have e : Lx.isBlR x = false := by
        unfold Lx.isBlR
        rw [beq_eq_false_iff_ne.2 h, beq_eq_false_iff_ne.2 h9]; rfl
      rw [e]
      clear h h9 e
      go_enter Tryz.func25, Tryz.ntmps25
      go_wp2_with fail
      go_ret
      exact ⟨rfl, rfl⟩
/-- The words of a text. -/
theorem fields_any (s : ByteArray) (hs : s.size ≤ 65536) (w : World) :
    Calls Tryz.prog 24 #[.string s, .func (.func 25) #[] #[]] w fun e w' => ∃ A, e = .returned (.slice (some ⟨A, 0, none⟩) (Lx.wdsB s).length (Lx.wdsB s).length) ∧
      A < w'.heap.size ∧ w.heap.size ≤ A ∧ (∀ (j : Nat) (x : ByteArray), (Lx.wdsB s)[j]? = some x → w'.cell? ⟨A, j, none⟩ = some (.string x)) ∧ Below w.heap.size w w' := by
  have eg : ∀ args w, (callFunc 25 args).run Tryz.prog w = .ok (.enter 25 args) w := enters_of Tryz.func25 (by kernel_rfl) rfl
  have hp : PredAtRunes Tryz.prog 25 #[] Lx.isBlR w := fun W x _ _ => by
    refine (blank_any x W).mono ?_
    rintro e w' ⟨rfl, rfl⟩
    exact ⟨rfl, 0, rfl⟩
  refine (Tryz.strings_FieldsFunc_runes 25 #[] eg Lx.isBlR s w (by omega) hp).mono ?_
  rintro e w' ⟨A, rfl, hA, hown, hb⟩
  have hlt := hown.lt A rfl
  refine ⟨A, rfl, hlt.2, hA, fun j x hj => ?_, hb⟩
  have := hown.cells (g := A) rfl j (.string x) (by rw [List.getElem?_map]; unfold Lx.wdsB at hj; rw [hj]; rfl)
  rwa [show (⟨A, 0, none⟩ : Addr).add j = ⟨A, j, none⟩ from by simp [Addr.add]; intro h; exact h.symm] at this
set_option maxRecDepth 100000 in
set_option maxHeartbeats 1600000 in
theorem default_any (w : World) : Calls Tryz.prog 19 #[] w fun e w' => e = .returned Lx.polD.val ∧ Below w.heap.size w w' := by
  go_enter Tryz.func19, Tryz.ntmps19
  go_wp2_with fail
  refine bodyPost_ret (v := Lx.polD.val) ?_ rfl ⟨rfl, (Below.refl _ w).alloc (Nat.le_refl _) _⟩
  simp [results, Tryz.results19, go_sem, Lx.polD, Lx.PolV.val]
end Go.Proofs.YtpjocfkolnfjiaaGreatDoor
namespace Go.Proofs.YtpjocfkolnfjiaaGreatDoor
open Go.RowKit

theorem Lx.ownCap {w : World} {base : Nat} {e : TypeId} {size n : Nat} {v : Value} {xs : List Value} (h : w.ownsRow base e size v n xs) (hn : 0 < n) : ∃ g c, v = .slice (some ⟨g, 0, none⟩) n c ∧ g < w.heap.size ∧ n ≤ c ∧ ∀ j u, xs[j]? = some u → w.cell? ⟨g, j, none⟩ = some u := by
  obtain ⟨g, c, hv, hg, hc⟩ := Lx.ownPos h hn
  refine ⟨g, c, hv, hg, ?_, hc⟩
  rcases h.2 with ⟨_, h0⟩ | ⟨g', cap', cur, hv', _, _, hle, _⟩
  · omega
  · rw [hv] at hv'
    injection hv' with _ _ e
    omega
set_option maxRecDepth 100000 in
set_option maxHeartbeats 3200000 in
/-- The text of a policy. -/
theorem polPrint_any (p : Lx.PolV) (w : World) (env : UEnv w) :
    Calls Tryz.prog 18 #[p.val] w fun e w' => e = .returned (.tuple #[.string ⟨(Lx.prS p).toArray⟩, .int .i64 (Lx.polE p)]) ∧ Below w.heap.size w w' := by
  have HC := Lib.hid (fun W => polCheck_any p W)
  obtain ⟨W0, hW0⟩ : ∃ W0, W0 = w.alloc (.cells p.cells.toArray 29) := ⟨_, rfl⟩
  have B0 := Lib.hid (show Below w.heap.size w W0 from by rw [hW0]; exact (Below.refl _ w).alloc (Nat.le_refl _) _)
  have hlt : w.heap.size < W0.heap.size := by rw [hW0]; simp
  have HQ := Lib.hid (show ∀ (wx : World), Below W0.heap.size W0 wx → ∀ (j : Nat) (v : Value), p.cells[j]? = some v → wx.cell? ⟨w.heap.size, j, none⟩ = some v from fun wx b j v hj => (b.cell (p := ⟨w.heap.size, j, none⟩) hlt).trans (by rw [hW0]; exact Lx.cellR _ _ _ _ _ (by rw [List.getElem?_toArray]; exact hj)))
  have HK := Lib.hid (fun W => keys_any W)
  have HD := Lib.hid (show ∀ W, Calls Tryz.prog 19 #[] W fun e w' => e = .returned (.agg #[.int .i64 1, .int .i64 50, .int .i64 0, .int .i64 3600, .int .i64 0, .int .i64 0, .int .i64 0, .int .i64 0, .int .i64 0, .int .i64 0, .int .i64 0, .int .i64 0, .int .i64 0, .int .i64 0, .int .i64 0]) ∧ Below W.heap.size W w' from fun W => default_any W)
  obtain ⟨i0, hi, hz0, hz1, hz2⟩ := info_parts infoS
  by_cases h : Lx.polOk p = true
  · have hE : Lx.polE p = 0 := by unfold Lx.polE; rw [if_pos h]
    rw [hE] at HC ⊢
    have HPS := Lib.hid (show Lx.prS p = Lib.join (Lx.prL p) [32] from by unfold Lx.prS; rw [if_pos h])
    have HLn := Lib.hid (Lx.prS_len h)
    have HV := Lib.hid (show ∀ k, k < 8 → (Lx.valS k p).length ≤ 400 from fun k hk => (Lx.val_bytes hk h).2)
    have HOK := Lib.hid h
    have HT := Lib.hid (show ∀ k, (Lx.valS k p = Lx.valS k Lx.polD → Lx.prTo p (k + 1) = Lx.prTo p k) ∧ (¬ Lx.valS k p = Lx.valS k Lx.polD → Lx.prTo p (k + 1) = Lx.prTo p k ++ [Lx.pairW k p]) from fun k => ⟨fun c => by rw [Lx.prTo, if_pos c], fun c => by rw [Lx.prTo, if_neg c]⟩)
    have HTl := Lib.hid (show ∀ k, (Lx.prTo p k).length ≤ k from fun k => by
      rw [Lx.prTo_map, List.length_map]
      have := List.length_filter_le (fun k => !decide (Lx.valS k p = Lx.valS k Lx.polD)) (List.range k)
      rw [List.length_range] at this; exact this)
    obtain ⟨P, hP⟩ : ∃ P, P = p := ⟨_, rfl⟩
    rw [← hP] at HOK HPS HLn HV HT HTl HC ⊢
    clear hE h
    obtain ⟨cap, pri, spl, dl, mis, keep, lt, lu, bf, bo, bp, rm, rb, rc, rj⟩ := p
    unfold Lx.PolV.cells at hW0 HQ
    dsimp only at hW0 HQ
    have hPv : P.val = .agg #[.int .i64 cap, .int .i64 pri, .int .i64 spl, .int .i64 dl, .int .i64 mis, .int .i64 keep, .int .i64 lt, .int .i64 lu, .int .i64 bf, .int .i64 bo, .int .i64 bp, .int .i64 rm, .int .i64 rb, .int .i64 rc, .int .i64 rj] := by rw [hP]; rfl
    rw [hPv] at HC ⊢
    have HQ15 := Lib.hid (show ∀ wx, Below W0.heap.size W0 wx → wx.cell? ⟨w.heap.size, 0, none⟩ = some (.int .i64 cap) ∧ wx.cell? ⟨w.heap.size, 1, none⟩ = some (.int .i64 pri) ∧ wx.cell? ⟨w.heap.size, 2, none⟩ = some (.int .i64 spl) ∧ wx.cell? ⟨w.heap.size, 3, none⟩ = some (.int .i64 dl) ∧ wx.cell? ⟨w.heap.size, 4, none⟩ = some (.int .i64 mis) ∧ wx.cell? ⟨w.heap.size, 5, none⟩ = some (.int .i64 keep) ∧ wx.cell? ⟨w.heap.size, 6, none⟩ = some (.int .i64 lt) ∧ wx.cell? ⟨w.heap.size, 7, none⟩ = some (.int .i64 lu) ∧ wx.cell? ⟨w.heap.size, 8, none⟩ = some (.int .i64 bf) ∧ wx.cell? ⟨w.heap.size, 9, none⟩ = some (.int .i64 bo) ∧ wx.cell? ⟨w.heap.size, 10, none⟩ = some (.int .i64 bp) ∧ wx.cell? ⟨w.heap.size, 11, none⟩ = some (.int .i64 rm) ∧ wx.cell? ⟨w.heap.size, 12, none⟩ = some (.int .i64 rb) ∧ wx.cell? ⟨w.heap.size, 13, none⟩ = some (.int .i64 rc) ∧ wx.cell? ⟨w.heap.size, 14, none⟩ = some (.int .i64 rj) from fun wx b => ⟨HQ.out wx b 0 _ rfl, HQ.out wx b 1 _ rfl, HQ.out wx b 2 _ rfl, HQ.out wx b 3 _ rfl, HQ.out wx b 4 _ rfl, HQ.out wx b 5 _ rfl, HQ.out wx b 6 _ rfl, HQ.out wx b 7 _ rfl, HQ.out wx b 8 _ rfl, HQ.out wx b 9 _ rfl, HQ.out wx b 10 _ rfl, HQ.out wx b 11 _ rfl, HQ.out wx b 12 _ rfl, HQ.out wx b 13 _ rfl, HQ.out wx b 14 _ rfl⟩)
    obtain ⟨q0, q1, q2, q3, q4, q5, q6, q7, q8, q9, q10, q11, q12, q13, q14⟩ := HQ15.out W0 (Below.refl _ _)
    clear hP hlt HQ
    go_enter Tryz.func18, Tryz.ntmps18
    go_upto_region 1 with (fail)
    rw [show (w.alloc (.cells #[.int .i64 cap, .int .i64 pri, .int .i64 spl, .int .i64 dl, .int .i64 mis, .int .i64 keep, .int .i64 lt, .int .i64 lu, .int .i64 bf, .int .i64 bo, .int .i64 bp, .int .i64 rm, .int .i64 rb, .int .i64 rc, .int .i64 rj] 29)) = W0 from hW0.symm]
    clear hW0
    go_wp2_with fail
    refine (HC.out _).mono ?_
    rintro e w1 ⟨rfl, c1⟩
    have C1 := Lib.hid c1
    clear q0 q1 q2 q3 q4 q5 q6 q7 q8 q9 q10 q11 q12 q13 q14 c1 HC
    go_wp2_with fail
    refine (HK.out _).mono ?_
    rintro e w2 ⟨g, b1, b2, b3, b4, rfl, kb, ki, c2⟩
    have D2 := Lib.hid (C1.out.trans (c2.mono C1.out.size))
    have E2 := Lib.hid (B0.out.trans (D2.out.mono B0.out.size))
    have KB := Lib.hid kb
    have KI := Lib.hid ki
    clear kb ki c2 C1 HK
    go_wp2_with fail
    go_loopw [5, 16] (fun ov iv wr => ∃ k : Nat, k ≤ 8 ∧ iv = .int .i64 k ∧ wr.ownsRow w2.heap.size 9 1 ov (Lx.prTo P k).length ((Lx.prTo P k).map fun l => Value.string ⟨l.toArray⟩) ∧ Below w2.heap.size w2 wr) (fun _ i _ => 8 - (intOf i).toNat)
    case atStart => exact ⟨0, Nat.zero_le _, rfl, World.ownsRow_nil _ _ _ _, Below.refl _ _⟩
    case round =>
      obtain ⟨k, hk, rfl, hrow, hb⟩ := hrel
      have Hb := Lib.hid hb
      by_cases hlt : k < 8
      · have hki : (k : Int) < 8 := by omega
        have K := Lib.hid (KI.out.below hb)
        obtain ⟨e0, e1, e2⟩ := Lx.keyCells_at b1 b2 b3 b4 hlt
        have r0 := K.out.2 _ _ e0
        have r1 := K.out.2 _ _ e1
        have r2 := K.out.2 _ _ e2
        have hgw := K.out.1
        obtain ⟨FF, C, hF, heg, hG⟩ := getFn_any hlt wr (env.below (E2.out.trans (hb.mono E2.out.size))) (KB.out.below hb)
        obtain ⟨SV, hSV⟩ : ∃ G, G = Lx.setF b1 b2 b3 b4 k := ⟨_, rfl⟩
        have one := (Lx.one_fn (b1 := b1) (b2 := b2) (b3 := b3) (b4 := b4) hlt).2
        rw [← hSV] at one r2
        rw [hF] at r1
        obtain ⟨N, hN⟩ : ∃ N : ByteArray, N = ⟨(Lx.keyW k).toArray⟩ := ⟨_, rfl⟩
        rw [← hN] at r0
        obtain ⟨V, hV⟩ : ∃ V : ByteArray, V = ⟨(Lx.valS k P).toArray⟩ := ⟨_, rfl⟩
        obtain ⟨VD, hVD⟩ : ∃ V : ByteArray, V = ⟨(Lx.valS k Lx.polD).toArray⟩ := ⟨_, rfl⟩
        have hst : ∀ (q : Addr) (fn : Fn) (f c : Array Value) (W : World), (store q (.func fn f c)).run Tryz.prog W = stored Tryz.prog W q (.func fn f c) .plain := fun q fn f c W => run_store Tryz.prog W q _ _ rfl
        have g2 : ∀ (q : Addr) (W : World), (store q SV).run Tryz.prog W = stored Tryz.prog W q SV .plain := fun q W => run_store Tryz.prog W q _ _ one
        obtain ⟨W3, hW3⟩ : ∃ W3, W3 = wr.alloc (.cells #[.string N, .func (.func FF) #[] C, SV] 59) := ⟨_, rfl⟩
        have C3 : Below wr.heap.size wr W3 := by rw [hW3]; exact (Below.refl _ _).alloc (Nat.le_refl _) _
        have hl3 : wr.heap.size < W3.heap.size := by rw [hW3]; simp
        have HG1 := Lib.hid (show ∀ W, Below W3.heap.size W3 W → Calls Tryz.prog FF (#[.agg #[.int .i64 cap, .int .i64 pri, .int .i64 spl, .int .i64 dl, .int .i64 mis, .int .i64 keep, .int .i64 lt, .int .i64 lu, .int .i64 bf, .int .i64 bo, .int .i64 bp, .int .i64 rm, .int .i64 rb, .int .i64 rc, .int .i64 rj]] ++ C) W fun e w' => e = .returned (.string V) ∧ Below W.heap.size W w' from fun W b => by
          have := hG P HOK.out W (C3.trans (b.mono C3.size))
          rw [← hV, hPv] at this
          exact this)
        have HG2 := Lib.hid (show ∀ W, Below W3.heap.size W3 W → Calls Tryz.prog FF (#[.agg #[.int .i64 1, .int .i64 50, .int .i64 0, .int .i64 3600, .int .i64 0, .int .i64 0, .int .i64 0, .int .i64 0, .int .i64 0, .int .i64 0, .int .i64 0, .int .i64 0, .int .i64 0, .int .i64 0, .int .i64 0]] ++ C) W fun e w' => e = .returned (.string VD) ∧ Below W.heap.size W w' from fun W b => by
          have := hG Lx.polD Lx.polD_ok W (C3.trans (b.mono C3.size))
          rw [← hVD] at this
          exact this)
        have D3 := Lib.hid ((D2.out.trans (hb.mono D2.out.size)).trans (C3.mono (D2.out.trans (hb.mono D2.out.size)).size))
        obtain ⟨q0, q1, q2, q3, q4, q5, q6, q7, q8, q9, q10, q11, q12, q13, q14⟩ := HQ15.out W3 D3.out
        have t1 : W3.cell? ⟨wr.heap.size, 1, none⟩ = some (.func (.func FF) #[] C) := by rw [hW3]; exact Lx.cellR _ _ _ _ _ rfl
        have HN0 := Lib.hid (show ∀ wx, Below W3.heap.size W3 wx → wx.cell? ⟨wr.heap.size, 0, none⟩ = some (.string N) from fun wx b => (b.cell (p := ⟨wr.heap.size, 0, none⟩) hl3).trans (by rw [hW3]; exact Lx.cellR _ _ _ _ _ rfl))
        have HSS := Lib.hid (show ∀ wx, Below W3.heap.size W3 wx → Below W3.heap.size W3 wx ∧ wx.cell? ⟨wr.heap.size, 1, none⟩ = some (.func (.func FF) #[] C) from fun wx b => ⟨b, (b.cell (p := ⟨wr.heap.size, 1, none⟩) hl3).trans t1⟩)
        have hvn : V.size ≤ 400 := by rw [Lib.size_eq, hV]; exact HV.out k hlt
        have hnn : N.size ≤ 8 := by rw [Lib.size_eq, hN]; exact (Lx.keyW_low hlt).2.2.2
        have Hrow := Lib.hid hrow
        have HNV := Lib.hid (show (⟨(Lx.pairW k P).toArray⟩ : ByteArray) = N ++ ⟨#[61]⟩ ++ V from by
          apply ByteArray.ext; apply Array.toList_inj.1
          rw [ByteArray.data_append, ByteArray.data_append, hN, hV]; simp [Lx.pairW])
        have HB3 := Lib.hid (hb.trans (C3.mono hb.size))
        have Hm := Lib.hid (HTl.out k)
        have Hhit := Lib.hid (HT.out k).1
        have Hmiss := Lib.hid (HT.out k).2
        have HC3 := Lib.hid C3
        have HVD := Lib.hid (show (V = VD ↔ Lx.valS k P = Lx.valS k Lx.polD) from ⟨fun c => by rw [hV, hVD] at c; simpa using congrArg (fun b : ByteArray => b.data.toList) c, fun c => by rw [hV, hVD, c]⟩)
        clear hF hG hSV one hN hV hVD e0 e1 e2 hb hrow C3 hl3
        go_upto_region 8 with (fail)
        rw [show wr.alloc (.cells #[.string N, .func (.func FF) #[] C, SV] 59) = W3 from hW3.symm]
        clear hW3 hst g2 r0 r1 r2 hgw
        go_wp2_with fail
        refine (HG1.out W3 (Below.refl _ _)).mono ?_
        rintro e w4 ⟨rfl, c4⟩
        have hS0 := HSS.out w4.drew c4.drew
        have C4 := Lib.hid c4
        clear q0 q1 q2 q3 q4 q5 q6 q7 q8 q9 q10 q11 q12 q13 q14 t1 c4 HG1
        by_cases hvv : V = VD
        · have hcb : (V.toList == VD.toList) = true := by rw [hvv]; exact beq_self_eq_true _
          have HX := Lib.hid (Hhit.out (HVD.out.1 hvv))
          clear hvv HVD
          go_upto_region 9 with (fail)
          refine wp_region_held_drew (S := (fun wx => Below W3.heap.size W3 wx ∧ wx.cell? ⟨wr.heap.size, 1, none⟩ = some (.func (.func FF) #[] C))) (by kernel_rfl) ?_ (fun hHeld => ?_)
          · exact hS0
          refine' wpAnyH_take (i := 0) (oi := _) (v := _) ?hi0r1 (by kernel_rfl) (by kernel_rfl) (by kernel_rfl) ?hq0r1 ?hy0r1 (by assumption) ?re0r1
          case hi0r1 => simp only [List.getElem?_toArray, List.getElem?_cons_zero]; rfl
          case hq0r1 => exact fun _ _ _ h => h
          case hy0r1 =>
            refine Or.inl ⟨by rfl, ?_⟩
            intro w hSw; (try dsimp only at hSw); go_simp; try with_reducible rfl
          try simp only [Act.put, List.setIfInBounds_toArray, List.set_cons_zero, List.set_cons_succ]
          refine' wpAnyH_take (i := 1) (oi := _) (v := _) ?hi1r1 (by kernel_rfl) (by kernel_rfl) (by kernel_rfl) ?hq1r1 ?hy1r1 (by assumption) ?re1r1
          case hi1r1 => simp only [List.getElem?_toArray, List.getElem?_cons_succ, List.getElem?_cons_zero]; rfl
          case hq1r1 => exact fun _ _ _ h => h
          case hy1r1 =>
            refine Or.inl ⟨by rfl, ?_⟩
            intro w hSw; (try dsimp only at hSw); go_simp; try with_reducible rfl
          try simp only [Act.put, List.setIfInBounds_toArray, List.set_cons_zero, List.set_cons_succ]
          refine' wpAnyH_take (i := 2) (oi := _) (v := _) ?hi2r1 (by kernel_rfl) (by kernel_rfl) (by kernel_rfl) ?hq2r1 ?hy2r1 (by assumption) ?re2r1
          case hi2r1 => simp only [List.getElem?_toArray, List.getElem?_cons_succ, List.getElem?_cons_zero]; rfl
          case hq2r1 => exact fun _ _ _ h => h
          case hy2r1 =>
            refine Or.inl ⟨by rfl, ?_⟩
            intro w hSw; (try dsimp only at hSw); go_simp; try with_reducible rfl
          try simp only [Act.put, List.setIfInBounds_toArray, List.set_cons_zero, List.set_cons_succ]
          refine wpAnyH_ready (rs := [3]) (by kernel_rfl) (by simp) ?_
          refine' AllReadyH.cons (o := _) ?hi3r1 (fun K hK => ?st3r1) AllReadyH.nil
          case hi3r1 => simp only [List.getElem?_toArray, List.getElem?_cons_succ, List.getElem?_cons_zero]; rfl
          go_simp
          go_at_call 19; refine (HD.out _).mono ?_; rintro e w6 ⟨rfl, c6⟩; have k8 := HSS.out _ (hHeld.1.trans (c6.mono hHeld.1.size)); clear c6
          try go_wp2_with fail
          refine hK.out _ _ ?_ (fun hHeld => ?_)
          · exact k8
          clear hK K
          try simp only [Act.put, List.setIfInBounds_toArray, List.set_cons_zero, List.set_cons_succ]
          refine wpAnyH_ready (rs := [4]) (by kernel_rfl) (by simp) ?_
          refine' AllReadyH.cons (o := _) ?hi4r1 (fun K hK => ?st4r1) AllReadyH.nil
          case hi4r1 => simp only [List.getElem?_toArray, List.getElem?_cons_succ, List.getElem?_cons_zero]; rfl
          go_simp
          refine (HG2.out _ hHeld.1).mono ?_; rintro e w7 ⟨rfl, c7⟩; have k8 := HSS.out _ (hHeld.1.trans (c7.mono hHeld.1.size)); clear c7
          try go_wp2_with fail
          refine hK.out _ _ ?_ (fun hHeld => ?_)
          · exact k8
          clear hK K
          try simp only [Act.put, List.setIfInBounds_toArray, List.set_cons_zero, List.set_cons_succ]
          refine' wpAnyH_take (i := 5) (oi := _) (v := _) ?hi5r1 (by kernel_rfl) (by kernel_rfl) (by kernel_rfl) ?hq5r1 ?hy5r1 (by assumption) ?re5r1
          case hi5r1 => simp only [List.getElem?_toArray, List.getElem?_cons_succ, List.getElem?_cons_zero]; rfl
          case hq5r1 => exact fun _ _ _ h => h
          case hy5r1 =>
            refine Or.inl ⟨by rfl, ?_⟩
            intro w hSw; (try dsimp only at hSw); go_simp; try with_reducible rfl
          try simp only [Act.put, List.setIfInBounds_toArray, List.set_cons_zero, List.set_cons_succ]
          refine wpAnyH_done (by kernel_rfl) ?_ _
          go_wp2_with fail
          go_roundw
          case rel => exact ⟨k + 1, by omega, by go_num, by rw [HX.out]; exact Hrow.out.kept (row := none) ⟨(HC3.out.trans (hHeld.1.mono HC3.out.size)).os, (HC3.out.trans (hHeld.1.mono HC3.out.size)).tape, (HC3.out.trans (hHeld.1.mono HC3.out.size)).output, (HC3.out.trans (hHeld.1.mono HC3.out.size)).size, fun j hj _ => (HC3.out.trans (hHeld.1.mono HC3.out.size)).block j hj⟩ (Classical.em _), HB3.out.trans (hHeld.1.mono HB3.out.size)⟩
          case measure => simp [intOf]; omega
        · have hcb : (V.toList == VD.toList) = false := by
            rw [beq_eq_false_iff_ne, Lib.toList_data, Lib.toList_data]; exact fun c => hvv (ByteArray.ext (Array.toList_inj.1 c))
          have HX := Lib.hid (Hmiss.out (fun c => hvv (HVD.out.2 c)))
          have k1 : (⟨#[61]⟩ : ByteArray).size = 1 := rfl
          have n1 : ¬ (9223372036854775807 < N.size + 1) := by omega
          have n2 : ¬ (9223372036854775807 < N.size + 1 + V.size) := by omega
          obtain ⟨m, hm⟩ : ∃ m, m = (Lx.prTo P k).length := ⟨_, rfl⟩
          have Hm2 := Lib.hid hm
          rw [← hm] at Hrow Hm
          have hm9 : m ≤ 8 := Nat.le_trans Hm.out hk
          clear hvv HVD hm hvn hnn
          go_upto_region 9 with (fail)
          refine wp_region_held_drew (S := (fun wx => Below W3.heap.size W3 wx ∧ wx.cell? ⟨wr.heap.size, 1, none⟩ = some (.func (.func FF) #[] C))) (by kernel_rfl) ?_ (fun hHeld => ?_)
          · exact hS0
          refine' wpAnyH_take (i := 0) (oi := _) (v := _) ?hi0r2 (by kernel_rfl) (by kernel_rfl) (by kernel_rfl) ?hq0r2 ?hy0r2 (by assumption) ?re0r2
          case hi0r2 => simp only [List.getElem?_toArray, List.getElem?_cons_zero]; rfl
          case hq0r2 => exact fun _ _ _ h => h
          case hy0r2 =>
            refine Or.inl ⟨by rfl, ?_⟩
            intro w hSw; (try dsimp only at hSw); go_simp; try with_reducible rfl
          try simp only [Act.put, List.setIfInBounds_toArray, List.set_cons_zero, List.set_cons_succ]
          refine' wpAnyH_take (i := 1) (oi := _) (v := _) ?hi1r2 (by kernel_rfl) (by kernel_rfl) (by kernel_rfl) ?hq1r2 ?hy1r2 (by assumption) ?re1r2
          case hi1r2 => simp only [List.getElem?_toArray, List.getElem?_cons_succ, List.getElem?_cons_zero]; rfl
          case hq1r2 => exact fun _ _ _ h => h
          case hy1r2 =>
            refine Or.inl ⟨by rfl, ?_⟩
            intro w hSw; (try dsimp only at hSw); go_simp; try with_reducible rfl
          try simp only [Act.put, List.setIfInBounds_toArray, List.set_cons_zero, List.set_cons_succ]
          refine' wpAnyH_take (i := 2) (oi := _) (v := _) ?hi2r2 (by kernel_rfl) (by kernel_rfl) (by kernel_rfl) ?hq2r2 ?hy2r2 (by assumption) ?re2r2
          case hi2r2 => simp only [List.getElem?_toArray, List.getElem?_cons_succ, List.getElem?_cons_zero]; rfl
          case hq2r2 => exact fun _ _ _ h => h
          case hy2r2 =>
            refine Or.inl ⟨by rfl, ?_⟩
            intro w hSw; (try dsimp only at hSw); go_simp; try with_reducible rfl
          try simp only [Act.put, List.setIfInBounds_toArray, List.set_cons_zero, List.set_cons_succ]
          refine wpAnyH_ready (rs := [3]) (by kernel_rfl) (by simp) ?_
          refine' AllReadyH.cons (o := _) ?hi3r2 (fun K hK => ?st3r2) AllReadyH.nil
          case hi3r2 => simp only [List.getElem?_toArray, List.getElem?_cons_succ, List.getElem?_cons_zero]; rfl
          go_simp
          go_at_call 19; refine (HD.out _).mono ?_; rintro e w6 ⟨rfl, c6⟩; have k8 := HSS.out _ (hHeld.1.trans (c6.mono hHeld.1.size)); clear c6
          try go_wp2_with fail
          refine hK.out _ _ ?_ (fun hHeld => ?_)
          · exact k8
          clear hK K
          try simp only [Act.put, List.setIfInBounds_toArray, List.set_cons_zero, List.set_cons_succ]
          refine wpAnyH_ready (rs := [4]) (by kernel_rfl) (by simp) ?_
          refine' AllReadyH.cons (o := _) ?hi4r2 (fun K hK => ?st4r2) AllReadyH.nil
          case hi4r2 => simp only [List.getElem?_toArray, List.getElem?_cons_succ, List.getElem?_cons_zero]; rfl
          go_simp
          refine (HG2.out _ hHeld.1).mono ?_; rintro e w7 ⟨rfl, c7⟩; have k8 := HSS.out _ (hHeld.1.trans (c7.mono hHeld.1.size)); clear c7
          try go_wp2_with fail
          refine hK.out _ _ ?_ (fun hHeld => ?_)
          · exact k8
          clear hK K
          try simp only [Act.put, List.setIfInBounds_toArray, List.set_cons_zero, List.set_cons_succ]
          refine' wpAnyH_take (i := 5) (oi := _) (v := _) ?hi5r2 (by kernel_rfl) (by kernel_rfl) (by kernel_rfl) ?hq5r2 ?hy5r2 (by assumption) ?re5r2
          case hi5r2 => simp only [List.getElem?_toArray, List.getElem?_cons_succ, List.getElem?_cons_zero]; rfl
          case hq5r2 => exact fun _ _ _ h => h
          case hy5r2 =>
            refine Or.inl ⟨by rfl, ?_⟩
            intro w hSw; (try dsimp only at hSw); go_simp; try with_reducible rfl
          try simp only [Act.put, List.setIfInBounds_toArray, List.set_cons_zero, List.set_cons_succ]
          refine wpAnyH_done (by kernel_rfl) ?_ _
          have h0 := HN0.out _ hHeld.1
          have Bw := Lib.hid (HC3.out.trans (hHeld.1.mono HC3.out.size))
          have Hr7 := Lib.hid (Hrow.out.kept (row := none) ⟨Bw.out.os, Bw.out.tape, Bw.out.output, Bw.out.size, fun j hj _ => Bw.out.block j hj⟩ (Classical.em _))
          have Hb7 := Lib.hid (HB3.out.trans (hHeld.1.mono HB3.out.size))
          obtain ⟨ad, cp, rfl⟩ := Lx.ownSlice Hr7.out
          clear k8 hHeld
          go_upto_region 10 with (fail)
          go_wp2_with (at_builtin; refine wpList_append_own _ rfl _ _ 33 rfl w2.heap.size 9 i0 _ 1 16 Tryz.underlying33 hi hz0 hz1 hz2 rfl (by decide) _ _ _ rfl (Hr7.out.alloc _) ⟨w7.heap.size, 0, none⟩ 1 1 [.string (N ++ ⟨#[61]⟩ ++ V)] rfl rfl (Lx.cellNew w7 (.string (N ++ ⟨#[61]⟩ ++ V)) 9) (by simp [Value.oneCell']) (by unfold maxLen; omega) (by omega) ((Hb7.out.alloc Hb7.out.size _).size) ?_)
          intro v' w8 hown8 hgrow _
          have hb8 := Lib.hid ((Hb7.out.alloc Hb7.out.size (.cells #[.string (N ++ ⟨#[61]⟩ ++ V)] 9)).grown hgrow (Hb7.out.alloc Hb7.out.size _).size (Lx.ownBase Hr7.out))
          have Hown := Lib.hid hown8
          clear hgrow hown8
          go_wp2_with fail
          go_roundw
          case rel => exact ⟨k + 1, by omega, by go_num, by rw [HX.out, List.length_append, ← Hm2.out, List.map_append]; simp only [List.map_cons, List.map_nil]; rw [HNV.out]; exact Hown.out, hb8.out⟩
          case measure => simp [intOf]; omega
      · obtain rfl : k = 8 := by omega
        have Hrow := Lib.hid hrow
        obtain ⟨ad, cp, rfl⟩ := Lx.ownSlice Hrow.out
        have HJ := Lib.hid (show Calls Tryz.prog 27 #[.slice ad (Lx.prTo P 8).length cp, .string ⟨#[32]⟩] wr fun e w' => e = .returned (.string ⟨(Lx.prS P).toArray⟩) ∧ Below wr.heap.size wr w' from by
          have hl : Lx.prTo P 8 = Lx.prL P := rfl
          by_cases hz : (Lx.prL P).length = 0
          · rw [hl, hz]
            have e : Lx.prS P = [] := by rw [HPS.out, List.eq_nil_of_length_eq_zero hz]; rfl
            rw [e]
            refine (Tryz.strings_Join_none ad cp ⟨#[32]⟩ wr).mono ?_
            rintro e w' ⟨rfl, rfl⟩
            exact ⟨rfl, Below.refl _ _⟩
          · obtain ⟨g, c, hv, hg, hcap, hc⟩ := Lx.ownCap Hrow.out (by rw [hl]; omega)
            rw [hv, hl]
            rw [hl] at hc
            have hm : ((Lx.prL P).map fun l => (⟨l.toArray⟩ : ByteArray)).map (·.data.toList) = Lx.prL P := by rw [List.map_map]; exact List.map_id _
            rw [hl] at hcap
            have hlen := HLn.out
            rw [HPS.out] at hlen ⊢
            have := Tryz.strings_Join g 0 c ((Lx.prL P).map fun l => (⟨l.toArray⟩ : ByteArray)) ⟨#[32]⟩ wr (fun j x hj => by
              rw [Nat.zero_add]
              refine hc j _ ?_
              rw [List.getElem?_map] at hj ⊢
              cases hq : (Lx.prL P)[j]? with
              | none => rw [hq] at hj; cases hj
              | some l => rw [hq] at hj; cases hj; rfl) hg (by rw [List.length_map]; have := HTl.out 8; rw [hl] at this; omega) (by rw [List.length_map]; exact hcap) (by rw [hm]; show (Lib.join (Lx.prL P) [32]).length ≤ _; omega)
            rw [hm, List.length_map] at this
            exact this)
        have HBf := Lib.hid (E2.out.trans (Hb.out.mono E2.out.size))
        clear hb hrow
        go_wp2_with fail
        refine HJ.out.mono ?_
        rintro e w3 ⟨rfl, c3⟩
        go_wp2_with fail
        go_ret2
        exact ⟨rfl, HBf.out.trans (c3.mono HBf.out.size)⟩
  · have hE : Lx.polE p = 16 := by unfold Lx.polE; rw [if_neg h]
    have HPS := Lib.hid (show Lx.prS p = [] from by unfold Lx.prS; rw [if_neg h])
    rw [hE] at HC ⊢
    obtain ⟨P, hP⟩ : ∃ P, P = p := ⟨_, rfl⟩
    rw [← hP] at HPS HC ⊢
    clear hE h
    obtain ⟨cap, pri, spl, dl, mis, keep, lt, lu, bf, bo, bp, rm, rb, rc, rj⟩ := p
    unfold Lx.PolV.cells at hW0 HQ
    dsimp only at hW0 HQ
    have hPv : P.val = .agg #[.int .i64 cap, .int .i64 pri, .int .i64 spl, .int .i64 dl, .int .i64 mis, .int .i64 keep, .int .i64 lt, .int .i64 lu, .int .i64 bf, .int .i64 bo, .int .i64 bp, .int .i64 rm, .int .i64 rb, .int .i64 rc, .int .i64 rj] := by rw [hP]; rfl
    rw [hPv] at HC ⊢
    go_enter Tryz.func18, Tryz.ntmps18
    go_upto_region 1 with (fail)
    rw [show (w.alloc (.cells #[.int .i64 cap, .int .i64 pri, .int .i64 spl, .int .i64 dl, .int .i64 mis, .int .i64 keep, .int .i64 lt, .int .i64 lu, .int .i64 bf, .int .i64 bo, .int .i64 bp, .int .i64 rm, .int .i64 rb, .int .i64 rc, .int .i64 rj] 29)) = W0 from hW0.symm]
    obtain ⟨q0, q1, q2, q3, q4, q5, q6, q7, q8, q9, q10, q11, q12, q13, q14⟩ : W0.cell? ⟨w.heap.size, 0, none⟩ = some (.int .i64 cap) ∧ W0.cell? ⟨w.heap.size, 1, none⟩ = some (.int .i64 pri) ∧ W0.cell? ⟨w.heap.size, 2, none⟩ = some (.int .i64 spl) ∧ W0.cell? ⟨w.heap.size, 3, none⟩ = some (.int .i64 dl) ∧ W0.cell? ⟨w.heap.size, 4, none⟩ = some (.int .i64 mis) ∧ W0.cell? ⟨w.heap.size, 5, none⟩ = some (.int .i64 keep) ∧ W0.cell? ⟨w.heap.size, 6, none⟩ = some (.int .i64 lt) ∧ W0.cell? ⟨w.heap.size, 7, none⟩ = some (.int .i64 lu) ∧ W0.cell? ⟨w.heap.size, 8, none⟩ = some (.int .i64 bf) ∧ W0.cell? ⟨w.heap.size, 9, none⟩ = some (.int .i64 bo) ∧ W0.cell? ⟨w.heap.size, 10, none⟩ = some (.int .i64 bp) ∧ W0.cell? ⟨w.heap.size, 11, none⟩ = some (.int .i64 rm) ∧ W0.cell? ⟨w.heap.size, 12, none⟩ = some (.int .i64 rb) ∧ W0.cell? ⟨w.heap.size, 13, none⟩ = some (.int .i64 rc) ∧ W0.cell? ⟨w.heap.size, 14, none⟩ = some (.int .i64 rj) := ⟨HQ.out W0 (Below.refl _ _) 0 _ rfl, HQ.out W0 (Below.refl _ _) 1 _ rfl, HQ.out W0 (Below.refl _ _) 2 _ rfl, HQ.out W0 (Below.refl _ _) 3 _ rfl, HQ.out W0 (Below.refl _ _) 4 _ rfl, HQ.out W0 (Below.refl _ _) 5 _ rfl, HQ.out W0 (Below.refl _ _) 6 _ rfl, HQ.out W0 (Below.refl _ _) 7 _ rfl, HQ.out W0 (Below.refl _ _) 8 _ rfl, HQ.out W0 (Below.refl _ _) 9 _ rfl, HQ.out W0 (Below.refl _ _) 10 _ rfl, HQ.out W0 (Below.refl _ _) 11 _ rfl, HQ.out W0 (Below.refl _ _) 12 _ rfl, HQ.out W0 (Below.refl _ _) 13 _ rfl, HQ.out W0 (Below.refl _ _) 14 _ rfl⟩
    clear hW0 hP hlt HQ HK HD
    go_wp2_with fail
    refine (HC.out _).mono ?_
    rintro e w1 ⟨rfl, c1⟩
    go_wp2_with fail
    go_ret2
    exact ⟨by rw [HPS.out]; rfl, B0.out.trans (c1.mono B0.out.size)⟩
end Go.Proofs.YtpjocfkolnfjiaaGreatDoor
