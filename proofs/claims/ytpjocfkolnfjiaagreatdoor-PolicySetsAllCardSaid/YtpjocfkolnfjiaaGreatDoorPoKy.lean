/- Policies: Keys. -/
import Derived.Test.YtpjocfkolnfjiaaGreatDoorPoM7
namespace Go.Proofs.YtpjocfkolnfjiaaGreatDoor
open Go.RowKit

theorem Lx.below_gb' {wr w' : World} (hb : Below wr.heap.size wr w') : wr.grownBy w' none := ⟨hb.os, hb.tape, hb.output, hb.size, fun k hk _ => hb.block k hk⟩
def Lx.keyVs (k : Nat) : List Value := (List.range k).map fun j => .string ⟨(Lx.keyW j).toArray⟩
theorem Lx.keyVs_succ (k : Nat) : Lx.keyVs (k + 1) = Lx.keyVs k ++ [.string ⟨(Lx.keyW k).toArray⟩] := by
  unfold Lx.keyVs; rw [List.range_succ, List.map_append]; rfl
set_option maxRecDepth 100000 in
set_option maxHeartbeats 3200000 in
/-- The keys, in a row of its own. -/
theorem polKeys_any (w : World) : Calls Tryz.prog 6 #[] w fun e w' => ∃ A c, e = .returned (.slice (some ⟨A, 0, none⟩) 8 c) ∧ A < w'.heap.size ∧ w.heap.size ≤ A ∧
    (∀ j : Nat, j < 8 → w'.cell? ⟨A, j, none⟩ = some (.string ⟨(Lx.keyW j).toArray⟩)) ∧ Below w.heap.size w w' := by
  obtain ⟨i0, hi, hz0, hz1, hz2⟩ := info_parts infoS
  go_enter Tryz.func6, Tryz.ntmps6
  go_wp2_with fail
  refine (keys_any _).mono ?_
  rintro e w2 ⟨g, b1, b2, b3, b4, rfl, kb, ki, c2⟩
  have C2 := Lib.hid c2
  have KI := Lib.hid ki
  clear kb ki c2
  go_wp2_with fail
  go_loopw [1, 6] (fun ov iv wr => ∃ k : Nat, k ≤ 8 ∧ iv = .int .i64 k ∧ wr.ownsRow w2.heap.size 9 1 ov k (Lx.keyVs k) ∧ Below w2.heap.size w2 wr) (fun _ i _ => 8 - (intOf i).toNat)
  case atStart => exact ⟨0, Nat.zero_le _, rfl, World.ownsRow_nil _ _ _ _, Below.refl _ _⟩
  case round =>
    obtain ⟨k, hk, rfl, hrow, hb⟩ := hrel
    have Hb := Lib.hid hb
    by_cases hlt : k < 8
    · have hki : (k : Int) < 8 := by omega
      have K := Lib.hid (KI.out.below hb)
      obtain ⟨e0, e1, e2⟩ := Lx.keyCells_at b1 b2 b3 b4 hlt
      have r0 := K.out.2 _ _ e0
      have r1 := K.out.2 _ _ e1
      have r2 := K.out.2 _ _ e2
      obtain ⟨GV, hGV⟩ : ∃ G, G = Lx.getF b1 b2 b3 b4 k := ⟨_, rfl⟩
      obtain ⟨SV, hSV⟩ : ∃ G, G = Lx.setF b1 b2 b3 b4 k := ⟨_, rfl⟩
      have one := Lx.one_fn (b1 := b1) (b2 := b2) (b3 := b3) (b4 := b4) hlt
      obtain ⟨N, hN⟩ : ∃ N : ByteArray, N = ⟨(Lx.keyW k).toArray⟩ := ⟨_, rfl⟩
      rw [← hN] at r0
      rw [← hGV] at r1 one
      rw [← hSV] at r2 one
      have HN := Lib.hid hN
      have g1 : ∀ (q : Addr) (W : World), (store q GV).run Tryz.prog W = stored Tryz.prog W q GV .plain := fun q W => run_store Tryz.prog W q _ _ one.1
      have g2 : ∀ (q : Addr) (W : World), (store q SV).run Tryz.prog W = stored Tryz.prog W q SV .plain := fun q W => run_store Tryz.prog W q _ _ one.2
      obtain ⟨W3, hW3⟩ : ∃ W3, W3 = wr.alloc (.cells #[.string N, GV, SV] 59) := ⟨_, rfl⟩
      have C3 := Lib.hid (show Below wr.heap.size wr W3 from by rw [hW3]; exact (Below.refl _ _).alloc (Nat.le_refl _) _)
      have t0 : W3.cell? ⟨wr.heap.size, 0, none⟩ = some (.string N) := by rw [hW3]; exact Lx.cellR _ _ _ _ _ rfl
      have Hr := Lib.hid (hrow.kept (row := none) (Lx.below_gb' C3.out) (Classical.em _))
      have Hb3 := Lib.hid (hb.trans (C3.out.mono hb.size))
      obtain ⟨ad, cp, rfl⟩ := Lx.ownSlice hrow
      clear hGV hSV one hN e0 e1 e2 hb hrow
      go_upto_region 5 with (fail)
      rw [show wr.alloc (.cells #[.string N, GV, SV] 59) = W3 from hW3.symm]
      clear hW3 g1 g2 r0 r1 r2
      go_wp2_with (at_builtin; refine wpList_append_own _ rfl _ _ 33 rfl w2.heap.size 9 i0 _ 1 16 Tryz.underlying33 hi hz0 hz1 hz2 rfl (by decide) _ _ _ rfl (Hr.out.alloc _) ⟨W3.heap.size, 0, none⟩ 1 1 [.string N] rfl rfl (Lx.cellNew W3 (.string N) 9) (by simp [Value.oneCell']) (by unfold maxLen; omega) (by omega) ((Hb3.out.alloc Hb3.out.size _).size) ?_)
      intro v' w8 hown8 hgrow _
      have hb8 := Lib.hid ((Hb3.out.alloc Hb3.out.size (.cells #[.string N] 9)).grown hgrow (Hb3.out.alloc Hb3.out.size _).size (Lx.ownBase Hr.out))
      have Hown := Lib.hid hown8
      clear hgrow hown8
      go_wp2_with fail
      go_roundw
      case rel => exact ⟨k + 1, by omega, by go_num, by rw [Lx.keyVs_succ, ← HN.out]; exact Hown.out, hb8.out⟩
      case measure => simp [intOf]; omega
    · obtain rfl : k = 8 := by omega
      obtain ⟨A, c, hv, hA, hcap, hc⟩ := Lx.ownCap hrow (by omega)
      have hge := hrow.lt A (by rw [hv]; rfl)
      have HH := Lib.hid (show ∀ j : Nat, j < 8 → wr.cell? ⟨A, j, none⟩ = some (.string ⟨(Lx.keyW j).toArray⟩) from fun j hj => hc j _ (by unfold Lx.keyVs; rw [List.getElem?_map, List.getElem?_range hj]; rfl))
      have HA := Lib.hid (show A < wr.heap.size ∧ w.heap.size ≤ A from ⟨hA, by have := C2.out.size; omega⟩)
      have HB := Lib.hid (C2.out.trans (hb.mono C2.out.size))
      subst hv
      clear hc hcap hge hA hrow hb
      go_wp2_with fail
      go_ret
      exact ⟨A, c, rfl, HA.out.1, HA.out.2, HH.out, HB.out⟩
end Go.Proofs.YtpjocfkolnfjiaaGreatDoor
