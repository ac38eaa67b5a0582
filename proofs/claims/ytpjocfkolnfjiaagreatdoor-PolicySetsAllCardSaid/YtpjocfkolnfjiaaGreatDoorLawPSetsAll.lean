/- PolicySetsAll: for every two policies and every byte the law returns true; what the call was given reads as before. Conditions: the eight listed variables lie as the program lays them. -/
import Derived.Test.YtpjocfkolnfjiaaGreatDoorUnFrame
import Derived.Test.YtpjocfkolnfjiaaGreatDoorPoM8
import Derived.Test.YtpjocfkolnfjiaaGreatDoorPoKy
import Derived.SevenTiedAt
namespace Go.Proofs.YtpjocfkolnfjiaaGreatDoor.lawPolicySetsAll
open Go.ChangeShapes Go.WideShapes Go.ChangeAt Go.RowKit
def Lx.keyB (k : Nat) : ByteArray := ⟨(Lx.keyW k).toArray⟩
/-- The keys that were set in i steps from key f on. -/
def Lx.turn (f : Nat) (i : Nat) : List Nat := (List.range i).map fun j => (f + j) % 8
theorem Lx.turn_succ (f i : Nat) : Lx.turn f (i + 1) = Lx.turn f i ++ [(f + i) % 8] := by unfold Lx.turn; rw [List.range_succ, List.map_append]; rfl
theorem Lx.fold_snoc (p : Lx.PolV) : ∀ (K : List Nat) (k : Nat) (q : Lx.PolV), Lx.foldK p (K ++ [k]) q = Lx.updK k p (Lx.foldK p K q)
  | [], _, _ => rfl
  | j :: K, k, q => by rw [List.cons_append, Lx.foldK, Lx.foldK]; exact Lx.fold_snoc p K k _
theorem Lx.turn_all (f : Nat) (p q : Lx.PolV) : Lx.foldK p (Lx.turn f 8) q = p := by
  refine Lx.fold_all p _ q (fun k hk => ?_) (fun j hj => .inl ?_)
  · obtain ⟨i, _, rfl⟩ := List.mem_map.1 hk; omega
  · refine List.mem_map.2 ⟨(j + 8 * f - f) % 8, List.mem_range.2 (by omega), by omega⟩
theorem Lx.getS_at {p : Lx.PolV} (h : Lx.polOk p = true) {k : Nat} (hk : k < 8) : Lx.getS p (Lx.keyB k) = Lx.valS k p ∧ Lx.getE p (Lx.keyB k) = 0 := by
  have e : Lx.keyIx (Lx.keyB k).data.toList = k := Lx.keyIx_key hk
  unfold Lx.getS Lx.getE
  rw [e, if_pos ⟨h, hk⟩, if_pos h, if_pos hk]; exact ⟨rfl, rfl⟩
theorem Lx.setPol_back {p : Lx.PolV} (h : Lx.polOk p = true) {k : Nat} (hk : k < 8) {s : ByteArray} (hs : s.data.toList = Lx.valS k p) (q : Lx.PolV) : Lx.setPol q (Lx.keyB k) s = (Lx.updK k p q, 0) := by
  have e : Lx.keyIx (Lx.keyB k).data.toList = k := Lx.keyIx_key hk
  unfold Lx.setPol
  rw [e, if_pos hk, Lx.set_back hk h hs]
/-- The first loop within a code. -/
def Lx.firstLoop : Code → Option Code
  | .loop c => some c
  | .seq a b => match Lx.firstLoop a with
    | some c => some c
    | none => Lx.firstLoop b
  | .block _ c => Lx.firstLoop c
  | .scope c => Lx.firstLoop c
  | .cond _ a b => match Lx.firstLoop a with
    | some c => some c
    | none => Lx.firstLoop b
  | _ => none
noncomputable def innerBody : Code := (((Tryz.f3.body.bind Lx.firstLoop).bind Lx.firstLoop).getD .skip)
/-- The fifteen cells of a policy at once. -/
theorem polOpened {g : Nat} {w wx : World} {x : Lx.PolV} (S : Lx.PSt g w wx x) {G : Prop} (k : wx.cell? ⟨g, 0, none⟩ = some (.int .i64 x.cap) → wx.cell? ⟨g, 1, none⟩ = some (.int .i64 x.pri) → wx.cell? ⟨g, 2, none⟩ = some (.int .i64 x.spl) → wx.cell? ⟨g, 3, none⟩ = some (.int .i64 x.dl) → wx.cell? ⟨g, 4, none⟩ = some (.int .i64 x.mis) → wx.cell? ⟨g, 5, none⟩ = some (.int .i64 x.keep) → wx.cell? ⟨g, 6, none⟩ = some (.int .i64 x.lt) → wx.cell? ⟨g, 7, none⟩ = some (.int .i64 x.lu) → wx.cell? ⟨g, 8, none⟩ = some (.int .i64 x.bf) → wx.cell? ⟨g, 9, none⟩ = some (.int .i64 x.bo) → wx.cell? ⟨g, 10, none⟩ = some (.int .i64 x.bp) → wx.cell? ⟨g, 11, none⟩ = some (.int .i64 x.rm) → wx.cell? ⟨g, 12, none⟩ = some (.int .i64 x.rb) → wx.cell? ⟨g, 13, none⟩ = some (.int .i64 x.rc) → wx.cell? ⟨g, 14, none⟩ = some (.int .i64 x.rj) → G) : G :=
  k (S.cell 0 _ rfl) (S.cell 1 _ rfl) (S.cell 2 _ rfl) (S.cell 3 _ rfl) (S.cell 4 _ rfl) (S.cell 5 _ rfl) (S.cell 6 _ rfl) (S.cell 7 _ rfl) (S.cell 8 _ rfl) (S.cell 9 _ rfl) (S.cell 10 _ rfl) (S.cell 11 _ rfl) (S.cell 12 _ rfl) (S.cell 13 _ rfl) (S.cell 14 _ rfl)
theorem polFree {g : Nat} {w wx : World} {x : Lx.PolV} (S : Lx.PSt g w wx x) {G : Prop} (k : wx.frozen? ⟨g, 0, none⟩ = false → wx.frozen? ⟨g, 1, none⟩ = false → wx.frozen? ⟨g, 2, none⟩ = false → wx.frozen? ⟨g, 3, none⟩ = false → wx.frozen? ⟨g, 4, none⟩ = false → wx.frozen? ⟨g, 5, none⟩ = false → wx.frozen? ⟨g, 6, none⟩ = false → wx.frozen? ⟨g, 7, none⟩ = false → wx.frozen? ⟨g, 8, none⟩ = false → wx.frozen? ⟨g, 9, none⟩ = false → wx.frozen? ⟨g, 10, none⟩ = false → wx.frozen? ⟨g, 11, none⟩ = false → wx.frozen? ⟨g, 12, none⟩ = false → wx.frozen? ⟨g, 13, none⟩ = false → wx.frozen? ⟨g, 14, none⟩ = false → G) : G :=
  k (S.fz 0 (by omega)) (S.fz 1 (by omega)) (S.fz 2 (by omega)) (S.fz 3 (by omega)) (S.fz 4 (by omega)) (S.fz 5 (by omega)) (S.fz 6 (by omega)) (S.fz 7 (by omega)) (S.fz 8 (by omega)) (S.fz 9 (by omega)) (S.fz 10 (by omega)) (S.fz 11 (by omega)) (S.fz 12 (by omega)) (S.fz 13 (by omega)) (S.fz 14 (by omega))
set_option maxRecDepth 100000 in
set_option maxHeartbeats 25600000 in
theorem inner {w W7 : World} (env : UEnv w) (P now nx : Lx.PolV) (n A cc g8 g14 : Nat) (T : ByteArray) (hn8 : n < 8) (hok0 : Lx.polOk P = true) (hok : Lx.polOk now = true) (hnx : nx = Lx.updK n P now) (htl : T.data.toList = Lx.valS n P)
    (hX7 : Lx.PSt g8 W7 W7 now) (hN7 : Lx.PSt g14 W7 W7 nx) (hR7 : ∀ j : Nat, j < 8 → W7.cell? ⟨A, j, none⟩ = some (.string (Lx.keyB j))) (hA7 : A < W7.heap.size) (hB7 : Below w.heap.size w W7)
    (c0 c1 c2 c3 c4 c5 c6 c10 c13 c15 c17 c18 c19 c20 c21 c22 c23 c24 c25 c26 c27 c28 c29 c30 c31 c32 c33 c34 c35 c36 c37 c38 c39 c40 c41 c42 c43 c44 c45 c46 c47 c48 c49 c50 c51 c52 c53 c54 c55 c56 c57 c58 c59 c60 c61 c62 c63 c64 c65 c66 c67 c68 c69 c70 c71 c72 c73 c74 c75 c76 c77 c78 c79 c80 c81 c82 c83 c84 c85 c86 c87 c88 c89 c90 c91 c92 c93 c94 c95 c96 c97 c98 c99 c100 c101 c102 c103 c104 c105 c106 c107 c108 c109 c110 c111 c112 c113 c114 c115 c116 c117 c118 c119 c120 c121 c122 c123 c124 c125 c126 c127 c128 c129 c130 : Value) (Q0 : Exit → Act → World → Prop)
    (hp0 : ∀ x (a : Act) d v w', Q0 (.panic x) (a.put (some d) v) w' → Q0 (.panic x) a w') (hexit : ∀ (u6 u16 u17 u18 u19 u20 u71 u72 u73 u74 u75 u76 u77 u78 u79 u80 u81 u82 u83 u84 u85 u86 u87 u88 u89 u90 u91 u92 u93 u94 u95 u96 u97 u98 u99 u100 u101 u102 u103 u104 u105 u106 u107 u108 u109 u110 u111 u112 u113 u114 u115 u116 u117 u118 u119 u120 u121 u122 u123 : Value) (W8 : World), Below W7.heap.size W7 W8 → Q0 (.exit 2) ⟨List.toArray (c0 :: c1 :: c2 :: c3 :: c4 :: c5 :: u6 :: .slice (some ⟨A, 0, none⟩) 8 cc :: .pointer (some ⟨g8, 0, none⟩) :: .bool true :: c10 :: .int .i64 n :: .string T :: c13 :: .pointer (some ⟨g14, 0, none⟩) :: c15 :: u16 :: u17 :: u18 :: u19 :: u20 :: c21 :: c22 :: c23 :: c24 :: c25 :: c26 :: c27 :: c28 :: c29 :: c30 :: c31 :: c32 :: c33 :: c34 :: c35 :: c36 :: c37 :: c38 :: c39 :: c40 :: c41 :: c42 :: c43 :: c44 :: c45 :: c46 :: c47 :: c48 :: c49 :: c50 :: c51 :: c52 :: c53 :: c54 :: c55 :: c56 :: c57 :: c58 :: c59 :: c60 :: c61 :: c62 :: c63 :: c64 :: c65 :: c66 :: c67 :: c68 :: c69 :: c70 :: u71 :: u72 :: u73 :: u74 :: u75 :: u76 :: u77 :: u78 :: u79 :: u80 :: u81 :: u82 :: u83 :: u84 :: u85 :: u86 :: u87 :: u88 :: u89 :: u90 :: u91 :: u92 :: u93 :: u94 :: u95 :: u96 :: u97 :: u98 :: u99 :: u100 :: u101 :: u102 :: u103 :: u104 :: u105 :: u106 :: u107 :: u108 :: u109 :: u110 :: u111 :: u112 :: u113 :: u114 :: u115 :: u116 :: u117 :: u118 :: u119 :: u120 :: u121 :: u122 :: u123 :: c124 :: c125 :: c126 :: c127 :: c128 :: c129 :: c130 :: []), []⟩ W8) :
    Code.wp Tryz.prog (Code.loop innerBody) Q0 ⟨List.toArray (c0 :: c1 :: c2 :: c3 :: c4 :: c5 :: c6 :: .slice (some ⟨A, 0, none⟩) 8 cc :: .pointer (some ⟨g8, 0, none⟩) :: .bool true :: c10 :: .int .i64 n :: .string T :: c13 :: .pointer (some ⟨g14, 0, none⟩) :: c15 :: .int .i64 0 :: c17 :: c18 :: c19 :: c20 :: c21 :: c22 :: c23 :: c24 :: c25 :: c26 :: c27 :: c28 :: c29 :: c30 :: c31 :: c32 :: c33 :: c34 :: c35 :: c36 :: c37 :: c38 :: c39 :: c40 :: c41 :: c42 :: c43 :: c44 :: c45 :: c46 :: c47 :: c48 :: c49 :: c50 :: c51 :: c52 :: c53 :: c54 :: c55 :: c56 :: c57 :: c58 :: c59 :: c60 :: c61 :: c62 :: c63 :: c64 :: c65 :: c66 :: c67 :: c68 :: c69 :: c70 :: c71 :: c72 :: c73 :: c74 :: c75 :: c76 :: c77 :: c78 :: c79 :: c80 :: c81 :: c82 :: c83 :: c84 :: c85 :: c86 :: c87 :: c88 :: c89 :: c90 :: c91 :: c92 :: c93 :: c94 :: c95 :: c96 :: c97 :: c98 :: c99 :: c100 :: c101 :: c102 :: c103 :: c104 :: c105 :: c106 :: c107 :: c108 :: c109 :: c110 :: c111 :: c112 :: c113 :: c114 :: c115 :: c116 :: c117 :: c118 :: c119 :: c120 :: c121 :: c122 :: c123 :: c124 :: c125 :: c126 :: c127 :: c128 :: c129 :: c130 :: []), []⟩ W7 := by
  have E0 := Lib.hid env
  have HOK := Lib.hid hok0
  have Hok := Lib.hid hok
  have Hnx := Lib.hid hnx
  have Htl := Lib.hid htl
  have HX7 := Lib.hid hX7
  have HN7 := Lib.hid hN7
  have HR7 := Lib.hid hR7
  have HA7 := Lib.hid hA7
  have B7 := Lib.hid hB7
  have HE := Lib.hid hexit
  have hp := Lib.hid hp0
  have HokN := Lib.hid (show Lx.polOk nx = true from by rw [Hnx.out]; exact Lx.upd_ok P now hn8 ((Lx.polOk_all P).1 HOK.out n hn8) Hok.out)
  have hni : (n : Int) < 8 := by omega
  have hn0 : (0 : Int) ≤ (n : Int) := by omega
  clear env hok0 hok hnx htl hX7 hN7 hR7 hA7 hB7 hexit hp0
  conv => arg 2; arg 1; whnf
  go_loopw [16] (fun i w2 => ∃ j : Nat, j ≤ 8 ∧ i = .int .i64 j ∧ Below W7.heap.size W7 w2) (fun i _ => 8 - (intOf i).toNat)
  case atStart => exact ⟨0, Nat.zero_le _, rfl, Below.refl _ _⟩
  case round =>
    obtain ⟨j, hj, rfl, bI⟩ := hrel
    obtain ⟨W8, rfl⟩ : ∃ W, W = wr := ⟨_, rfl⟩
    by_cases hlj : j < 8
    · have hji : (j : Int) < 8 := by omega
      have hj0 : (0 : Int) ≤ (j : Int) := by omega
      have bIh := Lib.hid bI
      have XI := Lib.hid (HX7.out.low bI)
      have NI := Lib.hid (HN7.out.low bI)
      have BI := Lib.hid (B7.out.trans (bI.mono B7.out.size))
      have RI := Lib.hid (show ∀ j : Nat, j < 8 → W8.cell? ⟨A, j, none⟩ = some (.string (Lx.keyB j)) from fun j hj => (bI.cell (p := ⟨A, j, none⟩) HA7.out).trans (HR7.out j hj))
      have AI := Lib.hid (Nat.lt_of_lt_of_le HA7.out bI.size)
      obtain ⟨TA, hTA⟩ : ∃ T : ByteArray, T = ⟨(Lx.valS j now).toArray⟩ := ⟨_, rfl⟩
      obtain ⟨TB, hTB⟩ : ∃ T : ByteArray, T = ⟨(Lx.valS j nx).toArray⟩ := ⟨_, rfl⟩
      have GA := Lib.hid (show ∀ W, UEnv W → Calls Tryz.prog 7 #[.agg #[.int .i64 now.cap, .int .i64 now.pri, .int .i64 now.spl, .int .i64 now.dl, .int .i64 now.mis, .int .i64 now.keep, .int .i64 now.lt, .int .i64 now.lu, .int .i64 now.bf, .int .i64 now.bo, .int .i64 now.bp, .int .i64 now.rm, .int .i64 now.rb, .int .i64 now.rc, .int .i64 now.rj], .string (Lx.keyB j)] W fun e w' => e = .returned (.tuple #[.string TA, .int .i64 0]) ∧ Below W.heap.size W w' from fun W E => by have := polGet_any now (Lx.keyB j) W E; rw [(Lx.getS_at Hok.out hlj).1, (Lx.getS_at Hok.out hlj).2, ← hTA] at this; exact this)
      have GB := Lib.hid (show ∀ W, UEnv W → Calls Tryz.prog 7 #[.agg #[.int .i64 nx.cap, .int .i64 nx.pri, .int .i64 nx.spl, .int .i64 nx.dl, .int .i64 nx.mis, .int .i64 nx.keep, .int .i64 nx.lt, .int .i64 nx.lu, .int .i64 nx.bf, .int .i64 nx.bo, .int .i64 nx.bp, .int .i64 nx.rm, .int .i64 nx.rb, .int .i64 nx.rc, .int .i64 nx.rj], .string (Lx.keyB j)] W fun e w' => e = .returned (.tuple #[.string TB, .int .i64 0]) ∧ Below W.heap.size W w' from fun W E => by have := polGet_any nx (Lx.keyB j) W E; rw [(Lx.getS_at HokN.out hlj).1, (Lx.getS_at HokN.out hlj).2, ← hTB] at this; exact this)
      have hTT : if j = n then (TB.toList == T.toList) = true else (TA.toList == TB.toList) = true := by
        have hv : Lx.valS j nx = if j = n then Lx.valS n P else Lx.valS j now := by rw [Hnx.out]; exact Lx.val_upd P now hn8 hlj
        by_cases e : j = n
        · rw [if_pos e] at hv ⊢
          rw [beq_iff_eq, Lib.toList_data, Lib.toList_data, Htl.out, hTB, hv]
        · rw [if_neg e] at hv ⊢
          rw [beq_iff_eq, Lib.toList_data, Lib.toList_data, hTA, hTB, hv]
      have HSI := Lib.hid (show ∀ wx, Below W8.heap.size W8 wx → Below W8.heap.size W8 wx ∧ wx.cell? ⟨g8, 0, none⟩ = some (.int .i64 now.cap) ∧ wx.cell? ⟨g8, 1, none⟩ = some (.int .i64 now.pri) ∧ wx.cell? ⟨g8, 2, none⟩ = some (.int .i64 now.spl) ∧ wx.cell? ⟨g8, 3, none⟩ = some (.int .i64 now.dl) ∧ wx.cell? ⟨g8, 4, none⟩ = some (.int .i64 now.mis) ∧ wx.cell? ⟨g8, 5, none⟩ = some (.int .i64 now.keep) ∧ wx.cell? ⟨g8, 6, none⟩ = some (.int .i64 now.lt) ∧ wx.cell? ⟨g8, 7, none⟩ = some (.int .i64 now.lu) ∧ wx.cell? ⟨g8, 8, none⟩ = some (.int .i64 now.bf) ∧ wx.cell? ⟨g8, 9, none⟩ = some (.int .i64 now.bo) ∧ wx.cell? ⟨g8, 10, none⟩ = some (.int .i64 now.bp) ∧ wx.cell? ⟨g8, 11, none⟩ = some (.int .i64 now.rm) ∧ wx.cell? ⟨g8, 12, none⟩ = some (.int .i64 now.rb) ∧ wx.cell? ⟨g8, 13, none⟩ = some (.int .i64 now.rc) ∧ wx.cell? ⟨g8, 14, none⟩ = some (.int .i64 now.rj) ∧ wx.cell? ⟨A, j, none⟩ = some (.string (Lx.keyB j)) from fun wx b => ⟨b, (b.cell (p := ⟨g8, 0, none⟩) XI.out.size).trans (XI.out.cell 0 _ rfl), (b.cell (p := ⟨g8, 1, none⟩) XI.out.size).trans (XI.out.cell 1 _ rfl), (b.cell (p := ⟨g8, 2, none⟩) XI.out.size).trans (XI.out.cell 2 _ rfl), (b.cell (p := ⟨g8, 3, none⟩) XI.out.size).trans (XI.out.cell 3 _ rfl), (b.cell (p := ⟨g8, 4, none⟩) XI.out.size).trans (XI.out.cell 4 _ rfl), (b.cell (p := ⟨g8, 5, none⟩) XI.out.size).trans (XI.out.cell 5 _ rfl), (b.cell (p := ⟨g8, 6, none⟩) XI.out.size).trans (XI.out.cell 6 _ rfl), (b.cell (p := ⟨g8, 7, none⟩) XI.out.size).trans (XI.out.cell 7 _ rfl), (b.cell (p := ⟨g8, 8, none⟩) XI.out.size).trans (XI.out.cell 8 _ rfl), (b.cell (p := ⟨g8, 9, none⟩) XI.out.size).trans (XI.out.cell 9 _ rfl), (b.cell (p := ⟨g8, 10, none⟩) XI.out.size).trans (XI.out.cell 10 _ rfl), (b.cell (p := ⟨g8, 11, none⟩) XI.out.size).trans (XI.out.cell 11 _ rfl), (b.cell (p := ⟨g8, 12, none⟩) XI.out.size).trans (XI.out.cell 12 _ rfl), (b.cell (p := ⟨g8, 13, none⟩) XI.out.size).trans (XI.out.cell 13 _ rfl), (b.cell (p := ⟨g8, 14, none⟩) XI.out.size).trans (XI.out.cell 14 _ rfl), (b.cell (p := ⟨A, j, none⟩) AI.out).trans (RI.out j hlj)⟩)
      have hS0 := HSI.out W8.drew (Below.refl _ W8).drew
      clear hTA hTB bI
      go_upto_region 19 with (fail)
      refine wp_region_held_drew (S := (fun wx => Below W8.heap.size W8 wx ∧ wx.cell? ⟨g8, 0, none⟩ = some (.int .i64 now.cap) ∧ wx.cell? ⟨g8, 1, none⟩ = some (.int .i64 now.pri) ∧ wx.cell? ⟨g8, 2, none⟩ = some (.int .i64 now.spl) ∧ wx.cell? ⟨g8, 3, none⟩ = some (.int .i64 now.dl) ∧ wx.cell? ⟨g8, 4, none⟩ = some (.int .i64 now.mis) ∧ wx.cell? ⟨g8, 5, none⟩ = some (.int .i64 now.keep) ∧ wx.cell? ⟨g8, 6, none⟩ = some (.int .i64 now.lt) ∧ wx.cell? ⟨g8, 7, none⟩ = some (.int .i64 now.lu) ∧ wx.cell? ⟨g8, 8, none⟩ = some (.int .i64 now.bf) ∧ wx.cell? ⟨g8, 9, none⟩ = some (.int .i64 now.bo) ∧ wx.cell? ⟨g8, 10, none⟩ = some (.int .i64 now.bp) ∧ wx.cell? ⟨g8, 11, none⟩ = some (.int .i64 now.rm) ∧ wx.cell? ⟨g8, 12, none⟩ = some (.int .i64 now.rb) ∧ wx.cell? ⟨g8, 13, none⟩ = some (.int .i64 now.rc) ∧ wx.cell? ⟨g8, 14, none⟩ = some (.int .i64 now.rj) ∧ wx.cell? ⟨A, j, none⟩ = some (.string (Lx.keyB j)))) (by as_aux_lemma => kernel_rfl) ?_ (fun hHeld => ?_)
      · exact hS0
      refine' wpAnyH_take (i := 0) (oi := _) (v := _) ?hi0r15 (by as_aux_lemma => kernel_rfl) (by as_aux_lemma => kernel_rfl) (by as_aux_lemma => kernel_rfl) ?hq0r15 ?hy0r15 (by assumption) ?re0r15
      case hi0r15 => simp only [List.getElem?_toArray, List.getElem?_cons_zero]; rfl
      case hq0r15 => exact fun _ _ _ h => hp.out _ _ _ _ _ h
      case hy0r15 =>
        refine Or.inl ⟨by rfl, ?_⟩
        intro w hSw; (try dsimp only at hSw); go_simp; try with_reducible rfl
      try simp only [Act.put, List.setIfInBounds_toArray, List.set_cons_zero, List.set_cons_succ]
      refine' wpAnyH_take (i := 1) (oi := _) (v := _) ?hi1r15 (by as_aux_lemma => kernel_rfl) (by as_aux_lemma => kernel_rfl) (by as_aux_lemma => kernel_rfl) ?hq1r15 ?hy1r15 (by assumption) ?re1r15
      case hi1r15 => simp only [List.getElem?_toArray, List.getElem?_cons_succ, List.getElem?_cons_zero]; rfl
      case hq1r15 => exact fun _ _ _ h => hp.out _ _ _ _ _ h
      case hy1r15 =>
        refine Or.inl ⟨by rfl, ?_⟩
        intro w hSw; (try dsimp only at hSw); go_simp; try with_reducible rfl
      try simp only [Act.put, List.setIfInBounds_toArray, List.set_cons_zero, List.set_cons_succ]
      refine' wpAnyH_take (i := 2) (oi := _) (v := _) ?hi2r15 (by as_aux_lemma => kernel_rfl) (by as_aux_lemma => kernel_rfl) (by as_aux_lemma => kernel_rfl) ?hq2r15 ?hy2r15 (by assumption) ?re2r15
      case hi2r15 => simp only [List.getElem?_toArray, List.getElem?_cons_succ, List.getElem?_cons_zero]; rfl
      case hq2r15 => exact fun _ _ _ h => hp.out _ _ _ _ _ h
      case hy2r15 =>
        refine Or.inl ⟨by rfl, ?_⟩
        intro w hSw; (try dsimp only at hSw); go_simp; try with_reducible rfl
      try simp only [Act.put, List.setIfInBounds_toArray, List.set_cons_zero, List.set_cons_succ]
      refine' wpAnyH_take (i := 3) (oi := _) (v := _) ?hi3r15 (by as_aux_lemma => kernel_rfl) (by as_aux_lemma => kernel_rfl) (by as_aux_lemma => kernel_rfl) ?hq3r15 ?hy3r15 (by assumption) ?re3r15
      case hi3r15 => simp only [List.getElem?_toArray, List.getElem?_cons_succ, List.getElem?_cons_zero]; rfl
      case hq3r15 => exact fun _ _ _ h => hp.out _ _ _ _ _ h
      case hy3r15 =>
        refine Or.inl ⟨by rfl, ?_⟩
        intro w hSw; (try dsimp only at hSw); go_simp; try with_reducible rfl
      try simp only [Act.put, List.setIfInBounds_toArray, List.set_cons_zero, List.set_cons_succ]
      refine' wpAnyH_take (i := 4) (oi := _) (v := _) ?hi4r15 (by as_aux_lemma => kernel_rfl) (by as_aux_lemma => kernel_rfl) (by as_aux_lemma => kernel_rfl) ?hq4r15 ?hy4r15 (by assumption) ?re4r15
      case hi4r15 => simp only [List.getElem?_toArray, List.getElem?_cons_succ, List.getElem?_cons_zero]; rfl
      case hq4r15 => exact fun _ _ _ h => hp.out _ _ _ _ _ h
      case hy4r15 =>
        refine Or.inl ⟨by rfl, ?_⟩
        intro w hSw; (try dsimp only at hSw); go_simp; try with_reducible rfl
      try simp only [Act.put, List.setIfInBounds_toArray, List.set_cons_zero, List.set_cons_succ]
      refine wpAnyH_ready (rs := [5]) (by as_aux_lemma => kernel_rfl) (by simp) ?_
      refine' AllReadyH.cons (o := _) ?hi5r15 (fun K hK => ?st5r15) AllReadyH.nil
      case hi5r15 => simp only [List.getElem?_toArray, List.getElem?_cons_succ, List.getElem?_cons_zero]; rfl
      go_simp
      go_at_call 7; refine (GA.out _ (E0.out.below (BI.out.trans (hHeld.1.mono BI.out.size)))).mono ?_; rintro e w8 ⟨rfl, c8⟩; have k8 := HSI.out _ (hHeld.1.trans (c8.mono hHeld.1.size)); clear c8
      try go_wp2_with fail
      refine hK.out _ _ ?_ (fun hHeld => ?_)
      · exact k8
      clear hK K
      try simp only [Act.put, List.setIfInBounds_toArray, List.set_cons_zero, List.set_cons_succ]
      refine' wpAnyH_take (i := 6) (oi := _) (v := _) ?hi6r15 (by as_aux_lemma => kernel_rfl) (by as_aux_lemma => kernel_rfl) (by as_aux_lemma => kernel_rfl) ?hq6r15 ?hy6r15 (by assumption) ?re6r15
      case hi6r15 => simp only [List.getElem?_toArray, List.getElem?_cons_succ, List.getElem?_cons_zero]; rfl
      case hq6r15 => exact fun _ _ _ h => hp.out _ _ _ _ _ h
      case hy6r15 =>
        refine Or.inl ⟨by rfl, ?_⟩
        intro w hSw; (try dsimp only at hSw); go_simp; try with_reducible rfl
      try simp only [Act.put, List.setIfInBounds_toArray, List.set_cons_zero, List.set_cons_succ]
      refine' wpAnyH_take (i := 7) (oi := _) (v := _) ?hi7r15 (by as_aux_lemma => kernel_rfl) (by as_aux_lemma => kernel_rfl) (by as_aux_lemma => kernel_rfl) ?hq7r15 ?hy7r15 (by assumption) ?re7r15
      case hi7r15 => simp only [List.getElem?_toArray, List.getElem?_cons_succ, List.getElem?_cons_zero]; rfl
      case hq7r15 => exact fun _ _ _ h => hp.out _ _ _ _ _ h
      case hy7r15 =>
        refine Or.inl ⟨by rfl, ?_⟩
        intro w hSw; (try dsimp only at hSw); go_simp; try with_reducible rfl
      try simp only [Act.put, List.setIfInBounds_toArray, List.set_cons_zero, List.set_cons_succ]
      refine' wpAnyH_take (i := 8) (oi := _) (v := _) ?hi8r15 (by as_aux_lemma => kernel_rfl) (by as_aux_lemma => kernel_rfl) (by as_aux_lemma => kernel_rfl) ?hq8r15 ?hy8r15 (by assumption) ?re8r15
      case hi8r15 => simp only [List.getElem?_toArray, List.getElem?_cons_succ, List.getElem?_cons_zero]; rfl
      case hq8r15 => exact fun _ _ _ h => hp.out _ _ _ _ _ h
      case hy8r15 =>
        refine Or.inl ⟨by rfl, ?_⟩
        intro w hSw; (try dsimp only at hSw); go_simp; try with_reducible rfl
      try simp only [Act.put, List.setIfInBounds_toArray, List.set_cons_zero, List.set_cons_succ]
      refine' wpAnyH_take (i := 9) (oi := _) (v := _) ?hi9r15 (by as_aux_lemma => kernel_rfl) (by as_aux_lemma => kernel_rfl) (by as_aux_lemma => kernel_rfl) ?hq9r15 ?hy9r15 (by assumption) ?re9r15
      case hi9r15 => simp only [List.getElem?_toArray, List.getElem?_cons_succ, List.getElem?_cons_zero]; rfl
      case hq9r15 => exact fun _ _ _ h => hp.out _ _ _ _ _ h
      case hy9r15 =>
        refine Or.inl ⟨by rfl, ?_⟩
        intro w hSw; (try dsimp only at hSw); go_simp; try with_reducible rfl
      try simp only [Act.put, List.setIfInBounds_toArray, List.set_cons_zero, List.set_cons_succ]
      refine' wpAnyH_take (i := 10) (oi := _) (v := _) ?hi10r15 (by as_aux_lemma => kernel_rfl) (by as_aux_lemma => kernel_rfl) (by as_aux_lemma => kernel_rfl) ?hq10r15 ?hy10r15 (by assumption) ?re10r15
      case hi10r15 => simp only [List.getElem?_toArray, List.getElem?_cons_succ, List.getElem?_cons_zero]; rfl
      case hq10r15 => exact fun _ _ _ h => hp.out _ _ _ _ _ h
      case hy10r15 =>
        refine Or.inl ⟨by rfl, ?_⟩
        intro w hSw; (try dsimp only at hSw); go_simp; try with_reducible rfl
      try simp only [Act.put, List.setIfInBounds_toArray, List.set_cons_zero, List.set_cons_succ]
      refine wpAnyH_done (by as_aux_lemma => kernel_rfl) ?_ _
      obtain ⟨W9, rfl⟩ : ∃ W, W = w8 := ⟨_, rfl⟩
      have h9 := hHeld.1
      have NI := Lib.hid (NI.out.low h9)
      have BI := Lib.hid (BI.out.trans (h9.mono BI.out.size))
      have RI := Lib.hid (show ∀ j : Nat, j < 8 → W9.cell? ⟨A, j, none⟩ = some (.string (Lx.keyB j)) from fun j hj => (h9.cell (p := ⟨A, j, none⟩) AI.out).trans (RI.out j hj))
      have AI := Lib.hid (Nat.lt_of_lt_of_le AI.out h9.size)
      have bJ := Lib.hid (bIh.out.trans (h9.mono bIh.out.size))
      have HSI := Lib.hid (show ∀ wx, Below W9.heap.size W9 wx → Below W9.heap.size W9 wx ∧ wx.cell? ⟨g14, 0, none⟩ = some (.int .i64 nx.cap) ∧ wx.cell? ⟨g14, 1, none⟩ = some (.int .i64 nx.pri) ∧ wx.cell? ⟨g14, 2, none⟩ = some (.int .i64 nx.spl) ∧ wx.cell? ⟨g14, 3, none⟩ = some (.int .i64 nx.dl) ∧ wx.cell? ⟨g14, 4, none⟩ = some (.int .i64 nx.mis) ∧ wx.cell? ⟨g14, 5, none⟩ = some (.int .i64 nx.keep) ∧ wx.cell? ⟨g14, 6, none⟩ = some (.int .i64 nx.lt) ∧ wx.cell? ⟨g14, 7, none⟩ = some (.int .i64 nx.lu) ∧ wx.cell? ⟨g14, 8, none⟩ = some (.int .i64 nx.bf) ∧ wx.cell? ⟨g14, 9, none⟩ = some (.int .i64 nx.bo) ∧ wx.cell? ⟨g14, 10, none⟩ = some (.int .i64 nx.bp) ∧ wx.cell? ⟨g14, 11, none⟩ = some (.int .i64 nx.rm) ∧ wx.cell? ⟨g14, 12, none⟩ = some (.int .i64 nx.rb) ∧ wx.cell? ⟨g14, 13, none⟩ = some (.int .i64 nx.rc) ∧ wx.cell? ⟨g14, 14, none⟩ = some (.int .i64 nx.rj) ∧ wx.cell? ⟨A, j, none⟩ = some (.string (Lx.keyB j)) from fun wx b => ⟨b, (b.cell (p := ⟨g14, 0, none⟩) NI.out.size).trans (NI.out.cell 0 _ rfl), (b.cell (p := ⟨g14, 1, none⟩) NI.out.size).trans (NI.out.cell 1 _ rfl), (b.cell (p := ⟨g14, 2, none⟩) NI.out.size).trans (NI.out.cell 2 _ rfl), (b.cell (p := ⟨g14, 3, none⟩) NI.out.size).trans (NI.out.cell 3 _ rfl), (b.cell (p := ⟨g14, 4, none⟩) NI.out.size).trans (NI.out.cell 4 _ rfl), (b.cell (p := ⟨g14, 5, none⟩) NI.out.size).trans (NI.out.cell 5 _ rfl), (b.cell (p := ⟨g14, 6, none⟩) NI.out.size).trans (NI.out.cell 6 _ rfl), (b.cell (p := ⟨g14, 7, none⟩) NI.out.size).trans (NI.out.cell 7 _ rfl), (b.cell (p := ⟨g14, 8, none⟩) NI.out.size).trans (NI.out.cell 8 _ rfl), (b.cell (p := ⟨g14, 9, none⟩) NI.out.size).trans (NI.out.cell 9 _ rfl), (b.cell (p := ⟨g14, 10, none⟩) NI.out.size).trans (NI.out.cell 10 _ rfl), (b.cell (p := ⟨g14, 11, none⟩) NI.out.size).trans (NI.out.cell 11 _ rfl), (b.cell (p := ⟨g14, 12, none⟩) NI.out.size).trans (NI.out.cell 12 _ rfl), (b.cell (p := ⟨g14, 13, none⟩) NI.out.size).trans (NI.out.cell 13 _ rfl), (b.cell (p := ⟨g14, 14, none⟩) NI.out.size).trans (NI.out.cell 14 _ rfl), (b.cell (p := ⟨A, j, none⟩) AI.out).trans (RI.out j hlj)⟩)
      have hS0 := HSI.out W9.drew (Below.refl _ W9).drew
      clear h9 k8 hHeld
      go_upto_region 20 with (fail)
      refine wp_region_held_drew (S := (fun wx => Below W9.heap.size W9 wx ∧ wx.cell? ⟨g14, 0, none⟩ = some (.int .i64 nx.cap) ∧ wx.cell? ⟨g14, 1, none⟩ = some (.int .i64 nx.pri) ∧ wx.cell? ⟨g14, 2, none⟩ = some (.int .i64 nx.spl) ∧ wx.cell? ⟨g14, 3, none⟩ = some (.int .i64 nx.dl) ∧ wx.cell? ⟨g14, 4, none⟩ = some (.int .i64 nx.mis) ∧ wx.cell? ⟨g14, 5, none⟩ = some (.int .i64 nx.keep) ∧ wx.cell? ⟨g14, 6, none⟩ = some (.int .i64 nx.lt) ∧ wx.cell? ⟨g14, 7, none⟩ = some (.int .i64 nx.lu) ∧ wx.cell? ⟨g14, 8, none⟩ = some (.int .i64 nx.bf) ∧ wx.cell? ⟨g14, 9, none⟩ = some (.int .i64 nx.bo) ∧ wx.cell? ⟨g14, 10, none⟩ = some (.int .i64 nx.bp) ∧ wx.cell? ⟨g14, 11, none⟩ = some (.int .i64 nx.rm) ∧ wx.cell? ⟨g14, 12, none⟩ = some (.int .i64 nx.rb) ∧ wx.cell? ⟨g14, 13, none⟩ = some (.int .i64 nx.rc) ∧ wx.cell? ⟨g14, 14, none⟩ = some (.int .i64 nx.rj) ∧ wx.cell? ⟨A, j, none⟩ = some (.string (Lx.keyB j)))) (by as_aux_lemma => kernel_rfl) ?_ (fun hHeld => ?_)
      · exact hS0
      refine' wpAnyH_take (i := 0) (oi := _) (v := _) ?hi0r16 (by as_aux_lemma => kernel_rfl) (by as_aux_lemma => kernel_rfl) (by as_aux_lemma => kernel_rfl) ?hq0r16 ?hy0r16 (by assumption) ?re0r16
      case hi0r16 => simp only [List.getElem?_toArray, List.getElem?_cons_zero]; rfl
      case hq0r16 => exact fun _ _ _ h => hp.out _ _ _ _ _ h
      case hy0r16 =>
        refine Or.inl ⟨by rfl, ?_⟩
        intro w hSw; (try dsimp only at hSw); go_simp; try with_reducible rfl
      try simp only [Act.put, List.setIfInBounds_toArray, List.set_cons_zero, List.set_cons_succ]
      refine' wpAnyH_take (i := 1) (oi := _) (v := _) ?hi1r16 (by as_aux_lemma => kernel_rfl) (by as_aux_lemma => kernel_rfl) (by as_aux_lemma => kernel_rfl) ?hq1r16 ?hy1r16 (by assumption) ?re1r16
      case hi1r16 => simp only [List.getElem?_toArray, List.getElem?_cons_succ, List.getElem?_cons_zero]; rfl
      case hq1r16 => exact fun _ _ _ h => hp.out _ _ _ _ _ h
      case hy1r16 =>
        refine Or.inl ⟨by rfl, ?_⟩
        intro w hSw; (try dsimp only at hSw); go_simp; try with_reducible rfl
      try simp only [Act.put, List.setIfInBounds_toArray, List.set_cons_zero, List.set_cons_succ]
      refine' wpAnyH_take (i := 2) (oi := _) (v := _) ?hi2r16 (by as_aux_lemma => kernel_rfl) (by as_aux_lemma => kernel_rfl) (by as_aux_lemma => kernel_rfl) ?hq2r16 ?hy2r16 (by assumption) ?re2r16
      case hi2r16 => simp only [List.getElem?_toArray, List.getElem?_cons_succ, List.getElem?_cons_zero]; rfl
      case hq2r16 => exact fun _ _ _ h => hp.out _ _ _ _ _ h
      case hy2r16 =>
        refine Or.inl ⟨by rfl, ?_⟩
        intro w hSw; (try dsimp only at hSw); go_simp; try with_reducible rfl
      try simp only [Act.put, List.setIfInBounds_toArray, List.set_cons_zero, List.set_cons_succ]
      refine' wpAnyH_take (i := 3) (oi := _) (v := _) ?hi3r16 (by as_aux_lemma => kernel_rfl) (by as_aux_lemma => kernel_rfl) (by as_aux_lemma => kernel_rfl) ?hq3r16 ?hy3r16 (by assumption) ?re3r16
      case hi3r16 => simp only [List.getElem?_toArray, List.getElem?_cons_succ, List.getElem?_cons_zero]; rfl
      case hq3r16 => exact fun _ _ _ h => hp.out _ _ _ _ _ h
      case hy3r16 =>
        refine Or.inl ⟨by rfl, ?_⟩
        intro w hSw; (try dsimp only at hSw); go_simp; try with_reducible rfl
      try simp only [Act.put, List.setIfInBounds_toArray, List.set_cons_zero, List.set_cons_succ]
      refine' wpAnyH_take (i := 4) (oi := _) (v := _) ?hi4r16 (by as_aux_lemma => kernel_rfl) (by as_aux_lemma => kernel_rfl) (by as_aux_lemma => kernel_rfl) ?hq4r16 ?hy4r16 (by assumption) ?re4r16
      case hi4r16 => simp only [List.getElem?_toArray, List.getElem?_cons_succ, List.getElem?_cons_zero]; rfl
      case hq4r16 => exact fun _ _ _ h => hp.out _ _ _ _ _ h
      case hy4r16 =>
        refine Or.inl ⟨by rfl, ?_⟩
        intro w hSw; (try dsimp only at hSw); go_simp; try with_reducible rfl
      try simp only [Act.put, List.setIfInBounds_toArray, List.set_cons_zero, List.set_cons_succ]
      refine wpAnyH_ready (rs := [5]) (by as_aux_lemma => kernel_rfl) (by simp) ?_
      refine' AllReadyH.cons (o := _) ?hi5r16 (fun K hK => ?st5r16) AllReadyH.nil
      case hi5r16 => simp only [List.getElem?_toArray, List.getElem?_cons_succ, List.getElem?_cons_zero]; rfl
      go_simp
      go_at_call 7; refine (GB.out _ (E0.out.below (BI.out.trans (hHeld.1.mono BI.out.size)))).mono ?_; rintro e w8 ⟨rfl, c8⟩; have k8 := HSI.out _ (hHeld.1.trans (c8.mono hHeld.1.size)); clear c8
      try go_wp2_with fail
      refine hK.out _ _ ?_ (fun hHeld => ?_)
      · exact k8
      clear hK K
      try simp only [Act.put, List.setIfInBounds_toArray, List.set_cons_zero, List.set_cons_succ]
      refine' wpAnyH_take (i := 6) (oi := _) (v := _) ?hi6r16 (by as_aux_lemma => kernel_rfl) (by as_aux_lemma => kernel_rfl) (by as_aux_lemma => kernel_rfl) ?hq6r16 ?hy6r16 (by assumption) ?re6r16
      case hi6r16 => simp only [List.getElem?_toArray, List.getElem?_cons_succ, List.getElem?_cons_zero]; rfl
      case hq6r16 => exact fun _ _ _ h => hp.out _ _ _ _ _ h
      case hy6r16 =>
        refine Or.inl ⟨by rfl, ?_⟩
        intro w hSw; (try dsimp only at hSw); go_simp; try with_reducible rfl
      try simp only [Act.put, List.setIfInBounds_toArray, List.set_cons_zero, List.set_cons_succ]
      refine' wpAnyH_take (i := 7) (oi := _) (v := _) ?hi7r16 (by as_aux_lemma => kernel_rfl) (by as_aux_lemma => kernel_rfl) (by as_aux_lemma => kernel_rfl) ?hq7r16 ?hy7r16 (by assumption) ?re7r16
      case hi7r16 => simp only [List.getElem?_toArray, List.getElem?_cons_succ, List.getElem?_cons_zero]; rfl
      case hq7r16 => exact fun _ _ _ h => hp.out _ _ _ _ _ h
      case hy7r16 =>
        refine Or.inl ⟨by rfl, ?_⟩
        intro w hSw; (try dsimp only at hSw); go_simp; try with_reducible rfl
      try simp only [Act.put, List.setIfInBounds_toArray, List.set_cons_zero, List.set_cons_succ]
      refine' wpAnyH_take (i := 8) (oi := _) (v := _) ?hi8r16 (by as_aux_lemma => kernel_rfl) (by as_aux_lemma => kernel_rfl) (by as_aux_lemma => kernel_rfl) ?hq8r16 ?hy8r16 (by assumption) ?re8r16
      case hi8r16 => simp only [List.getElem?_toArray, List.getElem?_cons_succ, List.getElem?_cons_zero]; rfl
      case hq8r16 => exact fun _ _ _ h => hp.out _ _ _ _ _ h
      case hy8r16 =>
        refine Or.inl ⟨by rfl, ?_⟩
        intro w hSw; (try dsimp only at hSw); go_simp; try with_reducible rfl
      try simp only [Act.put, List.setIfInBounds_toArray, List.set_cons_zero, List.set_cons_succ]
      refine' wpAnyH_take (i := 9) (oi := _) (v := _) ?hi9r16 (by as_aux_lemma => kernel_rfl) (by as_aux_lemma => kernel_rfl) (by as_aux_lemma => kernel_rfl) ?hq9r16 ?hy9r16 (by assumption) ?re9r16
      case hi9r16 => simp only [List.getElem?_toArray, List.getElem?_cons_succ, List.getElem?_cons_zero]; rfl
      case hq9r16 => exact fun _ _ _ h => hp.out _ _ _ _ _ h
      case hy9r16 =>
        refine Or.inl ⟨by rfl, ?_⟩
        intro w hSw; (try dsimp only at hSw); go_simp; try with_reducible rfl
      try simp only [Act.put, List.setIfInBounds_toArray, List.set_cons_zero, List.set_cons_succ]
      refine' wpAnyH_take (i := 10) (oi := _) (v := _) ?hi10r16 (by as_aux_lemma => kernel_rfl) (by as_aux_lemma => kernel_rfl) (by as_aux_lemma => kernel_rfl) ?hq10r16 ?hy10r16 (by assumption) ?re10r16
      case hi10r16 => simp only [List.getElem?_toArray, List.getElem?_cons_succ, List.getElem?_cons_zero]; rfl
      case hq10r16 => exact fun _ _ _ h => hp.out _ _ _ _ _ h
      case hy10r16 =>
        refine Or.inl ⟨by rfl, ?_⟩
        intro w hSw; (try dsimp only at hSw); go_simp; try with_reducible rfl
      try simp only [Act.put, List.setIfInBounds_toArray, List.set_cons_zero, List.set_cons_succ]
      refine wpAnyH_done (by as_aux_lemma => kernel_rfl) ?_ _
      have bK := Lib.hid (bJ.out.trans (hHeld.1.mono bJ.out.size))
      clear k8 hHeld
      by_cases e : j = n
      · rw [if_pos e] at hTT
        have e1 : ((j : Int) == (n : Int)) = true := by rw [beq_iff_eq]; omega
        have e2 : (j : Int) = (n : Int) := by omega
        go_wp2_with fail
        go_roundw
        case rel => exact ⟨j + 1, by omega, by go_num, bK.out⟩
        case measure => simp [intOf]; omega
      · rw [if_neg e] at hTT
        have e1 : ((j : Int) == (n : Int)) = false := by rw [beq_eq_false_iff_ne]; omega
        have e2 : ¬ (j : Int) = (n : Int) := by omega
        go_wp2_with fail
        go_roundw
        case rel => exact ⟨j + 1, by omega, by go_num, bK.out⟩
        case measure => simp [intOf]; omega
    · obtain rfl : j = 8 := by omega
      have bIh := Lib.hid bI
      clear bI
      go_wp2_with fail
      exact HE.out _ _ _ _ _ _ _ _ _ _ _ _ _ _ _ _ _ _ _ _ _ _ _ _ _ _ _ _ _ _ _ _ _ _ _ _ _ _ _ _ _ _ _ _ _ _ _ _ _ _ _ _ _ _ _ _ _ _ _ _ bIh.out
set_option maxRecDepth 100000 in
set_option maxHeartbeats 25600000 in
theorem walkV (p q : Lx.PolV) (c0 : Int) (hc0 : (Lit.int .u8 c0).wf = true) (w : World) (env : UEnv w) (h : Lx.polOk p = true) (hv0 : Lx.polOk q = true) :
    Calls Tryz.prog 3 #[p.val, q.val, .int .u8 c0] w fun e w' => e = .returned (.bool true) ∧ Below w.heap.size w w' := by
  obtain ⟨c, rfl⟩ := Lx.u8_of hc0
  have HW := Lib.hid (fun W (E : UEnv W) => pworks_any W E)
  have E0 := Lib.hid env
  have hgl := env.env.lt
  obtain ⟨g3, hg3⟩ : ∃ g, g = w.heap.size := ⟨_, rfl⟩
  obtain ⟨W0, hW0⟩ : ∃ W0, W0 = w.alloc (.cells p.cells.toArray 29) := ⟨_, rfl⟩
  obtain ⟨W1, hW1⟩ : ∃ W1, W1 = W0.alloc (.cells q.cells.toArray 29) := ⟨_, rfl⟩
  have b0 : Below w.heap.size w W0 := by rw [hW0]; exact (Below.refl _ w).alloc (Nat.le_refl _) _
  have b1 : Below W0.heap.size W0 W1 := by rw [hW1]; exact (Below.refl _ W0).alloc (Nat.le_refl _) _
  have e0 : W0.heap.size = w.heap.size + 1 := by rw [hW0]; simp
  obtain ⟨g4, hg4⟩ : ∃ g, g = w.heap.size + 1 := ⟨_, rfl⟩
  have S0 := Lib.hid (show Lx.PSt g3 W1 W1 p from by
    have : Lx.PSt g3 W0 W0 p := by rw [hg3, hW0]; exact Lx.PSt.new w hgl p
    exact this.low b1)
  have T0 := Lib.hid (show Lx.PSt g4 W1 W1 q from by rw [hg4, ← e0, hW1]; exact Lx.PSt.new W0 (by omega) q)
  have B0 := Lib.hid (b0.trans (b1.mono b0.size))
  clear b0 b1
  have HC := fun W => polCheck_any p W
  have hE : Lx.polE p = 0 := by unfold Lx.polE; rw [if_pos h]
  rw [hE] at HC
  have HC2 := Lib.hid (fun W => polCheck_any q W)
  have HK := Lib.hid (fun W => polKeys_any W)
  have HOK := Lib.hid h
  have Hv0 := Lib.hid hv0
  have Heq := Lib.hid (fun W => eqPol_self p W)
  obtain ⟨P, hP⟩ : ∃ P, P = p := ⟨_, rfl⟩
  obtain ⟨N0, hN0⟩ : ∃ N, N = q := ⟨_, rfl⟩
  rw [← hP] at HC HOK S0 Heq
  rw [← hN0] at HC2 T0 Hv0
  obtain ⟨cap, pri, spl, dl, mis, keep, lt, lu, bf, bo, bp, rm, rb, rc, rj⟩ := p
  obtain ⟨cap2, pri2, spl2, dl2, mis2, keep2, lt2, lu2, bf2, bo2, bp2, rm2, rb2, rc2, rj2⟩ := q
  have HCp := Lib.hid HC
  have HP := Lib.hid hP
  have HN := Lib.hid hN0
  clear hE h env HC hP hN0 hv0
  show Calls Tryz.prog 3 #[.agg #[.int .i64 cap, .int .i64 pri, .int .i64 spl, .int .i64 dl, .int .i64 mis, .int .i64 keep, .int .i64 lt, .int .i64 lu, .int .i64 bf, .int .i64 bo, .int .i64 bp, .int .i64 rm, .int .i64 rb, .int .i64 rc, .int .i64 rj], .agg #[.int .i64 cap2, .int .i64 pri2, .int .i64 spl2, .int .i64 dl2, .int .i64 mis2, .int .i64 keep2, .int .i64 lt2, .int .i64 lu2, .int .i64 bf2, .int .i64 bo2, .int .i64 bp2, .int .i64 rm2, .int .i64 rb2, .int .i64 rc2, .int .i64 rj2], .int .u8 c.toNat] w _
  go_enter Tryz.func3, Tryz.ntmps3
  go_upto_region 1 with (fail)
  rw [show (w.alloc (.cells #[.int .i64 cap, .int .i64 pri, .int .i64 spl, .int .i64 dl, .int .i64 mis, .int .i64 keep, .int .i64 lt, .int .i64 lu, .int .i64 bf, .int .i64 bo, .int .i64 bp, .int .i64 rm, .int .i64 rb, .int .i64 rc, .int .i64 rj] 29)) = W0 from hW0.symm]
  rw [show (W0.alloc (.cells #[.int .i64 cap2, .int .i64 pri2, .int .i64 spl2, .int .i64 dl2, .int .i64 mis2, .int .i64 keep2, .int .i64 lt2, .int .i64 lu2, .int .i64 bf2, .int .i64 bo2, .int .i64 bp2, .int .i64 rm2, .int .i64 rb2, .int .i64 rc2, .int .i64 rj2] 29)) = W1 from hW1.symm, ← hg4, ← hg3]
  have Hg3 := Lib.hid hg3
  have Hg4 := Lib.hid hg4
  clear hW0 hW1 hg3 hg4 e0
  go_wp2_with ((with_reducible show wpList _ _ _ _ _ _); refine' Lx.wpList_get _ rfl _ rfl g3 rfl ?_ ?_; any_goals (with_reducible exact S0.out))
  refine (HCp.out _).mono ?_
  rintro e w1 ⟨rfl, c1⟩
  have S1 := Lib.hid (S0.out.low c1)
  have T1 := Lib.hid (T0.out.low c1)
  have B1 := Lib.hid (B0.out.trans (c1.mono B0.out.size))
  clear c1 S0 T0 B0
  go_wp2_with fail
  refine (HK.out _).mono ?_
  rintro e w2 ⟨A, cc, rfl, hA, hA2, hR, c2⟩
  have S2 := Lib.hid (S1.out.low c2)
  have T2 := Lib.hid (T1.out.low c2)
  have B2 := Lib.hid (B1.out.trans (c2.mono B1.out.size))
  clear c2 S1 T1 B1
  go_upto_region 6 with (fail)
  have hv := Hv0.out
  clear Hv0
  have hE2 : Lx.polE N0 = 0 := by unfold Lx.polE; rw [if_pos hv]
  rw [hE2] at HC2
  have Hv := Lib.hid hv
  clear hE2 hv
  refine polOpened T2.out (fun u0 u1 u2 u3 u4 u5 u6 u7 u8 u9 u10 u11 u12 u13 u14 => ?_)
  obtain ⟨g8, hg8⟩ : ∃ g, g = w2.heap.size := ⟨_, rfl⟩
  obtain ⟨W3, hW3⟩ : ∃ W3, W3 = w2.alloc (.cells #[.int .i64 N0.cap, .int .i64 N0.pri, .int .i64 N0.spl, .int .i64 N0.dl, .int .i64 N0.mis, .int .i64 N0.keep, .int .i64 N0.lt, .int .i64 N0.lu, .int .i64 N0.bf, .int .i64 N0.bo, .int .i64 N0.bp, .int .i64 N0.rm, .int .i64 N0.rb, .int .i64 N0.rc, .int .i64 N0.rj] 29) := ⟨_, rfl⟩
  have c3 := Lib.hid (show Below w2.heap.size w2 W3 from by rw [hW3]; exact (Below.refl _ _).alloc (Nat.le_refl _) _)
  have X3 := Lib.hid (show Lx.PSt g8 W3 W3 N0 from by rw [hg8, hW3]; exact Lx.PSt.new w2 (Nat.le_trans hgl B2.out.size) N0)
  have S3 := Lib.hid (S2.out.low c3.out)
  have T3 := Lib.hid (T2.out.low c3.out)
  have B3 := Lib.hid (B2.out.trans (c3.out.mono B2.out.size))
  have hR3 : ∀ j : Nat, j < 8 → W3.cell? ⟨A, j, none⟩ = some (.string (Lx.keyB j)) := fun j hj => (c3.out.cell (p := ⟨A, j, none⟩) hA).trans (hR j hj)
  have hA3 : A < W3.heap.size := Nat.lt_of_lt_of_le hA c3.out.size
  have hgA : g8 ≠ A := by omega
  have hg38 : g3 ≠ g8 := by have := S2.out.size; omega
  have hg8w : w.heap.size ≤ g8 := by have := B2.out.size; omega
  go_upto_region 7 with (fail)
  rw [show w2.alloc (.cells #[.int .i64 N0.cap, .int .i64 N0.pri, .int .i64 N0.spl, .int .i64 N0.dl, .int .i64 N0.mis, .int .i64 N0.keep, .int .i64 N0.lt, .int .i64 N0.lu, .int .i64 N0.bf, .int .i64 N0.bo, .int .i64 N0.bp, .int .i64 N0.rm, .int .i64 N0.rb, .int .i64 N0.rc, .int .i64 N0.rj] 29) = W3 from hW3.symm, ← hg8]
  clear hW3 hg8 u0 u1 u2 u3 u4 u5 u6 u7 u8 u9 u10 u11 u12 u13 u14 S2 T2 B2 hR hA hA2 c3
  go_wp2_with ((with_reducible show wpList _ _ _ _ _ _); refine' Lx.wpList_get _ rfl _ rfl g4 rfl ?_ ?_; any_goals (with_reducible exact T3.out))
  refine (HC2.out _).mono ?_
  rintro e w4 ⟨rfl, c4⟩
  have S4 := Lib.hid (S3.out.low c4)
  have X4 := Lib.hid (X3.out.low c4)
  have B4 := Lib.hid (B3.out.trans (c4.mono B3.out.size))
  have HR4 := Lib.hid (show ∀ j : Nat, j < 8 → w4.cell? ⟨A, j, none⟩ = some (.string (Lx.keyB j)) from fun j hj => (c4.cell (p := ⟨A, j, none⟩) hA3).trans (hR3 j hj))
  have HA4 := Lib.hid (Nat.lt_of_lt_of_le hA3 c4.size)
  have Hne := Lib.hid (show g8 ≠ A ∧ g3 ≠ g8 ∧ w.heap.size ≤ g8 from ⟨hgA, hg38, hg8w⟩)
  clear c4 S3 T3 X3 B3 hR3 hA3 hgA hg38 hg8w
  go_wp2_with fail
  go_loopw [10] (fun i wr => ∃ (k : Nat) (now : Lx.PolV), k ≤ 8 ∧ i = .int .i64 k ∧ Lx.PSt g3 wr wr P ∧ Lx.PSt g8 wr wr now ∧ now = Lx.foldK P (Lx.turn c.toNat k) N0 ∧ Lx.polOk now = true ∧ (∀ j : Nat, j < 8 → wr.cell? ⟨A, j, none⟩ = some (.string (Lx.keyB j))) ∧ A < wr.heap.size ∧ Below w.heap.size w wr) (fun i _ => 8 - (intOf i).toNat)
  case atStart => exact ⟨0, N0, Nat.zero_le _, rfl, S4.out, X4.out, rfl, Hv.out, HR4.out, HA4.out, B4.out⟩
  case round =>
    obtain ⟨k, now, hk, rfl, S, X, hnow, hok, hR, hA, hb⟩ := hrel
    by_cases hlt : k < 8
    · have hki : (k : Int) < 8 := by omega
      obtain ⟨n, hn⟩ : ∃ n : Nat, n = (c.toNat + k) % 8 := ⟨_, rfl⟩
      have hn8 : n < 8 := by omega
      have hni : (n : Int) < 8 := by omega
      have hc256 : (c.toNat : Int) < 256 := by have := c.toNat_lt; omega
      have hmod : (((c.toNat : Int) + (k : Int)) % 8) = (n : Int) := by omega
      have HS := Lib.hid S
      have HX := Lib.hid X
      have HR := Lib.hid hR
      have HA := Lib.hid hA
      have HB := Lib.hid hb
      have Hnow := Lib.hid hnow
      have Hok := Lib.hid hok
      have Hn := Lib.hid hn
      clear S X hR hA hb hnow hn hok
      obtain ⟨nx, hnx⟩ : ∃ nx, nx = Lx.updK n P now := ⟨_, rfl⟩
      obtain ⟨T, hT⟩ : ∃ T : ByteArray, T = ⟨(Lx.valS n P).toArray⟩ := ⟨_, rfl⟩
      have HGet := Lib.hid (show ∀ W, UEnv W → Calls Tryz.prog 7 #[.agg #[.int .i64 P.cap, .int .i64 P.pri, .int .i64 P.spl, .int .i64 P.dl, .int .i64 P.mis, .int .i64 P.keep, .int .i64 P.lt, .int .i64 P.lu, .int .i64 P.bf, .int .i64 P.bo, .int .i64 P.bp, .int .i64 P.rm, .int .i64 P.rb, .int .i64 P.rc, .int .i64 P.rj], .string (Lx.keyB n)] W fun e w' => e = .returned (.tuple #[.string T, .int .i64 0]) ∧ Below W.heap.size W w' from fun W E => by have := polGet_any P (Lx.keyB n) W E; rw [(Lx.getS_at HOK.out hn8).1, (Lx.getS_at HOK.out hn8).2, ← hT] at this; exact this)
      have HSet := Lib.hid (show ∀ W, UEnv W → Calls Tryz.prog 8 #[.agg #[.int .i64 now.cap, .int .i64 now.pri, .int .i64 now.spl, .int .i64 now.dl, .int .i64 now.mis, .int .i64 now.keep, .int .i64 now.lt, .int .i64 now.lu, .int .i64 now.bf, .int .i64 now.bo, .int .i64 now.bp, .int .i64 now.rm, .int .i64 now.rb, .int .i64 now.rc, .int .i64 now.rj], .string (Lx.keyB n), .string T] W fun e w' => e = .returned (.tuple #[.agg #[.int .i64 nx.cap, .int .i64 nx.pri, .int .i64 nx.spl, .int .i64 nx.dl, .int .i64 nx.mis, .int .i64 nx.keep, .int .i64 nx.lt, .int .i64 nx.lu, .int .i64 nx.bf, .int .i64 nx.bo, .int .i64 nx.bp, .int .i64 nx.rm, .int .i64 nx.rb, .int .i64 nx.rc, .int .i64 nx.rj], .int .i64 0]) ∧ Below W.heap.size W w' from fun W E => by have := polSet_any now (Lx.keyB n) T (by rw [Lib.size_eq, hT]; have := (Lx.val_bytes hn8 HOK.out).2; simp; omega) W E; rw [Lx.setPol_back HOK.out hn8 (by rw [hT]) now, ← hnx] at this; exact this)
      have HSS := Lib.hid (show ∀ wx, Below wr.heap.size wr wx → Below wr.heap.size wr wx ∧ wx.cell? ⟨g3, 0, none⟩ = some (.int .i64 P.cap) ∧ wx.cell? ⟨g3, 1, none⟩ = some (.int .i64 P.pri) ∧ wx.cell? ⟨g3, 2, none⟩ = some (.int .i64 P.spl) ∧ wx.cell? ⟨g3, 3, none⟩ = some (.int .i64 P.dl) ∧ wx.cell? ⟨g3, 4, none⟩ = some (.int .i64 P.mis) ∧ wx.cell? ⟨g3, 5, none⟩ = some (.int .i64 P.keep) ∧ wx.cell? ⟨g3, 6, none⟩ = some (.int .i64 P.lt) ∧ wx.cell? ⟨g3, 7, none⟩ = some (.int .i64 P.lu) ∧ wx.cell? ⟨g3, 8, none⟩ = some (.int .i64 P.bf) ∧ wx.cell? ⟨g3, 9, none⟩ = some (.int .i64 P.bo) ∧ wx.cell? ⟨g3, 10, none⟩ = some (.int .i64 P.bp) ∧ wx.cell? ⟨g3, 11, none⟩ = some (.int .i64 P.rm) ∧ wx.cell? ⟨g3, 12, none⟩ = some (.int .i64 P.rb) ∧ wx.cell? ⟨g3, 13, none⟩ = some (.int .i64 P.rc) ∧ wx.cell? ⟨g3, 14, none⟩ = some (.int .i64 P.rj) ∧ wx.cell? ⟨A, n, none⟩ = some (.string (Lx.keyB n)) from fun wx b => ⟨b, (b.cell (p := ⟨g3, 0, none⟩) HS.out.size).trans (HS.out.cell 0 _ rfl), (b.cell (p := ⟨g3, 1, none⟩) HS.out.size).trans (HS.out.cell 1 _ rfl), (b.cell (p := ⟨g3, 2, none⟩) HS.out.size).trans (HS.out.cell 2 _ rfl), (b.cell (p := ⟨g3, 3, none⟩) HS.out.size).trans (HS.out.cell 3 _ rfl), (b.cell (p := ⟨g3, 4, none⟩) HS.out.size).trans (HS.out.cell 4 _ rfl), (b.cell (p := ⟨g3, 5, none⟩) HS.out.size).trans (HS.out.cell 5 _ rfl), (b.cell (p := ⟨g3, 6, none⟩) HS.out.size).trans (HS.out.cell 6 _ rfl), (b.cell (p := ⟨g3, 7, none⟩) HS.out.size).trans (HS.out.cell 7 _ rfl), (b.cell (p := ⟨g3, 8, none⟩) HS.out.size).trans (HS.out.cell 8 _ rfl), (b.cell (p := ⟨g3, 9, none⟩) HS.out.size).trans (HS.out.cell 9 _ rfl), (b.cell (p := ⟨g3, 10, none⟩) HS.out.size).trans (HS.out.cell 10 _ rfl), (b.cell (p := ⟨g3, 11, none⟩) HS.out.size).trans (HS.out.cell 11 _ rfl), (b.cell (p := ⟨g3, 12, none⟩) HS.out.size).trans (HS.out.cell 12 _ rfl), (b.cell (p := ⟨g3, 13, none⟩) HS.out.size).trans (HS.out.cell 13 _ rfl), (b.cell (p := ⟨g3, 14, none⟩) HS.out.size).trans (HS.out.cell 14 _ rfl), (b.cell (p := ⟨A, n, none⟩) HA.out).trans (HR.out n hn8)⟩)
      have hS0 := HSS.out wr.drew (Below.refl _ wr).drew
      have Htl := Lib.hid (show T.data.toList = Lx.valS n P from by rw [hT])
      have Hnx := Lib.hid hnx
      clear hT hnx
      go_upto_region 12 with (fail)
      rw [hmod]
      have hn0 : (0 : Int) ≤ (n : Int) := by omega
      refine wp_region_held_drew (S := (fun wx => Below wr.heap.size wr wx ∧ wx.cell? ⟨g3, 0, none⟩ = some (.int .i64 P.cap) ∧ wx.cell? ⟨g3, 1, none⟩ = some (.int .i64 P.pri) ∧ wx.cell? ⟨g3, 2, none⟩ = some (.int .i64 P.spl) ∧ wx.cell? ⟨g3, 3, none⟩ = some (.int .i64 P.dl) ∧ wx.cell? ⟨g3, 4, none⟩ = some (.int .i64 P.mis) ∧ wx.cell? ⟨g3, 5, none⟩ = some (.int .i64 P.keep) ∧ wx.cell? ⟨g3, 6, none⟩ = some (.int .i64 P.lt) ∧ wx.cell? ⟨g3, 7, none⟩ = some (.int .i64 P.lu) ∧ wx.cell? ⟨g3, 8, none⟩ = some (.int .i64 P.bf) ∧ wx.cell? ⟨g3, 9, none⟩ = some (.int .i64 P.bo) ∧ wx.cell? ⟨g3, 10, none⟩ = some (.int .i64 P.bp) ∧ wx.cell? ⟨g3, 11, none⟩ = some (.int .i64 P.rm) ∧ wx.cell? ⟨g3, 12, none⟩ = some (.int .i64 P.rb) ∧ wx.cell? ⟨g3, 13, none⟩ = some (.int .i64 P.rc) ∧ wx.cell? ⟨g3, 14, none⟩ = some (.int .i64 P.rj) ∧ wx.cell? ⟨A, n, none⟩ = some (.string (Lx.keyB n)))) (by as_aux_lemma => kernel_rfl) ?_ (fun hHeld => ?_)
      · exact hS0
      refine' wpAnyH_take (i := 0) (oi := _) (v := _) ?hi0r17 (by as_aux_lemma => kernel_rfl) (by as_aux_lemma => kernel_rfl) (by as_aux_lemma => kernel_rfl) ?hq0r17 ?hy0r17 (by assumption) ?re0r17
      case hi0r17 => simp only [List.getElem?_toArray, List.getElem?_cons_zero]; rfl
      case hq0r17 => exact fun _ _ _ h => h
      case hy0r17 =>
        refine Or.inl ⟨by rfl, ?_⟩
        intro w hSw; (try dsimp only at hSw); go_simp; try with_reducible rfl
      try simp only [Act.put, List.setIfInBounds_toArray, List.set_cons_zero, List.set_cons_succ]
      refine' wpAnyH_take (i := 1) (oi := _) (v := _) ?hi1r17 (by as_aux_lemma => kernel_rfl) (by as_aux_lemma => kernel_rfl) (by as_aux_lemma => kernel_rfl) ?hq1r17 ?hy1r17 (by assumption) ?re1r17
      case hi1r17 => simp only [List.getElem?_toArray, List.getElem?_cons_succ, List.getElem?_cons_zero]; rfl
      case hq1r17 => exact fun _ _ _ h => h
      case hy1r17 =>
        refine Or.inl ⟨by rfl, ?_⟩
        intro w hSw; (try dsimp only at hSw); go_simp; try with_reducible rfl
      try simp only [Act.put, List.setIfInBounds_toArray, List.set_cons_zero, List.set_cons_succ]
      refine' wpAnyH_take (i := 2) (oi := _) (v := _) ?hi2r17 (by as_aux_lemma => kernel_rfl) (by as_aux_lemma => kernel_rfl) (by as_aux_lemma => kernel_rfl) ?hq2r17 ?hy2r17 (by assumption) ?re2r17
      case hi2r17 => simp only [List.getElem?_toArray, List.getElem?_cons_succ, List.getElem?_cons_zero]; rfl
      case hq2r17 => exact fun _ _ _ h => h
      case hy2r17 =>
        refine Or.inl ⟨by rfl, ?_⟩
        intro w hSw; (try dsimp only at hSw); go_simp; try with_reducible rfl
      try simp only [Act.put, List.setIfInBounds_toArray, List.set_cons_zero, List.set_cons_succ]
      refine' wpAnyH_take (i := 3) (oi := _) (v := _) ?hi3r17 (by as_aux_lemma => kernel_rfl) (by as_aux_lemma => kernel_rfl) (by as_aux_lemma => kernel_rfl) ?hq3r17 ?hy3r17 (by assumption) ?re3r17
      case hi3r17 => simp only [List.getElem?_toArray, List.getElem?_cons_succ, List.getElem?_cons_zero]; rfl
      case hq3r17 => exact fun _ _ _ h => h
      case hy3r17 =>
        refine Or.inl ⟨by rfl, ?_⟩
        intro w hSw; (try dsimp only at hSw); go_simp; try with_reducible rfl
      try simp only [Act.put, List.setIfInBounds_toArray, List.set_cons_zero, List.set_cons_succ]
      refine' wpAnyH_take (i := 4) (oi := _) (v := _) ?hi4r17 (by as_aux_lemma => kernel_rfl) (by as_aux_lemma => kernel_rfl) (by as_aux_lemma => kernel_rfl) ?hq4r17 ?hy4r17 (by assumption) ?re4r17
      case hi4r17 => simp only [List.getElem?_toArray, List.getElem?_cons_succ, List.getElem?_cons_zero]; rfl
      case hq4r17 => exact fun _ _ _ h => h
      case hy4r17 =>
        refine Or.inl ⟨by rfl, ?_⟩
        intro w hSw; (try dsimp only at hSw); go_simp; try with_reducible rfl
      try simp only [Act.put, List.setIfInBounds_toArray, List.set_cons_zero, List.set_cons_succ]
      refine wpAnyH_ready (rs := [5]) (by as_aux_lemma => kernel_rfl) (by simp) ?_
      refine' AllReadyH.cons (o := _) ?hi5r17 (fun K hK => ?st5r17) AllReadyH.nil
      case hi5r17 => simp only [List.getElem?_toArray, List.getElem?_cons_succ, List.getElem?_cons_zero]; rfl
      go_simp
      go_at_call 7; refine (HGet.out _ (E0.out.below (HB.out.trans (hHeld.1.mono HB.out.size)))).mono ?_; rintro e w5 ⟨rfl, c5⟩; have k8 := HSS.out _ (hHeld.1.trans (c5.mono hHeld.1.size)); clear c5
      try go_wp2_with fail
      refine hK.out _ _ ?_ (fun hHeld => ?_)
      · exact k8
      clear hK K
      try simp only [Act.put, List.setIfInBounds_toArray, List.set_cons_zero, List.set_cons_succ]
      refine' wpAnyH_take (i := 6) (oi := _) (v := _) ?hi6r17 (by as_aux_lemma => kernel_rfl) (by as_aux_lemma => kernel_rfl) (by as_aux_lemma => kernel_rfl) ?hq6r17 ?hy6r17 (by assumption) ?re6r17
      case hi6r17 => simp only [List.getElem?_toArray, List.getElem?_cons_succ, List.getElem?_cons_zero]; rfl
      case hq6r17 => exact fun _ _ _ h => h
      case hy6r17 =>
        refine Or.inl ⟨by rfl, ?_⟩
        intro w hSw; (try dsimp only at hSw); go_simp; try with_reducible rfl
      try simp only [Act.put, List.setIfInBounds_toArray, List.set_cons_zero, List.set_cons_succ]
      refine' wpAnyH_take (i := 7) (oi := _) (v := _) ?hi7r17 (by as_aux_lemma => kernel_rfl) (by as_aux_lemma => kernel_rfl) (by as_aux_lemma => kernel_rfl) ?hq7r17 ?hy7r17 (by assumption) ?re7r17
      case hi7r17 => simp only [List.getElem?_toArray, List.getElem?_cons_succ, List.getElem?_cons_zero]; rfl
      case hq7r17 => exact fun _ _ _ h => h
      case hy7r17 =>
        refine Or.inl ⟨by rfl, ?_⟩
        intro w hSw; (try dsimp only at hSw); go_simp; try with_reducible rfl
      try simp only [Act.put, List.setIfInBounds_toArray, List.set_cons_zero, List.set_cons_succ]
      refine' wpAnyH_take (i := 8) (oi := _) (v := _) ?hi8r17 (by as_aux_lemma => kernel_rfl) (by as_aux_lemma => kernel_rfl) (by as_aux_lemma => kernel_rfl) ?hq8r17 ?hy8r17 (by assumption) ?re8r17
      case hi8r17 => simp only [List.getElem?_toArray, List.getElem?_cons_succ, List.getElem?_cons_zero]; rfl
      case hq8r17 => exact fun _ _ _ h => h
      case hy8r17 =>
        refine Or.inl ⟨by rfl, ?_⟩
        intro w hSw; (try dsimp only at hSw); go_simp; try with_reducible rfl
      try simp only [Act.put, List.setIfInBounds_toArray, List.set_cons_zero, List.set_cons_succ]
      refine' wpAnyH_take (i := 9) (oi := _) (v := _) ?hi9r17 (by as_aux_lemma => kernel_rfl) (by as_aux_lemma => kernel_rfl) (by as_aux_lemma => kernel_rfl) ?hq9r17 ?hy9r17 (by assumption) ?re9r17
      case hi9r17 => simp only [List.getElem?_toArray, List.getElem?_cons_succ, List.getElem?_cons_zero]; rfl
      case hq9r17 => exact fun _ _ _ h => h
      case hy9r17 =>
        refine Or.inl ⟨by rfl, ?_⟩
        intro w hSw; (try dsimp only at hSw); go_simp; try with_reducible rfl
      try simp only [Act.put, List.setIfInBounds_toArray, List.set_cons_zero, List.set_cons_succ]
      refine' wpAnyH_take (i := 10) (oi := _) (v := _) ?hi10r17 (by as_aux_lemma => kernel_rfl) (by as_aux_lemma => kernel_rfl) (by as_aux_lemma => kernel_rfl) ?hq10r17 ?hy10r17 (by assumption) ?re10r17
      case hi10r17 => simp only [List.getElem?_toArray, List.getElem?_cons_succ, List.getElem?_cons_zero]; rfl
      case hq10r17 => exact fun _ _ _ h => h
      case hy10r17 =>
        refine Or.inl ⟨by rfl, ?_⟩
        intro w hSw; (try dsimp only at hSw); go_simp; try with_reducible rfl
      try simp only [Act.put, List.setIfInBounds_toArray, List.set_cons_zero, List.set_cons_succ]
      refine wpAnyH_done (by as_aux_lemma => kernel_rfl) ?_ _
      clear k8
      have B5 := Lib.hid (HB.out.trans (hHeld.1.mono HB.out.size))
      have HS5 := Lib.hid (HS.out.low hHeld.1)
      have HX5 := Lib.hid (HX.out.low hHeld.1)
      have HR5 := Lib.hid (show ∀ j : Nat, j < 8 → w5.cell? ⟨A, j, none⟩ = some (.string (Lx.keyB j)) from fun j hj => (hHeld.1.cell (p := ⟨A, j, none⟩) HA.out).trans (HR.out j hj))
      have HA5 := Lib.hid (Nat.lt_of_lt_of_le HA.out hHeld.1.size)
      clear HS HX HR HA HB hHeld HSS
      have HSS := Lib.hid (show ∀ wx, Below w5.heap.size w5 wx → Below w5.heap.size w5 wx ∧ wx.cell? ⟨g8, 0, none⟩ = some (.int .i64 now.cap) ∧ wx.cell? ⟨g8, 1, none⟩ = some (.int .i64 now.pri) ∧ wx.cell? ⟨g8, 2, none⟩ = some (.int .i64 now.spl) ∧ wx.cell? ⟨g8, 3, none⟩ = some (.int .i64 now.dl) ∧ wx.cell? ⟨g8, 4, none⟩ = some (.int .i64 now.mis) ∧ wx.cell? ⟨g8, 5, none⟩ = some (.int .i64 now.keep) ∧ wx.cell? ⟨g8, 6, none⟩ = some (.int .i64 now.lt) ∧ wx.cell? ⟨g8, 7, none⟩ = some (.int .i64 now.lu) ∧ wx.cell? ⟨g8, 8, none⟩ = some (.int .i64 now.bf) ∧ wx.cell? ⟨g8, 9, none⟩ = some (.int .i64 now.bo) ∧ wx.cell? ⟨g8, 10, none⟩ = some (.int .i64 now.bp) ∧ wx.cell? ⟨g8, 11, none⟩ = some (.int .i64 now.rm) ∧ wx.cell? ⟨g8, 12, none⟩ = some (.int .i64 now.rb) ∧ wx.cell? ⟨g8, 13, none⟩ = some (.int .i64 now.rc) ∧ wx.cell? ⟨g8, 14, none⟩ = some (.int .i64 now.rj) ∧ wx.cell? ⟨A, n, none⟩ = some (.string (Lx.keyB n)) from fun wx b => ⟨b, (b.cell (p := ⟨g8, 0, none⟩) HX5.out.size).trans (HX5.out.cell 0 _ rfl), (b.cell (p := ⟨g8, 1, none⟩) HX5.out.size).trans (HX5.out.cell 1 _ rfl), (b.cell (p := ⟨g8, 2, none⟩) HX5.out.size).trans (HX5.out.cell 2 _ rfl), (b.cell (p := ⟨g8, 3, none⟩) HX5.out.size).trans (HX5.out.cell 3 _ rfl), (b.cell (p := ⟨g8, 4, none⟩) HX5.out.size).trans (HX5.out.cell 4 _ rfl), (b.cell (p := ⟨g8, 5, none⟩) HX5.out.size).trans (HX5.out.cell 5 _ rfl), (b.cell (p := ⟨g8, 6, none⟩) HX5.out.size).trans (HX5.out.cell 6 _ rfl), (b.cell (p := ⟨g8, 7, none⟩) HX5.out.size).trans (HX5.out.cell 7 _ rfl), (b.cell (p := ⟨g8, 8, none⟩) HX5.out.size).trans (HX5.out.cell 8 _ rfl), (b.cell (p := ⟨g8, 9, none⟩) HX5.out.size).trans (HX5.out.cell 9 _ rfl), (b.cell (p := ⟨g8, 10, none⟩) HX5.out.size).trans (HX5.out.cell 10 _ rfl), (b.cell (p := ⟨g8, 11, none⟩) HX5.out.size).trans (HX5.out.cell 11 _ rfl), (b.cell (p := ⟨g8, 12, none⟩) HX5.out.size).trans (HX5.out.cell 12 _ rfl), (b.cell (p := ⟨g8, 13, none⟩) HX5.out.size).trans (HX5.out.cell 13 _ rfl), (b.cell (p := ⟨g8, 14, none⟩) HX5.out.size).trans (HX5.out.cell 14 _ rfl), (b.cell (p := ⟨A, n, none⟩) HA5.out).trans (HR5.out n hn8)⟩)
      have hS0 := HSS.out w5.drew (Below.refl _ w5).drew
      go_wp2_with fail
      have hge5 := HX5.out.size
      have hgls := hgl
      go_cut [14, 15] (fun s14 s15 wx => s15 = .int .i64 0 ∧ ∃ g, s14 = .pointer (some ⟨g, 0, none⟩) ∧ w5.heap.size ≤ g ∧ Lx.PSt g wx wx nx ∧ Below w5.heap.size w5 wx)
      case first =>
        refine wp_region_held_drew (S := (fun wx => Below w5.heap.size w5 wx ∧ wx.cell? ⟨g8, 0, none⟩ = some (.int .i64 now.cap) ∧ wx.cell? ⟨g8, 1, none⟩ = some (.int .i64 now.pri) ∧ wx.cell? ⟨g8, 2, none⟩ = some (.int .i64 now.spl) ∧ wx.cell? ⟨g8, 3, none⟩ = some (.int .i64 now.dl) ∧ wx.cell? ⟨g8, 4, none⟩ = some (.int .i64 now.mis) ∧ wx.cell? ⟨g8, 5, none⟩ = some (.int .i64 now.keep) ∧ wx.cell? ⟨g8, 6, none⟩ = some (.int .i64 now.lt) ∧ wx.cell? ⟨g8, 7, none⟩ = some (.int .i64 now.lu) ∧ wx.cell? ⟨g8, 8, none⟩ = some (.int .i64 now.bf) ∧ wx.cell? ⟨g8, 9, none⟩ = some (.int .i64 now.bo) ∧ wx.cell? ⟨g8, 10, none⟩ = some (.int .i64 now.bp) ∧ wx.cell? ⟨g8, 11, none⟩ = some (.int .i64 now.rm) ∧ wx.cell? ⟨g8, 12, none⟩ = some (.int .i64 now.rb) ∧ wx.cell? ⟨g8, 13, none⟩ = some (.int .i64 now.rc) ∧ wx.cell? ⟨g8, 14, none⟩ = some (.int .i64 now.rj) ∧ wx.cell? ⟨A, n, none⟩ = some (.string (Lx.keyB n)))) (by as_aux_lemma => kernel_rfl) ?_ (fun hHeld => ?_)
        · exact hS0
        refine' wpAnyH_take (i := 0) (oi := _) (v := _) ?hi0q1 (by as_aux_lemma => kernel_rfl) (by as_aux_lemma => kernel_rfl) (by as_aux_lemma => kernel_rfl) ?hq0q1 ?hy0q1 (by assumption) ?re0q1
        case hi0q1 => simp only [List.getElem?_toArray, List.getElem?_cons_zero]; rfl
        case hq0q1 => exact fun _ _ _ h => h
        case hy0q1 =>
          refine Or.inl ⟨by rfl, ?_⟩
          intro w hSw; (try dsimp only at hSw); go_simp; try with_reducible rfl
        try simp only [Act.put, List.setIfInBounds_toArray, List.set_cons_zero, List.set_cons_succ]
        refine' wpAnyH_take (i := 1) (oi := _) (v := _) ?hi1q1 (by as_aux_lemma => kernel_rfl) (by as_aux_lemma => kernel_rfl) (by as_aux_lemma => kernel_rfl) ?hq1q1 ?hy1q1 (by assumption) ?re1q1
        case hi1q1 => simp only [List.getElem?_toArray, List.getElem?_cons_succ, List.getElem?_cons_zero]; rfl
        case hq1q1 => exact fun _ _ _ h => h
        case hy1q1 =>
          refine Or.inl ⟨by rfl, ?_⟩
          intro w hSw; (try dsimp only at hSw); go_simp; try with_reducible rfl
        try simp only [Act.put, List.setIfInBounds_toArray, List.set_cons_zero, List.set_cons_succ]
        refine' wpAnyH_take (i := 2) (oi := _) (v := _) ?hi2q1 (by as_aux_lemma => kernel_rfl) (by as_aux_lemma => kernel_rfl) (by as_aux_lemma => kernel_rfl) ?hq2q1 ?hy2q1 (by assumption) ?re2q1
        case hi2q1 => simp only [List.getElem?_toArray, List.getElem?_cons_succ, List.getElem?_cons_zero]; rfl
        case hq2q1 => exact fun _ _ _ h => h
        case hy2q1 =>
          refine Or.inl ⟨by rfl, ?_⟩
          intro w hSw; (try dsimp only at hSw); go_simp; try with_reducible rfl
        try simp only [Act.put, List.setIfInBounds_toArray, List.set_cons_zero, List.set_cons_succ]
        refine' wpAnyH_take (i := 3) (oi := _) (v := _) ?hi3q1 (by as_aux_lemma => kernel_rfl) (by as_aux_lemma => kernel_rfl) (by as_aux_lemma => kernel_rfl) ?hq3q1 ?hy3q1 (by assumption) ?re3q1
        case hi3q1 => simp only [List.getElem?_toArray, List.getElem?_cons_succ, List.getElem?_cons_zero]; rfl
        case hq3q1 => exact fun _ _ _ h => h
        case hy3q1 =>
          refine Or.inl ⟨by rfl, ?_⟩
          intro w hSw; (try dsimp only at hSw); go_simp; try with_reducible rfl
        try simp only [Act.put, List.setIfInBounds_toArray, List.set_cons_zero, List.set_cons_succ]
        refine' wpAnyH_take (i := 4) (oi := _) (v := _) ?hi4q1 (by as_aux_lemma => kernel_rfl) (by as_aux_lemma => kernel_rfl) (by as_aux_lemma => kernel_rfl) ?hq4q1 ?hy4q1 (by assumption) ?re4q1
        case hi4q1 => simp only [List.getElem?_toArray, List.getElem?_cons_succ, List.getElem?_cons_zero]; rfl
        case hq4q1 => exact fun _ _ _ h => h
        case hy4q1 =>
          refine Or.inl ⟨by rfl, ?_⟩
          intro w hSw; (try dsimp only at hSw); go_simp; try with_reducible rfl
        try simp only [Act.put, List.setIfInBounds_toArray, List.set_cons_zero, List.set_cons_succ]
        refine' wpAnyH_take (i := 5) (oi := _) (v := _) ?hi5q1 (by as_aux_lemma => kernel_rfl) (by as_aux_lemma => kernel_rfl) (by as_aux_lemma => kernel_rfl) ?hq5q1 ?hy5q1 (by assumption) ?re5q1
        case hi5q1 => simp only [List.getElem?_toArray, List.getElem?_cons_succ, List.getElem?_cons_zero]; rfl
        case hq5q1 => exact fun _ _ _ h => h
        case hy5q1 =>
          refine Or.inl ⟨by rfl, ?_⟩
          intro w hSw; (try dsimp only at hSw); go_simp; try with_reducible rfl
        try simp only [Act.put, List.setIfInBounds_toArray, List.set_cons_zero, List.set_cons_succ]
        refine wpAnyH_ready (rs := [6, 10]) (by as_aux_lemma => kernel_rfl) (by simp) ?_
        refine' AllReadyH.cons (o := _) ?hi6q1 (fun K hK => ?st6q1) (AllReadyH.cons (o := _) ?hi10q1 (fun K hK => ?st10q1) AllReadyH.nil)
        case hi6q1 => simp only [List.getElem?_toArray, List.getElem?_cons_succ, List.getElem?_cons_zero]; rfl
        case hi10q1 => simp only [List.getElem?_toArray, List.getElem?_cons_succ, List.getElem?_cons_zero]; rfl
        case st6q1 =>
          go_simp
          go_at_call 8; refine (HSet.out _ (E0.out.below (B5.out.trans (hHeld.1.mono B5.out.size)))).mono ?_; rintro e w6 ⟨rfl, c6⟩; have d6 := Lib.hid (hHeld.1.trans (c6.mono hHeld.1.size)); have k8 := HSS.out _ d6.out; clear c6
          try go_wp2_with fail
          refine hK.out _ _ ?_ (fun hHeld => ?_)
          · exact k8
          clear hK K
          try simp only [Act.put, List.setIfInBounds_toArray, List.set_cons_zero, List.set_cons_succ]
          refine' wpAnyH_take (i := 7) (oi := _) (v := _) ?hi7q2 (by as_aux_lemma => kernel_rfl) (by as_aux_lemma => kernel_rfl) (by as_aux_lemma => kernel_rfl) ?hq7q2 ?hy7q2 (by assumption) ?re7q2
          case hi7q2 => simp only [List.getElem?_toArray, List.getElem?_cons_succ, List.getElem?_cons_zero]; rfl
          case hq7q2 => exact fun _ _ _ h => h
          case hy7q2 =>
            refine Or.inl ⟨by rfl, ?_⟩
            intro w hSw; (try dsimp only at hSw); go_simp; try with_reducible rfl
          try simp only [Act.put, List.setIfInBounds_toArray, List.set_cons_zero, List.set_cons_succ]
          refine' wpAnyH_take (i := 8) (oi := _) (v := _) ?hi8q2 (by as_aux_lemma => kernel_rfl) (by as_aux_lemma => kernel_rfl) (by as_aux_lemma => kernel_rfl) ?hq8q2 ?hy8q2 (by assumption) ?re8q2
          case hi8q2 => simp only [List.getElem?_toArray, List.getElem?_cons_succ, List.getElem?_cons_zero]; rfl
          case hq8q2 => exact fun _ _ _ h => h
          case hy8q2 =>
            refine Or.inl ⟨by rfl, ?_⟩
            intro w hSw; (try dsimp only at hSw); go_simp; try with_reducible rfl
          try simp only [Act.put, List.setIfInBounds_toArray, List.set_cons_zero, List.set_cons_succ]
          refine' wpAnyH_take (i := 9) (oi := _) (v := _) ?hi9q2 (by as_aux_lemma => kernel_rfl) (by as_aux_lemma => kernel_rfl) (by as_aux_lemma => kernel_rfl) ?hq9q2 ?hy9q2 (by assumption) ?re9q2
          case hi9q2 => simp only [List.getElem?_toArray, List.getElem?_cons_succ, List.getElem?_cons_zero]; rfl
          case hq9q2 => exact fun _ _ _ h => h
          case hy9q2 =>
            refine Or.inl ⟨by rfl, ?_⟩
            intro w hSw; (try dsimp only at hSw); go_simp; try with_reducible rfl
          try simp only [Act.put, List.setIfInBounds_toArray, List.set_cons_zero, List.set_cons_succ]
          refine wpAnyH_ready (rs := [10]) (by as_aux_lemma => kernel_rfl) (by simp) ?_
          refine' AllReadyH.cons (o := _) ?hi10q2 (fun K hK => ?st10q2) AllReadyH.nil
          case hi10q2 => simp only [List.getElem?_toArray, List.getElem?_cons_succ, List.getElem?_cons_zero]; rfl
          case st10q2 =>
            go_simp
            have k8 := HSS.out (w6.alloc (.cells #[.int .i64 0, .int .i64 0, .int .i64 0, .int .i64 0, .int .i64 0, .int .i64 0, .int .i64 0, .int .i64 0, .int .i64 0, .int .i64 0, .int .i64 0, .int .i64 0, .int .i64 0, .int .i64 0, .int .i64 0] 29)) (d6.out.alloc d6.out.size _)
            try go_wp2_with fail
            refine hK.out _ _ ?_ (fun hHeld => ?_)
            · exact k8
            clear hK K
            try simp only [Act.put, List.setIfInBounds_toArray, List.set_cons_zero, List.set_cons_succ]
            refine wpAnyH_ready (rs := [11]) (by as_aux_lemma => kernel_rfl) (by simp) ?_
            refine' AllReadyH.cons (o := _) ?hi11q3 (fun K hK => ?st11q3) AllReadyH.nil
            case hi11q3 => simp only [List.getElem?_toArray, List.getElem?_cons_succ, List.getElem?_cons_zero]; rfl
            case st11q3 =>
              go_simp
              have k8 := HSS.out (w6.alloc (.cells #[.int .i64 nx.cap, .int .i64 nx.pri, .int .i64 nx.spl, .int .i64 nx.dl, .int .i64 nx.mis, .int .i64 nx.keep, .int .i64 nx.lt, .int .i64 nx.lu, .int .i64 nx.bf, .int .i64 nx.bo, .int .i64 nx.bp, .int .i64 nx.rm, .int .i64 nx.rb, .int .i64 nx.rc, .int .i64 nx.rj] 29)) (d6.out.alloc d6.out.size _); have HP := Lib.hid (Lx.PSt.new w6 (Nat.le_trans hgls (B5.out.trans (d6.out.mono B5.out.size)).size) nx); have hge14 := d6.out.size
              try go_wp2_with fail
              refine hK.out _ _ ?_ (fun hHeld => ?_)
              · exact k8
              clear hK K
              try simp only [Act.put, List.setIfInBounds_toArray, List.set_cons_zero, List.set_cons_succ]
              refine' wpAnyH_take (i := 12) (oi := _) (v := _) ?hi12q4 (by as_aux_lemma => kernel_rfl) (by as_aux_lemma => kernel_rfl) (by as_aux_lemma => kernel_rfl) ?hq12q4 ?hy12q4 (by assumption) ?re12q4
              case hi12q4 => simp only [List.getElem?_toArray, List.getElem?_cons_succ, List.getElem?_cons_zero]; rfl
              case hq12q4 => exact fun _ _ _ h => h
              case hy12q4 =>
                refine Or.inl ⟨by rfl, ?_⟩
                intro w hSw; (try dsimp only at hSw); go_simp; try with_reducible rfl
              try simp only [Act.put, List.setIfInBounds_toArray, List.set_cons_zero, List.set_cons_succ]
              refine wpAnyH_done (by as_aux_lemma => kernel_rfl) ?_ _
              go_wp2_with fail
              go_meet
              exact ⟨rfl, _, rfl, hge14, ⟨HP.out.size, HP.out.gl, World.grownBy.refl _ _, HP.out.cell, HP.out.fz⟩, hHeld.1⟩
        case st10q1 =>
          go_simp
          have d5 := (Below.refl w5.heap.size w5).drew.alloc (Nat.le_refl _) (.cells #[.int .i64 0, .int .i64 0, .int .i64 0, .int .i64 0, .int .i64 0, .int .i64 0, .int .i64 0, .int .i64 0, .int .i64 0, .int .i64 0, .int .i64 0, .int .i64 0, .int .i64 0, .int .i64 0, .int .i64 0] 29); have z5 := Lib.hid (show Lx.PSt w5.heap.size (w5.drew.alloc (.cells #[.int .i64 0, .int .i64 0, .int .i64 0, .int .i64 0, .int .i64 0, .int .i64 0, .int .i64 0, .int .i64 0, .int .i64 0, .int .i64 0, .int .i64 0, .int .i64 0, .int .i64 0, .int .i64 0, .int .i64 0] 29)) (w5.drew.alloc (.cells #[.int .i64 0, .int .i64 0, .int .i64 0, .int .i64 0, .int .i64 0, .int .i64 0, .int .i64 0, .int .i64 0, .int .i64 0, .int .i64 0, .int .i64 0, .int .i64 0, .int .i64 0, .int .i64 0, .int .i64 0] 29)) Lx.polZ from Lx.PSt.new w5.drew (Nat.le_trans hgls B5.out.size) Lx.polZ); have k8 := HSS.out (w5.drew.alloc (.cells #[.int .i64 0, .int .i64 0, .int .i64 0, .int .i64 0, .int .i64 0, .int .i64 0, .int .i64 0, .int .i64 0, .int .i64 0, .int .i64 0, .int .i64 0, .int .i64 0, .int .i64 0, .int .i64 0, .int .i64 0] 29)) d5
          try go_wp2_with fail
          refine hK.out _ _ ?_ (fun hHeld => ?_)
          · exact k8
          clear hK K
          try simp only [Act.put, List.setIfInBounds_toArray, List.set_cons_zero, List.set_cons_succ]
          refine wpAnyH_ready (rs := [6]) (by as_aux_lemma => kernel_rfl) (by simp) ?_
          refine' AllReadyH.cons (o := _) ?hi6q5 (fun K hK => ?st6q5) AllReadyH.nil
          case hi6q5 => simp only [List.getElem?_toArray, List.getElem?_cons_succ, List.getElem?_cons_zero]; rfl
          case st6q5 =>
            go_simp
            go_at_call 8; refine (HSet.out _ (E0.out.below (B5.out.trans (hHeld.1.mono B5.out.size)))).mono ?_; rintro e w6 ⟨rfl, c6⟩; have d6 := Lib.hid (hHeld.1.trans (c6.mono hHeld.1.size)); have k8 := HSS.out _ d6.out; have z6 := Lib.hid (z5.out.low c6); clear c6; have z100 := z6.out.cell 0 _ rfl; have y0 := z6.out.fz 0 (by omega); have z101 := z6.out.cell 1 _ rfl; have y1 := z6.out.fz 1 (by omega); have z102 := z6.out.cell 2 _ rfl; have y2 := z6.out.fz 2 (by omega); have z103 := z6.out.cell 3 _ rfl; have y3 := z6.out.fz 3 (by omega); have z104 := z6.out.cell 4 _ rfl; have y4 := z6.out.fz 4 (by omega); have z105 := z6.out.cell 5 _ rfl; have y5 := z6.out.fz 5 (by omega); have z106 := z6.out.cell 6 _ rfl; have y6 := z6.out.fz 6 (by omega); have z107 := z6.out.cell 7 _ rfl; have y7 := z6.out.fz 7 (by omega); have z108 := z6.out.cell 8 _ rfl; have y8 := z6.out.fz 8 (by omega); have z109 := z6.out.cell 9 _ rfl; have y9 := z6.out.fz 9 (by omega); have z110 := z6.out.cell 10 _ rfl; have y10 := z6.out.fz 10 (by omega); have z111 := z6.out.cell 11 _ rfl; have y11 := z6.out.fz 11 (by omega); have z112 := z6.out.cell 12 _ rfl; have y12 := z6.out.fz 12 (by omega); have z113 := z6.out.cell 13 _ rfl; have y13 := z6.out.fz 13 (by omega); have z114 := z6.out.cell 14 _ rfl; have y14 := z6.out.fz 14 (by omega)
            try go_wp2_with fail
            refine hK.out _ _ ?_ (fun hHeld => ?_)
            · exact k8
            clear hK K
            try simp only [Act.put, List.setIfInBounds_toArray, List.set_cons_zero, List.set_cons_succ]
            refine' wpAnyH_take (i := 7) (oi := _) (v := _) ?hi7q6 (by as_aux_lemma => kernel_rfl) (by as_aux_lemma => kernel_rfl) (by as_aux_lemma => kernel_rfl) ?hq7q6 ?hy7q6 (by assumption) ?re7q6
            case hi7q6 => simp only [List.getElem?_toArray, List.getElem?_cons_succ, List.getElem?_cons_zero]; rfl
            case hq7q6 => exact fun _ _ _ h => h
            case hy7q6 =>
              refine Or.inl ⟨by rfl, ?_⟩
              intro w hSw; (try dsimp only at hSw); go_simp; try with_reducible rfl
            try simp only [Act.put, List.setIfInBounds_toArray, List.set_cons_zero, List.set_cons_succ]
            refine' wpAnyH_take (i := 8) (oi := _) (v := _) ?hi8q6 (by as_aux_lemma => kernel_rfl) (by as_aux_lemma => kernel_rfl) (by as_aux_lemma => kernel_rfl) ?hq8q6 ?hy8q6 (by assumption) ?re8q6
            case hi8q6 => simp only [List.getElem?_toArray, List.getElem?_cons_succ, List.getElem?_cons_zero]; rfl
            case hq8q6 => exact fun _ _ _ h => h
            case hy8q6 =>
              refine Or.inl ⟨by rfl, ?_⟩
              intro w hSw; (try dsimp only at hSw); go_simp; try with_reducible rfl
            try simp only [Act.put, List.setIfInBounds_toArray, List.set_cons_zero, List.set_cons_succ]
            refine' wpAnyH_take (i := 9) (oi := _) (v := _) ?hi9q6 (by as_aux_lemma => kernel_rfl) (by as_aux_lemma => kernel_rfl) (by as_aux_lemma => kernel_rfl) ?hq9q6 ?hy9q6 (by assumption) ?re9q6
            case hi9q6 => simp only [List.getElem?_toArray, List.getElem?_cons_succ, List.getElem?_cons_zero]; rfl
            case hq9q6 => exact fun _ _ _ h => h
            case hy9q6 =>
              refine Or.inl ⟨by rfl, ?_⟩
              intro w hSw; (try dsimp only at hSw); go_simp; try with_reducible rfl
            try simp only [Act.put, List.setIfInBounds_toArray, List.set_cons_zero, List.set_cons_succ]
            refine wpAnyH_ready (rs := [11]) (by as_aux_lemma => kernel_rfl) (by simp) ?_
            refine' AllReadyH.cons (o := _) ?hi11q6 (fun K hK => ?st11q6) AllReadyH.nil
            case hi11q6 => simp only [List.getElem?_toArray, List.getElem?_cons_succ, List.getElem?_cons_zero]; rfl
            case st11q6 =>
              go_simp
              have HP := Lib.hid ((z6.out.put nx)); have hge14 := Nat.le_refl w5.heap.size; have k8 := HSS.out (Lx.putPol w6 w5.heap.size nx) (d6.out.trans HP.out.toB)
              try go_wp2_with fail
              refine hK.out _ _ ?_ (fun hHeld => ?_)
              · exact k8
              clear hK K
              try simp only [Act.put, List.setIfInBounds_toArray, List.set_cons_zero, List.set_cons_succ]
              refine' wpAnyH_take (i := 12) (oi := _) (v := _) ?hi12q7 (by as_aux_lemma => kernel_rfl) (by as_aux_lemma => kernel_rfl) (by as_aux_lemma => kernel_rfl) ?hq12q7 ?hy12q7 (by assumption) ?re12q7
              case hi12q7 => simp only [List.getElem?_toArray, List.getElem?_cons_succ, List.getElem?_cons_zero]; rfl
              case hq12q7 => exact fun _ _ _ h => h
              case hy12q7 =>
                refine Or.inl ⟨by rfl, ?_⟩
                intro w hSw; (try dsimp only at hSw); go_simp; try with_reducible rfl
              try simp only [Act.put, List.setIfInBounds_toArray, List.set_cons_zero, List.set_cons_succ]
              refine wpAnyH_done (by as_aux_lemma => kernel_rfl) ?_ _
              go_wp2_with fail
              go_meet
              exact ⟨rfl, _, rfl, hge14, ⟨HP.out.size, HP.out.gl, World.grownBy.refl _ _, HP.out.cell, HP.out.fz⟩, hHeld.1⟩
      case rest =>
        obtain ⟨rfl, g14, rfl, hge, hN7, c57⟩ := hcut
        obtain ⟨W7, rfl⟩ : ∃ W, W = wc := ⟨_, rfl⟩
        have B7 := Lib.hid (B5.out.trans (c57.mono B5.out.size))
        have HS7 := Lib.hid (HS5.out.low c57)
        have HX7 := Lib.hid (HX5.out.low c57)
        have HN7 := Lib.hid hN7
        have HR7 := Lib.hid (show ∀ j : Nat, j < 8 → W7.cell? ⟨A, j, none⟩ = some (.string (Lx.keyB j)) from fun j hj => (c57.cell (p := ⟨A, j, none⟩) HA5.out).trans (HR5.out j hj))
        have HA7 := Lib.hid (Nat.lt_of_lt_of_le HA5.out c57.size)
        have Hg := Lib.hid (show g14 ≠ A ∧ g14 ≠ g8 ∧ g14 ≠ g3 from by have h1 := HA5.out; have h2 := HX5.out.size; have h3 := HS5.out.size; omega)
        clear c57 hge hN7 HS5 HX5 HR5 HA5 B5 HSS hS0
        have HokN := Lib.hid (show Lx.polOk nx = true from by rw [Hnx.out]; exact Lx.upd_ok P now hn8 ((Lx.polOk_all P).1 HOK.out n hn8) Hok.out)
        go_wp2_with fail
        refine inner E0.out P now nx n A cc g8 g14 T hn8 HOK.out Hok.out Hnx.out Htl.out HX7.out HN7.out HR7.out HA7.out B7.out _ _ _ _ _ _ _ _ _ _ _ _ _ _ _ _ _ _ _ _ _ _ _ _ _ _ _ _ _ _ _ _ _ _ _ _ _ _ _ _ _ _ _ _ _ _ _ _ _ _ _ _ _ _ _ _ _ _ _ _ _ _ _ _ _ _ _ _ _ _ _ _ _ _ _ _ _ _ _ _ _ _ _ _ _ _ _ _ _ _ _ _ _ _ _ _ _ _ _ _ _ _ _ _ _ _ _ _ _ _ _ _ _ _ _ _ _ _ _ _ _ _ _ _ _ (fun _ _ _ _ _ h => h) ?_
        intro u6 u16 u17 u18 u19 u20 u71 u72 u73 u74 u75 u76 u77 u78 u79 u80 u81 u82 u83 u84 u85 u86 u87 u88 u89 u90 u91 u92 u93 u94 u95 u96 u97 u98 u99 u100 u101 u102 u103 u104 u105 u106 u107 u108 u109 u110 u111 u112 u113 u114 u115 u116 u117 u118 u119 u120 u121 u122 u123 W8 bI
        have bIh := Lib.hid bI
        clear bI
        have HS8 := Lib.hid (HS7.out.low bIh.out)
        have HX8 := Lib.hid (HX7.out.low bIh.out)
        have HN8 := Lib.hid (HN7.out.low bIh.out)
        have B8 := Lib.hid (B7.out.trans ((bIh.out).mono B7.out.size))
        have HR8 := Lib.hid (show ∀ j : Nat, j < 8 → W8.cell? ⟨A, j, none⟩ = some (.string (Lx.keyB j)) from fun j hj => (Below.cell bIh.out (p := ⟨A, j, none⟩) HA7.out).trans (HR7.out j hj))
        have HA8 := Lib.hid (Nat.lt_of_lt_of_le HA7.out (Below.size bIh.out))
        refine polOpened HN8.out (fun u0 u1 u2 u3 u4 u5 u6 u7 u8 u9 u10 u11 u12 u13 u14 => ?_)
        refine polOpened HX8.out (fun v0 v1 v2 v3 v4 v5 v6 v7 v8 v9 v10 v11 v12 v13 v14 => ?_)
        refine polFree HX8.out (fun y0 y1 y2 y3 y4 y5 y6 y7 y8 y9 y10 y11 y12 y13 y14 => ?_)
        have HX9 := Lib.hid (HX8.out.put nx)
        have HK1 := Lib.hid (show nx = Lx.foldK P (Lx.turn c.toNat (k + 1)) N0 from by rw [Lx.turn_succ, Lx.fold_snoc, ← Hnow.out, ← Hn.out, Hnx.out])
        have HK2 := Lib.hid (show Lx.polOk nx = true from by rw [Hnx.out]; exact Lx.upd_ok P now hn8 ((Lx.polOk_all P).1 HOK.out n hn8) Hok.out)
        go_wp2_with fail
        go_roundw
        case rel => exact ⟨k + 1, nx, by omega, by go_num, HS8.out.beside HX9.out.gb (fun c => Hne.out.2.1 (Option.some.inj c)), ⟨HX9.out.size, HX9.out.gl, World.grownBy.refl _ _, HX9.out.cell, HX9.out.fz⟩, HK1.out, HK2.out, fun j hj => HX9.out.gb.cell (HR8.out j hj) (fun c => Hne.out.1 (Option.some.inj c).symm), Nat.lt_of_lt_of_le HA8.out HX9.out.gb.size, B8.out.trans (HX9.out.toB.mono Hne.out.2.2)⟩
        case measure => simp [intOf]; omega
    · as_aux_lemma =>
        obtain rfl : k = 8 := by omega
        have hfin : now = P := by rw [hnow]; exact Lx.turn_all _ _ _
        have HS := Lib.hid S
        have HX := Lib.hid (show Lx.PSt g8 wr wr P from by rw [← hfin]; exact X)
        have HB := Lib.hid hb
        clear S X hR hA hb hnow hfin
        refine polOpened HX.out (fun u0 u1 u2 u3 u4 u5 u6 u7 u8 u9 u10 u11 u12 u13 u14 => ?_)
        refine polOpened HS.out (fun v0 v1 v2 v3 v4 v5 v6 v7 v8 v9 v10 v11 v12 v13 v14 => ?_)
        have heq : (Op.equalIn 10000 29 (.agg #[.int .i64 P.cap, .int .i64 P.pri, .int .i64 P.spl, .int .i64 P.dl, .int .i64 P.mis, .int .i64 P.keep, .int .i64 P.lt, .int .i64 P.lu, .int .i64 P.bf, .int .i64 P.bo, .int .i64 P.bp, .int .i64 P.rm, .int .i64 P.rb, .int .i64 P.rc, .int .i64 P.rj]) (.agg #[.int .i64 P.cap, .int .i64 P.pri, .int .i64 P.spl, .int .i64 P.dl, .int .i64 P.mis, .int .i64 P.keep, .int .i64 P.lt, .int .i64 P.lu, .int .i64 P.bf, .int .i64 P.bo, .int .i64 P.bp, .int .i64 P.rm, .int .i64 P.rb, .int .i64 P.rc, .int .i64 P.rj])).run Tryz.prog wr = .ok true wr := Heq.out wr
        go_wp2_with fail
        refine (HW.out _ (E0.out.below HB.out)).mono ?_
        rintro e w9 ⟨rfl, c9⟩
        go_wp2_with fail
        go_ret
        exact ⟨rfl, HB.out.trans (c9.mono HB.out.size)⟩
  
set_option maxRecDepth 100000 in
set_option maxHeartbeats 25600000 in
theorem walkW (p q : Lx.PolV) (c0 : Int) (hc0 : (Lit.int .u8 c0).wf = true) (w : World) (env : UEnv w) (h : Lx.polOk p = true) (hv0 : ¬ Lx.polOk q = true) :
    Calls Tryz.prog 3 #[p.val, q.val, .int .u8 c0] w fun e w' => e = .returned (.bool true) ∧ Below w.heap.size w w' := by
  obtain ⟨c, rfl⟩ := Lx.u8_of hc0
  have HW := Lib.hid (fun W (E : UEnv W) => pworks_any W E)
  have E0 := Lib.hid env
  have hgl := env.env.lt
  obtain ⟨g3, hg3⟩ : ∃ g, g = w.heap.size := ⟨_, rfl⟩
  obtain ⟨W0, hW0⟩ : ∃ W0, W0 = w.alloc (.cells p.cells.toArray 29) := ⟨_, rfl⟩
  obtain ⟨W1, hW1⟩ : ∃ W1, W1 = W0.alloc (.cells q.cells.toArray 29) := ⟨_, rfl⟩
  have b0 : Below w.heap.size w W0 := by rw [hW0]; exact (Below.refl _ w).alloc (Nat.le_refl _) _
  have b1 : Below W0.heap.size W0 W1 := by rw [hW1]; exact (Below.refl _ W0).alloc (Nat.le_refl _) _
  have e0 : W0.heap.size = w.heap.size + 1 := by rw [hW0]; simp
  obtain ⟨g4, hg4⟩ : ∃ g, g = w.heap.size + 1 := ⟨_, rfl⟩
  have S0 := Lib.hid (show Lx.PSt g3 W1 W1 p from by
    have : Lx.PSt g3 W0 W0 p := by rw [hg3, hW0]; exact Lx.PSt.new w hgl p
    exact this.low b1)
  have T0 := Lib.hid (show Lx.PSt g4 W1 W1 q from by rw [hg4, ← e0, hW1]; exact Lx.PSt.new W0 (by omega) q)
  have B0 := Lib.hid (b0.trans (b1.mono b0.size))
  clear b0 b1
  have HC := fun W => polCheck_any p W
  have hE : Lx.polE p = 0 := by unfold Lx.polE; rw [if_pos h]
  rw [hE] at HC
  have HC2 := Lib.hid (fun W => polCheck_any q W)
  have HK := Lib.hid (fun W => polKeys_any W)
  have HOK := Lib.hid h
  have Hv0 := Lib.hid hv0
  have Heq := Lib.hid (fun W => eqPol_self p W)
  obtain ⟨P, hP⟩ : ∃ P, P = p := ⟨_, rfl⟩
  obtain ⟨N0, hN0⟩ : ∃ N, N = q := ⟨_, rfl⟩
  rw [← hP] at HC HOK S0 Heq
  rw [← hN0] at HC2 T0 Hv0
  obtain ⟨cap, pri, spl, dl, mis, keep, lt, lu, bf, bo, bp, rm, rb, rc, rj⟩ := p
  obtain ⟨cap2, pri2, spl2, dl2, mis2, keep2, lt2, lu2, bf2, bo2, bp2, rm2, rb2, rc2, rj2⟩ := q
  have HCp := Lib.hid HC
  have HP := Lib.hid hP
  have HN := Lib.hid hN0
  clear hE h env HC hP hN0 hv0
  show Calls Tryz.prog 3 #[.agg #[.int .i64 cap, .int .i64 pri, .int .i64 spl, .int .i64 dl, .int .i64 mis, .int .i64 keep, .int .i64 lt, .int .i64 lu, .int .i64 bf, .int .i64 bo, .int .i64 bp, .int .i64 rm, .int .i64 rb, .int .i64 rc, .int .i64 rj], .agg #[.int .i64 cap2, .int .i64 pri2, .int .i64 spl2, .int .i64 dl2, .int .i64 mis2, .int .i64 keep2, .int .i64 lt2, .int .i64 lu2, .int .i64 bf2, .int .i64 bo2, .int .i64 bp2, .int .i64 rm2, .int .i64 rb2, .int .i64 rc2, .int .i64 rj2], .int .u8 c.toNat] w _
  go_enter Tryz.func3, Tryz.ntmps3
  go_upto_region 1 with (fail)
  rw [show (w.alloc (.cells #[.int .i64 cap, .int .i64 pri, .int .i64 spl, .int .i64 dl, .int .i64 mis, .int .i64 keep, .int .i64 lt, .int .i64 lu, .int .i64 bf, .int .i64 bo, .int .i64 bp, .int .i64 rm, .int .i64 rb, .int .i64 rc, .int .i64 rj] 29)) = W0 from hW0.symm]
  rw [show (W0.alloc (.cells #[.int .i64 cap2, .int .i64 pri2, .int .i64 spl2, .int .i64 dl2, .int .i64 mis2, .int .i64 keep2, .int .i64 lt2, .int .i64 lu2, .int .i64 bf2, .int .i64 bo2, .int .i64 bp2, .int .i64 rm2, .int .i64 rb2, .int .i64 rc2, .int .i64 rj2] 29)) = W1 from hW1.symm, ← hg4, ← hg3]
  have Hg3 := Lib.hid hg3
  have Hg4 := Lib.hid hg4
  clear hW0 hW1 hg3 hg4 e0
  go_wp2_with ((with_reducible show wpList _ _ _ _ _ _); refine' Lx.wpList_get _ rfl _ rfl g3 rfl ?_ ?_; any_goals (with_reducible exact S0.out))
  refine (HCp.out _).mono ?_
  rintro e w1 ⟨rfl, c1⟩
  have S1 := Lib.hid (S0.out.low c1)
  have T1 := Lib.hid (T0.out.low c1)
  have B1 := Lib.hid (B0.out.trans (c1.mono B0.out.size))
  clear c1 S0 T0 B0
  go_wp2_with fail
  refine (HK.out _).mono ?_
  rintro e w2 ⟨A, cc, rfl, hA, hA2, hR, c2⟩
  have S2 := Lib.hid (S1.out.low c2)
  have T2 := Lib.hid (T1.out.low c2)
  have B2 := Lib.hid (B1.out.trans (c2.mono B1.out.size))
  clear c2 S1 T1 B1
  go_upto_region 6 with (fail)
  have hv := Hv0.out
  clear Hv0
  have hE2 : Lx.polE N0 = 16 := by unfold Lx.polE; rw [if_neg hv]
  rw [hE2] at HC2
  clear hE2 hv
  refine polOpened T2.out (fun u0 u1 u2 u3 u4 u5 u6 u7 u8 u9 u10 u11 u12 u13 u14 => ?_)
  obtain ⟨g8, hg8⟩ : ∃ g, g = w2.heap.size := ⟨_, rfl⟩
  obtain ⟨W3, hW3⟩ : ∃ W3, W3 = w2.alloc (.cells #[.int .i64 N0.cap, .int .i64 N0.pri, .int .i64 N0.spl, .int .i64 N0.dl, .int .i64 N0.mis, .int .i64 N0.keep, .int .i64 N0.lt, .int .i64 N0.lu, .int .i64 N0.bf, .int .i64 N0.bo, .int .i64 N0.bp, .int .i64 N0.rm, .int .i64 N0.rb, .int .i64 N0.rc, .int .i64 N0.rj] 29) := ⟨_, rfl⟩
  have c3 := Lib.hid (show Below w2.heap.size w2 W3 from by rw [hW3]; exact (Below.refl _ _).alloc (Nat.le_refl _) _)
  have X3 := Lib.hid (show Lx.PSt g8 W3 W3 N0 from by rw [hg8, hW3]; exact Lx.PSt.new w2 (Nat.le_trans hgl B2.out.size) N0)
  have S3 := Lib.hid (S2.out.low c3.out)
  have T3 := Lib.hid (T2.out.low c3.out)
  have B3 := Lib.hid (B2.out.trans (c3.out.mono B2.out.size))
  have hR3 : ∀ j : Nat, j < 8 → W3.cell? ⟨A, j, none⟩ = some (.string (Lx.keyB j)) := fun j hj => (c3.out.cell (p := ⟨A, j, none⟩) hA).trans (hR j hj)
  have hA3 : A < W3.heap.size := Nat.lt_of_lt_of_le hA c3.out.size
  have hgA : g8 ≠ A := by omega
  have hg38 : g3 ≠ g8 := by have := S2.out.size; omega
  have hg8w : w.heap.size ≤ g8 := by have := B2.out.size; omega
  go_upto_region 7 with (fail)
  rw [show w2.alloc (.cells #[.int .i64 N0.cap, .int .i64 N0.pri, .int .i64 N0.spl, .int .i64 N0.dl, .int .i64 N0.mis, .int .i64 N0.keep, .int .i64 N0.lt, .int .i64 N0.lu, .int .i64 N0.bf, .int .i64 N0.bo, .int .i64 N0.bp, .int .i64 N0.rm, .int .i64 N0.rb, .int .i64 N0.rc, .int .i64 N0.rj] 29) = W3 from hW3.symm, ← hg8]
  clear hW3 hg8 u0 u1 u2 u3 u4 u5 u6 u7 u8 u9 u10 u11 u12 u13 u14 S2 T2 B2 hR hA hA2 c3
  go_wp2_with ((with_reducible show wpList _ _ _ _ _ _); refine' Lx.wpList_get _ rfl _ rfl g4 rfl ?_ ?_; any_goals (with_reducible exact T3.out))
  refine (HC2.out _).mono ?_
  rintro e w4 ⟨rfl, c4⟩
  have S4 := Lib.hid (S3.out.low c4)
  have X4 := Lib.hid (X3.out.low c4)
  have B4 := Lib.hid (B3.out.trans (c4.mono B3.out.size))
  have HR4 := Lib.hid (show ∀ j : Nat, j < 8 → w4.cell? ⟨A, j, none⟩ = some (.string (Lx.keyB j)) from fun j hj => (c4.cell (p := ⟨A, j, none⟩) hA3).trans (hR3 j hj))
  have HA4 := Lib.hid (Nat.lt_of_lt_of_le hA3 c4.size)
  have Hne := Lib.hid (show g8 ≠ A ∧ g3 ≠ g8 ∧ w.heap.size ≤ g8 from ⟨hgA, hg38, hg8w⟩)
  clear c4 S3 T3 X3 B3 hR3 hA3 hgA hg38 hg8w
  go_wp2_with fail
  go_loopw [10] (fun i wr => ∃ (k : Nat) (now : Lx.PolV), k ≤ 8 ∧ i = .int .i64 k ∧ Lx.PSt g3 wr wr P ∧ Lx.PSt g8 wr wr now ∧ now = Lx.foldK P (Lx.turn c.toNat k) N0 ∧ (∀ j : Nat, j < 8 → wr.cell? ⟨A, j, none⟩ = some (.string (Lx.keyB j))) ∧ A < wr.heap.size ∧ Below w.heap.size w wr) (fun i _ => 8 - (intOf i).toNat)
  case atStart => exact ⟨0, N0, Nat.zero_le _, rfl, S4.out, X4.out, rfl, HR4.out, HA4.out, B4.out⟩
  case round =>
    obtain ⟨k, now, hk, rfl, S, X, hnow, hR, hA, hb⟩ := hrel
    by_cases hlt : k < 8
    · have hki : (k : Int) < 8 := by omega
      obtain ⟨n, hn⟩ : ∃ n : Nat, n = (c.toNat + k) % 8 := ⟨_, rfl⟩
      have hn8 : n < 8 := by omega
      have hni : (n : Int) < 8 := by omega
      have hc256 : (c.toNat : Int) < 256 := by have := c.toNat_lt; omega
      have hmod : (((c.toNat : Int) + (k : Int)) % 8) = (n : Int) := by omega
      have HS := Lib.hid S
      have HX := Lib.hid X
      have HR := Lib.hid hR
      have HA := Lib.hid hA
      have HB := Lib.hid hb
      have Hnow := Lib.hid hnow
      skip
      have Hn := Lib.hid hn
      clear S X hR hA hb hnow hn 
      obtain ⟨nx, hnx⟩ : ∃ nx, nx = Lx.updK n P now := ⟨_, rfl⟩
      obtain ⟨T, hT⟩ : ∃ T : ByteArray, T = ⟨(Lx.valS n P).toArray⟩ := ⟨_, rfl⟩
      have HGet := Lib.hid (show ∀ W, UEnv W → Calls Tryz.prog 7 #[.agg #[.int .i64 P.cap, .int .i64 P.pri, .int .i64 P.spl, .int .i64 P.dl, .int .i64 P.mis, .int .i64 P.keep, .int .i64 P.lt, .int .i64 P.lu, .int .i64 P.bf, .int .i64 P.bo, .int .i64 P.bp, .int .i64 P.rm, .int .i64 P.rb, .int .i64 P.rc, .int .i64 P.rj], .string (Lx.keyB n)] W fun e w' => e = .returned (.tuple #[.string T, .int .i64 0]) ∧ Below W.heap.size W w' from fun W E => by have := polGet_any P (Lx.keyB n) W E; rw [(Lx.getS_at HOK.out hn8).1, (Lx.getS_at HOK.out hn8).2, ← hT] at this; exact this)
      have HSet := Lib.hid (show ∀ W, UEnv W → Calls Tryz.prog 8 #[.agg #[.int .i64 now.cap, .int .i64 now.pri, .int .i64 now.spl, .int .i64 now.dl, .int .i64 now.mis, .int .i64 now.keep, .int .i64 now.lt, .int .i64 now.lu, .int .i64 now.bf, .int .i64 now.bo, .int .i64 now.bp, .int .i64 now.rm, .int .i64 now.rb, .int .i64 now.rc, .int .i64 now.rj], .string (Lx.keyB n), .string T] W fun e w' => e = .returned (.tuple #[.agg #[.int .i64 nx.cap, .int .i64 nx.pri, .int .i64 nx.spl, .int .i64 nx.dl, .int .i64 nx.mis, .int .i64 nx.keep, .int .i64 nx.lt, .int .i64 nx.lu, .int .i64 nx.bf, .int .i64 nx.bo, .int .i64 nx.bp, .int .i64 nx.rm, .int .i64 nx.rb, .int .i64 nx.rc, .int .i64 nx.rj], .int .i64 0]) ∧ Below W.heap.size W w' from fun W E => by have := polSet_any now (Lx.keyB n) T (by rw [Lib.size_eq, hT]; have := (Lx.val_bytes hn8 HOK.out).2; simp; omega) W E; rw [Lx.setPol_back HOK.out hn8 (by rw [hT]) now, ← hnx] at this; exact this)
      have HSS := Lib.hid (show ∀ wx, Below wr.heap.size wr wx → Below wr.heap.size wr wx ∧ wx.cell? ⟨g3, 0, none⟩ = some (.int .i64 P.cap) ∧ wx.cell? ⟨g3, 1, none⟩ = some (.int .i64 P.pri) ∧ wx.cell? ⟨g3, 2, none⟩ = some (.int .i64 P.spl) ∧ wx.cell? ⟨g3, 3, none⟩ = some (.int .i64 P.dl) ∧ wx.cell? ⟨g3, 4, none⟩ = some (.int .i64 P.mis) ∧ wx.cell? ⟨g3, 5, none⟩ = some (.int .i64 P.keep) ∧ wx.cell? ⟨g3, 6, none⟩ = some (.int .i64 P.lt) ∧ wx.cell? ⟨g3, 7, none⟩ = some (.int .i64 P.lu) ∧ wx.cell? ⟨g3, 8, none⟩ = some (.int .i64 P.bf) ∧ wx.cell? ⟨g3, 9, none⟩ = some (.int .i64 P.bo) ∧ wx.cell? ⟨g3, 10, none⟩ = some (.int .i64 P.bp) ∧ wx.cell? ⟨g3, 11, none⟩ = some (.int .i64 P.rm) ∧ wx.cell? ⟨g3, 12, none⟩ = some (.int .i64 P.rb) ∧ wx.cell? ⟨g3, 13, none⟩ = some (.int .i64 P.rc) ∧ wx.cell? ⟨g3, 14, none⟩ = some (.int .i64 P.rj) ∧ wx.cell? ⟨A, n, none⟩ = some (.string (Lx.keyB n)) from fun wx b => ⟨b, (b.cell (p := ⟨g3, 0, none⟩) HS.out.size).trans (HS.out.cell 0 _ rfl), (b.cell (p := ⟨g3, 1, none⟩) HS.out.size).trans (HS.out.cell 1 _ rfl), (b.cell (p := ⟨g3, 2, none⟩) HS.out.size).trans (HS.out.cell 2 _ rfl), (b.cell (p := ⟨g3, 3, none⟩) HS.out.size).trans (HS.out.cell 3 _ rfl), (b.cell (p := ⟨g3, 4, none⟩) HS.out.size).trans (HS.out.cell 4 _ rfl), (b.cell (p := ⟨g3, 5, none⟩) HS.out.size).trans (HS.out.cell 5 _ rfl), (b.cell (p := ⟨g3, 6, none⟩) HS.out.size).trans (HS.out.cell 6 _ rfl), (b.cell (p := ⟨g3, 7, none⟩) HS.out.size).trans (HS.out.cell 7 _ rfl), (b.cell (p := ⟨g3, 8, none⟩) HS.out.size).trans (HS.out.cell 8 _ rfl), (b.cell (p := ⟨g3, 9, none⟩) HS.out.size).trans (HS.out.cell 9 _ rfl), (b.cell (p := ⟨g3, 10, none⟩) HS.out.size).trans (HS.out.cell 10 _ rfl), (b.cell (p := ⟨g3, 11, none⟩) HS.out.size).trans (HS.out.cell 11 _ rfl), (b.cell (p := ⟨g3, 12, none⟩) HS.out.size).trans (HS.out.cell 12 _ rfl), (b.cell (p := ⟨g3, 13, none⟩) HS.out.size).trans (HS.out.cell 13 _ rfl), (b.cell (p := ⟨g3, 14, none⟩) HS.out.size).trans (HS.out.cell 14 _ rfl), (b.cell (p := ⟨A, n, none⟩) HA.out).trans (HR.out n hn8)⟩)
      have hS0 := HSS.out wr.drew (Below.refl _ wr).drew
      have Htl := Lib.hid (show T.data.toList = Lx.valS n P from by rw [hT])
      have Hnx := Lib.hid hnx
      clear hT hnx
      go_upto_region 12 with (fail)
      rw [hmod]
      have hn0 : (0 : Int) ≤ (n : Int) := by omega
      refine wp_region_held_drew (S := (fun wx => Below wr.heap.size wr wx ∧ wx.cell? ⟨g3, 0, none⟩ = some (.int .i64 P.cap) ∧ wx.cell? ⟨g3, 1, none⟩ = some (.int .i64 P.pri) ∧ wx.cell? ⟨g3, 2, none⟩ = some (.int .i64 P.spl) ∧ wx.cell? ⟨g3, 3, none⟩ = some (.int .i64 P.dl) ∧ wx.cell? ⟨g3, 4, none⟩ = some (.int .i64 P.mis) ∧ wx.cell? ⟨g3, 5, none⟩ = some (.int .i64 P.keep) ∧ wx.cell? ⟨g3, 6, none⟩ = some (.int .i64 P.lt) ∧ wx.cell? ⟨g3, 7, none⟩ = some (.int .i64 P.lu) ∧ wx.cell? ⟨g3, 8, none⟩ = some (.int .i64 P.bf) ∧ wx.cell? ⟨g3, 9, none⟩ = some (.int .i64 P.bo) ∧ wx.cell? ⟨g3, 10, none⟩ = some (.int .i64 P.bp) ∧ wx.cell? ⟨g3, 11, none⟩ = some (.int .i64 P.rm) ∧ wx.cell? ⟨g3, 12, none⟩ = some (.int .i64 P.rb) ∧ wx.cell? ⟨g3, 13, none⟩ = some (.int .i64 P.rc) ∧ wx.cell? ⟨g3, 14, none⟩ = some (.int .i64 P.rj) ∧ wx.cell? ⟨A, n, none⟩ = some (.string (Lx.keyB n)))) (by as_aux_lemma => kernel_rfl) ?_ (fun hHeld => ?_)
      · exact hS0
      refine' wpAnyH_take (i := 0) (oi := _) (v := _) ?hi0r18 (by as_aux_lemma => kernel_rfl) (by as_aux_lemma => kernel_rfl) (by as_aux_lemma => kernel_rfl) ?hq0r18 ?hy0r18 (by assumption) ?re0r18
      case hi0r18 => simp only [List.getElem?_toArray, List.getElem?_cons_zero]; rfl
      case hq0r18 => exact fun _ _ _ h => h
      case hy0r18 =>
        refine Or.inl ⟨by rfl, ?_⟩
        intro w hSw; (try dsimp only at hSw); go_simp; try with_reducible rfl
      try simp only [Act.put, List.setIfInBounds_toArray, List.set_cons_zero, List.set_cons_succ]
      refine' wpAnyH_take (i := 1) (oi := _) (v := _) ?hi1r18 (by as_aux_lemma => kernel_rfl) (by as_aux_lemma => kernel_rfl) (by as_aux_lemma => kernel_rfl) ?hq1r18 ?hy1r18 (by assumption) ?re1r18
      case hi1r18 => simp only [List.getElem?_toArray, List.getElem?_cons_succ, List.getElem?_cons_zero]; rfl
      case hq1r18 => exact fun _ _ _ h => h
      case hy1r18 =>
        refine Or.inl ⟨by rfl, ?_⟩
        intro w hSw; (try dsimp only at hSw); go_simp; try with_reducible rfl
      try simp only [Act.put, List.setIfInBounds_toArray, List.set_cons_zero, List.set_cons_succ]
      refine' wpAnyH_take (i := 2) (oi := _) (v := _) ?hi2r18 (by as_aux_lemma => kernel_rfl) (by as_aux_lemma => kernel_rfl) (by as_aux_lemma => kernel_rfl) ?hq2r18 ?hy2r18 (by assumption) ?re2r18
      case hi2r18 => simp only [List.getElem?_toArray, List.getElem?_cons_succ, List.getElem?_cons_zero]; rfl
      case hq2r18 => exact fun _ _ _ h => h
      case hy2r18 =>
        refine Or.inl ⟨by rfl, ?_⟩
        intro w hSw; (try dsimp only at hSw); go_simp; try with_reducible rfl
      try simp only [Act.put, List.setIfInBounds_toArray, List.set_cons_zero, List.set_cons_succ]
      refine' wpAnyH_take (i := 3) (oi := _) (v := _) ?hi3r18 (by as_aux_lemma => kernel_rfl) (by as_aux_lemma => kernel_rfl) (by as_aux_lemma => kernel_rfl) ?hq3r18 ?hy3r18 (by assumption) ?re3r18
      case hi3r18 => simp only [List.getElem?_toArray, List.getElem?_cons_succ, List.getElem?_cons_zero]; rfl
      case hq3r18 => exact fun _ _ _ h => h
      case hy3r18 =>
        refine Or.inl ⟨by rfl, ?_⟩
        intro w hSw; (try dsimp only at hSw); go_simp; try with_reducible rfl
      try simp only [Act.put, List.setIfInBounds_toArray, List.set_cons_zero, List.set_cons_succ]
      refine' wpAnyH_take (i := 4) (oi := _) (v := _) ?hi4r18 (by as_aux_lemma => kernel_rfl) (by as_aux_lemma => kernel_rfl) (by as_aux_lemma => kernel_rfl) ?hq4r18 ?hy4r18 (by assumption) ?re4r18
      case hi4r18 => simp only [List.getElem?_toArray, List.getElem?_cons_succ, List.getElem?_cons_zero]; rfl
      case hq4r18 => exact fun _ _ _ h => h
      case hy4r18 =>
        refine Or.inl ⟨by rfl, ?_⟩
        intro w hSw; (try dsimp only at hSw); go_simp; try with_reducible rfl
      try simp only [Act.put, List.setIfInBounds_toArray, List.set_cons_zero, List.set_cons_succ]
      refine wpAnyH_ready (rs := [5]) (by as_aux_lemma => kernel_rfl) (by simp) ?_
      refine' AllReadyH.cons (o := _) ?hi5r18 (fun K hK => ?st5r18) AllReadyH.nil
      case hi5r18 => simp only [List.getElem?_toArray, List.getElem?_cons_succ, List.getElem?_cons_zero]; rfl
      go_simp
      go_at_call 7; refine (HGet.out _ (E0.out.below (HB.out.trans (hHeld.1.mono HB.out.size)))).mono ?_; rintro e w5 ⟨rfl, c5⟩; have k8 := HSS.out _ (hHeld.1.trans (c5.mono hHeld.1.size)); clear c5
      try go_wp2_with fail
      refine hK.out _ _ ?_ (fun hHeld => ?_)
      · exact k8
      clear hK K
      try simp only [Act.put, List.setIfInBounds_toArray, List.set_cons_zero, List.set_cons_succ]
      refine' wpAnyH_take (i := 6) (oi := _) (v := _) ?hi6r18 (by as_aux_lemma => kernel_rfl) (by as_aux_lemma => kernel_rfl) (by as_aux_lemma => kernel_rfl) ?hq6r18 ?hy6r18 (by assumption) ?re6r18
      case hi6r18 => simp only [List.getElem?_toArray, List.getElem?_cons_succ, List.getElem?_cons_zero]; rfl
      case hq6r18 => exact fun _ _ _ h => h
      case hy6r18 =>
        refine Or.inl ⟨by rfl, ?_⟩
        intro w hSw; (try dsimp only at hSw); go_simp; try with_reducible rfl
      try simp only [Act.put, List.setIfInBounds_toArray, List.set_cons_zero, List.set_cons_succ]
      refine' wpAnyH_take (i := 7) (oi := _) (v := _) ?hi7r18 (by as_aux_lemma => kernel_rfl) (by as_aux_lemma => kernel_rfl) (by as_aux_lemma => kernel_rfl) ?hq7r18 ?hy7r18 (by assumption) ?re7r18
      case hi7r18 => simp only [List.getElem?_toArray, List.getElem?_cons_succ, List.getElem?_cons_zero]; rfl
      case hq7r18 => exact fun _ _ _ h => h
      case hy7r18 =>
        refine Or.inl ⟨by rfl, ?_⟩
        intro w hSw; (try dsimp only at hSw); go_simp; try with_reducible rfl
      try simp only [Act.put, List.setIfInBounds_toArray, List.set_cons_zero, List.set_cons_succ]
      refine' wpAnyH_take (i := 8) (oi := _) (v := _) ?hi8r18 (by as_aux_lemma => kernel_rfl) (by as_aux_lemma => kernel_rfl) (by as_aux_lemma => kernel_rfl) ?hq8r18 ?hy8r18 (by assumption) ?re8r18
      case hi8r18 => simp only [List.getElem?_toArray, List.getElem?_cons_succ, List.getElem?_cons_zero]; rfl
      case hq8r18 => exact fun _ _ _ h => h
      case hy8r18 =>
        refine Or.inl ⟨by rfl, ?_⟩
        intro w hSw; (try dsimp only at hSw); go_simp; try with_reducible rfl
      try simp only [Act.put, List.setIfInBounds_toArray, List.set_cons_zero, List.set_cons_succ]
      refine' wpAnyH_take (i := 9) (oi := _) (v := _) ?hi9r18 (by as_aux_lemma => kernel_rfl) (by as_aux_lemma => kernel_rfl) (by as_aux_lemma => kernel_rfl) ?hq9r18 ?hy9r18 (by assumption) ?re9r18
      case hi9r18 => simp only [List.getElem?_toArray, List.getElem?_cons_succ, List.getElem?_cons_zero]; rfl
      case hq9r18 => exact fun _ _ _ h => h
      case hy9r18 =>
        refine Or.inl ⟨by rfl, ?_⟩
        intro w hSw; (try dsimp only at hSw); go_simp; try with_reducible rfl
      try simp only [Act.put, List.setIfInBounds_toArray, List.set_cons_zero, List.set_cons_succ]
      refine' wpAnyH_take (i := 10) (oi := _) (v := _) ?hi10r18 (by as_aux_lemma => kernel_rfl) (by as_aux_lemma => kernel_rfl) (by as_aux_lemma => kernel_rfl) ?hq10r18 ?hy10r18 (by assumption) ?re10r18
      case hi10r18 => simp only [List.getElem?_toArray, List.getElem?_cons_succ, List.getElem?_cons_zero]; rfl
      case hq10r18 => exact fun _ _ _ h => h
      case hy10r18 =>
        refine Or.inl ⟨by rfl, ?_⟩
        intro w hSw; (try dsimp only at hSw); go_simp; try with_reducible rfl
      try simp only [Act.put, List.setIfInBounds_toArray, List.set_cons_zero, List.set_cons_succ]
      refine wpAnyH_done (by as_aux_lemma => kernel_rfl) ?_ _
      clear k8
      have B5 := Lib.hid (HB.out.trans (hHeld.1.mono HB.out.size))
      have HS5 := Lib.hid (HS.out.low hHeld.1)
      have HX5 := Lib.hid (HX.out.low hHeld.1)
      have HR5 := Lib.hid (show ∀ j : Nat, j < 8 → w5.cell? ⟨A, j, none⟩ = some (.string (Lx.keyB j)) from fun j hj => (hHeld.1.cell (p := ⟨A, j, none⟩) HA.out).trans (HR.out j hj))
      have HA5 := Lib.hid (Nat.lt_of_lt_of_le HA.out hHeld.1.size)
      clear HS HX HR HA HB hHeld HSS
      have HSS := Lib.hid (show ∀ wx, Below w5.heap.size w5 wx → Below w5.heap.size w5 wx ∧ wx.cell? ⟨g8, 0, none⟩ = some (.int .i64 now.cap) ∧ wx.cell? ⟨g8, 1, none⟩ = some (.int .i64 now.pri) ∧ wx.cell? ⟨g8, 2, none⟩ = some (.int .i64 now.spl) ∧ wx.cell? ⟨g8, 3, none⟩ = some (.int .i64 now.dl) ∧ wx.cell? ⟨g8, 4, none⟩ = some (.int .i64 now.mis) ∧ wx.cell? ⟨g8, 5, none⟩ = some (.int .i64 now.keep) ∧ wx.cell? ⟨g8, 6, none⟩ = some (.int .i64 now.lt) ∧ wx.cell? ⟨g8, 7, none⟩ = some (.int .i64 now.lu) ∧ wx.cell? ⟨g8, 8, none⟩ = some (.int .i64 now.bf) ∧ wx.cell? ⟨g8, 9, none⟩ = some (.int .i64 now.bo) ∧ wx.cell? ⟨g8, 10, none⟩ = some (.int .i64 now.bp) ∧ wx.cell? ⟨g8, 11, none⟩ = some (.int .i64 now.rm) ∧ wx.cell? ⟨g8, 12, none⟩ = some (.int .i64 now.rb) ∧ wx.cell? ⟨g8, 13, none⟩ = some (.int .i64 now.rc) ∧ wx.cell? ⟨g8, 14, none⟩ = some (.int .i64 now.rj) ∧ wx.cell? ⟨A, n, none⟩ = some (.string (Lx.keyB n)) from fun wx b => ⟨b, (b.cell (p := ⟨g8, 0, none⟩) HX5.out.size).trans (HX5.out.cell 0 _ rfl), (b.cell (p := ⟨g8, 1, none⟩) HX5.out.size).trans (HX5.out.cell 1 _ rfl), (b.cell (p := ⟨g8, 2, none⟩) HX5.out.size).trans (HX5.out.cell 2 _ rfl), (b.cell (p := ⟨g8, 3, none⟩) HX5.out.size).trans (HX5.out.cell 3 _ rfl), (b.cell (p := ⟨g8, 4, none⟩) HX5.out.size).trans (HX5.out.cell 4 _ rfl), (b.cell (p := ⟨g8, 5, none⟩) HX5.out.size).trans (HX5.out.cell 5 _ rfl), (b.cell (p := ⟨g8, 6, none⟩) HX5.out.size).trans (HX5.out.cell 6 _ rfl), (b.cell (p := ⟨g8, 7, none⟩) HX5.out.size).trans (HX5.out.cell 7 _ rfl), (b.cell (p := ⟨g8, 8, none⟩) HX5.out.size).trans (HX5.out.cell 8 _ rfl), (b.cell (p := ⟨g8, 9, none⟩) HX5.out.size).trans (HX5.out.cell 9 _ rfl), (b.cell (p := ⟨g8, 10, none⟩) HX5.out.size).trans (HX5.out.cell 10 _ rfl), (b.cell (p := ⟨g8, 11, none⟩) HX5.out.size).trans (HX5.out.cell 11 _ rfl), (b.cell (p := ⟨g8, 12, none⟩) HX5.out.size).trans (HX5.out.cell 12 _ rfl), (b.cell (p := ⟨g8, 13, none⟩) HX5.out.size).trans (HX5.out.cell 13 _ rfl), (b.cell (p := ⟨g8, 14, none⟩) HX5.out.size).trans (HX5.out.cell 14 _ rfl), (b.cell (p := ⟨A, n, none⟩) HA5.out).trans (HR5.out n hn8)⟩)
      have hS0 := HSS.out w5.drew (Below.refl _ w5).drew
      go_wp2_with fail
      have hge5 := HX5.out.size
      have hgls := hgl
      go_cut [14, 15] (fun s14 s15 wx => s15 = .int .i64 0 ∧ ∃ g, s14 = .pointer (some ⟨g, 0, none⟩) ∧ w5.heap.size ≤ g ∧ Lx.PSt g wx wx nx ∧ Below w5.heap.size w5 wx)
      case first =>
        refine wp_region_held_drew (S := (fun wx => Below w5.heap.size w5 wx ∧ wx.cell? ⟨g8, 0, none⟩ = some (.int .i64 now.cap) ∧ wx.cell? ⟨g8, 1, none⟩ = some (.int .i64 now.pri) ∧ wx.cell? ⟨g8, 2, none⟩ = some (.int .i64 now.spl) ∧ wx.cell? ⟨g8, 3, none⟩ = some (.int .i64 now.dl) ∧ wx.cell? ⟨g8, 4, none⟩ = some (.int .i64 now.mis) ∧ wx.cell? ⟨g8, 5, none⟩ = some (.int .i64 now.keep) ∧ wx.cell? ⟨g8, 6, none⟩ = some (.int .i64 now.lt) ∧ wx.cell? ⟨g8, 7, none⟩ = some (.int .i64 now.lu) ∧ wx.cell? ⟨g8, 8, none⟩ = some (.int .i64 now.bf) ∧ wx.cell? ⟨g8, 9, none⟩ = some (.int .i64 now.bo) ∧ wx.cell? ⟨g8, 10, none⟩ = some (.int .i64 now.bp) ∧ wx.cell? ⟨g8, 11, none⟩ = some (.int .i64 now.rm) ∧ wx.cell? ⟨g8, 12, none⟩ = some (.int .i64 now.rb) ∧ wx.cell? ⟨g8, 13, none⟩ = some (.int .i64 now.rc) ∧ wx.cell? ⟨g8, 14, none⟩ = some (.int .i64 now.rj) ∧ wx.cell? ⟨A, n, none⟩ = some (.string (Lx.keyB n)))) (by as_aux_lemma => kernel_rfl) ?_ (fun hHeld => ?_)
        · exact hS0
        refine' wpAnyH_take (i := 0) (oi := _) (v := _) ?hi0q8 (by as_aux_lemma => kernel_rfl) (by as_aux_lemma => kernel_rfl) (by as_aux_lemma => kernel_rfl) ?hq0q8 ?hy0q8 (by assumption) ?re0q8
        case hi0q8 => simp only [List.getElem?_toArray, List.getElem?_cons_zero]; rfl
        case hq0q8 => exact fun _ _ _ h => h
        case hy0q8 =>
          refine Or.inl ⟨by rfl, ?_⟩
          intro w hSw; (try dsimp only at hSw); go_simp; try with_reducible rfl
        try simp only [Act.put, List.setIfInBounds_toArray, List.set_cons_zero, List.set_cons_succ]
        refine' wpAnyH_take (i := 1) (oi := _) (v := _) ?hi1q8 (by as_aux_lemma => kernel_rfl) (by as_aux_lemma => kernel_rfl) (by as_aux_lemma => kernel_rfl) ?hq1q8 ?hy1q8 (by assumption) ?re1q8
        case hi1q8 => simp only [List.getElem?_toArray, List.getElem?_cons_succ, List.getElem?_cons_zero]; rfl
        case hq1q8 => exact fun _ _ _ h => h
        case hy1q8 =>
          refine Or.inl ⟨by rfl, ?_⟩
          intro w hSw; (try dsimp only at hSw); go_simp; try with_reducible rfl
        try simp only [Act.put, List.setIfInBounds_toArray, List.set_cons_zero, List.set_cons_succ]
        refine' wpAnyH_take (i := 2) (oi := _) (v := _) ?hi2q8 (by as_aux_lemma => kernel_rfl) (by as_aux_lemma => kernel_rfl) (by as_aux_lemma => kernel_rfl) ?hq2q8 ?hy2q8 (by assumption) ?re2q8
        case hi2q8 => simp only [List.getElem?_toArray, List.getElem?_cons_succ, List.getElem?_cons_zero]; rfl
        case hq2q8 => exact fun _ _ _ h => h
        case hy2q8 =>
          refine Or.inl ⟨by rfl, ?_⟩
          intro w hSw; (try dsimp only at hSw); go_simp; try with_reducible rfl
        try simp only [Act.put, List.setIfInBounds_toArray, List.set_cons_zero, List.set_cons_succ]
        refine' wpAnyH_take (i := 3) (oi := _) (v := _) ?hi3q8 (by as_aux_lemma => kernel_rfl) (by as_aux_lemma => kernel_rfl) (by as_aux_lemma => kernel_rfl) ?hq3q8 ?hy3q8 (by assumption) ?re3q8
        case hi3q8 => simp only [List.getElem?_toArray, List.getElem?_cons_succ, List.getElem?_cons_zero]; rfl
        case hq3q8 => exact fun _ _ _ h => h
        case hy3q8 =>
          refine Or.inl ⟨by rfl, ?_⟩
          intro w hSw; (try dsimp only at hSw); go_simp; try with_reducible rfl
        try simp only [Act.put, List.setIfInBounds_toArray, List.set_cons_zero, List.set_cons_succ]
        refine' wpAnyH_take (i := 4) (oi := _) (v := _) ?hi4q8 (by as_aux_lemma => kernel_rfl) (by as_aux_lemma => kernel_rfl) (by as_aux_lemma => kernel_rfl) ?hq4q8 ?hy4q8 (by assumption) ?re4q8
        case hi4q8 => simp only [List.getElem?_toArray, List.getElem?_cons_succ, List.getElem?_cons_zero]; rfl
        case hq4q8 => exact fun _ _ _ h => h
        case hy4q8 =>
          refine Or.inl ⟨by rfl, ?_⟩
          intro w hSw; (try dsimp only at hSw); go_simp; try with_reducible rfl
        try simp only [Act.put, List.setIfInBounds_toArray, List.set_cons_zero, List.set_cons_succ]
        refine' wpAnyH_take (i := 5) (oi := _) (v := _) ?hi5q8 (by as_aux_lemma => kernel_rfl) (by as_aux_lemma => kernel_rfl) (by as_aux_lemma => kernel_rfl) ?hq5q8 ?hy5q8 (by assumption) ?re5q8
        case hi5q8 => simp only [List.getElem?_toArray, List.getElem?_cons_succ, List.getElem?_cons_zero]; rfl
        case hq5q8 => exact fun _ _ _ h => h
        case hy5q8 =>
          refine Or.inl ⟨by rfl, ?_⟩
          intro w hSw; (try dsimp only at hSw); go_simp; try with_reducible rfl
        try simp only [Act.put, List.setIfInBounds_toArray, List.set_cons_zero, List.set_cons_succ]
        refine wpAnyH_ready (rs := [6, 10]) (by as_aux_lemma => kernel_rfl) (by simp) ?_
        refine' AllReadyH.cons (o := _) ?hi6q8 (fun K hK => ?st6q8) (AllReadyH.cons (o := _) ?hi10q8 (fun K hK => ?st10q8) AllReadyH.nil)
        case hi6q8 => simp only [List.getElem?_toArray, List.getElem?_cons_succ, List.getElem?_cons_zero]; rfl
        case hi10q8 => simp only [List.getElem?_toArray, List.getElem?_cons_succ, List.getElem?_cons_zero]; rfl
        case st6q8 =>
          go_simp
          go_at_call 8; refine (HSet.out _ (E0.out.below (B5.out.trans (hHeld.1.mono B5.out.size)))).mono ?_; rintro e w6 ⟨rfl, c6⟩; have d6 := Lib.hid (hHeld.1.trans (c6.mono hHeld.1.size)); have k8 := HSS.out _ d6.out; clear c6
          try go_wp2_with fail
          refine hK.out _ _ ?_ (fun hHeld => ?_)
          · exact k8
          clear hK K
          try simp only [Act.put, List.setIfInBounds_toArray, List.set_cons_zero, List.set_cons_succ]
          refine' wpAnyH_take (i := 7) (oi := _) (v := _) ?hi7q9 (by as_aux_lemma => kernel_rfl) (by as_aux_lemma => kernel_rfl) (by as_aux_lemma => kernel_rfl) ?hq7q9 ?hy7q9 (by assumption) ?re7q9
          case hi7q9 => simp only [List.getElem?_toArray, List.getElem?_cons_succ, List.getElem?_cons_zero]; rfl
          case hq7q9 => exact fun _ _ _ h => h
          case hy7q9 =>
            refine Or.inl ⟨by rfl, ?_⟩
            intro w hSw; (try dsimp only at hSw); go_simp; try with_reducible rfl
          try simp only [Act.put, List.setIfInBounds_toArray, List.set_cons_zero, List.set_cons_succ]
          refine' wpAnyH_take (i := 8) (oi := _) (v := _) ?hi8q9 (by as_aux_lemma => kernel_rfl) (by as_aux_lemma => kernel_rfl) (by as_aux_lemma => kernel_rfl) ?hq8q9 ?hy8q9 (by assumption) ?re8q9
          case hi8q9 => simp only [List.getElem?_toArray, List.getElem?_cons_succ, List.getElem?_cons_zero]; rfl
          case hq8q9 => exact fun _ _ _ h => h
          case hy8q9 =>
            refine Or.inl ⟨by rfl, ?_⟩
            intro w hSw; (try dsimp only at hSw); go_simp; try with_reducible rfl
          try simp only [Act.put, List.setIfInBounds_toArray, List.set_cons_zero, List.set_cons_succ]
          refine' wpAnyH_take (i := 9) (oi := _) (v := _) ?hi9q9 (by as_aux_lemma => kernel_rfl) (by as_aux_lemma => kernel_rfl) (by as_aux_lemma => kernel_rfl) ?hq9q9 ?hy9q9 (by assumption) ?re9q9
          case hi9q9 => simp only [List.getElem?_toArray, List.getElem?_cons_succ, List.getElem?_cons_zero]; rfl
          case hq9q9 => exact fun _ _ _ h => h
          case hy9q9 =>
            refine Or.inl ⟨by rfl, ?_⟩
            intro w hSw; (try dsimp only at hSw); go_simp; try with_reducible rfl
          try simp only [Act.put, List.setIfInBounds_toArray, List.set_cons_zero, List.set_cons_succ]
          refine wpAnyH_ready (rs := [10]) (by as_aux_lemma => kernel_rfl) (by simp) ?_
          refine' AllReadyH.cons (o := _) ?hi10q9 (fun K hK => ?st10q9) AllReadyH.nil
          case hi10q9 => simp only [List.getElem?_toArray, List.getElem?_cons_succ, List.getElem?_cons_zero]; rfl
          case st10q9 =>
            go_simp
            have k8 := HSS.out (w6.alloc (.cells #[.int .i64 0, .int .i64 0, .int .i64 0, .int .i64 0, .int .i64 0, .int .i64 0, .int .i64 0, .int .i64 0, .int .i64 0, .int .i64 0, .int .i64 0, .int .i64 0, .int .i64 0, .int .i64 0, .int .i64 0] 29)) (d6.out.alloc d6.out.size _)
            try go_wp2_with fail
            refine hK.out _ _ ?_ (fun hHeld => ?_)
            · exact k8
            clear hK K
            try simp only [Act.put, List.setIfInBounds_toArray, List.set_cons_zero, List.set_cons_succ]
            refine wpAnyH_ready (rs := [11]) (by as_aux_lemma => kernel_rfl) (by simp) ?_
            refine' AllReadyH.cons (o := _) ?hi11q10 (fun K hK => ?st11q10) AllReadyH.nil
            case hi11q10 => simp only [List.getElem?_toArray, List.getElem?_cons_succ, List.getElem?_cons_zero]; rfl
            case st11q10 =>
              go_simp
              have k8 := HSS.out (w6.alloc (.cells #[.int .i64 nx.cap, .int .i64 nx.pri, .int .i64 nx.spl, .int .i64 nx.dl, .int .i64 nx.mis, .int .i64 nx.keep, .int .i64 nx.lt, .int .i64 nx.lu, .int .i64 nx.bf, .int .i64 nx.bo, .int .i64 nx.bp, .int .i64 nx.rm, .int .i64 nx.rb, .int .i64 nx.rc, .int .i64 nx.rj] 29)) (d6.out.alloc d6.out.size _); have HP := Lib.hid (Lx.PSt.new w6 (Nat.le_trans hgls (B5.out.trans (d6.out.mono B5.out.size)).size) nx); have hge14 := d6.out.size
              try go_wp2_with fail
              refine hK.out _ _ ?_ (fun hHeld => ?_)
              · exact k8
              clear hK K
              try simp only [Act.put, List.setIfInBounds_toArray, List.set_cons_zero, List.set_cons_succ]
              refine' wpAnyH_take (i := 12) (oi := _) (v := _) ?hi12q11 (by as_aux_lemma => kernel_rfl) (by as_aux_lemma => kernel_rfl) (by as_aux_lemma => kernel_rfl) ?hq12q11 ?hy12q11 (by assumption) ?re12q11
              case hi12q11 => simp only [List.getElem?_toArray, List.getElem?_cons_succ, List.getElem?_cons_zero]; rfl
              case hq12q11 => exact fun _ _ _ h => h
              case hy12q11 =>
                refine Or.inl ⟨by rfl, ?_⟩
                intro w hSw; (try dsimp only at hSw); go_simp; try with_reducible rfl
              try simp only [Act.put, List.setIfInBounds_toArray, List.set_cons_zero, List.set_cons_succ]
              refine wpAnyH_done (by as_aux_lemma => kernel_rfl) ?_ _
              go_wp2_with fail
              go_meet
              exact ⟨rfl, _, rfl, hge14, ⟨HP.out.size, HP.out.gl, World.grownBy.refl _ _, HP.out.cell, HP.out.fz⟩, hHeld.1⟩
        case st10q8 =>
          go_simp
          have d5 := (Below.refl w5.heap.size w5).drew.alloc (Nat.le_refl _) (.cells #[.int .i64 0, .int .i64 0, .int .i64 0, .int .i64 0, .int .i64 0, .int .i64 0, .int .i64 0, .int .i64 0, .int .i64 0, .int .i64 0, .int .i64 0, .int .i64 0, .int .i64 0, .int .i64 0, .int .i64 0] 29); have z5 := Lib.hid (show Lx.PSt w5.heap.size (w5.drew.alloc (.cells #[.int .i64 0, .int .i64 0, .int .i64 0, .int .i64 0, .int .i64 0, .int .i64 0, .int .i64 0, .int .i64 0, .int .i64 0, .int .i64 0, .int .i64 0, .int .i64 0, .int .i64 0, .int .i64 0, .int .i64 0] 29)) (w5.drew.alloc (.cells #[.int .i64 0, .int .i64 0, .int .i64 0, .int .i64 0, .int .i64 0, .int .i64 0, .int .i64 0, .int .i64 0, .int .i64 0, .int .i64 0, .int .i64 0, .int .i64 0, .int .i64 0, .int .i64 0, .int .i64 0] 29)) Lx.polZ from Lx.PSt.new w5.drew (Nat.le_trans hgls B5.out.size) Lx.polZ); have k8 := HSS.out (w5.drew.alloc (.cells #[.int .i64 0, .int .i64 0, .int .i64 0, .int .i64 0, .int .i64 0, .int .i64 0, .int .i64 0, .int .i64 0, .int .i64 0, .int .i64 0, .int .i64 0, .int .i64 0, .int .i64 0, .int .i64 0, .int .i64 0] 29)) d5
          try go_wp2_with fail
          refine hK.out _ _ ?_ (fun hHeld => ?_)
          · exact k8
          clear hK K
          try simp only [Act.put, List.setIfInBounds_toArray, List.set_cons_zero, List.set_cons_succ]
          refine wpAnyH_ready (rs := [6]) (by as_aux_lemma => kernel_rfl) (by simp) ?_
          refine' AllReadyH.cons (o := _) ?hi6q12 (fun K hK => ?st6q12) AllReadyH.nil
          case hi6q12 => simp only [List.getElem?_toArray, List.getElem?_cons_succ, List.getElem?_cons_zero]; rfl
          case st6q12 =>
            go_simp
            go_at_call 8; refine (HSet.out _ (E0.out.below (B5.out.trans (hHeld.1.mono B5.out.size)))).mono ?_; rintro e w6 ⟨rfl, c6⟩; have d6 := Lib.hid (hHeld.1.trans (c6.mono hHeld.1.size)); have k8 := HSS.out _ d6.out; have z6 := Lib.hid (z5.out.low c6); clear c6; have z100 := z6.out.cell 0 _ rfl; have y0 := z6.out.fz 0 (by omega); have z101 := z6.out.cell 1 _ rfl; have y1 := z6.out.fz 1 (by omega); have z102 := z6.out.cell 2 _ rfl; have y2 := z6.out.fz 2 (by omega); have z103 := z6.out.cell 3 _ rfl; have y3 := z6.out.fz 3 (by omega); have z104 := z6.out.cell 4 _ rfl; have y4 := z6.out.fz 4 (by omega); have z105 := z6.out.cell 5 _ rfl; have y5 := z6.out.fz 5 (by omega); have z106 := z6.out.cell 6 _ rfl; have y6 := z6.out.fz 6 (by omega); have z107 := z6.out.cell 7 _ rfl; have y7 := z6.out.fz 7 (by omega); have z108 := z6.out.cell 8 _ rfl; have y8 := z6.out.fz 8 (by omega); have z109 := z6.out.cell 9 _ rfl; have y9 := z6.out.fz 9 (by omega); have z110 := z6.out.cell 10 _ rfl; have y10 := z6.out.fz 10 (by omega); have z111 := z6.out.cell 11 _ rfl; have y11 := z6.out.fz 11 (by omega); have z112 := z6.out.cell 12 _ rfl; have y12 := z6.out.fz 12 (by omega); have z113 := z6.out.cell 13 _ rfl; have y13 := z6.out.fz 13 (by omega); have z114 := z6.out.cell 14 _ rfl; have y14 := z6.out.fz 14 (by omega)
            try go_wp2_with fail
            refine hK.out _ _ ?_ (fun hHeld => ?_)
            · exact k8
            clear hK K
            try simp only [Act.put, List.setIfInBounds_toArray, List.set_cons_zero, List.set_cons_succ]
            refine' wpAnyH_take (i := 7) (oi := _) (v := _) ?hi7q13 (by as_aux_lemma => kernel_rfl) (by as_aux_lemma => kernel_rfl) (by as_aux_lemma => kernel_rfl) ?hq7q13 ?hy7q13 (by assumption) ?re7q13
            case hi7q13 => simp only [List.getElem?_toArray, List.getElem?_cons_succ, List.getElem?_cons_zero]; rfl
            case hq7q13 => exact fun _ _ _ h => h
            case hy7q13 =>
              refine Or.inl ⟨by rfl, ?_⟩
              intro w hSw; (try dsimp only at hSw); go_simp; try with_reducible rfl
            try simp only [Act.put, List.setIfInBounds_toArray, List.set_cons_zero, List.set_cons_succ]
            refine' wpAnyH_take (i := 8) (oi := _) (v := _) ?hi8q13 (by as_aux_lemma => kernel_rfl) (by as_aux_lemma => kernel_rfl) (by as_aux_lemma => kernel_rfl) ?hq8q13 ?hy8q13 (by assumption) ?re8q13
            case hi8q13 => simp only [List.getElem?_toArray, List.getElem?_cons_succ, List.getElem?_cons_zero]; rfl
            case hq8q13 => exact fun _ _ _ h => h
            case hy8q13 =>
              refine Or.inl ⟨by rfl, ?_⟩
              intro w hSw; (try dsimp only at hSw); go_simp; try with_reducible rfl
            try simp only [Act.put, List.setIfInBounds_toArray, List.set_cons_zero, List.set_cons_succ]
            refine' wpAnyH_take (i := 9) (oi := _) (v := _) ?hi9q13 (by as_aux_lemma => kernel_rfl) (by as_aux_lemma => kernel_rfl) (by as_aux_lemma => kernel_rfl) ?hq9q13 ?hy9q13 (by assumption) ?re9q13
            case hi9q13 => simp only [List.getElem?_toArray, List.getElem?_cons_succ, List.getElem?_cons_zero]; rfl
            case hq9q13 => exact fun _ _ _ h => h
            case hy9q13 =>
              refine Or.inl ⟨by rfl, ?_⟩
              intro w hSw; (try dsimp only at hSw); go_simp; try with_reducible rfl
            try simp only [Act.put, List.setIfInBounds_toArray, List.set_cons_zero, List.set_cons_succ]
            refine wpAnyH_ready (rs := [11]) (by as_aux_lemma => kernel_rfl) (by simp) ?_
            refine' AllReadyH.cons (o := _) ?hi11q13 (fun K hK => ?st11q13) AllReadyH.nil
            case hi11q13 => simp only [List.getElem?_toArray, List.getElem?_cons_succ, List.getElem?_cons_zero]; rfl
            case st11q13 =>
              go_simp
              have HP := Lib.hid ((z6.out.put nx)); have hge14 := Nat.le_refl w5.heap.size; have k8 := HSS.out (Lx.putPol w6 w5.heap.size nx) (d6.out.trans HP.out.toB)
              try go_wp2_with fail
              refine hK.out _ _ ?_ (fun hHeld => ?_)
              · exact k8
              clear hK K
              try simp only [Act.put, List.setIfInBounds_toArray, List.set_cons_zero, List.set_cons_succ]
              refine' wpAnyH_take (i := 12) (oi := _) (v := _) ?hi12q14 (by as_aux_lemma => kernel_rfl) (by as_aux_lemma => kernel_rfl) (by as_aux_lemma => kernel_rfl) ?hq12q14 ?hy12q14 (by assumption) ?re12q14
              case hi12q14 => simp only [List.getElem?_toArray, List.getElem?_cons_succ, List.getElem?_cons_zero]; rfl
              case hq12q14 => exact fun _ _ _ h => h
              case hy12q14 =>
                refine Or.inl ⟨by rfl, ?_⟩
                intro w hSw; (try dsimp only at hSw); go_simp; try with_reducible rfl
              try simp only [Act.put, List.setIfInBounds_toArray, List.set_cons_zero, List.set_cons_succ]
              refine wpAnyH_done (by as_aux_lemma => kernel_rfl) ?_ _
              go_wp2_with fail
              go_meet
              exact ⟨rfl, _, rfl, hge14, ⟨HP.out.size, HP.out.gl, World.grownBy.refl _ _, HP.out.cell, HP.out.fz⟩, hHeld.1⟩
      case rest =>
        obtain ⟨rfl, g14, rfl, hge, hN7, c57⟩ := hcut
        obtain ⟨W7, rfl⟩ : ∃ W, W = wc := ⟨_, rfl⟩
        have B7 := Lib.hid (B5.out.trans (c57.mono B5.out.size))
        have HS7 := Lib.hid (HS5.out.low c57)
        have HX7 := Lib.hid (HX5.out.low c57)
        have HN7 := Lib.hid hN7
        have HR7 := Lib.hid (show ∀ j : Nat, j < 8 → W7.cell? ⟨A, j, none⟩ = some (.string (Lx.keyB j)) from fun j hj => (c57.cell (p := ⟨A, j, none⟩) HA5.out).trans (HR5.out j hj))
        have HA7 := Lib.hid (Nat.lt_of_lt_of_le HA5.out c57.size)
        have Hg := Lib.hid (show g14 ≠ A ∧ g14 ≠ g8 ∧ g14 ≠ g3 from by have h1 := HA5.out; have h2 := HX5.out.size; have h3 := HS5.out.size; omega)
        clear c57 hge hN7 HS5 HX5 HR5 HA5 B5 HSS hS0
        go_wp2_with fail
        go_loop [16] (fun i => i = .int .i64 0) (fun i => 1 - (intOf i).toNat)
        case atStart => rfl
        case round =>
          subst hrel
          have HS8 := Lib.hid (HS7.out.low (Below.refl W7.heap.size W7))
          have HX8 := Lib.hid (HX7.out.low (Below.refl W7.heap.size W7))
          have HN8 := Lib.hid (HN7.out.low (Below.refl W7.heap.size W7))
          have B8 := Lib.hid (B7.out.trans (((Below.refl W7.heap.size W7)).mono B7.out.size))
          have HR8 := Lib.hid (show ∀ j : Nat, j < 8 → W7.cell? ⟨A, j, none⟩ = some (.string (Lx.keyB j)) from fun j hj => (Below.cell (Below.refl W7.heap.size W7) (p := ⟨A, j, none⟩) HA7.out).trans (HR7.out j hj))
          have HA8 := Lib.hid (Nat.lt_of_lt_of_le HA7.out (Below.size (Below.refl W7.heap.size W7)))
          refine polOpened HN8.out (fun u0 u1 u2 u3 u4 u5 u6 u7 u8 u9 u10 u11 u12 u13 u14 => ?_)
          refine polOpened HX8.out (fun v0 v1 v2 v3 v4 v5 v6 v7 v8 v9 v10 v11 v12 v13 v14 => ?_)
          refine polFree HX8.out (fun y0 y1 y2 y3 y4 y5 y6 y7 y8 y9 y10 y11 y12 y13 y14 => ?_)
          have HX9 := Lib.hid (HX8.out.put nx)
          have HK1 := Lib.hid (show nx = Lx.foldK P (Lx.turn c.toNat (k + 1)) N0 from by rw [Lx.turn_succ, Lx.fold_snoc, ← Hnow.out, ← Hn.out, Hnx.out])
          skip
          go_wp2_with fail
          go_roundw
          case rel => exact ⟨k + 1, nx, by omega, by go_num, HS8.out.beside HX9.out.gb (fun c => Hne.out.2.1 (Option.some.inj c)), ⟨HX9.out.size, HX9.out.gl, World.grownBy.refl _ _, HX9.out.cell, HX9.out.fz⟩, HK1.out, fun j hj => HX9.out.gb.cell (HR8.out j hj) (fun c => Hne.out.1 (Option.some.inj c).symm), Nat.lt_of_lt_of_le HA8.out HX9.out.gb.size, B8.out.trans (HX9.out.toB.mono Hne.out.2.2)⟩
          case measure => simp [intOf]; omega
    · as_aux_lemma =>
        obtain rfl : k = 8 := by omega
        have hfin : now = P := by rw [hnow]; exact Lx.turn_all _ _ _
        have HS := Lib.hid S
        have HX := Lib.hid (show Lx.PSt g8 wr wr P from by rw [← hfin]; exact X)
        have HB := Lib.hid hb
        clear S X hR hA hb hnow hfin
        refine polOpened HX.out (fun u0 u1 u2 u3 u4 u5 u6 u7 u8 u9 u10 u11 u12 u13 u14 => ?_)
        refine polOpened HS.out (fun v0 v1 v2 v3 v4 v5 v6 v7 v8 v9 v10 v11 v12 v13 v14 => ?_)
        have heq : (Op.equalIn 10000 29 (.agg #[.int .i64 P.cap, .int .i64 P.pri, .int .i64 P.spl, .int .i64 P.dl, .int .i64 P.mis, .int .i64 P.keep, .int .i64 P.lt, .int .i64 P.lu, .int .i64 P.bf, .int .i64 P.bo, .int .i64 P.bp, .int .i64 P.rm, .int .i64 P.rb, .int .i64 P.rc, .int .i64 P.rj]) (.agg #[.int .i64 P.cap, .int .i64 P.pri, .int .i64 P.spl, .int .i64 P.dl, .int .i64 P.mis, .int .i64 P.keep, .int .i64 P.lt, .int .i64 P.lu, .int .i64 P.bf, .int .i64 P.bo, .int .i64 P.bp, .int .i64 P.rm, .int .i64 P.rb, .int .i64 P.rc, .int .i64 P.rj])).run Tryz.prog wr = .ok true wr := Heq.out wr
        go_wp2_with fail
        refine (HW.out _ (E0.out.below HB.out)).mono ?_
        rintro e w9 ⟨rfl, c9⟩
        go_wp2_with fail
        go_ret
        exact ⟨rfl, HB.out.trans (c9.mono HB.out.size)⟩
  
set_option maxRecDepth 100000 in
set_option maxHeartbeats 25600000 in
theorem walkX (p q : Lx.PolV) (c0 : Int) (hc0 : (Lit.int .u8 c0).wf = true) (w : World) (env : UEnv w) (h : ¬ Lx.polOk p = true) :
    Calls Tryz.prog 3 #[p.val, q.val, .int .u8 c0] w fun e w' => e = .returned (.bool true) ∧ Below w.heap.size w w' := by
  obtain ⟨c, rfl⟩ := Lx.u8_of hc0
  have HW := Lib.hid (fun W (E : UEnv W) => pworks_any W E)
  have E0 := Lib.hid env
  have hgl := env.env.lt
  obtain ⟨g3, hg3⟩ : ∃ g, g = w.heap.size := ⟨_, rfl⟩
  obtain ⟨W0, hW0⟩ : ∃ W0, W0 = w.alloc (.cells p.cells.toArray 29) := ⟨_, rfl⟩
  obtain ⟨W1, hW1⟩ : ∃ W1, W1 = W0.alloc (.cells q.cells.toArray 29) := ⟨_, rfl⟩
  have b0 : Below w.heap.size w W0 := by rw [hW0]; exact (Below.refl _ w).alloc (Nat.le_refl _) _
  have b1 : Below W0.heap.size W0 W1 := by rw [hW1]; exact (Below.refl _ W0).alloc (Nat.le_refl _) _
  have e0 : W0.heap.size = w.heap.size + 1 := by rw [hW0]; simp
  obtain ⟨g4, hg4⟩ : ∃ g, g = w.heap.size + 1 := ⟨_, rfl⟩
  have S0 := Lib.hid (show Lx.PSt g3 W1 W1 p from by
    have : Lx.PSt g3 W0 W0 p := by rw [hg3, hW0]; exact Lx.PSt.new w hgl p
    exact this.low b1)
  have T0 := Lib.hid (show Lx.PSt g4 W1 W1 q from by rw [hg4, ← e0, hW1]; exact Lx.PSt.new W0 (by omega) q)
  have B0 := Lib.hid (b0.trans (b1.mono b0.size))
  clear b0 b1
  have HC := fun W => polCheck_any p W
  have hE : Lx.polE p = 16 := by unfold Lx.polE; rw [if_neg h]
  rw [hE] at HC
  obtain ⟨P, hP⟩ : ∃ P, P = p := ⟨_, rfl⟩
  rw [← hP] at HC S0
  obtain ⟨cap, pri, spl, dl, mis, keep, lt, lu, bf, bo, bp, rm, rb, rc, rj⟩ := p
  obtain ⟨cap2, pri2, spl2, dl2, mis2, keep2, lt2, lu2, bf2, bo2, bp2, rm2, rb2, rc2, rj2⟩ := q
  have HCp := Lib.hid HC
  clear hE h env HC hP T0
  show Calls Tryz.prog 3 #[.agg #[.int .i64 cap, .int .i64 pri, .int .i64 spl, .int .i64 dl, .int .i64 mis, .int .i64 keep, .int .i64 lt, .int .i64 lu, .int .i64 bf, .int .i64 bo, .int .i64 bp, .int .i64 rm, .int .i64 rb, .int .i64 rc, .int .i64 rj], .agg #[.int .i64 cap2, .int .i64 pri2, .int .i64 spl2, .int .i64 dl2, .int .i64 mis2, .int .i64 keep2, .int .i64 lt2, .int .i64 lu2, .int .i64 bf2, .int .i64 bo2, .int .i64 bp2, .int .i64 rm2, .int .i64 rb2, .int .i64 rc2, .int .i64 rj2], .int .u8 c.toNat] w _
  go_enter Tryz.func3, Tryz.ntmps3
  go_upto_region 1 with (fail)
  rw [show (w.alloc (.cells #[.int .i64 cap, .int .i64 pri, .int .i64 spl, .int .i64 dl, .int .i64 mis, .int .i64 keep, .int .i64 lt, .int .i64 lu, .int .i64 bf, .int .i64 bo, .int .i64 bp, .int .i64 rm, .int .i64 rb, .int .i64 rc, .int .i64 rj] 29)) = W0 from hW0.symm]
  rw [show (W0.alloc (.cells #[.int .i64 cap2, .int .i64 pri2, .int .i64 spl2, .int .i64 dl2, .int .i64 mis2, .int .i64 keep2, .int .i64 lt2, .int .i64 lu2, .int .i64 bf2, .int .i64 bo2, .int .i64 bp2, .int .i64 rm2, .int .i64 rb2, .int .i64 rc2, .int .i64 rj2] 29)) = W1 from hW1.symm, ← hg4, ← hg3]
  clear hW0 hW1 hg3 hg4 e0
  go_wp2_with ((with_reducible show wpList _ _ _ _ _ _); refine' Lx.wpList_get _ rfl _ rfl g3 rfl ?_ ?_; any_goals (with_reducible exact S0.out))
  refine (HCp.out _).mono ?_
  rintro e w1 ⟨rfl, c1⟩
  have B1 := Lib.hid (B0.out.trans (c1.mono B0.out.size))
  clear c1 S0 B0
  go_wp2_with fail
  refine (HW.out _ (E0.out.below B1.out)).mono ?_
  rintro e w9 ⟨rfl, c9⟩
  go_wp2_with fail
  go_ret
  exact ⟨rfl, B1.out.trans (c9.mono B1.out.size)⟩

set_option maxRecDepth 100000 in
set_option maxHeartbeats 25600000 in
theorem walk (p q : Lx.PolV) (c0 : Int) (hc0 : (Lit.int .u8 c0).wf = true) (w : World) (env : UEnv w) :
    Calls Tryz.prog 3 #[p.val, q.val, .int .u8 c0] w fun e w' => e = .returned (.bool true) ∧ Below w.heap.size w w' := by
  by_cases h : Lx.polOk p = true
  · by_cases hv : Lx.polOk q = true
    · exact walkV p q c0 hc0 w env h hv
    · exact walkW p q c0 hc0 w env h hv
  · exact walkX p q c0 hc0 w env h

set_option maxRecDepth 100000 in
/-- What the walk gives, for every argument that can be read. -/
theorem contract (H : Type) (enc : TypeId × Value → H) (W : World) (base : Nat) (args : Array Value) (ds gs : List (DataW H)) (before : List MemPlace)
    (hval : ∀ (j : Nat) t v, Tryz.f3.params[j]? = some t → args[j]? = some v → Value.okWide Tryz.prog W .any base t v)
    (hW : DataW.Whole enc Tryz.prog Tryz.f3.params.toList Rows.policySetsAllSpec.vars false W args.toList ds gs before) (hL : laidMetH Tryz.prog Rows.policySetsAllRow.laid W) (hsh : W.ShapedOpen Tryz.prog) :
    Calls Tryz.prog 3 args W fun e W' => ∃ v, e = .returned v ∧ Rows.policySetsAllSpec.post enc Tryz.prog Tryz.f3 false true false false W args v W' := by
  have hW' := hW
  obtain ⟨p, q, hA0, hV, rfl, hfz, hnd⟩ := hW
  have hA : DataW.TrodAll enc Tryz.prog W 0 (fun _ => true) true Tryz.f3.params.toList args.toList ds p := hA0
  rw [Tryz.params3] at hA hval
  obtain ⟨v0, vs0, d0, ds0, p0, q0, hargs, rfl, rfl, h0, r0⟩ := trodAll_cons hA
  obtain ⟨v1, vs1, d1, ds1, p1, q1, rfl, rfl, rfl, h1, r1⟩ := trodAll_cons r0
  obtain ⟨v2, vs2, d2, ds2, p2, q2, rfl, rfl, rfl, h2, r2⟩ := trodAll_cons r1
  obtain ⟨rfl, rfl, rfl⟩ := trodAll_nil r2
  obtain rfl : args = #[v0, v1, v2] := by cases args; simp_all
  obtain ⟨rfl, rfl⟩ := trodVars_none hV
  have k0 := h0
  have lt0 : ∀ x ∈ p0, x.block < W.heap.size := by obtain ⟨m, hm⟩ := k0; exact DataW.trod_lt m _ _ _ hm
  obtain ⟨o0, rfl⟩ := isPol_of (hval 0 29 v0 rfl rfl) h0
  have k1 := h1
  have lt1 : ∀ x ∈ p1, x.block < W.heap.size := by obtain ⟨m, hm⟩ := k1; exact DataW.trod_lt m _ _ _ hm
  obtain ⟨o1, rfl⟩ := isPol_of (hval 1 29 v1 rfl rfl) h1
  obtain ⟨s2, rfl, rfl, rfl, w2⟩ := open_int Tryz.underlying5 (hval 2 5 v2 rfl rfl) h2
  clear hA0
  refine (walk o0 o1 s2 w2 W (env_of hL hsh)).mono fun e W' ⟨he, bel⟩ => ?_
  subst he
  exact ⟨_, rfl, _, _, _, [], _, [], hW', trodAll_mk1 (shut_bool Tryz.underlying4 _), (trodAll_cons_mk (Below.trod laidOut (by kernel_rfl) (of_decide_eq_true (by kernel_rfl)) k0 bel lt0) (trodAll_cons_mk (Below.trod laidOut (by kernel_rfl) (of_decide_eq_true (by kernel_rfl)) k1 bel lt1) (trodAll_cons_mk (shut_int Tryz.underlying5 w2) trodAll_mk0))), rfl, bel.frame _, fun h => by cases h⟩

set_option maxRecDepth 100000 in
theorem reads (os : Os) {H : Type} (enc : TypeId × Value → H) : ∃ places, DataW.whole enc Tryz.prog ((World.laidAll Tryz.prog os Rows.policySetsAllRow.laid).forCall (fun _ _ => 0) ⟨#[], #[.agg #[.int .i64 0, .int .i64 0, .int .i64 0, .int .i64 0, .int .i64 0, .int .i64 0, .int .i64 0, .int .i64 0, .int .i64 0, .int .i64 0, .int .i64 0, .int .i64 0, .int .i64 0, .int .i64 0, .int .i64 0], .agg #[.int .i64 0, .int .i64 0, .int .i64 0, .int .i64 0, .int .i64 0, .int .i64 0, .int .i64 0, .int .i64 0, .int .i64 0, .int .i64 0, .int .i64 0, .int .i64 0, .int .i64 0, .int .i64 0, .int .i64 0], .int .u8 0], []⟩).memory Tryz.f3.params.toList Rows.policySetsAllSpec.vars false (#[.agg #[.int .i64 0, .int .i64 0, .int .i64 0, .int .i64 0, .int .i64 0, .int .i64 0, .int .i64 0, .int .i64 0, .int .i64 0, .int .i64 0, .int .i64 0, .int .i64 0, .int .i64 0, .int .i64 0, .int .i64 0], .agg #[.int .i64 0, .int .i64 0, .int .i64 0, .int .i64 0, .int .i64 0, .int .i64 0, .int .i64 0, .int .i64 0, .int .i64 0, .int .i64 0, .int .i64 0, .int .i64 0, .int .i64 0, .int .i64 0, .int .i64 0], .int .u8 0] : Array Value).toList 8 = some ([.agg [.lit (.int .i64 0), .lit (.int .i64 0), .lit (.int .i64 0), .lit (.int .i64 0), .lit (.int .i64 0), .lit (.int .i64 0), .agg [.lit (.int .i64 0), .lit (.int .i64 0)], .agg [.lit (.int .i64 0), .lit (.int .i64 0), .lit (.int .i64 0)], .agg [.lit (.int .i64 0), .lit (.int .i64 0), .lit (.int .i64 0), .lit (.int .i64 0)]], .agg [.lit (.int .i64 0), .lit (.int .i64 0), .lit (.int .i64 0), .lit (.int .i64 0), .lit (.int .i64 0), .lit (.int .i64 0), .agg [.lit (.int .i64 0), .lit (.int .i64 0)], .agg [.lit (.int .i64 0), .lit (.int .i64 0), .lit (.int .i64 0)], .agg [.lit (.int .i64 0), .lit (.int .i64 0), .lit (.int .i64 0), .lit (.int .i64 0)]], .lit (.int .u8 0)], [], places) :=
  ⟨[], by kernel_rfl⟩

set_option maxRecDepth 100000 in
theorem lifted (os : Os) (started : os.Started) (H : Type) (enc : TypeId × Value → H) (F : Stop.Interp) :
    ReturnsInHanded {} Tryz.checked os 3 .any ((OpenSpec.ofChange Rows.policySetsAllSpec).preRow enc Tryz.prog Tryz.f3 Rows.policySetsAllRow.domain false Rows.policySetsAllRow.laid) (((OpenSpec.ofChange Rows.policySetsAllSpec).at F).post enc Tryz.prog Tryz.f3 false true false false) := by
  obtain ⟨places, hx⟩ := reads os enc
  refine returnsInHanded_of_row (C := Tryz.checked) (s := OpenSpec.ofChange Rows.policySetsAllSpec) own started (by kernel_rfl) Tryz.func3
    (witness_row_atRef (enc := enc) (C := Tryz.checked) false (World.laidAll Tryz.prog os Rows.policySetsAllRow.laid) #[.agg #[.int .i64 0, .int .i64 0, .int .i64 0, .int .i64 0, .int .i64 0, .int .i64 0, .int .i64 0, .int .i64 0, .int .i64 0, .int .i64 0, .int .i64 0, .int .i64 0, .int .i64 0, .int .i64 0, .int .i64 0], .agg #[.int .i64 0, .int .i64 0, .int .i64 0, .int .i64 0, .int .i64 0, .int .i64 0, .int .i64 0, .int .i64 0, .int .i64 0, .int .i64 0, .int .i64 0, .int .i64 0, .int .i64 0, .int .i64 0, .int .i64 0], .int .u8 0] (World.laidAll_os _ _ _) (door_vars os _) (door_rest os _) (by kernel_rfl)
      (OpenSpec.preRow_of_cond 8 hx (by kernel_rfl) (fun k hk => by cases hk) (by kernel_rfl) (door_laid os _))) ?_
  intro W base args ds gs before hval hW _ _ _ hL hsh _
  exact contract H enc W base args ds gs before hval hW hL hsh

theorem said : Rows.PolicySetsAllSaid :=
  OpenClaim.holds_of_cond 3 Tryz.f3 rfl rfl rfl rfl rfl rfl rfl ⟨rfl, rfl, rfl, rfl, rfl⟩ rfl rfl rfl rfl rfl (by kernel_rfl) Tryz.func3 (by kernel_rfl)
    (of_decide_eq_true (by kernel_rfl)) (by unfold Func.isWrapper; first | (rw [if_pos (by decide +kernel)]; kernel_rfl) | (rw [if_neg (by decide +kernel)]; exact ⟨rfl, rfl⟩))
    (fun os started H enc _ F => by rw [OpenClaim.pre_eq_preRow]; exact lifted os started H enc F)

theorem plain (f : FuncId) (fn : Func) (hf : Tryz.pinned.checked.prog.funcNamed "wakeman/wakemanlaw14.PolicySetsAll" = some f) (hfn : Tryz.pinned.checked.prog.funcs[f]? = some fn) :
    Rows.policySetsAllCard.stood.looks = Tryz.pinned.checked.prog.looks [] ∧ ∀ (j : Nat) t, fn.params[j]? = some t → Tryz.pinned.checked.prog.wantsStandIn t = false := by
  obtain rfl : f = 3 := Option.some.inj ((show Tryz.prog.funcNamed "wakeman/wakemanlaw14.PolicySetsAll" = some 3 by kernel_rfl).symm.trans hf) |>.symm
  obtain rfl : fn = Tryz.f3 := (Option.some.inj (Tryz.func3.symm.trans hfn)).symm
  refine ⟨by kernel_rfl, fun j t ht => ?_⟩
  rw [Tryz.params3] at ht
  have hm : t ∈ [29, 5] := by
    have := Array.mem_of_getElem? ht
    simpa using this
  have hall : ([29, 5].all fun u => !Tryz.prog.wantsStandIn u) = true := by kernel_rfl
  exact (show Tryz.prog.wantsStandIn t = false by simpa using List.all_eq_true.1 hall t hm)

/-- The card. -/
theorem card : Rows.PolicySetsAllCardSaid :=
  Claim7.holds_tied_plain_at .later [] _ _ _ _ said (fun _ h => by cases h) (by kernel_rfl) (fun _ h => by cases h) policySetsAll_row_tie rfl ⟨rfl, rfl⟩ (by kernel_rfl) rfl plain (by kernel_rfl)
end Go.Proofs.YtpjocfkolnfjiaaGreatDoor.lawPolicySetsAll
