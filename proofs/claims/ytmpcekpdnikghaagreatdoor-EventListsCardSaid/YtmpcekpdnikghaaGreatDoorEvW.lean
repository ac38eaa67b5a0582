/- The walks of event.until and event.write. -/
import Derived.Test.YtmpcekpdnikghaaGreatDoorEvC
import Derived.Test.YtmpcekpdnikghaaGreatDoorEvB
import Derived.Test.YtmpcekpdnikghaaGreatDoorDigits
import Derived.Test.YtmpcekpdnikghaaGreatDoorEvEnv
import Derived.Laws.AppendOwn
import Derived.Deep.DeepCutAuto
import Derived.Deep.AppendLies
namespace Go.Proofs.YtmpcekpdnikghaaGreatDoor
open Go.RowKit

def bs (l : List UInt8) : ByteArray := ⟨l.toArray⟩
theorem until_any (n : Int) (w : World) (env : Env w) (hn : Lx.inR n) : Calls Tryz.prog 51 #[.int .i64 n] w fun e w' => e = .returned (.string (bs (Lx.untilW n))) ∧ Below w.heap.size w w' := by
  by_cases h : n = 4611686018427387904
  · subst h
    rw [show Lx.untilW 4611686018427387904 = Lx.neverW from rfl]
    go_enter Tryz.func51, Tryz.ntmps51
    go_wp2_with fail
    go_ret
    exact ⟨rfl, Below.refl _ _⟩
  · have he : (n == 4611686018427387904) = false := by rw [beq_eq_false_iff_ne]; exact h
    have hu : Lx.untilW n = Lib.itoa n := by unfold Lx.untilW; rw [if_neg h]
    rw [hu]
    have HD := Lib.hid (digits_any n w hn.1 hn.2 env)
    clear h hu hn
    unfold bs
    go_enter Tryz.func51, Tryz.ntmps51
    go_wp2_with fail
    refine HD.out.mono ?_
    rintro e w1 ⟨rfl, hb⟩
    go_wp2_with fail
    go_ret
    exact ⟨rfl, hb⟩
namespace Lx
/-- The box of a kind's row. -/
def KBox (w : World) (b q : Nat) : Prop := b < w.heap.size ∧ w.cell? ⟨b, 0, none⟩ = some (.string ⟨(evWord q).toArray⟩) ∧ w.cell? ⟨b, 1, none⟩ = some (.int .i64 (usesN q)) ∧ w.cell? ⟨b, 2, none⟩ = some (.int .i64 (yMax q))
theorem size_set (w : World) (a : Addr) (v : Value) : (w.setCell a v).heap.size = w.heap.size := by simp [World.setCell]
theorem mkS {w W : World} {P : World → Prop} (hP : ∀ W, Below w.heap.size w W → P W) (hb : Below w.heap.size w W) : Below w.heap.size w W ∧ P W := ⟨hb, hP W hb⟩
theorem bCall {w W W' : World} {P : World → Prop} (h : Below w.heap.size w W ∧ P W) (c : Below W.heap.size W W') : Below w.heap.size w W' := h.1.trans (c.mono h.1.size)
theorem bLeft {w W : World} {P : World → Prop} (h : Below w.heap.size w W ∧ P W) : Below w.heap.size w W := h.1
theorem bCall2 {w w0 W W' : World} {P : World → Prop} (h : Below w0.heap.size w W ∧ P W) (hz : w0.heap.size ≤ W.heap.size) (c : Below W.heap.size W W') : Below w0.heap.size w W' := h.1.trans (c.mono hz)
theorem ownBelowO {w w' : World} {base : Nat} {e : TypeId} {size n : Nat} {v : Value} {xs : List Value} (h : w.ownsRow base e size v n xs) (hb : Below w.heap.size w w') : w'.ownsRow base e size v n xs := by
  refine ⟨h.1, ?_⟩
  rcases h.2 with h0 | ⟨g, cap, cur, h1, h2, h3, h4⟩
  · exact .inl h0
  · exact .inr ⟨g, cap, cur, h1, h2, (hb.block g (Array.getElem?_eq_some_iff.1 h3).1).trans h3, h4⟩
theorem ownCap {w : World} {base : Nat} {e : TypeId} {size n k c : Nat} {a : Option Addr} {xs : List Value} (h : w.ownsRow base e size (.slice a k c) n xs) : n ≤ c := by
  rcases h.2 with ⟨_, h⟩ | ⟨g, cap, cur, h1, _, _, h2, _⟩
  · omega
  · have := congrArg (fun v => match v with | Value.slice _ _ c => c | _ => 0) h1
    simp at this; omega
theorem ownAllocO {w : World} {base : Nat} {e : TypeId} {size n : Nat} {v : Value} {xs : List Value} {o : Obj} (h : w.ownsRow base e size v n xs) : (w.alloc o).ownsRow base e size v n xs := h.alloc _
theorem cellNew2 (w : World) (a b : Value) (t : TypeId) : ∀ j u, [a, b][j]? = some u → (w.alloc (.cells #[a, b] t)).cell? ((⟨w.heap.size, 0, none⟩ : Addr).add j) = some u := by
  intro j u hj
  match j, hj with
  | 0, hj => simp at hj; subst hj; simp [Addr.add]
  | 1, hj => simp at hj; subst hj; simp [Addr.add]
theorem it_len {n : Int} (h : inR n) : (Lib.itoa n).length ≤ 21 := by
  have hl : (Lib.decDigits n.natAbs).length ≤ 20 := by rw [Lib.decDigits_length]; exact nDigits_le 19 _ (by have := h.1; have := h.2; omega)
  by_cases hn : n < 0
  · rw [itoa_neg hn, List.length_cons]; omega
  · rw [itoa_pos (by omega)]; omega
theorem joinSp_sum : ∀ (P : List (List UInt8)) (M : Nat), (∀ p ∈ P, p.length ≤ M) → (joinSp P).length ≤ P.length * (M + 1)
  | [], _, _ => by simp [joinSp]
  | [a], M, h => by have := h a List.mem_cons_self; simp [joinSp]; omega
  | a :: b :: r, M, h => by
    have h1 := h a List.mem_cons_self
    have h2 := joinSp_sum (b :: r) M (fun p hp => h p (List.mem_cons_of_mem _ hp))
    rw [joinSp_cons a (by simp), List.length_append, List.length_cons, List.length_cons (a := a), Nat.succ_mul]
    omega
theorem evText_len {o : EvV} {nm : List UInt8} (g : Good o) (h : nm.length ≤ 24) : (evText o nm).length ≤ 150 := by
  have hi := good_in g
  have l1 := it_len hi.2.1
  have l2 := it_len hi.2.2.2.1
  have l3 := it_len hi.2.2.2.2.1
  have l4 := it_len hi.2.2.2.2.2.1
  have l5 := it_len hi.2.2.2.2.2.2.1
  have l6 : (untilW o.n).length ≤ 24 := by
    unfold untilW; split
    · decide
    · have := it_len hi.2.2.2.2.2.2.2; omega
  have l7 : (evWord o.k).length ≤ 24 := by unfold evWord; (repeat' split) <;> decide
  have l8 : (reasonW o.y).length ≤ 24 := by unfold reasonW; (repeat' split) <;> decide
  have hm : ∀ p ∈ evParts o nm, p.length ≤ 24 := by
    intro p hp
    unfold evParts at hp
    revert hp
    (repeat' split) <;> (intro hp; simp only [List.mem_cons, List.not_mem_nil, or_false] at hp; (repeat' (rcases hp with rfl | hp)) <;> first | omega | (subst hp; omega))
  have hn : (evParts o nm).length ≤ 6 := by unfold evParts; (repeat' split) <;> simp
  have := joinSp_sum (evParts o nm) 24 hm
  unfold evText
  have := Nat.mul_le_mul_right (24 + 1) hn
  omega
theorem bDrew {w W : World} (h : Below w.heap.size w W) : Below w.heap.size w W.drew := h.drew
theorem bAlloc {w W : World} {o : Obj} (h : Below w.heap.size w W) : Below w.heap.size w (W.alloc o) := h.alloc h.size o
theorem bSet {w W : World} {b i : Nat} {v : Value} (hb : w.heap.size ≤ b) (h : Below w.heap.size w W) : Below w.heap.size w (W.setCell ⟨b, i, none⟩ v) := h.setCell hb v
end Lx
def WriteIs (l : List UInt8) (x : Int) (w : World) (e : Ending) (w' : World) : Prop := e = .returned (.tuple #[.string ⟨l.toArray⟩, .int .i64 x]) ∧ Below w.heap.size w w'
-- KINDS
set_option maxRecDepth 100000 in
set_option maxHeartbeats 1600000 in
theorem write_1 (t d a r : Int) (p : Nat) (x : ByteArray) (hxs : x.size ≤ 24) (ad : Option Addr) (m cap : Nat) (NS : List ByteArray) (w : World) (env : EEnv w)  (h : Lx.IsNames w ad m NS) (hx : NS[p]? = some x) (g : Lx.Good ⟨1, t, (p : Nat), d, a, r, 0, 0⟩) :
    Calls Tryz.prog 30 #[.agg #[.int .i64 1, .int .i64 t, .int .i64 (p : Nat), .int .i64 d, .int .i64 a, .int .i64 r, .int .i64 0, .int .i64 0], .slice ad m cap] w (WriteIs (Lx.evText ⟨1, t, (p : Nat), d, a, r, 0, 0⟩ x.data.toList) 0 w) := by
  have HC := Lib.hid (fun W => evcheck_any ⟨1, t, (p : Nat), d, a, r, 0, 0⟩ W)
  rw [(Lx.evErr_good _).2 g] at HC
  unfold Lx.EvV.val EvCheckIs at HC
  have gi := Lx.good_in g
  have HT := Lib.hid (fun W (E : EEnv W) => digits_any t W gi.2.1.1 gi.2.1.2 E.env)
  have HD := Lib.hid (fun W (E : EEnv W) => digits_any d W gi.2.2.2.1.1 gi.2.2.2.1.2 E.env)
  have HA := Lib.hid (fun W (E : EEnv W) => digits_any a W gi.2.2.2.2.1.1 gi.2.2.2.2.1.2 E.env)
  have HR := Lib.hid (fun W (E : EEnv W) => digits_any r W gi.2.2.2.2.2.1.1 gi.2.2.2.2.2.1.2 E.env)
  dsimp only at HC HT HD HA HR
  have hba : Below w.heap.size w (w.alloc (.cells #[.int .i64 1, .int .i64 t, .int .i64 (p : Nat), .int .i64 d, .int .i64 a, .int .i64 r, .int .i64 0, .int .i64 0] 26)) := (Below.refl _ w).alloc (Nat.le_refl _) _
  have BO0 := Lib.hid (Lx.EvBox.new w 1 t (p : Nat) d a r 0 0 26)
  have B0 := Lib.hid hba
  have hpm : p < m := by rw [← h.1]; exact (List.getElem?_eq_some_iff.1 hx).1
  obtain ⟨gn, offn, rfl, ltn, hcn⟩ := h.2 (by omega)
  have HNM := Lib.hid (show ∀ W, Below w.heap.size w W → W.cell? ⟨gn, offn + p, none⟩ = some (.string x) from fun W hb => (hb.cell (p := ⟨gn, offn + p, none⟩) ltn).trans (hcn p x hx))
  have hpi : (p : Int) < (m : Int) := by omega
  have hpd : decide ((m : Int) ≤ (p : Int)) = false := decide_eq_false (by omega)
  clear hcn hx
  have HLEN := Lib.hid (show (Lx.evText ⟨1, t, (p : Nat), d, a, r, 0, 0⟩ x.data.toList).length ≤ 140737488355328 from by have := Lx.evText_len g (nm := x.data.toList) (by rw [← Lib.size_eq]; exact hxs); omega)
  obtain ⟨i0, hi, hz0, hz1, hz2⟩ := info_parts infoS
  clear g
  clear hba gi h
  go_enter Tryz.func30, Tryz.ntmps30
  obtain ⟨q0, q1, q2, q3, q4, q5, q6, q7⟩ := BO0.out.eight
  go_wp2_with fail
  refine (HC.out _).mono ?_
  rintro e w1 ⟨rfl, c1⟩
  have BO1 := Lib.hid (BO0.out.below c1)
  have B1 := Lib.hid (B0.out.trans (c1.mono B0.out.size))
  clear BO0 B0 c1 q0 q1 q2 q3 q4 q5 q6 q7
  obtain ⟨q0, -, -, -, -, -, -, -⟩ := BO1.out.eight
  have hl1 := BO1.out.1
  go_upto_region 4 with (fail)
  go_cut [7] (fun s7 wx => ∃ kb : Nat, s7 = .pointer (some ⟨kb, 0, none⟩) ∧ w.heap.size < kb ∧ Lx.KBox wx kb 1 ∧ Below w1.heap.size w1 wx)
  case first =>
    have HP := Lib.hid (fun W (hb : Below w1.heap.size w1 W) => (hb.cell (p := ⟨w.heap.size, 0, none⟩) hl1).trans q0)
    have hS0 : (fun wx => Below w1.heap.size w1 wx ∧ wx.cell? ⟨w.heap.size, 0, none⟩ = some (.int .i64 1)) w1.drew := ⟨(Below.refl _ _).drew, q0⟩
    dsimp only at hS0
    refine wp_region_held_drew (S := (fun wx => Below w1.heap.size w1 wx ∧ wx.cell? ⟨w.heap.size, 0, none⟩ = some (.int .i64 1))) (by kernel_rfl) ?_ (fun hHeld => ?_)
    · exact hS0
    refine' wpAnyH_take (i := 1) (oi := _) (v := _) ?hiz1 (by kernel_rfl) (by kernel_rfl) (by kernel_rfl) ?hqz1 ?hyz1 (by assumption) ?rez1
    case hiz1 => simp only [List.getElem?_toArray, List.getElem?_cons_succ, List.getElem?_cons_zero]; rfl
    case hqz1 => exact fun _ _ _ h => h
    case hyz1 =>
      refine Or.inl ⟨by rfl, ?_⟩
      intro w hSw; (try dsimp only at hSw); go_simp; try with_reducible rfl
    case rez1 =>
      try simp only [Act.put, List.setIfInBounds_toArray, List.set_cons_zero, List.set_cons_succ]
      refine' wpAnyH_take (i := 2) (oi := _) (v := _) ?hiz2 (by kernel_rfl) (by kernel_rfl) (by kernel_rfl) ?hqz2 ?hyz2 (by assumption) ?rez2
      case hiz2 => simp only [List.getElem?_toArray, List.getElem?_cons_succ, List.getElem?_cons_zero]; rfl
      case hqz2 => exact fun _ _ _ h => h
      case hyz2 =>
        refine Or.inl ⟨by rfl, ?_⟩
        intro w hSw; (try dsimp only at hSw); go_simp; try with_reducible rfl
      case rez2 =>
        try simp only [Act.put, List.setIfInBounds_toArray, List.set_cons_zero, List.set_cons_succ]
        refine wpAnyH_ready (rs := [0, 5]) (by kernel_rfl) (by simp) ?_
        refine' AllReadyH.cons (o := _) ?hi0z3 (fun K hK => ?st0z3) (AllReadyH.cons (o := _) ?hi5z3 (fun K hK => ?st5z3) AllReadyH.nil)
        case hi0z3 => simp only [List.getElem?_toArray, List.getElem?_cons_zero]; rfl
        case hi5z3 => simp only [List.getElem?_toArray, List.getElem?_cons_succ, List.getElem?_cons_zero]; rfl
        case st0z3 =>
          go_simp
          go_at_call 37; refine (kinds_any _).mono ?_; rintro e w2 ⟨g, rfl, hg, hk, c2⟩; obtain ⟨k0, k1, k2⟩ := hk.2 1 (by omega); have hgl := hk.1; clear hk hg; have kb := Lx.bCall (P := fun wx => wx.cell? ⟨w.heap.size, 0, none⟩ = some (.int .i64 1)) (by assumption) c2; have hz2 := kb.size; have hs2 := c2.size; simp at hs2; have kS := Lx.mkS HP.out kb; have b0 := fun i => c2.cell (p := ⟨w1.heap.size, i, none⟩); have f0 := fun i => c2.frozen (p := ⟨w1.heap.size, i, none⟩)
          try go_wp2_with fail
          refine hK.out _ _ ?_ (fun hHeld => ?_)
          · (first | assumption | (refine Lx.mkS HP.out ?_; repeat (first | assumption | exact Below.refl _ _ | apply Lx.bDrew | apply Lx.bAlloc | (apply Lx.bSet; (first | exact Nat.le_refl _ | assumption)))))
          clear hK K
          try simp only [Act.put, List.setIfInBounds_toArray, List.set_cons_zero, List.set_cons_succ]
          refine' wpAnyH_take (i := 3) (oi := _) (v := _) ?hiz4 (by kernel_rfl) (by kernel_rfl) (by kernel_rfl) ?hqz4 ?hyz4 (by assumption) ?rez4
          case hiz4 => simp only [List.getElem?_toArray, List.getElem?_cons_succ, List.getElem?_cons_zero]; rfl
          case hqz4 => exact fun _ _ _ h => h
          case hyz4 =>
            refine Or.inl ⟨by rfl, ?_⟩
            intro w hSw; (try dsimp only at hSw); go_simp; try with_reducible rfl
          case rez4 =>
            try simp only [Act.put, List.setIfInBounds_toArray, List.set_cons_zero, List.set_cons_succ]
            refine wpAnyH_ready (rs := [4, 5]) (by kernel_rfl) (by simp) ?_
            refine' AllReadyH.cons (o := _) ?hi4z5 (fun K hK => ?st4z5) (AllReadyH.cons (o := _) ?hi5z5 (fun K hK => ?st5z5) AllReadyH.nil)
            case hi4z5 => simp only [List.getElem?_toArray, List.getElem?_cons_succ, List.getElem?_cons_zero]; rfl
            case hi5z5 => simp only [List.getElem?_toArray, List.getElem?_cons_succ, List.getElem?_cons_zero]; rfl
            case st4z5 =>
              go_simp
              try go_wp2_with fail
              refine hK.out _ _ ?_ (fun hHeld => ?_)
              · (first | assumption | (refine Lx.mkS HP.out ?_; repeat (first | assumption | exact Below.refl _ _ | apply Lx.bDrew | apply Lx.bAlloc | (apply Lx.bSet; (first | exact Nat.le_refl _ | assumption)))))
              clear hK K
              try simp only [Act.put, List.setIfInBounds_toArray, List.set_cons_zero, List.set_cons_succ]
              refine wpAnyH_ready (rs := [5]) (by kernel_rfl) (by simp) ?_
              refine' AllReadyH.cons (o := _) ?hi5z6 (fun K hK => ?st5z6) AllReadyH.nil
              case hi5z6 => simp only [List.getElem?_toArray, List.getElem?_cons_succ, List.getElem?_cons_zero]; rfl
              case st5z6 =>
                go_simp
                try go_wp2_with fail
                refine hK.out _ _ ?_ (fun hHeld => ?_)
                · (first | assumption | (refine Lx.mkS HP.out ?_; repeat (first | assumption | exact Below.refl _ _ | apply Lx.bDrew | apply Lx.bAlloc | (apply Lx.bSet; (first | exact Nat.le_refl _ | assumption)))))
                clear hK K
                try simp only [Act.put, List.setIfInBounds_toArray, List.set_cons_zero, List.set_cons_succ]
                refine wpAnyH_ready (rs := [6]) (by kernel_rfl) (by simp) ?_
                refine' AllReadyH.cons (o := _) ?hi6z7 (fun K hK => ?st6z7) AllReadyH.nil
                case hi6z7 => simp only [List.getElem?_toArray, List.getElem?_cons_succ, List.getElem?_cons_zero]; rfl
                case st6z7 =>
                  go_simp
                  try go_wp2_with fail
                  refine hK.out _ _ ?_ (fun hHeld => ?_)
                  · (first | assumption | (refine Lx.mkS HP.out ?_; repeat (first | assumption | exact Below.refl _ _ | apply Lx.bDrew | apply Lx.bAlloc | (apply Lx.bSet; (first | exact Nat.le_refl _ | assumption)))))
                  clear hK K
                  try simp only [Act.put, List.setIfInBounds_toArray, List.set_cons_zero, List.set_cons_succ]
                  refine wpAnyH_done (by kernel_rfl) ?_ _
                  go_wp2_with fail
                  go_meet
                  first | exact ⟨_, rfl, by omega, ⟨by simp, by simp, by simp, by simp⟩, And.left (by assumption)⟩ | (refine ⟨_, rfl, hl1, ⟨?_, ?_, ?_, ?_⟩, And.left (by assumption)⟩ <;> first | (go_simp; done) | (rw [Lx.size_set, Lx.size_set, Lx.size_set]; omega))
            case st5z5 =>
              go_simp
              try go_wp2_with fail
              refine hK.out _ _ ?_ (fun hHeld => ?_)
              · (first | assumption | (refine Lx.mkS HP.out ?_; repeat (first | assumption | exact Below.refl _ _ | apply Lx.bDrew | apply Lx.bAlloc | (apply Lx.bSet; (first | exact Nat.le_refl _ | assumption)))))
              clear hK K
              try simp only [Act.put, List.setIfInBounds_toArray, List.set_cons_zero, List.set_cons_succ]
              refine wpAnyH_ready (rs := [4]) (by kernel_rfl) (by simp) ?_
              refine' AllReadyH.cons (o := _) ?hi4z8 (fun K hK => ?st4z8) AllReadyH.nil
              case hi4z8 => simp only [List.getElem?_toArray, List.getElem?_cons_succ, List.getElem?_cons_zero]; rfl
              case st4z8 =>
                go_simp
                try go_wp2_with fail
                refine hK.out _ _ ?_ (fun hHeld => ?_)
                · (first | assumption | (refine Lx.mkS HP.out ?_; repeat (first | assumption | exact Below.refl _ _ | apply Lx.bDrew | apply Lx.bAlloc | (apply Lx.bSet; (first | exact Nat.le_refl _ | assumption)))))
                clear hK K
                try simp only [Act.put, List.setIfInBounds_toArray, List.set_cons_zero, List.set_cons_succ]
                refine wpAnyH_ready (rs := [6]) (by kernel_rfl) (by simp) ?_
                refine' AllReadyH.cons (o := _) ?hi6z9 (fun K hK => ?st6z9) AllReadyH.nil
                case hi6z9 => simp only [List.getElem?_toArray, List.getElem?_cons_succ, List.getElem?_cons_zero]; rfl
                case st6z9 =>
                  go_simp
                  try go_wp2_with fail
                  refine hK.out _ _ ?_ (fun hHeld => ?_)
                  · (first | assumption | (refine Lx.mkS HP.out ?_; repeat (first | assumption | exact Below.refl _ _ | apply Lx.bDrew | apply Lx.bAlloc | (apply Lx.bSet; (first | exact Nat.le_refl _ | assumption)))))
                  clear hK K
                  try simp only [Act.put, List.setIfInBounds_toArray, List.set_cons_zero, List.set_cons_succ]
                  refine wpAnyH_done (by kernel_rfl) ?_ _
                  go_wp2_with fail
                  go_meet
                  first | exact ⟨_, rfl, by omega, ⟨by simp, by simp, by simp, by simp⟩, And.left (by assumption)⟩ | (refine ⟨_, rfl, hl1, ⟨?_, ?_, ?_, ?_⟩, And.left (by assumption)⟩ <;> first | (go_simp; done) | (rw [Lx.size_set, Lx.size_set, Lx.size_set]; omega))
        case st5z3 =>
          go_simp
          try go_wp2_with fail
          refine hK.out _ _ ?_ (fun hHeld => ?_)
          · (first | assumption | (refine Lx.mkS HP.out ?_; repeat (first | assumption | exact Below.refl _ _ | apply Lx.bDrew | apply Lx.bAlloc | (apply Lx.bSet; (first | exact Nat.le_refl _ | assumption)))))
          clear hK K
          try simp only [Act.put, List.setIfInBounds_toArray, List.set_cons_zero, List.set_cons_succ]
          refine wpAnyH_ready (rs := [0]) (by kernel_rfl) (by simp) ?_
          refine' AllReadyH.cons (o := _) ?hi0z10 (fun K hK => ?st0z10) AllReadyH.nil
          case hi0z10 => simp only [List.getElem?_toArray, List.getElem?_cons_zero]; rfl
          case st0z10 =>
            go_simp
            go_at_call 37; refine (kinds_any _).mono ?_; rintro e w2 ⟨g, rfl, hg, hk, c2⟩; obtain ⟨k0, k1, k2⟩ := hk.2 1 (by omega); have hgl := hk.1; clear hk hg; have kb := Lx.bCall (P := fun wx => wx.cell? ⟨w.heap.size, 0, none⟩ = some (.int .i64 1)) (by assumption) c2; have hz2 := kb.size; have hs2 := c2.size; simp at hs2; have kS := Lx.mkS HP.out kb; have b0 := fun i => c2.cell (p := ⟨w1.heap.size, i, none⟩); have f0 := fun i => c2.frozen (p := ⟨w1.heap.size, i, none⟩)
            try go_wp2_with fail
            refine hK.out _ _ ?_ (fun hHeld => ?_)
            · (first | assumption | (refine Lx.mkS HP.out ?_; repeat (first | assumption | exact Below.refl _ _ | apply Lx.bDrew | apply Lx.bAlloc | (apply Lx.bSet; (first | exact Nat.le_refl _ | assumption)))))
            clear hK K
            try simp only [Act.put, List.setIfInBounds_toArray, List.set_cons_zero, List.set_cons_succ]
            refine' wpAnyH_take (i := 3) (oi := _) (v := _) ?hiz11 (by kernel_rfl) (by kernel_rfl) (by kernel_rfl) ?hqz11 ?hyz11 (by assumption) ?rez11
            case hiz11 => simp only [List.getElem?_toArray, List.getElem?_cons_succ, List.getElem?_cons_zero]; rfl
            case hqz11 => exact fun _ _ _ h => h
            case hyz11 =>
              refine Or.inl ⟨by rfl, ?_⟩
              intro w hSw; (try dsimp only at hSw); go_simp; try with_reducible rfl
            case rez11 =>
              try simp only [Act.put, List.setIfInBounds_toArray, List.set_cons_zero, List.set_cons_succ]
              refine wpAnyH_ready (rs := [4]) (by kernel_rfl) (by simp) ?_
              refine' AllReadyH.cons (o := _) ?hi4z12 (fun K hK => ?st4z12) AllReadyH.nil
              case hi4z12 => simp only [List.getElem?_toArray, List.getElem?_cons_succ, List.getElem?_cons_zero]; rfl
              case st4z12 =>
                go_simp
                try go_wp2_with fail
                refine hK.out _ _ ?_ (fun hHeld => ?_)
                · (first | assumption | (refine Lx.mkS HP.out ?_; repeat (first | assumption | exact Below.refl _ _ | apply Lx.bDrew | apply Lx.bAlloc | (apply Lx.bSet; (first | exact Nat.le_refl _ | assumption)))))
                clear hK K
                try simp only [Act.put, List.setIfInBounds_toArray, List.set_cons_zero, List.set_cons_succ]
                refine wpAnyH_ready (rs := [6]) (by kernel_rfl) (by simp) ?_
                refine' AllReadyH.cons (o := _) ?hi6z13 (fun K hK => ?st6z13) AllReadyH.nil
                case hi6z13 => simp only [List.getElem?_toArray, List.getElem?_cons_succ, List.getElem?_cons_zero]; rfl
                case st6z13 =>
                  go_simp
                  try go_wp2_with fail
                  refine hK.out _ _ ?_ (fun hHeld => ?_)
                  · (first | assumption | (refine Lx.mkS HP.out ?_; repeat (first | assumption | exact Below.refl _ _ | apply Lx.bDrew | apply Lx.bAlloc | (apply Lx.bSet; (first | exact Nat.le_refl _ | assumption)))))
                  clear hK K
                  try simp only [Act.put, List.setIfInBounds_toArray, List.set_cons_zero, List.set_cons_succ]
                  refine wpAnyH_done (by kernel_rfl) ?_ _
                  go_wp2_with fail
                  go_meet
                  first | exact ⟨_, rfl, by omega, ⟨by simp, by simp, by simp, by simp⟩, And.left (by assumption)⟩ | (refine ⟨_, rfl, hl1, ⟨?_, ?_, ?_, ?_⟩, And.left (by assumption)⟩ <;> first | (go_simp; done) | (rw [Lx.size_set, Lx.size_set, Lx.size_set]; omega))
  case rest =>
    obtain ⟨kb, rfl, hkb, ⟨hkl, k0, k1, k2⟩, hbc⟩ := hcut
    obtain ⟨W0, rfl⟩ : ∃ W, W = wc := ⟨_, rfl⟩
    have BO := Lib.hid (BO1.out.below hbc)
    have BC := Lib.hid (B1.out.trans (hbc.mono B1.out.size))
    have hl := BO.out.1
    clear BO1 B1 hbc q0 hl1 HC
    obtain ⟨q0, q1, q2, q3, q4, q5, q6, q7⟩ := BO.out.eight
    go_upto_region 5 with (fail)
    go_cut [8] (fun s8 wx => wx.ownsRow W0.heap.size 9 1 s8 2 [.string ⟨(Lib.itoa t).toArray⟩, .string ⟨(Lx.evWord (1 : Nat)).toArray⟩] ∧ Below W0.heap.size W0 wx)
    case first =>
      have HP := Lib.hid (fun W (hb : Below W0.heap.size W0 W) => And.intro ((hb.cell (p := ⟨w.heap.size, 1, none⟩) hl).trans q1) ((hb.cell (p := ⟨kb, 0, none⟩) hkl).trans k0))
      have hS0 : (fun wx => Below W0.heap.size W0 wx ∧ wx.cell? ⟨w.heap.size, 1, none⟩ = some (.int .i64 t) ∧ wx.cell? ⟨kb, 0, none⟩ = some (.string ⟨(Lx.evWord (1 : Nat)).toArray⟩)) W0.drew := ⟨(Below.refl _ _).drew, q1, k0⟩
      dsimp only at hS0
      go_region_held3 (fun wx => Below W0.heap.size W0 wx ∧ wx.cell? ⟨w.heap.size, 1, none⟩ = some (.int .i64 t) ∧ wx.cell? ⟨kb, 0, none⟩ = some (.string ⟨(Lx.evWord (1 : Nat)).toArray⟩))
        (first | assumption | (refine Lx.mkS HP.out ?_; repeat (first | assumption | exact Below.refl _ _ | apply Lx.bDrew | apply Lx.bAlloc | (apply Lx.bSet; (first | exact Nat.le_refl _ | assumption)))))
        (first
          | (go_at_call 50; refine (HT.out _ (env.below (BC.out.trans (Below.mono (And.left (by assumption)) BC.out.size)))).mono ?_; rintro e w2 ⟨rfl, c2⟩; have kb2 := Lx.bCall (P := fun wx => wx.cell? ⟨w.heap.size, 1, none⟩ = some (.int .i64 t) ∧ wx.cell? ⟨kb, 0, none⟩ = some (.string ⟨(Lx.evWord (1 : Nat)).toArray⟩)) (by assumption) c2; have hz2 := kb2.size; have kS := Lx.mkS HP.out kb2))
      all_goals (go_wp2_with fail; go_meet)
      all_goals exact ⟨Lx.ownLit _ _ (by assumption) [.string ⟨(Lib.itoa t).toArray⟩, .string ⟨(Lx.evWord (1 : Nat)).toArray⟩] 9 (by unfold maxLen; simp), And.left (by assumption)⟩
    case rest =>
      obtain ⟨W1, rfl⟩ : ∃ W, W = wc := ⟨_, rfl⟩
      have k1' : W0.cell? ⟨kb, 1, none⟩ = some (.int .i64 7) := k1
      have B1 := Lib.hid hcut.2
      obtain ⟨a1, c1, rfl⟩ := Lx.ownSlice hcut.1
      have R1 := Lib.hid hcut.1
      clear hcut q0 q1 q2 q3 q4 q5 q6 q7 k0 k1 k2 HT
      obtain ⟨q0, q1, q2, q3, q4, q5, q6, q7⟩ := (BO.out.below B1.out).eight
      have k1 := (B1.out.cell (p := ⟨kb, 1, none⟩) hkl).trans k1'
      have xn := HNM.out W1 (BC.out.trans (B1.out.mono BC.out.size))
      go_wp2_with (at_builtin; refine wpList_append_own _ rfl _ _ 22 rfl W0.heap.size 9 i0 _ 1 16 Tryz.underlying22 hi hz0 hz1 hz2 rfl (by decide) _ _ _ rfl (R1.out.alloc _) ⟨W1.heap.size, 0, none⟩ 1 1 [.string x] rfl rfl (Lx.cellNew W1 (.string x) 9) (by simp [Value.oneCell']) (by unfold maxLen; omega) (by omega) ((B1.out.alloc B1.out.size _).size) ?_)
      intro v' W2 hown2 hgrow _
      obtain ⟨a2, c2, rfl⟩ := Lx.ownSlice hown2
      have R2 := Lib.hid hown2
      have B2 := Lib.hid ((B1.out.alloc B1.out.size (.cells #[.string x] 9)).grown hgrow (B1.out.alloc B1.out.size _).size (Lx.ownBase R1.out))
      clear hgrow hown2 q0 q1 q2 q3 q4 q5 q6 q7 k1 R1
      clear xn
      obtain ⟨q0, q1, q2, q3, q4, q5, q6, q7⟩ := (BO.out.below B2.out).eight
      have k1 := (B2.out.cell (p := ⟨kb, 1, none⟩) hkl).trans k1'
      have q3z := (BO.out.eight).2.2.2.1
      have q4z := (BO.out.eight).2.2.2.2.1
      go_upto_region 11 with (fail)
      go_cut [8] (fun s8 wx => wx.ownsRow W0.heap.size 9 1 s8 5 [.string ⟨(Lib.itoa t).toArray⟩, .string ⟨(Lx.evWord (1 : Nat)).toArray⟩, .string x, .string ⟨(Lib.itoa d).toArray⟩, .string ⟨(Lib.itoa a).toArray⟩] ∧ Below W0.heap.size W0 wx)
      case first =>
        have HP := Lib.hid (fun W (hb : Below W0.heap.size W0 W) => And.intro ((hb.cell (p := ⟨w.heap.size, 3, none⟩) hl).trans q3z) ((hb.cell (p := ⟨w.heap.size, 4, none⟩) hl).trans q4z))
        have hS0 : (fun wx => Below W0.heap.size W0 wx ∧ wx.cell? ⟨w.heap.size, 3, none⟩ = some (.int .i64 d) ∧ wx.cell? ⟨w.heap.size, 4, none⟩ = some (.int .i64 a)) W2.drew := ⟨B2.out.drew, q3, q4⟩
        dsimp only at hS0
        have r0 : W2.drew.ownsRow W0.heap.size 9 1 (.slice a2 3 c2) 3 [.string ⟨(Lib.itoa t).toArray⟩, .string ⟨(Lx.evWord (1 : Nat)).toArray⟩, .string x] := R2.out
        clear q0 q1 q2 q3 q4 q5 q6 q7 k1 q3z q4z
        go_region_held3 (fun wx => Below W0.heap.size W0 wx ∧ wx.cell? ⟨w.heap.size, 3, none⟩ = some (.int .i64 d) ∧ wx.cell? ⟨w.heap.size, 4, none⟩ = some (.int .i64 a))
          (first | assumption | (refine Lx.mkS HP.out ?_; repeat (first | assumption | exact Below.refl _ _ | apply Lx.bDrew | apply Lx.bAlloc | (apply Lx.bSet; (first | exact Nat.le_refl _ | assumption)))))
          (first
            | (go_at_call 50; with_reducible refine (HD.out _ ?_).mono ?_; exact (env.below (BC.out.trans (Below.mono (And.left (by assumption)) BC.out.size))); rintro e w2 ⟨rfl, cb⟩; have kb2 := Lx.bCall (P := fun wx => wx.cell? ⟨w.heap.size, 3, none⟩ = some (.int .i64 d) ∧ wx.cell? ⟨w.heap.size, 4, none⟩ = some (.int .i64 a)) (by assumption) cb; have hzz := kb2.size; have kS := Lx.mkS HP.out kb2; have r2 : w2.ownsRow W0.heap.size 9 1 (.slice a2 3 c2) 3 [.string ⟨(Lib.itoa t).toArray⟩, .string ⟨(Lx.evWord (1 : Nat)).toArray⟩, .string x] := Lx.ownBelowO (by assumption) cb; clear cb)
            | (go_at_call 50; with_reducible refine (HA.out _ ?_).mono ?_; exact (env.below (BC.out.trans (Below.mono (And.left (by assumption)) BC.out.size))); rintro e w3 ⟨rfl, cb⟩; have kb2 := Lx.bCall (P := fun wx => wx.cell? ⟨w.heap.size, 3, none⟩ = some (.int .i64 d) ∧ wx.cell? ⟨w.heap.size, 4, none⟩ = some (.int .i64 a)) (by assumption) cb; have hzz := kb2.size; have kS := Lx.mkS HP.out kb2; have r2 : w3.ownsRow W0.heap.size 9 1 (.slice a2 3 c2) 3 [.string ⟨(Lib.itoa t).toArray⟩, .string ⟨(Lx.evWord (1 : Nat)).toArray⟩, .string x] := Lx.ownBelowO (by assumption) cb; clear cb)
            | (refine step_append_lies _ (by rfl) _ _ _ (by rfl) W0.heap.size 9 i0 _ 1 16 Tryz.underlying22 hi hz0 hz1 hz2 rfl (by decide) (.slice a2 3 c2) 3 [.string ⟨(Lib.itoa t).toArray⟩, .string ⟨(Lx.evWord (1 : Nat)).toArray⟩, .string x] (by rfl) (Lx.ownAllocO (by assumption)) ⟨w3.heap.size, 0, none⟩ 2 2 [.string ⟨(Lib.itoa d).toArray⟩, .string ⟨(Lib.itoa a).toArray⟩] (by rfl) (by rfl) (Lx.cellNew2 w3 _ _ _) (by simp [Value.oneCell']) (by omega) (by unfold maxLen; omega) (by omega) (Nat.le_trans hzz (by simp)) (w3.heap.size + 1) (by simp) ?_; intro g cap w4 hown4 hgrow hat hlt; have kb4 := Below.grown (Lx.bLeft (P := fun wx => wx.cell? ⟨w.heap.size, 3, none⟩ = some (.int .i64 d) ∧ wx.cell? ⟨w.heap.size, 4, none⟩ = some (.int .i64 a)) (by assumption)) hgrow (Nat.le_trans hzz (by simp)) (Lx.ownBase r2); have kS := Lx.mkS HP.out kb4))
        all_goals (go_wp2_with fail; go_meet)
        all_goals exact ⟨by assumption, And.left (by assumption)⟩
      case rest =>
        obtain ⟨W3, rfl⟩ : ∃ W, W = wc := ⟨_, rfl⟩
        obtain ⟨a3, c3, rfl⟩ := Lx.ownSlice hcut.1
        have B3 := Lib.hid hcut.2
        have R3 := Lib.hid hcut.1
        clear hcut q0 q1 q2 q3 q4 q5 q6 q7 k1 R2 q3z q4z
        obtain ⟨q0, q1, q2, q3, q4, q5, q6, q7⟩ := (BO.out.below B3.out).eight
        have k1 := (B3.out.cell (p := ⟨kb, 1, none⟩) hkl).trans k1'
        go_wp2_with fail
        refine (HR.out _ (env.below (BC.out.trans (B3.out.mono BC.out.size)))).mono ?_
        rintro e W4 ⟨rfl, c4⟩
        have R4 := Lib.hid (Lx.ownBelowO R3.out c4)
        have B4 := Lib.hid (B3.out.trans (c4.mono B3.out.size))
        clear c4 q0 q1 q2 q3 q4 q5 q6 q7 k1 R3
        obtain ⟨q0, q1, q2, q3, q4, q5, q6, q7⟩ := (BO.out.below B4.out).eight
        have k1 := (B4.out.cell (p := ⟨kb, 1, none⟩) hkl).trans k1'
        go_wp2_with (at_builtin; refine wpList_append_own _ rfl _ _ 22 rfl W0.heap.size 9 i0 _ 1 16 Tryz.underlying22 hi hz0 hz1 hz2 rfl (by decide) _ _ _ rfl (R4.out.alloc _) ⟨W4.heap.size, 0, none⟩ 1 1 [.string ⟨(Lib.itoa r).toArray⟩] rfl rfl (Lx.cellNew W4 (.string ⟨(Lib.itoa r).toArray⟩) 9) (by simp [Value.oneCell']) (by unfold maxLen; omega) (by omega) ((B4.out.alloc B4.out.size _).size) ?_)
        intro v' W5 hown5 hgrow _
        obtain ⟨a5, c5, rfl⟩ := Lx.ownSlice hown5
        have R5 := Lib.hid hown5
        have B5 := Lib.hid ((B4.out.alloc B4.out.size (.cells #[.string ⟨(Lib.itoa r).toArray⟩] 9)).grown hgrow (B4.out.alloc B4.out.size _).size (Lx.ownBase R4.out))
        clear hgrow hown5 q0 q1 q2 q3 q4 q5 q6 q7 k1 R4
        obtain ⟨q0, q1, q2, q3, q4, q5, q6, q7⟩ := (BO.out.below B5.out).eight
        have k1 := (B5.out.cell (p := ⟨kb, 1, none⟩) hkl).trans k1'
        obtain ⟨g8, c8, he8, lt8, hc8⟩ := Lx.ownPos R5.out (by omega)
        obtain ⟨rfl, rfl⟩ : a5 = some ⟨g8, 0, none⟩ ∧ c5 = c8 := by simpa using he8
        have hcap := Lx.ownCap R5.out
        clear he8
        go_wp2_with fail
        refine (Tryz.strings_Join g8 0 c5 [⟨(Lib.itoa t).toArray⟩, ⟨(Lx.evWord (1 : Nat)).toArray⟩, x, ⟨(Lib.itoa d).toArray⟩, ⟨(Lib.itoa a).toArray⟩, ⟨(Lib.itoa r).toArray⟩] ⟨#[32]⟩ _ ?_ lt8 (by simp) hcap ?_).mono ?_
        · intro j z hz; rw [Nat.zero_add]; exact hc8 j _ (by
        have h9 : (([⟨(Lib.itoa t).toArray⟩, ⟨(Lx.evWord (1 : Nat)).toArray⟩, x, ⟨(Lib.itoa d).toArray⟩, ⟨(Lib.itoa a).toArray⟩, ⟨(Lib.itoa r).toArray⟩] : List ByteArray).map Value.string)[j]? = some (.string z) := by rw [List.getElem?_map, hz]; rfl
        exact h9)
        · rw [show (⟨#[32]⟩ : ByteArray).data.toList = [32] from rfl, Lx.join_joinSp]; exact HLEN.out
        rintro e W9 ⟨rfl, c9⟩
        go_wp2_with fail
        go_ret2
        exact ⟨Lx.ret_t2 (Lx.v_str (congrArg (fun l : List UInt8 => (⟨l.toArray⟩ : ByteArray)) (Lx.join_joinSp _))) rfl, (BC.out.trans (B5.out.mono BC.out.size)).trans (c9.mono (BC.out.trans (B5.out.mono BC.out.size)).size)⟩
set_option maxRecDepth 100000 in
set_option maxHeartbeats 1600000 in
theorem write_2 (t d a r : Int) (p : Nat) (x : ByteArray) (hxs : x.size ≤ 24) (ad : Option Addr) (m cap : Nat) (NS : List ByteArray) (w : World) (env : EEnv w)  (h : Lx.IsNames w ad m NS) (hx : NS[p]? = some x) (g : Lx.Good ⟨2, t, (p : Nat), d, a, r, 0, 0⟩) :
    Calls Tryz.prog 30 #[.agg #[.int .i64 2, .int .i64 t, .int .i64 (p : Nat), .int .i64 d, .int .i64 a, .int .i64 r, .int .i64 0, .int .i64 0], .slice ad m cap] w (WriteIs (Lx.evText ⟨2, t, (p : Nat), d, a, r, 0, 0⟩ x.data.toList) 0 w) := by
  have HC := Lib.hid (fun W => evcheck_any ⟨2, t, (p : Nat), d, a, r, 0, 0⟩ W)
  rw [(Lx.evErr_good _).2 g] at HC
  unfold Lx.EvV.val EvCheckIs at HC
  have gi := Lx.good_in g
  have HT := Lib.hid (fun W (E : EEnv W) => digits_any t W gi.2.1.1 gi.2.1.2 E.env)
  have HD := Lib.hid (fun W (E : EEnv W) => digits_any d W gi.2.2.2.1.1 gi.2.2.2.1.2 E.env)
  have HA := Lib.hid (fun W (E : EEnv W) => digits_any a W gi.2.2.2.2.1.1 gi.2.2.2.2.1.2 E.env)
  have HR := Lib.hid (fun W (E : EEnv W) => digits_any r W gi.2.2.2.2.2.1.1 gi.2.2.2.2.2.1.2 E.env)
  dsimp only at HC HT HD HA HR
  have hba : Below w.heap.size w (w.alloc (.cells #[.int .i64 2, .int .i64 t, .int .i64 (p : Nat), .int .i64 d, .int .i64 a, .int .i64 r, .int .i64 0, .int .i64 0] 26)) := (Below.refl _ w).alloc (Nat.le_refl _) _
  have BO0 := Lib.hid (Lx.EvBox.new w 2 t (p : Nat) d a r 0 0 26)
  have B0 := Lib.hid hba
  have hpm : p < m := by rw [← h.1]; exact (List.getElem?_eq_some_iff.1 hx).1
  obtain ⟨gn, offn, rfl, ltn, hcn⟩ := h.2 (by omega)
  have HNM := Lib.hid (show ∀ W, Below w.heap.size w W → W.cell? ⟨gn, offn + p, none⟩ = some (.string x) from fun W hb => (hb.cell (p := ⟨gn, offn + p, none⟩) ltn).trans (hcn p x hx))
  have hpi : (p : Int) < (m : Int) := by omega
  have hpd : decide ((m : Int) ≤ (p : Int)) = false := decide_eq_false (by omega)
  clear hcn hx
  have HLEN := Lib.hid (show (Lx.evText ⟨2, t, (p : Nat), d, a, r, 0, 0⟩ x.data.toList).length ≤ 140737488355328 from by have := Lx.evText_len g (nm := x.data.toList) (by rw [← Lib.size_eq]; exact hxs); omega)
  obtain ⟨i0, hi, hz0, hz1, hz2⟩ := info_parts infoS
  clear g
  clear hba gi h
  go_enter Tryz.func30, Tryz.ntmps30
  obtain ⟨q0, q1, q2, q3, q4, q5, q6, q7⟩ := BO0.out.eight
  go_wp2_with fail
  refine (HC.out _).mono ?_
  rintro e w1 ⟨rfl, c1⟩
  have BO1 := Lib.hid (BO0.out.below c1)
  have B1 := Lib.hid (B0.out.trans (c1.mono B0.out.size))
  clear BO0 B0 c1 q0 q1 q2 q3 q4 q5 q6 q7
  obtain ⟨q0, -, -, -, -, -, -, -⟩ := BO1.out.eight
  have hl1 := BO1.out.1
  go_upto_region 4 with (fail)
  go_cut [7] (fun s7 wx => ∃ kb : Nat, s7 = .pointer (some ⟨kb, 0, none⟩) ∧ w.heap.size < kb ∧ Lx.KBox wx kb 2 ∧ Below w1.heap.size w1 wx)
  case first =>
    have HP := Lib.hid (fun W (hb : Below w1.heap.size w1 W) => (hb.cell (p := ⟨w.heap.size, 0, none⟩) hl1).trans q0)
    have hS0 : (fun wx => Below w1.heap.size w1 wx ∧ wx.cell? ⟨w.heap.size, 0, none⟩ = some (.int .i64 2)) w1.drew := ⟨(Below.refl _ _).drew, q0⟩
    dsimp only at hS0
    refine wp_region_held_drew (S := (fun wx => Below w1.heap.size w1 wx ∧ wx.cell? ⟨w.heap.size, 0, none⟩ = some (.int .i64 2))) (by kernel_rfl) ?_ (fun hHeld => ?_)
    · exact hS0
    refine' wpAnyH_take (i := 1) (oi := _) (v := _) ?hiz14 (by kernel_rfl) (by kernel_rfl) (by kernel_rfl) ?hqz14 ?hyz14 (by assumption) ?rez14
    case hiz14 => simp only [List.getElem?_toArray, List.getElem?_cons_succ, List.getElem?_cons_zero]; rfl
    case hqz14 => exact fun _ _ _ h => h
    case hyz14 =>
      refine Or.inl ⟨by rfl, ?_⟩
      intro w hSw; (try dsimp only at hSw); go_simp; try with_reducible rfl
    case rez14 =>
      try simp only [Act.put, List.setIfInBounds_toArray, List.set_cons_zero, List.set_cons_succ]
      refine' wpAnyH_take (i := 2) (oi := _) (v := _) ?hiz15 (by kernel_rfl) (by kernel_rfl) (by kernel_rfl) ?hqz15 ?hyz15 (by assumption) ?rez15
      case hiz15 => simp only [List.getElem?_toArray, List.getElem?_cons_succ, List.getElem?_cons_zero]; rfl
      case hqz15 => exact fun _ _ _ h => h
      case hyz15 =>
        refine Or.inl ⟨by rfl, ?_⟩
        intro w hSw; (try dsimp only at hSw); go_simp; try with_reducible rfl
      case rez15 =>
        try simp only [Act.put, List.setIfInBounds_toArray, List.set_cons_zero, List.set_cons_succ]
        refine wpAnyH_ready (rs := [0, 5]) (by kernel_rfl) (by simp) ?_
        refine' AllReadyH.cons (o := _) ?hi0z16 (fun K hK => ?st0z16) (AllReadyH.cons (o := _) ?hi5z16 (fun K hK => ?st5z16) AllReadyH.nil)
        case hi0z16 => simp only [List.getElem?_toArray, List.getElem?_cons_zero]; rfl
        case hi5z16 => simp only [List.getElem?_toArray, List.getElem?_cons_succ, List.getElem?_cons_zero]; rfl
        case st0z16 =>
          go_simp
          go_at_call 37; refine (kinds_any _).mono ?_; rintro e w2 ⟨g, rfl, hg, hk, c2⟩; obtain ⟨k0, k1, k2⟩ := hk.2 2 (by omega); have hgl := hk.1; clear hk hg; have kb := Lx.bCall (P := fun wx => wx.cell? ⟨w.heap.size, 0, none⟩ = some (.int .i64 2)) (by assumption) c2; have hz2 := kb.size; have hs2 := c2.size; simp at hs2; have kS := Lx.mkS HP.out kb; have b0 := fun i => c2.cell (p := ⟨w1.heap.size, i, none⟩); have f0 := fun i => c2.frozen (p := ⟨w1.heap.size, i, none⟩)
          try go_wp2_with fail
          refine hK.out _ _ ?_ (fun hHeld => ?_)
          · (first | assumption | (refine Lx.mkS HP.out ?_; repeat (first | assumption | exact Below.refl _ _ | apply Lx.bDrew | apply Lx.bAlloc | (apply Lx.bSet; (first | exact Nat.le_refl _ | assumption)))))
          clear hK K
          try simp only [Act.put, List.setIfInBounds_toArray, List.set_cons_zero, List.set_cons_succ]
          refine' wpAnyH_take (i := 3) (oi := _) (v := _) ?hiz17 (by kernel_rfl) (by kernel_rfl) (by kernel_rfl) ?hqz17 ?hyz17 (by assumption) ?rez17
          case hiz17 => simp only [List.getElem?_toArray, List.getElem?_cons_succ, List.getElem?_cons_zero]; rfl
          case hqz17 => exact fun _ _ _ h => h
          case hyz17 =>
            refine Or.inl ⟨by rfl, ?_⟩
            intro w hSw; (try dsimp only at hSw); go_simp; try with_reducible rfl
          case rez17 =>
            try simp only [Act.put, List.setIfInBounds_toArray, List.set_cons_zero, List.set_cons_succ]
            refine wpAnyH_ready (rs := [4, 5]) (by kernel_rfl) (by simp) ?_
            refine' AllReadyH.cons (o := _) ?hi4z18 (fun K hK => ?st4z18) (AllReadyH.cons (o := _) ?hi5z18 (fun K hK => ?st5z18) AllReadyH.nil)
            case hi4z18 => simp only [List.getElem?_toArray, List.getElem?_cons_succ, List.getElem?_cons_zero]; rfl
            case hi5z18 => simp only [List.getElem?_toArray, List.getElem?_cons_succ, List.getElem?_cons_zero]; rfl
            case st4z18 =>
              go_simp
              try go_wp2_with fail
              refine hK.out _ _ ?_ (fun hHeld => ?_)
              · (first | assumption | (refine Lx.mkS HP.out ?_; repeat (first | assumption | exact Below.refl _ _ | apply Lx.bDrew | apply Lx.bAlloc | (apply Lx.bSet; (first | exact Nat.le_refl _ | assumption)))))
              clear hK K
              try simp only [Act.put, List.setIfInBounds_toArray, List.set_cons_zero, List.set_cons_succ]
              refine wpAnyH_ready (rs := [5]) (by kernel_rfl) (by simp) ?_
              refine' AllReadyH.cons (o := _) ?hi5z19 (fun K hK => ?st5z19) AllReadyH.nil
              case hi5z19 => simp only [List.getElem?_toArray, List.getElem?_cons_succ, List.getElem?_cons_zero]; rfl
              case st5z19 =>
                go_simp
                try go_wp2_with fail
                refine hK.out _ _ ?_ (fun hHeld => ?_)
                · (first | assumption | (refine Lx.mkS HP.out ?_; repeat (first | assumption | exact Below.refl _ _ | apply Lx.bDrew | apply Lx.bAlloc | (apply Lx.bSet; (first | exact Nat.le_refl _ | assumption)))))
                clear hK K
                try simp only [Act.put, List.setIfInBounds_toArray, List.set_cons_zero, List.set_cons_succ]
                refine wpAnyH_ready (rs := [6]) (by kernel_rfl) (by simp) ?_
                refine' AllReadyH.cons (o := _) ?hi6z20 (fun K hK => ?st6z20) AllReadyH.nil
                case hi6z20 => simp only [List.getElem?_toArray, List.getElem?_cons_succ, List.getElem?_cons_zero]; rfl
                case st6z20 =>
                  go_simp
                  try go_wp2_with fail
                  refine hK.out _ _ ?_ (fun hHeld => ?_)
                  · (first | assumption | (refine Lx.mkS HP.out ?_; repeat (first | assumption | exact Below.refl _ _ | apply Lx.bDrew | apply Lx.bAlloc | (apply Lx.bSet; (first | exact Nat.le_refl _ | assumption)))))
                  clear hK K
                  try simp only [Act.put, List.setIfInBounds_toArray, List.set_cons_zero, List.set_cons_succ]
                  refine wpAnyH_done (by kernel_rfl) ?_ _
                  go_wp2_with fail
                  go_meet
                  first | exact ⟨_, rfl, by omega, ⟨by simp, by simp, by simp, by simp⟩, And.left (by assumption)⟩ | (refine ⟨_, rfl, hl1, ⟨?_, ?_, ?_, ?_⟩, And.left (by assumption)⟩ <;> first | (go_simp; done) | (rw [Lx.size_set, Lx.size_set, Lx.size_set]; omega))
            case st5z18 =>
              go_simp
              try go_wp2_with fail
              refine hK.out _ _ ?_ (fun hHeld => ?_)
              · (first | assumption | (refine Lx.mkS HP.out ?_; repeat (first | assumption | exact Below.refl _ _ | apply Lx.bDrew | apply Lx.bAlloc | (apply Lx.bSet; (first | exact Nat.le_refl _ | assumption)))))
              clear hK K
              try simp only [Act.put, List.setIfInBounds_toArray, List.set_cons_zero, List.set_cons_succ]
              refine wpAnyH_ready (rs := [4]) (by kernel_rfl) (by simp) ?_
              refine' AllReadyH.cons (o := _) ?hi4z21 (fun K hK => ?st4z21) AllReadyH.nil
              case hi4z21 => simp only [List.getElem?_toArray, List.getElem?_cons_succ, List.getElem?_cons_zero]; rfl
              case st4z21 =>
                go_simp
                try go_wp2_with fail
                refine hK.out _ _ ?_ (fun hHeld => ?_)
                · (first | assumption | (refine Lx.mkS HP.out ?_; repeat (first | assumption | exact Below.refl _ _ | apply Lx.bDrew | apply Lx.bAlloc | (apply Lx.bSet; (first | exact Nat.le_refl _ | assumption)))))
                clear hK K
                try simp only [Act.put, List.setIfInBounds_toArray, List.set_cons_zero, List.set_cons_succ]
                refine wpAnyH_ready (rs := [6]) (by kernel_rfl) (by simp) ?_
                refine' AllReadyH.cons (o := _) ?hi6z22 (fun K hK => ?st6z22) AllReadyH.nil
                case hi6z22 => simp only [List.getElem?_toArray, List.getElem?_cons_succ, List.getElem?_cons_zero]; rfl
                case st6z22 =>
                  go_simp
                  try go_wp2_with fail
                  refine hK.out _ _ ?_ (fun hHeld => ?_)
                  · (first | assumption | (refine Lx.mkS HP.out ?_; repeat (first | assumption | exact Below.refl _ _ | apply Lx.bDrew | apply Lx.bAlloc | (apply Lx.bSet; (first | exact Nat.le_refl _ | assumption)))))
                  clear hK K
                  try simp only [Act.put, List.setIfInBounds_toArray, List.set_cons_zero, List.set_cons_succ]
                  refine wpAnyH_done (by kernel_rfl) ?_ _
                  go_wp2_with fail
                  go_meet
                  first | exact ⟨_, rfl, by omega, ⟨by simp, by simp, by simp, by simp⟩, And.left (by assumption)⟩ | (refine ⟨_, rfl, hl1, ⟨?_, ?_, ?_, ?_⟩, And.left (by assumption)⟩ <;> first | (go_simp; done) | (rw [Lx.size_set, Lx.size_set, Lx.size_set]; omega))
        case st5z16 =>
          go_simp
          try go_wp2_with fail
          refine hK.out _ _ ?_ (fun hHeld => ?_)
          · (first | assumption | (refine Lx.mkS HP.out ?_; repeat (first | assumption | exact Below.refl _ _ | apply Lx.bDrew | apply Lx.bAlloc | (apply Lx.bSet; (first | exact Nat.le_refl _ | assumption)))))
          clear hK K
          try simp only [Act.put, List.setIfInBounds_toArray, List.set_cons_zero, List.set_cons_succ]
          refine wpAnyH_ready (rs := [0]) (by kernel_rfl) (by simp) ?_
          refine' AllReadyH.cons (o := _) ?hi0z23 (fun K hK => ?st0z23) AllReadyH.nil
          case hi0z23 => simp only [List.getElem?_toArray, List.getElem?_cons_zero]; rfl
          case st0z23 =>
            go_simp
            go_at_call 37; refine (kinds_any _).mono ?_; rintro e w2 ⟨g, rfl, hg, hk, c2⟩; obtain ⟨k0, k1, k2⟩ := hk.2 2 (by omega); have hgl := hk.1; clear hk hg; have kb := Lx.bCall (P := fun wx => wx.cell? ⟨w.heap.size, 0, none⟩ = some (.int .i64 2)) (by assumption) c2; have hz2 := kb.size; have hs2 := c2.size; simp at hs2; have kS := Lx.mkS HP.out kb; have b0 := fun i => c2.cell (p := ⟨w1.heap.size, i, none⟩); have f0 := fun i => c2.frozen (p := ⟨w1.heap.size, i, none⟩)
            try go_wp2_with fail
            refine hK.out _ _ ?_ (fun hHeld => ?_)
            · (first | assumption | (refine Lx.mkS HP.out ?_; repeat (first | assumption | exact Below.refl _ _ | apply Lx.bDrew | apply Lx.bAlloc | (apply Lx.bSet; (first | exact Nat.le_refl _ | assumption)))))
            clear hK K
            try simp only [Act.put, List.setIfInBounds_toArray, List.set_cons_zero, List.set_cons_succ]
            refine' wpAnyH_take (i := 3) (oi := _) (v := _) ?hiz24 (by kernel_rfl) (by kernel_rfl) (by kernel_rfl) ?hqz24 ?hyz24 (by assumption) ?rez24
            case hiz24 => simp only [List.getElem?_toArray, List.getElem?_cons_succ, List.getElem?_cons_zero]; rfl
            case hqz24 => exact fun _ _ _ h => h
            case hyz24 =>
              refine Or.inl ⟨by rfl, ?_⟩
              intro w hSw; (try dsimp only at hSw); go_simp; try with_reducible rfl
            case rez24 =>
              try simp only [Act.put, List.setIfInBounds_toArray, List.set_cons_zero, List.set_cons_succ]
              refine wpAnyH_ready (rs := [4]) (by kernel_rfl) (by simp) ?_
              refine' AllReadyH.cons (o := _) ?hi4z25 (fun K hK => ?st4z25) AllReadyH.nil
              case hi4z25 => simp only [List.getElem?_toArray, List.getElem?_cons_succ, List.getElem?_cons_zero]; rfl
              case st4z25 =>
                go_simp
                try go_wp2_with fail
                refine hK.out _ _ ?_ (fun hHeld => ?_)
                · (first | assumption | (refine Lx.mkS HP.out ?_; repeat (first | assumption | exact Below.refl _ _ | apply Lx.bDrew | apply Lx.bAlloc | (apply Lx.bSet; (first | exact Nat.le_refl _ | assumption)))))
                clear hK K
                try simp only [Act.put, List.setIfInBounds_toArray, List.set_cons_zero, List.set_cons_succ]
                refine wpAnyH_ready (rs := [6]) (by kernel_rfl) (by simp) ?_
                refine' AllReadyH.cons (o := _) ?hi6z26 (fun K hK => ?st6z26) AllReadyH.nil
                case hi6z26 => simp only [List.getElem?_toArray, List.getElem?_cons_succ, List.getElem?_cons_zero]; rfl
                case st6z26 =>
                  go_simp
                  try go_wp2_with fail
                  refine hK.out _ _ ?_ (fun hHeld => ?_)
                  · (first | assumption | (refine Lx.mkS HP.out ?_; repeat (first | assumption | exact Below.refl _ _ | apply Lx.bDrew | apply Lx.bAlloc | (apply Lx.bSet; (first | exact Nat.le_refl _ | assumption)))))
                  clear hK K
                  try simp only [Act.put, List.setIfInBounds_toArray, List.set_cons_zero, List.set_cons_succ]
                  refine wpAnyH_done (by kernel_rfl) ?_ _
                  go_wp2_with fail
                  go_meet
                  first | exact ⟨_, rfl, by omega, ⟨by simp, by simp, by simp, by simp⟩, And.left (by assumption)⟩ | (refine ⟨_, rfl, hl1, ⟨?_, ?_, ?_, ?_⟩, And.left (by assumption)⟩ <;> first | (go_simp; done) | (rw [Lx.size_set, Lx.size_set, Lx.size_set]; omega))
  case rest =>
    obtain ⟨kb, rfl, hkb, ⟨hkl, k0, k1, k2⟩, hbc⟩ := hcut
    obtain ⟨W0, rfl⟩ : ∃ W, W = wc := ⟨_, rfl⟩
    have BO := Lib.hid (BO1.out.below hbc)
    have BC := Lib.hid (B1.out.trans (hbc.mono B1.out.size))
    have hl := BO.out.1
    clear BO1 B1 hbc q0 hl1 HC
    obtain ⟨q0, q1, q2, q3, q4, q5, q6, q7⟩ := BO.out.eight
    go_upto_region 5 with (fail)
    go_cut [8] (fun s8 wx => wx.ownsRow W0.heap.size 9 1 s8 2 [.string ⟨(Lib.itoa t).toArray⟩, .string ⟨(Lx.evWord (2 : Nat)).toArray⟩] ∧ Below W0.heap.size W0 wx)
    case first =>
      have HP := Lib.hid (fun W (hb : Below W0.heap.size W0 W) => And.intro ((hb.cell (p := ⟨w.heap.size, 1, none⟩) hl).trans q1) ((hb.cell (p := ⟨kb, 0, none⟩) hkl).trans k0))
      have hS0 : (fun wx => Below W0.heap.size W0 wx ∧ wx.cell? ⟨w.heap.size, 1, none⟩ = some (.int .i64 t) ∧ wx.cell? ⟨kb, 0, none⟩ = some (.string ⟨(Lx.evWord (2 : Nat)).toArray⟩)) W0.drew := ⟨(Below.refl _ _).drew, q1, k0⟩
      dsimp only at hS0
      go_region_held3 (fun wx => Below W0.heap.size W0 wx ∧ wx.cell? ⟨w.heap.size, 1, none⟩ = some (.int .i64 t) ∧ wx.cell? ⟨kb, 0, none⟩ = some (.string ⟨(Lx.evWord (2 : Nat)).toArray⟩))
        (first | assumption | (refine Lx.mkS HP.out ?_; repeat (first | assumption | exact Below.refl _ _ | apply Lx.bDrew | apply Lx.bAlloc | (apply Lx.bSet; (first | exact Nat.le_refl _ | assumption)))))
        (first
          | (go_at_call 50; refine (HT.out _ (env.below (BC.out.trans (Below.mono (And.left (by assumption)) BC.out.size)))).mono ?_; rintro e w2 ⟨rfl, c2⟩; have kb2 := Lx.bCall (P := fun wx => wx.cell? ⟨w.heap.size, 1, none⟩ = some (.int .i64 t) ∧ wx.cell? ⟨kb, 0, none⟩ = some (.string ⟨(Lx.evWord (2 : Nat)).toArray⟩)) (by assumption) c2; have hz2 := kb2.size; have kS := Lx.mkS HP.out kb2))
      all_goals (go_wp2_with fail; go_meet)
      all_goals exact ⟨Lx.ownLit _ _ (by assumption) [.string ⟨(Lib.itoa t).toArray⟩, .string ⟨(Lx.evWord (2 : Nat)).toArray⟩] 9 (by unfold maxLen; simp), And.left (by assumption)⟩
    case rest =>
      obtain ⟨W1, rfl⟩ : ∃ W, W = wc := ⟨_, rfl⟩
      have k1' : W0.cell? ⟨kb, 1, none⟩ = some (.int .i64 7) := k1
      have B1 := Lib.hid hcut.2
      obtain ⟨a1, c1, rfl⟩ := Lx.ownSlice hcut.1
      have R1 := Lib.hid hcut.1
      clear hcut q0 q1 q2 q3 q4 q5 q6 q7 k0 k1 k2 HT
      obtain ⟨q0, q1, q2, q3, q4, q5, q6, q7⟩ := (BO.out.below B1.out).eight
      have k1 := (B1.out.cell (p := ⟨kb, 1, none⟩) hkl).trans k1'
      have xn := HNM.out W1 (BC.out.trans (B1.out.mono BC.out.size))
      go_wp2_with (at_builtin; refine wpList_append_own _ rfl _ _ 22 rfl W0.heap.size 9 i0 _ 1 16 Tryz.underlying22 hi hz0 hz1 hz2 rfl (by decide) _ _ _ rfl (R1.out.alloc _) ⟨W1.heap.size, 0, none⟩ 1 1 [.string x] rfl rfl (Lx.cellNew W1 (.string x) 9) (by simp [Value.oneCell']) (by unfold maxLen; omega) (by omega) ((B1.out.alloc B1.out.size _).size) ?_)
      intro v' W2 hown2 hgrow _
      obtain ⟨a2, c2, rfl⟩ := Lx.ownSlice hown2
      have R2 := Lib.hid hown2
      have B2 := Lib.hid ((B1.out.alloc B1.out.size (.cells #[.string x] 9)).grown hgrow (B1.out.alloc B1.out.size _).size (Lx.ownBase R1.out))
      clear hgrow hown2 q0 q1 q2 q3 q4 q5 q6 q7 k1 R1
      clear xn
      obtain ⟨q0, q1, q2, q3, q4, q5, q6, q7⟩ := (BO.out.below B2.out).eight
      have k1 := (B2.out.cell (p := ⟨kb, 1, none⟩) hkl).trans k1'
      have q3z := (BO.out.eight).2.2.2.1
      have q4z := (BO.out.eight).2.2.2.2.1
      go_upto_region 11 with (fail)
      go_cut [8] (fun s8 wx => wx.ownsRow W0.heap.size 9 1 s8 5 [.string ⟨(Lib.itoa t).toArray⟩, .string ⟨(Lx.evWord (2 : Nat)).toArray⟩, .string x, .string ⟨(Lib.itoa d).toArray⟩, .string ⟨(Lib.itoa a).toArray⟩] ∧ Below W0.heap.size W0 wx)
      case first =>
        have HP := Lib.hid (fun W (hb : Below W0.heap.size W0 W) => And.intro ((hb.cell (p := ⟨w.heap.size, 3, none⟩) hl).trans q3z) ((hb.cell (p := ⟨w.heap.size, 4, none⟩) hl).trans q4z))
        have hS0 : (fun wx => Below W0.heap.size W0 wx ∧ wx.cell? ⟨w.heap.size, 3, none⟩ = some (.int .i64 d) ∧ wx.cell? ⟨w.heap.size, 4, none⟩ = some (.int .i64 a)) W2.drew := ⟨B2.out.drew, q3, q4⟩
        dsimp only at hS0
        have r0 : W2.drew.ownsRow W0.heap.size 9 1 (.slice a2 3 c2) 3 [.string ⟨(Lib.itoa t).toArray⟩, .string ⟨(Lx.evWord (2 : Nat)).toArray⟩, .string x] := R2.out
        clear q0 q1 q2 q3 q4 q5 q6 q7 k1 q3z q4z
        go_region_held3 (fun wx => Below W0.heap.size W0 wx ∧ wx.cell? ⟨w.heap.size, 3, none⟩ = some (.int .i64 d) ∧ wx.cell? ⟨w.heap.size, 4, none⟩ = some (.int .i64 a))
          (first | assumption | (refine Lx.mkS HP.out ?_; repeat (first | assumption | exact Below.refl _ _ | apply Lx.bDrew | apply Lx.bAlloc | (apply Lx.bSet; (first | exact Nat.le_refl _ | assumption)))))
          (first
            | (go_at_call 50; with_reducible refine (HD.out _ ?_).mono ?_; exact (env.below (BC.out.trans (Below.mono (And.left (by assumption)) BC.out.size))); rintro e w2 ⟨rfl, cb⟩; have kb2 := Lx.bCall (P := fun wx => wx.cell? ⟨w.heap.size, 3, none⟩ = some (.int .i64 d) ∧ wx.cell? ⟨w.heap.size, 4, none⟩ = some (.int .i64 a)) (by assumption) cb; have hzz := kb2.size; have kS := Lx.mkS HP.out kb2; have r2 : w2.ownsRow W0.heap.size 9 1 (.slice a2 3 c2) 3 [.string ⟨(Lib.itoa t).toArray⟩, .string ⟨(Lx.evWord (2 : Nat)).toArray⟩, .string x] := Lx.ownBelowO (by assumption) cb; clear cb)
            | (go_at_call 50; with_reducible refine (HA.out _ ?_).mono ?_; exact (env.below (BC.out.trans (Below.mono (And.left (by assumption)) BC.out.size))); rintro e w3 ⟨rfl, cb⟩; have kb2 := Lx.bCall (P := fun wx => wx.cell? ⟨w.heap.size, 3, none⟩ = some (.int .i64 d) ∧ wx.cell? ⟨w.heap.size, 4, none⟩ = some (.int .i64 a)) (by assumption) cb; have hzz := kb2.size; have kS := Lx.mkS HP.out kb2; have r2 : w3.ownsRow W0.heap.size 9 1 (.slice a2 3 c2) 3 [.string ⟨(Lib.itoa t).toArray⟩, .string ⟨(Lx.evWord (2 : Nat)).toArray⟩, .string x] := Lx.ownBelowO (by assumption) cb; clear cb)
            | (refine step_append_lies _ (by rfl) _ _ _ (by rfl) W0.heap.size 9 i0 _ 1 16 Tryz.underlying22 hi hz0 hz1 hz2 rfl (by decide) (.slice a2 3 c2) 3 [.string ⟨(Lib.itoa t).toArray⟩, .string ⟨(Lx.evWord (2 : Nat)).toArray⟩, .string x] (by rfl) (Lx.ownAllocO (by assumption)) ⟨w3.heap.size, 0, none⟩ 2 2 [.string ⟨(Lib.itoa d).toArray⟩, .string ⟨(Lib.itoa a).toArray⟩] (by rfl) (by rfl) (Lx.cellNew2 w3 _ _ _) (by simp [Value.oneCell']) (by omega) (by unfold maxLen; omega) (by omega) (Nat.le_trans hzz (by simp)) (w3.heap.size + 1) (by simp) ?_; intro g cap w4 hown4 hgrow hat hlt; have kb4 := Below.grown (Lx.bLeft (P := fun wx => wx.cell? ⟨w.heap.size, 3, none⟩ = some (.int .i64 d) ∧ wx.cell? ⟨w.heap.size, 4, none⟩ = some (.int .i64 a)) (by assumption)) hgrow (Nat.le_trans hzz (by simp)) (Lx.ownBase r2); have kS := Lx.mkS HP.out kb4))
        all_goals (go_wp2_with fail; go_meet)
        all_goals exact ⟨by assumption, And.left (by assumption)⟩
      case rest =>
        obtain ⟨W3, rfl⟩ : ∃ W, W = wc := ⟨_, rfl⟩
        obtain ⟨a3, c3, rfl⟩ := Lx.ownSlice hcut.1
        have B3 := Lib.hid hcut.2
        have R3 := Lib.hid hcut.1
        clear hcut q0 q1 q2 q3 q4 q5 q6 q7 k1 R2 q3z q4z
        obtain ⟨q0, q1, q2, q3, q4, q5, q6, q7⟩ := (BO.out.below B3.out).eight
        have k1 := (B3.out.cell (p := ⟨kb, 1, none⟩) hkl).trans k1'
        go_wp2_with fail
        refine (HR.out _ (env.below (BC.out.trans (B3.out.mono BC.out.size)))).mono ?_
        rintro e W4 ⟨rfl, c4⟩
        have R4 := Lib.hid (Lx.ownBelowO R3.out c4)
        have B4 := Lib.hid (B3.out.trans (c4.mono B3.out.size))
        clear c4 q0 q1 q2 q3 q4 q5 q6 q7 k1 R3
        obtain ⟨q0, q1, q2, q3, q4, q5, q6, q7⟩ := (BO.out.below B4.out).eight
        have k1 := (B4.out.cell (p := ⟨kb, 1, none⟩) hkl).trans k1'
        go_wp2_with (at_builtin; refine wpList_append_own _ rfl _ _ 22 rfl W0.heap.size 9 i0 _ 1 16 Tryz.underlying22 hi hz0 hz1 hz2 rfl (by decide) _ _ _ rfl (R4.out.alloc _) ⟨W4.heap.size, 0, none⟩ 1 1 [.string ⟨(Lib.itoa r).toArray⟩] rfl rfl (Lx.cellNew W4 (.string ⟨(Lib.itoa r).toArray⟩) 9) (by simp [Value.oneCell']) (by unfold maxLen; omega) (by omega) ((B4.out.alloc B4.out.size _).size) ?_)
        intro v' W5 hown5 hgrow _
        obtain ⟨a5, c5, rfl⟩ := Lx.ownSlice hown5
        have R5 := Lib.hid hown5
        have B5 := Lib.hid ((B4.out.alloc B4.out.size (.cells #[.string ⟨(Lib.itoa r).toArray⟩] 9)).grown hgrow (B4.out.alloc B4.out.size _).size (Lx.ownBase R4.out))
        clear hgrow hown5 q0 q1 q2 q3 q4 q5 q6 q7 k1 R4
        obtain ⟨q0, q1, q2, q3, q4, q5, q6, q7⟩ := (BO.out.below B5.out).eight
        have k1 := (B5.out.cell (p := ⟨kb, 1, none⟩) hkl).trans k1'
        obtain ⟨g8, c8, he8, lt8, hc8⟩ := Lx.ownPos R5.out (by omega)
        obtain ⟨rfl, rfl⟩ : a5 = some ⟨g8, 0, none⟩ ∧ c5 = c8 := by simpa using he8
        have hcap := Lx.ownCap R5.out
        clear he8
        go_wp2_with fail
        refine (Tryz.strings_Join g8 0 c5 [⟨(Lib.itoa t).toArray⟩, ⟨(Lx.evWord (2 : Nat)).toArray⟩, x, ⟨(Lib.itoa d).toArray⟩, ⟨(Lib.itoa a).toArray⟩, ⟨(Lib.itoa r).toArray⟩] ⟨#[32]⟩ _ ?_ lt8 (by simp) hcap ?_).mono ?_
        · intro j z hz; rw [Nat.zero_add]; exact hc8 j _ (by
        have h9 : (([⟨(Lib.itoa t).toArray⟩, ⟨(Lx.evWord (2 : Nat)).toArray⟩, x, ⟨(Lib.itoa d).toArray⟩, ⟨(Lib.itoa a).toArray⟩, ⟨(Lib.itoa r).toArray⟩] : List ByteArray).map Value.string)[j]? = some (.string z) := by rw [List.getElem?_map, hz]; rfl
        exact h9)
        · rw [show (⟨#[32]⟩ : ByteArray).data.toList = [32] from rfl, Lx.join_joinSp]; exact HLEN.out
        rintro e W9 ⟨rfl, c9⟩
        go_wp2_with fail
        go_ret2
        exact ⟨Lx.ret_t2 (Lx.v_str (congrArg (fun l : List UInt8 => (⟨l.toArray⟩ : ByteArray)) (Lx.join_joinSp _))) rfl, (BC.out.trans (B5.out.mono BC.out.size)).trans (c9.mono (BC.out.trans (B5.out.mono BC.out.size)).size)⟩
set_option maxRecDepth 100000 in
set_option maxHeartbeats 1600000 in
theorem write_3 (t d a r : Int) (p : Nat) (x : ByteArray) (hxs : x.size ≤ 24) (ad : Option Addr) (m cap : Nat) (NS : List ByteArray) (w : World) (env : EEnv w)  (h : Lx.IsNames w ad m NS) (hx : NS[p]? = some x) (g : Lx.Good ⟨3, t, (p : Nat), d, a, r, 0, 0⟩) :
    Calls Tryz.prog 30 #[.agg #[.int .i64 3, .int .i64 t, .int .i64 (p : Nat), .int .i64 d, .int .i64 a, .int .i64 r, .int .i64 0, .int .i64 0], .slice ad m cap] w (WriteIs (Lx.evText ⟨3, t, (p : Nat), d, a, r, 0, 0⟩ x.data.toList) 0 w) := by
  have HC := Lib.hid (fun W => evcheck_any ⟨3, t, (p : Nat), d, a, r, 0, 0⟩ W)
  rw [(Lx.evErr_good _).2 g] at HC
  unfold Lx.EvV.val EvCheckIs at HC
  have gi := Lx.good_in g
  have HT := Lib.hid (fun W (E : EEnv W) => digits_any t W gi.2.1.1 gi.2.1.2 E.env)
  have HD := Lib.hid (fun W (E : EEnv W) => digits_any d W gi.2.2.2.1.1 gi.2.2.2.1.2 E.env)
  have HA := Lib.hid (fun W (E : EEnv W) => digits_any a W gi.2.2.2.2.1.1 gi.2.2.2.2.1.2 E.env)
  have HR := Lib.hid (fun W (E : EEnv W) => digits_any r W gi.2.2.2.2.2.1.1 gi.2.2.2.2.2.1.2 E.env)
  dsimp only at HC HT HD HA HR
  have hba : Below w.heap.size w (w.alloc (.cells #[.int .i64 3, .int .i64 t, .int .i64 (p : Nat), .int .i64 d, .int .i64 a, .int .i64 r, .int .i64 0, .int .i64 0] 26)) := (Below.refl _ w).alloc (Nat.le_refl _) _
  have BO0 := Lib.hid (Lx.EvBox.new w 3 t (p : Nat) d a r 0 0 26)
  have B0 := Lib.hid hba
  have hpm : p < m := by rw [← h.1]; exact (List.getElem?_eq_some_iff.1 hx).1
  obtain ⟨gn, offn, rfl, ltn, hcn⟩ := h.2 (by omega)
  have HNM := Lib.hid (show ∀ W, Below w.heap.size w W → W.cell? ⟨gn, offn + p, none⟩ = some (.string x) from fun W hb => (hb.cell (p := ⟨gn, offn + p, none⟩) ltn).trans (hcn p x hx))
  have hpi : (p : Int) < (m : Int) := by omega
  have hpd : decide ((m : Int) ≤ (p : Int)) = false := decide_eq_false (by omega)
  clear hcn hx
  have HLEN := Lib.hid (show (Lx.evText ⟨3, t, (p : Nat), d, a, r, 0, 0⟩ x.data.toList).length ≤ 140737488355328 from by have := Lx.evText_len g (nm := x.data.toList) (by rw [← Lib.size_eq]; exact hxs); omega)
  obtain ⟨i0, hi, hz0, hz1, hz2⟩ := info_parts infoS
  clear g
  clear hba gi h
  go_enter Tryz.func30, Tryz.ntmps30
  obtain ⟨q0, q1, q2, q3, q4, q5, q6, q7⟩ := BO0.out.eight
  go_wp2_with fail
  refine (HC.out _).mono ?_
  rintro e w1 ⟨rfl, c1⟩
  have BO1 := Lib.hid (BO0.out.below c1)
  have B1 := Lib.hid (B0.out.trans (c1.mono B0.out.size))
  clear BO0 B0 c1 q0 q1 q2 q3 q4 q5 q6 q7
  obtain ⟨q0, -, -, -, -, -, -, -⟩ := BO1.out.eight
  have hl1 := BO1.out.1
  go_upto_region 4 with (fail)
  go_cut [7] (fun s7 wx => ∃ kb : Nat, s7 = .pointer (some ⟨kb, 0, none⟩) ∧ w.heap.size < kb ∧ Lx.KBox wx kb 3 ∧ Below w1.heap.size w1 wx)
  case first =>
    have HP := Lib.hid (fun W (hb : Below w1.heap.size w1 W) => (hb.cell (p := ⟨w.heap.size, 0, none⟩) hl1).trans q0)
    have hS0 : (fun wx => Below w1.heap.size w1 wx ∧ wx.cell? ⟨w.heap.size, 0, none⟩ = some (.int .i64 3)) w1.drew := ⟨(Below.refl _ _).drew, q0⟩
    dsimp only at hS0
    refine wp_region_held_drew (S := (fun wx => Below w1.heap.size w1 wx ∧ wx.cell? ⟨w.heap.size, 0, none⟩ = some (.int .i64 3))) (by kernel_rfl) ?_ (fun hHeld => ?_)
    · exact hS0
    refine' wpAnyH_take (i := 1) (oi := _) (v := _) ?hiz27 (by kernel_rfl) (by kernel_rfl) (by kernel_rfl) ?hqz27 ?hyz27 (by assumption) ?rez27
    case hiz27 => simp only [List.getElem?_toArray, List.getElem?_cons_succ, List.getElem?_cons_zero]; rfl
    case hqz27 => exact fun _ _ _ h => h
    case hyz27 =>
      refine Or.inl ⟨by rfl, ?_⟩
      intro w hSw; (try dsimp only at hSw); go_simp; try with_reducible rfl
    case rez27 =>
      try simp only [Act.put, List.setIfInBounds_toArray, List.set_cons_zero, List.set_cons_succ]
      refine' wpAnyH_take (i := 2) (oi := _) (v := _) ?hiz28 (by kernel_rfl) (by kernel_rfl) (by kernel_rfl) ?hqz28 ?hyz28 (by assumption) ?rez28
      case hiz28 => simp only [List.getElem?_toArray, List.getElem?_cons_succ, List.getElem?_cons_zero]; rfl
      case hqz28 => exact fun _ _ _ h => h
      case hyz28 =>
        refine Or.inl ⟨by rfl, ?_⟩
        intro w hSw; (try dsimp only at hSw); go_simp; try with_reducible rfl
      case rez28 =>
        try simp only [Act.put, List.setIfInBounds_toArray, List.set_cons_zero, List.set_cons_succ]
        refine wpAnyH_ready (rs := [0, 5]) (by kernel_rfl) (by simp) ?_
        refine' AllReadyH.cons (o := _) ?hi0z29 (fun K hK => ?st0z29) (AllReadyH.cons (o := _) ?hi5z29 (fun K hK => ?st5z29) AllReadyH.nil)
        case hi0z29 => simp only [List.getElem?_toArray, List.getElem?_cons_zero]; rfl
        case hi5z29 => simp only [List.getElem?_toArray, List.getElem?_cons_succ, List.getElem?_cons_zero]; rfl
        case st0z29 =>
          go_simp
          go_at_call 37; refine (kinds_any _).mono ?_; rintro e w2 ⟨g, rfl, hg, hk, c2⟩; obtain ⟨k0, k1, k2⟩ := hk.2 3 (by omega); have hgl := hk.1; clear hk hg; have kb := Lx.bCall (P := fun wx => wx.cell? ⟨w.heap.size, 0, none⟩ = some (.int .i64 3)) (by assumption) c2; have hz2 := kb.size; have hs2 := c2.size; simp at hs2; have kS := Lx.mkS HP.out kb; have b0 := fun i => c2.cell (p := ⟨w1.heap.size, i, none⟩); have f0 := fun i => c2.frozen (p := ⟨w1.heap.size, i, none⟩)
          try go_wp2_with fail
          refine hK.out _ _ ?_ (fun hHeld => ?_)
          · (first | assumption | (refine Lx.mkS HP.out ?_; repeat (first | assumption | exact Below.refl _ _ | apply Lx.bDrew | apply Lx.bAlloc | (apply Lx.bSet; (first | exact Nat.le_refl _ | assumption)))))
          clear hK K
          try simp only [Act.put, List.setIfInBounds_toArray, List.set_cons_zero, List.set_cons_succ]
          refine' wpAnyH_take (i := 3) (oi := _) (v := _) ?hiz30 (by kernel_rfl) (by kernel_rfl) (by kernel_rfl) ?hqz30 ?hyz30 (by assumption) ?rez30
          case hiz30 => simp only [List.getElem?_toArray, List.getElem?_cons_succ, List.getElem?_cons_zero]; rfl
          case hqz30 => exact fun _ _ _ h => h
          case hyz30 =>
            refine Or.inl ⟨by rfl, ?_⟩
            intro w hSw; (try dsimp only at hSw); go_simp; try with_reducible rfl
          case rez30 =>
            try simp only [Act.put, List.setIfInBounds_toArray, List.set_cons_zero, List.set_cons_succ]
            refine wpAnyH_ready (rs := [4, 5]) (by kernel_rfl) (by simp) ?_
            refine' AllReadyH.cons (o := _) ?hi4z31 (fun K hK => ?st4z31) (AllReadyH.cons (o := _) ?hi5z31 (fun K hK => ?st5z31) AllReadyH.nil)
            case hi4z31 => simp only [List.getElem?_toArray, List.getElem?_cons_succ, List.getElem?_cons_zero]; rfl
            case hi5z31 => simp only [List.getElem?_toArray, List.getElem?_cons_succ, List.getElem?_cons_zero]; rfl
            case st4z31 =>
              go_simp
              try go_wp2_with fail
              refine hK.out _ _ ?_ (fun hHeld => ?_)
              · (first | assumption | (refine Lx.mkS HP.out ?_; repeat (first | assumption | exact Below.refl _ _ | apply Lx.bDrew | apply Lx.bAlloc | (apply Lx.bSet; (first | exact Nat.le_refl _ | assumption)))))
              clear hK K
              try simp only [Act.put, List.setIfInBounds_toArray, List.set_cons_zero, List.set_cons_succ]
              refine wpAnyH_ready (rs := [5]) (by kernel_rfl) (by simp) ?_
              refine' AllReadyH.cons (o := _) ?hi5z32 (fun K hK => ?st5z32) AllReadyH.nil
              case hi5z32 => simp only [List.getElem?_toArray, List.getElem?_cons_succ, List.getElem?_cons_zero]; rfl
              case st5z32 =>
                go_simp
                try go_wp2_with fail
                refine hK.out _ _ ?_ (fun hHeld => ?_)
                · (first | assumption | (refine Lx.mkS HP.out ?_; repeat (first | assumption | exact Below.refl _ _ | apply Lx.bDrew | apply Lx.bAlloc | (apply Lx.bSet; (first | exact Nat.le_refl _ | assumption)))))
                clear hK K
                try simp only [Act.put, List.setIfInBounds_toArray, List.set_cons_zero, List.set_cons_succ]
                refine wpAnyH_ready (rs := [6]) (by kernel_rfl) (by simp) ?_
                refine' AllReadyH.cons (o := _) ?hi6z33 (fun K hK => ?st6z33) AllReadyH.nil
                case hi6z33 => simp only [List.getElem?_toArray, List.getElem?_cons_succ, List.getElem?_cons_zero]; rfl
                case st6z33 =>
                  go_simp
                  try go_wp2_with fail
                  refine hK.out _ _ ?_ (fun hHeld => ?_)
                  · (first | assumption | (refine Lx.mkS HP.out ?_; repeat (first | assumption | exact Below.refl _ _ | apply Lx.bDrew | apply Lx.bAlloc | (apply Lx.bSet; (first | exact Nat.le_refl _ | assumption)))))
                  clear hK K
                  try simp only [Act.put, List.setIfInBounds_toArray, List.set_cons_zero, List.set_cons_succ]
                  refine wpAnyH_done (by kernel_rfl) ?_ _
                  go_wp2_with fail
                  go_meet
                  first | exact ⟨_, rfl, by omega, ⟨by simp, by simp, by simp, by simp⟩, And.left (by assumption)⟩ | (refine ⟨_, rfl, hl1, ⟨?_, ?_, ?_, ?_⟩, And.left (by assumption)⟩ <;> first | (go_simp; done) | (rw [Lx.size_set, Lx.size_set, Lx.size_set]; omega))
            case st5z31 =>
              go_simp
              try go_wp2_with fail
              refine hK.out _ _ ?_ (fun hHeld => ?_)
              · (first | assumption | (refine Lx.mkS HP.out ?_; repeat (first | assumption | exact Below.refl _ _ | apply Lx.bDrew | apply Lx.bAlloc | (apply Lx.bSet; (first | exact Nat.le_refl _ | assumption)))))
              clear hK K
              try simp only [Act.put, List.setIfInBounds_toArray, List.set_cons_zero, List.set_cons_succ]
              refine wpAnyH_ready (rs := [4]) (by kernel_rfl) (by simp) ?_
              refine' AllReadyH.cons (o := _) ?hi4z34 (fun K hK => ?st4z34) AllReadyH.nil
              case hi4z34 => simp only [List.getElem?_toArray, List.getElem?_cons_succ, List.getElem?_cons_zero]; rfl
              case st4z34 =>
                go_simp
                try go_wp2_with fail
                refine hK.out _ _ ?_ (fun hHeld => ?_)
                · (first | assumption | (refine Lx.mkS HP.out ?_; repeat (first | assumption | exact Below.refl _ _ | apply Lx.bDrew | apply Lx.bAlloc | (apply Lx.bSet; (first | exact Nat.le_refl _ | assumption)))))
                clear hK K
                try simp only [Act.put, List.setIfInBounds_toArray, List.set_cons_zero, List.set_cons_succ]
                refine wpAnyH_ready (rs := [6]) (by kernel_rfl) (by simp) ?_
                refine' AllReadyH.cons (o := _) ?hi6z35 (fun K hK => ?st6z35) AllReadyH.nil
                case hi6z35 => simp only [List.getElem?_toArray, List.getElem?_cons_succ, List.getElem?_cons_zero]; rfl
                case st6z35 =>
                  go_simp
                  try go_wp2_with fail
                  refine hK.out _ _ ?_ (fun hHeld => ?_)
                  · (first | assumption | (refine Lx.mkS HP.out ?_; repeat (first | assumption | exact Below.refl _ _ | apply Lx.bDrew | apply Lx.bAlloc | (apply Lx.bSet; (first | exact Nat.le_refl _ | assumption)))))
                  clear hK K
                  try simp only [Act.put, List.setIfInBounds_toArray, List.set_cons_zero, List.set_cons_succ]
                  refine wpAnyH_done (by kernel_rfl) ?_ _
                  go_wp2_with fail
                  go_meet
                  first | exact ⟨_, rfl, by omega, ⟨by simp, by simp, by simp, by simp⟩, And.left (by assumption)⟩ | (refine ⟨_, rfl, hl1, ⟨?_, ?_, ?_, ?_⟩, And.left (by assumption)⟩ <;> first | (go_simp; done) | (rw [Lx.size_set, Lx.size_set, Lx.size_set]; omega))
        case st5z29 =>
          go_simp
          try go_wp2_with fail
          refine hK.out _ _ ?_ (fun hHeld => ?_)
          · (first | assumption | (refine Lx.mkS HP.out ?_; repeat (first | assumption | exact Below.refl _ _ | apply Lx.bDrew | apply Lx.bAlloc | (apply Lx.bSet; (first | exact Nat.le_refl _ | assumption)))))
          clear hK K
          try simp only [Act.put, List.setIfInBounds_toArray, List.set_cons_zero, List.set_cons_succ]
          refine wpAnyH_ready (rs := [0]) (by kernel_rfl) (by simp) ?_
          refine' AllReadyH.cons (o := _) ?hi0z36 (fun K hK => ?st0z36) AllReadyH.nil
          case hi0z36 => simp only [List.getElem?_toArray, List.getElem?_cons_zero]; rfl
          case st0z36 =>
            go_simp
            go_at_call 37; refine (kinds_any _).mono ?_; rintro e w2 ⟨g, rfl, hg, hk, c2⟩; obtain ⟨k0, k1, k2⟩ := hk.2 3 (by omega); have hgl := hk.1; clear hk hg; have kb := Lx.bCall (P := fun wx => wx.cell? ⟨w.heap.size, 0, none⟩ = some (.int .i64 3)) (by assumption) c2; have hz2 := kb.size; have hs2 := c2.size; simp at hs2; have kS := Lx.mkS HP.out kb; have b0 := fun i => c2.cell (p := ⟨w1.heap.size, i, none⟩); have f0 := fun i => c2.frozen (p := ⟨w1.heap.size, i, none⟩)
            try go_wp2_with fail
            refine hK.out _ _ ?_ (fun hHeld => ?_)
            · (first | assumption | (refine Lx.mkS HP.out ?_; repeat (first | assumption | exact Below.refl _ _ | apply Lx.bDrew | apply Lx.bAlloc | (apply Lx.bSet; (first | exact Nat.le_refl _ | assumption)))))
            clear hK K
            try simp only [Act.put, List.setIfInBounds_toArray, List.set_cons_zero, List.set_cons_succ]
            refine' wpAnyH_take (i := 3) (oi := _) (v := _) ?hiz37 (by kernel_rfl) (by kernel_rfl) (by kernel_rfl) ?hqz37 ?hyz37 (by assumption) ?rez37
            case hiz37 => simp only [List.getElem?_toArray, List.getElem?_cons_succ, List.getElem?_cons_zero]; rfl
            case hqz37 => exact fun _ _ _ h => h
            case hyz37 =>
              refine Or.inl ⟨by rfl, ?_⟩
              intro w hSw; (try dsimp only at hSw); go_simp; try with_reducible rfl
            case rez37 =>
              try simp only [Act.put, List.setIfInBounds_toArray, List.set_cons_zero, List.set_cons_succ]
              refine wpAnyH_ready (rs := [4]) (by kernel_rfl) (by simp) ?_
              refine' AllReadyH.cons (o := _) ?hi4z38 (fun K hK => ?st4z38) AllReadyH.nil
              case hi4z38 => simp only [List.getElem?_toArray, List.getElem?_cons_succ, List.getElem?_cons_zero]; rfl
              case st4z38 =>
                go_simp
                try go_wp2_with fail
                refine hK.out _ _ ?_ (fun hHeld => ?_)
                · (first | assumption | (refine Lx.mkS HP.out ?_; repeat (first | assumption | exact Below.refl _ _ | apply Lx.bDrew | apply Lx.bAlloc | (apply Lx.bSet; (first | exact Nat.le_refl _ | assumption)))))
                clear hK K
                try simp only [Act.put, List.setIfInBounds_toArray, List.set_cons_zero, List.set_cons_succ]
                refine wpAnyH_ready (rs := [6]) (by kernel_rfl) (by simp) ?_
                refine' AllReadyH.cons (o := _) ?hi6z39 (fun K hK => ?st6z39) AllReadyH.nil
                case hi6z39 => simp only [List.getElem?_toArray, List.getElem?_cons_succ, List.getElem?_cons_zero]; rfl
                case st6z39 =>
                  go_simp
                  try go_wp2_with fail
                  refine hK.out _ _ ?_ (fun hHeld => ?_)
                  · (first | assumption | (refine Lx.mkS HP.out ?_; repeat (first | assumption | exact Below.refl _ _ | apply Lx.bDrew | apply Lx.bAlloc | (apply Lx.bSet; (first | exact Nat.le_refl _ | assumption)))))
                  clear hK K
                  try simp only [Act.put, List.setIfInBounds_toArray, List.set_cons_zero, List.set_cons_succ]
                  refine wpAnyH_done (by kernel_rfl) ?_ _
                  go_wp2_with fail
                  go_meet
                  first | exact ⟨_, rfl, by omega, ⟨by simp, by simp, by simp, by simp⟩, And.left (by assumption)⟩ | (refine ⟨_, rfl, hl1, ⟨?_, ?_, ?_, ?_⟩, And.left (by assumption)⟩ <;> first | (go_simp; done) | (rw [Lx.size_set, Lx.size_set, Lx.size_set]; omega))
  case rest =>
    obtain ⟨kb, rfl, hkb, ⟨hkl, k0, k1, k2⟩, hbc⟩ := hcut
    obtain ⟨W0, rfl⟩ : ∃ W, W = wc := ⟨_, rfl⟩
    have BO := Lib.hid (BO1.out.below hbc)
    have BC := Lib.hid (B1.out.trans (hbc.mono B1.out.size))
    have hl := BO.out.1
    clear BO1 B1 hbc q0 hl1 HC
    obtain ⟨q0, q1, q2, q3, q4, q5, q6, q7⟩ := BO.out.eight
    go_upto_region 5 with (fail)
    go_cut [8] (fun s8 wx => wx.ownsRow W0.heap.size 9 1 s8 2 [.string ⟨(Lib.itoa t).toArray⟩, .string ⟨(Lx.evWord (3 : Nat)).toArray⟩] ∧ Below W0.heap.size W0 wx)
    case first =>
      have HP := Lib.hid (fun W (hb : Below W0.heap.size W0 W) => And.intro ((hb.cell (p := ⟨w.heap.size, 1, none⟩) hl).trans q1) ((hb.cell (p := ⟨kb, 0, none⟩) hkl).trans k0))
      have hS0 : (fun wx => Below W0.heap.size W0 wx ∧ wx.cell? ⟨w.heap.size, 1, none⟩ = some (.int .i64 t) ∧ wx.cell? ⟨kb, 0, none⟩ = some (.string ⟨(Lx.evWord (3 : Nat)).toArray⟩)) W0.drew := ⟨(Below.refl _ _).drew, q1, k0⟩
      dsimp only at hS0
      go_region_held3 (fun wx => Below W0.heap.size W0 wx ∧ wx.cell? ⟨w.heap.size, 1, none⟩ = some (.int .i64 t) ∧ wx.cell? ⟨kb, 0, none⟩ = some (.string ⟨(Lx.evWord (3 : Nat)).toArray⟩))
        (first | assumption | (refine Lx.mkS HP.out ?_; repeat (first | assumption | exact Below.refl _ _ | apply Lx.bDrew | apply Lx.bAlloc | (apply Lx.bSet; (first | exact Nat.le_refl _ | assumption)))))
        (first
          | (go_at_call 50; refine (HT.out _ (env.below (BC.out.trans (Below.mono (And.left (by assumption)) BC.out.size)))).mono ?_; rintro e w2 ⟨rfl, c2⟩; have kb2 := Lx.bCall (P := fun wx => wx.cell? ⟨w.heap.size, 1, none⟩ = some (.int .i64 t) ∧ wx.cell? ⟨kb, 0, none⟩ = some (.string ⟨(Lx.evWord (3 : Nat)).toArray⟩)) (by assumption) c2; have hz2 := kb2.size; have kS := Lx.mkS HP.out kb2))
      all_goals (go_wp2_with fail; go_meet)
      all_goals exact ⟨Lx.ownLit _ _ (by assumption) [.string ⟨(Lib.itoa t).toArray⟩, .string ⟨(Lx.evWord (3 : Nat)).toArray⟩] 9 (by unfold maxLen; simp), And.left (by assumption)⟩
    case rest =>
      obtain ⟨W1, rfl⟩ : ∃ W, W = wc := ⟨_, rfl⟩
      have k1' : W0.cell? ⟨kb, 1, none⟩ = some (.int .i64 7) := k1
      have B1 := Lib.hid hcut.2
      obtain ⟨a1, c1, rfl⟩ := Lx.ownSlice hcut.1
      have R1 := Lib.hid hcut.1
      clear hcut q0 q1 q2 q3 q4 q5 q6 q7 k0 k1 k2 HT
      obtain ⟨q0, q1, q2, q3, q4, q5, q6, q7⟩ := (BO.out.below B1.out).eight
      have k1 := (B1.out.cell (p := ⟨kb, 1, none⟩) hkl).trans k1'
      have xn := HNM.out W1 (BC.out.trans (B1.out.mono BC.out.size))
      go_wp2_with (at_builtin; refine wpList_append_own _ rfl _ _ 22 rfl W0.heap.size 9 i0 _ 1 16 Tryz.underlying22 hi hz0 hz1 hz2 rfl (by decide) _ _ _ rfl (R1.out.alloc _) ⟨W1.heap.size, 0, none⟩ 1 1 [.string x] rfl rfl (Lx.cellNew W1 (.string x) 9) (by simp [Value.oneCell']) (by unfold maxLen; omega) (by omega) ((B1.out.alloc B1.out.size _).size) ?_)
      intro v' W2 hown2 hgrow _
      obtain ⟨a2, c2, rfl⟩ := Lx.ownSlice hown2
      have R2 := Lib.hid hown2
      have B2 := Lib.hid ((B1.out.alloc B1.out.size (.cells #[.string x] 9)).grown hgrow (B1.out.alloc B1.out.size _).size (Lx.ownBase R1.out))
      clear hgrow hown2 q0 q1 q2 q3 q4 q5 q6 q7 k1 R1
      clear xn
      obtain ⟨q0, q1, q2, q3, q4, q5, q6, q7⟩ := (BO.out.below B2.out).eight
      have k1 := (B2.out.cell (p := ⟨kb, 1, none⟩) hkl).trans k1'
      have q3z := (BO.out.eight).2.2.2.1
      have q4z := (BO.out.eight).2.2.2.2.1
      go_upto_region 11 with (fail)
      go_cut [8] (fun s8 wx => wx.ownsRow W0.heap.size 9 1 s8 5 [.string ⟨(Lib.itoa t).toArray⟩, .string ⟨(Lx.evWord (3 : Nat)).toArray⟩, .string x, .string ⟨(Lib.itoa d).toArray⟩, .string ⟨(Lib.itoa a).toArray⟩] ∧ Below W0.heap.size W0 wx)
      case first =>
        have HP := Lib.hid (fun W (hb : Below W0.heap.size W0 W) => And.intro ((hb.cell (p := ⟨w.heap.size, 3, none⟩) hl).trans q3z) ((hb.cell (p := ⟨w.heap.size, 4, none⟩) hl).trans q4z))
        have hS0 : (fun wx => Below W0.heap.size W0 wx ∧ wx.cell? ⟨w.heap.size, 3, none⟩ = some (.int .i64 d) ∧ wx.cell? ⟨w.heap.size, 4, none⟩ = some (.int .i64 a)) W2.drew := ⟨B2.out.drew, q3, q4⟩
        dsimp only at hS0
        have r0 : W2.drew.ownsRow W0.heap.size 9 1 (.slice a2 3 c2) 3 [.string ⟨(Lib.itoa t).toArray⟩, .string ⟨(Lx.evWord (3 : Nat)).toArray⟩, .string x] := R2.out
        clear q0 q1 q2 q3 q4 q5 q6 q7 k1 q3z q4z
        go_region_held3 (fun wx => Below W0.heap.size W0 wx ∧ wx.cell? ⟨w.heap.size, 3, none⟩ = some (.int .i64 d) ∧ wx.cell? ⟨w.heap.size, 4, none⟩ = some (.int .i64 a))
          (first | assumption | (refine Lx.mkS HP.out ?_; repeat (first | assumption | exact Below.refl _ _ | apply Lx.bDrew | apply Lx.bAlloc | (apply Lx.bSet; (first | exact Nat.le_refl _ | assumption)))))
          (first
            | (go_at_call 50; with_reducible refine (HD.out _ ?_).mono ?_; exact (env.below (BC.out.trans (Below.mono (And.left (by assumption)) BC.out.size))); rintro e w2 ⟨rfl, cb⟩; have kb2 := Lx.bCall (P := fun wx => wx.cell? ⟨w.heap.size, 3, none⟩ = some (.int .i64 d) ∧ wx.cell? ⟨w.heap.size, 4, none⟩ = some (.int .i64 a)) (by assumption) cb; have hzz := kb2.size; have kS := Lx.mkS HP.out kb2; have r2 : w2.ownsRow W0.heap.size 9 1 (.slice a2 3 c2) 3 [.string ⟨(Lib.itoa t).toArray⟩, .string ⟨(Lx.evWord (3 : Nat)).toArray⟩, .string x] := Lx.ownBelowO (by assumption) cb; clear cb)
            | (go_at_call 50; with_reducible refine (HA.out _ ?_).mono ?_; exact (env.below (BC.out.trans (Below.mono (And.left (by assumption)) BC.out.size))); rintro e w3 ⟨rfl, cb⟩; have kb2 := Lx.bCall (P := fun wx => wx.cell? ⟨w.heap.size, 3, none⟩ = some (.int .i64 d) ∧ wx.cell? ⟨w.heap.size, 4, none⟩ = some (.int .i64 a)) (by assumption) cb; have hzz := kb2.size; have kS := Lx.mkS HP.out kb2; have r2 : w3.ownsRow W0.heap.size 9 1 (.slice a2 3 c2) 3 [.string ⟨(Lib.itoa t).toArray⟩, .string ⟨(Lx.evWord (3 : Nat)).toArray⟩, .string x] := Lx.ownBelowO (by assumption) cb; clear cb)
            | (refine step_append_lies _ (by rfl) _ _ _ (by rfl) W0.heap.size 9 i0 _ 1 16 Tryz.underlying22 hi hz0 hz1 hz2 rfl (by decide) (.slice a2 3 c2) 3 [.string ⟨(Lib.itoa t).toArray⟩, .string ⟨(Lx.evWord (3 : Nat)).toArray⟩, .string x] (by rfl) (Lx.ownAllocO (by assumption)) ⟨w3.heap.size, 0, none⟩ 2 2 [.string ⟨(Lib.itoa d).toArray⟩, .string ⟨(Lib.itoa a).toArray⟩] (by rfl) (by rfl) (Lx.cellNew2 w3 _ _ _) (by simp [Value.oneCell']) (by omega) (by unfold maxLen; omega) (by omega) (Nat.le_trans hzz (by simp)) (w3.heap.size + 1) (by simp) ?_; intro g cap w4 hown4 hgrow hat hlt; have kb4 := Below.grown (Lx.bLeft (P := fun wx => wx.cell? ⟨w.heap.size, 3, none⟩ = some (.int .i64 d) ∧ wx.cell? ⟨w.heap.size, 4, none⟩ = some (.int .i64 a)) (by assumption)) hgrow (Nat.le_trans hzz (by simp)) (Lx.ownBase r2); have kS := Lx.mkS HP.out kb4))
        all_goals (go_wp2_with fail; go_meet)
        all_goals exact ⟨by assumption, And.left (by assumption)⟩
      case rest =>
        obtain ⟨W3, rfl⟩ : ∃ W, W = wc := ⟨_, rfl⟩
        obtain ⟨a3, c3, rfl⟩ := Lx.ownSlice hcut.1
        have B3 := Lib.hid hcut.2
        have R3 := Lib.hid hcut.1
        clear hcut q0 q1 q2 q3 q4 q5 q6 q7 k1 R2 q3z q4z
        obtain ⟨q0, q1, q2, q3, q4, q5, q6, q7⟩ := (BO.out.below B3.out).eight
        have k1 := (B3.out.cell (p := ⟨kb, 1, none⟩) hkl).trans k1'
        go_wp2_with fail
        refine (HR.out _ (env.below (BC.out.trans (B3.out.mono BC.out.size)))).mono ?_
        rintro e W4 ⟨rfl, c4⟩
        have R4 := Lib.hid (Lx.ownBelowO R3.out c4)
        have B4 := Lib.hid (B3.out.trans (c4.mono B3.out.size))
        clear c4 q0 q1 q2 q3 q4 q5 q6 q7 k1 R3
        obtain ⟨q0, q1, q2, q3, q4, q5, q6, q7⟩ := (BO.out.below B4.out).eight
        have k1 := (B4.out.cell (p := ⟨kb, 1, none⟩) hkl).trans k1'
        go_wp2_with (at_builtin; refine wpList_append_own _ rfl _ _ 22 rfl W0.heap.size 9 i0 _ 1 16 Tryz.underlying22 hi hz0 hz1 hz2 rfl (by decide) _ _ _ rfl (R4.out.alloc _) ⟨W4.heap.size, 0, none⟩ 1 1 [.string ⟨(Lib.itoa r).toArray⟩] rfl rfl (Lx.cellNew W4 (.string ⟨(Lib.itoa r).toArray⟩) 9) (by simp [Value.oneCell']) (by unfold maxLen; omega) (by omega) ((B4.out.alloc B4.out.size _).size) ?_)
        intro v' W5 hown5 hgrow _
        obtain ⟨a5, c5, rfl⟩ := Lx.ownSlice hown5
        have R5 := Lib.hid hown5
        have B5 := Lib.hid ((B4.out.alloc B4.out.size (.cells #[.string ⟨(Lib.itoa r).toArray⟩] 9)).grown hgrow (B4.out.alloc B4.out.size _).size (Lx.ownBase R4.out))
        clear hgrow hown5 q0 q1 q2 q3 q4 q5 q6 q7 k1 R4
        obtain ⟨q0, q1, q2, q3, q4, q5, q6, q7⟩ := (BO.out.below B5.out).eight
        have k1 := (B5.out.cell (p := ⟨kb, 1, none⟩) hkl).trans k1'
        obtain ⟨g8, c8, he8, lt8, hc8⟩ := Lx.ownPos R5.out (by omega)
        obtain ⟨rfl, rfl⟩ : a5 = some ⟨g8, 0, none⟩ ∧ c5 = c8 := by simpa using he8
        have hcap := Lx.ownCap R5.out
        clear he8
        go_wp2_with fail
        refine (Tryz.strings_Join g8 0 c5 [⟨(Lib.itoa t).toArray⟩, ⟨(Lx.evWord (3 : Nat)).toArray⟩, x, ⟨(Lib.itoa d).toArray⟩, ⟨(Lib.itoa a).toArray⟩, ⟨(Lib.itoa r).toArray⟩] ⟨#[32]⟩ _ ?_ lt8 (by simp) hcap ?_).mono ?_
        · intro j z hz; rw [Nat.zero_add]; exact hc8 j _ (by
        have h9 : (([⟨(Lib.itoa t).toArray⟩, ⟨(Lx.evWord (3 : Nat)).toArray⟩, x, ⟨(Lib.itoa d).toArray⟩, ⟨(Lib.itoa a).toArray⟩, ⟨(Lib.itoa r).toArray⟩] : List ByteArray).map Value.string)[j]? = some (.string z) := by rw [List.getElem?_map, hz]; rfl
        exact h9)
        · rw [show (⟨#[32]⟩ : ByteArray).data.toList = [32] from rfl, Lx.join_joinSp]; exact HLEN.out
        rintro e W9 ⟨rfl, c9⟩
        go_wp2_with fail
        go_ret2
        exact ⟨Lx.ret_t2 (Lx.v_str (congrArg (fun l : List UInt8 => (⟨l.toArray⟩ : ByteArray)) (Lx.join_joinSp _))) rfl, (BC.out.trans (B5.out.mono BC.out.size)).trans (c9.mono (BC.out.trans (B5.out.mono BC.out.size)).size)⟩
set_option maxRecDepth 100000 in
set_option maxHeartbeats 1600000 in
theorem write_4 (t d a n : Int) (p : Nat) (x : ByteArray) (hxs : x.size ≤ 24) (ad : Option Addr) (m cap : Nat) (NS : List ByteArray) (w : World) (env : EEnv w)  (h : Lx.IsNames w ad m NS) (hx : NS[p]? = some x) (g : Lx.Good ⟨4, t, (p : Nat), d, a, 0, 0, n⟩) :
    Calls Tryz.prog 30 #[.agg #[.int .i64 4, .int .i64 t, .int .i64 (p : Nat), .int .i64 d, .int .i64 a, .int .i64 0, .int .i64 0, .int .i64 n], .slice ad m cap] w (WriteIs (Lx.evText ⟨4, t, (p : Nat), d, a, 0, 0, n⟩ x.data.toList) 0 w) := by
  have HC := Lib.hid (fun W => evcheck_any ⟨4, t, (p : Nat), d, a, 0, 0, n⟩ W)
  rw [(Lx.evErr_good _).2 g] at HC
  unfold Lx.EvV.val EvCheckIs at HC
  have gi := Lx.good_in g
  have HT := Lib.hid (fun W (E : EEnv W) => digits_any t W gi.2.1.1 gi.2.1.2 E.env)
  have HD := Lib.hid (fun W (E : EEnv W) => digits_any d W gi.2.2.2.1.1 gi.2.2.2.1.2 E.env)
  have HA := Lib.hid (fun W (E : EEnv W) => digits_any a W gi.2.2.2.2.1.1 gi.2.2.2.2.1.2 E.env)
  have HN := Lib.hid (fun W (E : EEnv W) => until_any n W E.env gi.2.2.2.2.2.2.2)
  dsimp only at HC HT HD HA HN
  have hba : Below w.heap.size w (w.alloc (.cells #[.int .i64 4, .int .i64 t, .int .i64 (p : Nat), .int .i64 d, .int .i64 a, .int .i64 0, .int .i64 0, .int .i64 n] 26)) := (Below.refl _ w).alloc (Nat.le_refl _) _
  have BO0 := Lib.hid (Lx.EvBox.new w 4 t (p : Nat) d a 0 0 n 26)
  have B0 := Lib.hid hba
  have hpm : p < m := by rw [← h.1]; exact (List.getElem?_eq_some_iff.1 hx).1
  obtain ⟨gn, offn, rfl, ltn, hcn⟩ := h.2 (by omega)
  have HNM := Lib.hid (show ∀ W, Below w.heap.size w W → W.cell? ⟨gn, offn + p, none⟩ = some (.string x) from fun W hb => (hb.cell (p := ⟨gn, offn + p, none⟩) ltn).trans (hcn p x hx))
  have hpi : (p : Int) < (m : Int) := by omega
  have hpd : decide ((m : Int) ≤ (p : Int)) = false := decide_eq_false (by omega)
  clear hcn hx
  have HLEN := Lib.hid (show (Lx.evText ⟨4, t, (p : Nat), d, a, 0, 0, n⟩ x.data.toList).length ≤ 140737488355328 from by have := Lx.evText_len g (nm := x.data.toList) (by rw [← Lib.size_eq]; exact hxs); omega)
  obtain ⟨i0, hi, hz0, hz1, hz2⟩ := info_parts infoS
  clear g
  clear hba gi h
  go_enter Tryz.func30, Tryz.ntmps30
  obtain ⟨q0, q1, q2, q3, q4, q5, q6, q7⟩ := BO0.out.eight
  go_wp2_with fail
  refine (HC.out _).mono ?_
  rintro e w1 ⟨rfl, c1⟩
  have BO1 := Lib.hid (BO0.out.below c1)
  have B1 := Lib.hid (B0.out.trans (c1.mono B0.out.size))
  clear BO0 B0 c1 q0 q1 q2 q3 q4 q5 q6 q7
  obtain ⟨q0, -, -, -, -, -, -, -⟩ := BO1.out.eight
  have hl1 := BO1.out.1
  go_upto_region 4 with (fail)
  go_cut [7] (fun s7 wx => ∃ kb : Nat, s7 = .pointer (some ⟨kb, 0, none⟩) ∧ w.heap.size < kb ∧ Lx.KBox wx kb 4 ∧ Below w1.heap.size w1 wx)
  case first =>
    have HP := Lib.hid (fun W (hb : Below w1.heap.size w1 W) => (hb.cell (p := ⟨w.heap.size, 0, none⟩) hl1).trans q0)
    have hS0 : (fun wx => Below w1.heap.size w1 wx ∧ wx.cell? ⟨w.heap.size, 0, none⟩ = some (.int .i64 4)) w1.drew := ⟨(Below.refl _ _).drew, q0⟩
    dsimp only at hS0
    refine wp_region_held_drew (S := (fun wx => Below w1.heap.size w1 wx ∧ wx.cell? ⟨w.heap.size, 0, none⟩ = some (.int .i64 4))) (by kernel_rfl) ?_ (fun hHeld => ?_)
    · exact hS0
    refine' wpAnyH_take (i := 1) (oi := _) (v := _) ?hiz40 (by kernel_rfl) (by kernel_rfl) (by kernel_rfl) ?hqz40 ?hyz40 (by assumption) ?rez40
    case hiz40 => simp only [List.getElem?_toArray, List.getElem?_cons_succ, List.getElem?_cons_zero]; rfl
    case hqz40 => exact fun _ _ _ h => h
    case hyz40 =>
      refine Or.inl ⟨by rfl, ?_⟩
      intro w hSw; (try dsimp only at hSw); go_simp; try with_reducible rfl
    case rez40 =>
      try simp only [Act.put, List.setIfInBounds_toArray, List.set_cons_zero, List.set_cons_succ]
      refine' wpAnyH_take (i := 2) (oi := _) (v := _) ?hiz41 (by kernel_rfl) (by kernel_rfl) (by kernel_rfl) ?hqz41 ?hyz41 (by assumption) ?rez41
      case hiz41 => simp only [List.getElem?_toArray, List.getElem?_cons_succ, List.getElem?_cons_zero]; rfl
      case hqz41 => exact fun _ _ _ h => h
      case hyz41 =>
        refine Or.inl ⟨by rfl, ?_⟩
        intro w hSw; (try dsimp only at hSw); go_simp; try with_reducible rfl
      case rez41 =>
        try simp only [Act.put, List.setIfInBounds_toArray, List.set_cons_zero, List.set_cons_succ]
        refine wpAnyH_ready (rs := [0, 5]) (by kernel_rfl) (by simp) ?_
        refine' AllReadyH.cons (o := _) ?hi0z42 (fun K hK => ?st0z42) (AllReadyH.cons (o := _) ?hi5z42 (fun K hK => ?st5z42) AllReadyH.nil)
        case hi0z42 => simp only [List.getElem?_toArray, List.getElem?_cons_zero]; rfl
        case hi5z42 => simp only [List.getElem?_toArray, List.getElem?_cons_succ, List.getElem?_cons_zero]; rfl
        case st0z42 =>
          go_simp
          go_at_call 37; refine (kinds_any _).mono ?_; rintro e w2 ⟨g, rfl, hg, hk, c2⟩; obtain ⟨k0, k1, k2⟩ := hk.2 4 (by omega); have hgl := hk.1; clear hk hg; have kb := Lx.bCall (P := fun wx => wx.cell? ⟨w.heap.size, 0, none⟩ = some (.int .i64 4)) (by assumption) c2; have hz2 := kb.size; have hs2 := c2.size; simp at hs2; have kS := Lx.mkS HP.out kb; have b0 := fun i => c2.cell (p := ⟨w1.heap.size, i, none⟩); have f0 := fun i => c2.frozen (p := ⟨w1.heap.size, i, none⟩)
          try go_wp2_with fail
          refine hK.out _ _ ?_ (fun hHeld => ?_)
          · (first | assumption | (refine Lx.mkS HP.out ?_; repeat (first | assumption | exact Below.refl _ _ | apply Lx.bDrew | apply Lx.bAlloc | (apply Lx.bSet; (first | exact Nat.le_refl _ | assumption)))))
          clear hK K
          try simp only [Act.put, List.setIfInBounds_toArray, List.set_cons_zero, List.set_cons_succ]
          refine' wpAnyH_take (i := 3) (oi := _) (v := _) ?hiz43 (by kernel_rfl) (by kernel_rfl) (by kernel_rfl) ?hqz43 ?hyz43 (by assumption) ?rez43
          case hiz43 => simp only [List.getElem?_toArray, List.getElem?_cons_succ, List.getElem?_cons_zero]; rfl
          case hqz43 => exact fun _ _ _ h => h
          case hyz43 =>
            refine Or.inl ⟨by rfl, ?_⟩
            intro w hSw; (try dsimp only at hSw); go_simp; try with_reducible rfl
          case rez43 =>
            try simp only [Act.put, List.setIfInBounds_toArray, List.set_cons_zero, List.set_cons_succ]
            refine wpAnyH_ready (rs := [4, 5]) (by kernel_rfl) (by simp) ?_
            refine' AllReadyH.cons (o := _) ?hi4z44 (fun K hK => ?st4z44) (AllReadyH.cons (o := _) ?hi5z44 (fun K hK => ?st5z44) AllReadyH.nil)
            case hi4z44 => simp only [List.getElem?_toArray, List.getElem?_cons_succ, List.getElem?_cons_zero]; rfl
            case hi5z44 => simp only [List.getElem?_toArray, List.getElem?_cons_succ, List.getElem?_cons_zero]; rfl
            case st4z44 =>
              go_simp
              try go_wp2_with fail
              refine hK.out _ _ ?_ (fun hHeld => ?_)
              · (first | assumption | (refine Lx.mkS HP.out ?_; repeat (first | assumption | exact Below.refl _ _ | apply Lx.bDrew | apply Lx.bAlloc | (apply Lx.bSet; (first | exact Nat.le_refl _ | assumption)))))
              clear hK K
              try simp only [Act.put, List.setIfInBounds_toArray, List.set_cons_zero, List.set_cons_succ]
              refine wpAnyH_ready (rs := [5]) (by kernel_rfl) (by simp) ?_
              refine' AllReadyH.cons (o := _) ?hi5z45 (fun K hK => ?st5z45) AllReadyH.nil
              case hi5z45 => simp only [List.getElem?_toArray, List.getElem?_cons_succ, List.getElem?_cons_zero]; rfl
              case st5z45 =>
                go_simp
                try go_wp2_with fail
                refine hK.out _ _ ?_ (fun hHeld => ?_)
                · (first | assumption | (refine Lx.mkS HP.out ?_; repeat (first | assumption | exact Below.refl _ _ | apply Lx.bDrew | apply Lx.bAlloc | (apply Lx.bSet; (first | exact Nat.le_refl _ | assumption)))))
                clear hK K
                try simp only [Act.put, List.setIfInBounds_toArray, List.set_cons_zero, List.set_cons_succ]
                refine wpAnyH_ready (rs := [6]) (by kernel_rfl) (by simp) ?_
                refine' AllReadyH.cons (o := _) ?hi6z46 (fun K hK => ?st6z46) AllReadyH.nil
                case hi6z46 => simp only [List.getElem?_toArray, List.getElem?_cons_succ, List.getElem?_cons_zero]; rfl
                case st6z46 =>
                  go_simp
                  try go_wp2_with fail
                  refine hK.out _ _ ?_ (fun hHeld => ?_)
                  · (first | assumption | (refine Lx.mkS HP.out ?_; repeat (first | assumption | exact Below.refl _ _ | apply Lx.bDrew | apply Lx.bAlloc | (apply Lx.bSet; (first | exact Nat.le_refl _ | assumption)))))
                  clear hK K
                  try simp only [Act.put, List.setIfInBounds_toArray, List.set_cons_zero, List.set_cons_succ]
                  refine wpAnyH_done (by kernel_rfl) ?_ _
                  go_wp2_with fail
                  go_meet
                  first | exact ⟨_, rfl, by omega, ⟨by simp, by simp, by simp, by simp⟩, And.left (by assumption)⟩ | (refine ⟨_, rfl, hl1, ⟨?_, ?_, ?_, ?_⟩, And.left (by assumption)⟩ <;> first | (go_simp; done) | (rw [Lx.size_set, Lx.size_set, Lx.size_set]; omega))
            case st5z44 =>
              go_simp
              try go_wp2_with fail
              refine hK.out _ _ ?_ (fun hHeld => ?_)
              · (first | assumption | (refine Lx.mkS HP.out ?_; repeat (first | assumption | exact Below.refl _ _ | apply Lx.bDrew | apply Lx.bAlloc | (apply Lx.bSet; (first | exact Nat.le_refl _ | assumption)))))
              clear hK K
              try simp only [Act.put, List.setIfInBounds_toArray, List.set_cons_zero, List.set_cons_succ]
              refine wpAnyH_ready (rs := [4]) (by kernel_rfl) (by simp) ?_
              refine' AllReadyH.cons (o := _) ?hi4z47 (fun K hK => ?st4z47) AllReadyH.nil
              case hi4z47 => simp only [List.getElem?_toArray, List.getElem?_cons_succ, List.getElem?_cons_zero]; rfl
              case st4z47 =>
                go_simp
                try go_wp2_with fail
                refine hK.out _ _ ?_ (fun hHeld => ?_)
                · (first | assumption | (refine Lx.mkS HP.out ?_; repeat (first | assumption | exact Below.refl _ _ | apply Lx.bDrew | apply Lx.bAlloc | (apply Lx.bSet; (first | exact Nat.le_refl _ | assumption)))))
                clear hK K
                try simp only [Act.put, List.setIfInBounds_toArray, List.set_cons_zero, List.set_cons_succ]
                refine wpAnyH_ready (rs := [6]) (by kernel_rfl) (by simp) ?_
                refine' AllReadyH.cons (o := _) ?hi6z48 (fun K hK => ?st6z48) AllReadyH.nil
                case hi6z48 => simp only [List.getElem?_toArray, List.getElem?_cons_succ, List.getElem?_cons_zero]; rfl
                case st6z48 =>
                  go_simp
                  try go_wp2_with fail
                  refine hK.out _ _ ?_ (fun hHeld => ?_)
                  · (first | assumption | (refine Lx.mkS HP.out ?_; repeat (first | assumption | exact Below.refl _ _ | apply Lx.bDrew | apply Lx.bAlloc | (apply Lx.bSet; (first | exact Nat.le_refl _ | assumption)))))
                  clear hK K
                  try simp only [Act.put, List.setIfInBounds_toArray, List.set_cons_zero, List.set_cons_succ]
                  refine wpAnyH_done (by kernel_rfl) ?_ _
                  go_wp2_with fail
                  go_meet
                  first | exact ⟨_, rfl, by omega, ⟨by simp, by simp, by simp, by simp⟩, And.left (by assumption)⟩ | (refine ⟨_, rfl, hl1, ⟨?_, ?_, ?_, ?_⟩, And.left (by assumption)⟩ <;> first | (go_simp; done) | (rw [Lx.size_set, Lx.size_set, Lx.size_set]; omega))
        case st5z42 =>
          go_simp
          try go_wp2_with fail
          refine hK.out _ _ ?_ (fun hHeld => ?_)
          · (first | assumption | (refine Lx.mkS HP.out ?_; repeat (first | assumption | exact Below.refl _ _ | apply Lx.bDrew | apply Lx.bAlloc | (apply Lx.bSet; (first | exact Nat.le_refl _ | assumption)))))
          clear hK K
          try simp only [Act.put, List.setIfInBounds_toArray, List.set_cons_zero, List.set_cons_succ]
          refine wpAnyH_ready (rs := [0]) (by kernel_rfl) (by simp) ?_
          refine' AllReadyH.cons (o := _) ?hi0z49 (fun K hK => ?st0z49) AllReadyH.nil
          case hi0z49 => simp only [List.getElem?_toArray, List.getElem?_cons_zero]; rfl
          case st0z49 =>
            go_simp
            go_at_call 37; refine (kinds_any _).mono ?_; rintro e w2 ⟨g, rfl, hg, hk, c2⟩; obtain ⟨k0, k1, k2⟩ := hk.2 4 (by omega); have hgl := hk.1; clear hk hg; have kb := Lx.bCall (P := fun wx => wx.cell? ⟨w.heap.size, 0, none⟩ = some (.int .i64 4)) (by assumption) c2; have hz2 := kb.size; have hs2 := c2.size; simp at hs2; have kS := Lx.mkS HP.out kb; have b0 := fun i => c2.cell (p := ⟨w1.heap.size, i, none⟩); have f0 := fun i => c2.frozen (p := ⟨w1.heap.size, i, none⟩)
            try go_wp2_with fail
            refine hK.out _ _ ?_ (fun hHeld => ?_)
            · (first | assumption | (refine Lx.mkS HP.out ?_; repeat (first | assumption | exact Below.refl _ _ | apply Lx.bDrew | apply Lx.bAlloc | (apply Lx.bSet; (first | exact Nat.le_refl _ | assumption)))))
            clear hK K
            try simp only [Act.put, List.setIfInBounds_toArray, List.set_cons_zero, List.set_cons_succ]
            refine' wpAnyH_take (i := 3) (oi := _) (v := _) ?hiz50 (by kernel_rfl) (by kernel_rfl) (by kernel_rfl) ?hqz50 ?hyz50 (by assumption) ?rez50
            case hiz50 => simp only [List.getElem?_toArray, List.getElem?_cons_succ, List.getElem?_cons_zero]; rfl
            case hqz50 => exact fun _ _ _ h => h
            case hyz50 =>
              refine Or.inl ⟨by rfl, ?_⟩
              intro w hSw; (try dsimp only at hSw); go_simp; try with_reducible rfl
            case rez50 =>
              try simp only [Act.put, List.setIfInBounds_toArray, List.set_cons_zero, List.set_cons_succ]
              refine wpAnyH_ready (rs := [4]) (by kernel_rfl) (by simp) ?_
              refine' AllReadyH.cons (o := _) ?hi4z51 (fun K hK => ?st4z51) AllReadyH.nil
              case hi4z51 => simp only [List.getElem?_toArray, List.getElem?_cons_succ, List.getElem?_cons_zero]; rfl
              case st4z51 =>
                go_simp
                try go_wp2_with fail
                refine hK.out _ _ ?_ (fun hHeld => ?_)
                · (first | assumption | (refine Lx.mkS HP.out ?_; repeat (first | assumption | exact Below.refl _ _ | apply Lx.bDrew | apply Lx.bAlloc | (apply Lx.bSet; (first | exact Nat.le_refl _ | assumption)))))
                clear hK K
                try simp only [Act.put, List.setIfInBounds_toArray, List.set_cons_zero, List.set_cons_succ]
                refine wpAnyH_ready (rs := [6]) (by kernel_rfl) (by simp) ?_
                refine' AllReadyH.cons (o := _) ?hi6z52 (fun K hK => ?st6z52) AllReadyH.nil
                case hi6z52 => simp only [List.getElem?_toArray, List.getElem?_cons_succ, List.getElem?_cons_zero]; rfl
                case st6z52 =>
                  go_simp
                  try go_wp2_with fail
                  refine hK.out _ _ ?_ (fun hHeld => ?_)
                  · (first | assumption | (refine Lx.mkS HP.out ?_; repeat (first | assumption | exact Below.refl _ _ | apply Lx.bDrew | apply Lx.bAlloc | (apply Lx.bSet; (first | exact Nat.le_refl _ | assumption)))))
                  clear hK K
                  try simp only [Act.put, List.setIfInBounds_toArray, List.set_cons_zero, List.set_cons_succ]
                  refine wpAnyH_done (by kernel_rfl) ?_ _
                  go_wp2_with fail
                  go_meet
                  first | exact ⟨_, rfl, by omega, ⟨by simp, by simp, by simp, by simp⟩, And.left (by assumption)⟩ | (refine ⟨_, rfl, hl1, ⟨?_, ?_, ?_, ?_⟩, And.left (by assumption)⟩ <;> first | (go_simp; done) | (rw [Lx.size_set, Lx.size_set, Lx.size_set]; omega))
  case rest =>
    obtain ⟨kb, rfl, hkb, ⟨hkl, k0, k1, k2⟩, hbc⟩ := hcut
    obtain ⟨W0, rfl⟩ : ∃ W, W = wc := ⟨_, rfl⟩
    have BO := Lib.hid (BO1.out.below hbc)
    have BC := Lib.hid (B1.out.trans (hbc.mono B1.out.size))
    have hl := BO.out.1
    clear BO1 B1 hbc q0 hl1 HC
    obtain ⟨q0, q1, q2, q3, q4, q5, q6, q7⟩ := BO.out.eight
    go_upto_region 5 with (fail)
    go_cut [8] (fun s8 wx => wx.ownsRow W0.heap.size 9 1 s8 2 [.string ⟨(Lib.itoa t).toArray⟩, .string ⟨(Lx.evWord (4 : Nat)).toArray⟩] ∧ Below W0.heap.size W0 wx)
    case first =>
      have HP := Lib.hid (fun W (hb : Below W0.heap.size W0 W) => And.intro ((hb.cell (p := ⟨w.heap.size, 1, none⟩) hl).trans q1) ((hb.cell (p := ⟨kb, 0, none⟩) hkl).trans k0))
      have hS0 : (fun wx => Below W0.heap.size W0 wx ∧ wx.cell? ⟨w.heap.size, 1, none⟩ = some (.int .i64 t) ∧ wx.cell? ⟨kb, 0, none⟩ = some (.string ⟨(Lx.evWord (4 : Nat)).toArray⟩)) W0.drew := ⟨(Below.refl _ _).drew, q1, k0⟩
      dsimp only at hS0
      go_region_held3 (fun wx => Below W0.heap.size W0 wx ∧ wx.cell? ⟨w.heap.size, 1, none⟩ = some (.int .i64 t) ∧ wx.cell? ⟨kb, 0, none⟩ = some (.string ⟨(Lx.evWord (4 : Nat)).toArray⟩))
        (first | assumption | (refine Lx.mkS HP.out ?_; repeat (first | assumption | exact Below.refl _ _ | apply Lx.bDrew | apply Lx.bAlloc | (apply Lx.bSet; (first | exact Nat.le_refl _ | assumption)))))
        (first
          | (go_at_call 50; refine (HT.out _ (env.below (BC.out.trans (Below.mono (And.left (by assumption)) BC.out.size)))).mono ?_; rintro e w2 ⟨rfl, c2⟩; have kb2 := Lx.bCall (P := fun wx => wx.cell? ⟨w.heap.size, 1, none⟩ = some (.int .i64 t) ∧ wx.cell? ⟨kb, 0, none⟩ = some (.string ⟨(Lx.evWord (4 : Nat)).toArray⟩)) (by assumption) c2; have hz2 := kb2.size; have kS := Lx.mkS HP.out kb2))
      all_goals (go_wp2_with fail; go_meet)
      all_goals exact ⟨Lx.ownLit _ _ (by assumption) [.string ⟨(Lib.itoa t).toArray⟩, .string ⟨(Lx.evWord (4 : Nat)).toArray⟩] 9 (by unfold maxLen; simp), And.left (by assumption)⟩
    case rest =>
      obtain ⟨W1, rfl⟩ : ∃ W, W = wc := ⟨_, rfl⟩
      have k1' : W0.cell? ⟨kb, 1, none⟩ = some (.int .i64 11) := k1
      have B1 := Lib.hid hcut.2
      obtain ⟨a1, c1, rfl⟩ := Lx.ownSlice hcut.1
      have R1 := Lib.hid hcut.1
      clear hcut q0 q1 q2 q3 q4 q5 q6 q7 k0 k1 k2 HT
      obtain ⟨q0, q1, q2, q3, q4, q5, q6, q7⟩ := (BO.out.below B1.out).eight
      have k1 := (B1.out.cell (p := ⟨kb, 1, none⟩) hkl).trans k1'
      have xn := HNM.out W1 (BC.out.trans (B1.out.mono BC.out.size))
      go_wp2_with (at_builtin; refine wpList_append_own _ rfl _ _ 22 rfl W0.heap.size 9 i0 _ 1 16 Tryz.underlying22 hi hz0 hz1 hz2 rfl (by decide) _ _ _ rfl (R1.out.alloc _) ⟨W1.heap.size, 0, none⟩ 1 1 [.string x] rfl rfl (Lx.cellNew W1 (.string x) 9) (by simp [Value.oneCell']) (by unfold maxLen; omega) (by omega) ((B1.out.alloc B1.out.size _).size) ?_)
      intro v' W2 hown2 hgrow _
      obtain ⟨a2, c2, rfl⟩ := Lx.ownSlice hown2
      have R2 := Lib.hid hown2
      have B2 := Lib.hid ((B1.out.alloc B1.out.size (.cells #[.string x] 9)).grown hgrow (B1.out.alloc B1.out.size _).size (Lx.ownBase R1.out))
      clear hgrow hown2 q0 q1 q2 q3 q4 q5 q6 q7 k1 R1
      clear xn
      obtain ⟨q0, q1, q2, q3, q4, q5, q6, q7⟩ := (BO.out.below B2.out).eight
      have k1 := (B2.out.cell (p := ⟨kb, 1, none⟩) hkl).trans k1'
      have q3z := (BO.out.eight).2.2.2.1
      have q4z := (BO.out.eight).2.2.2.2.1
      go_upto_region 11 with (fail)
      go_cut [8] (fun s8 wx => wx.ownsRow W0.heap.size 9 1 s8 5 [.string ⟨(Lib.itoa t).toArray⟩, .string ⟨(Lx.evWord (4 : Nat)).toArray⟩, .string x, .string ⟨(Lib.itoa d).toArray⟩, .string ⟨(Lib.itoa a).toArray⟩] ∧ Below W0.heap.size W0 wx)
      case first =>
        have HP := Lib.hid (fun W (hb : Below W0.heap.size W0 W) => And.intro ((hb.cell (p := ⟨w.heap.size, 3, none⟩) hl).trans q3z) ((hb.cell (p := ⟨w.heap.size, 4, none⟩) hl).trans q4z))
        have hS0 : (fun wx => Below W0.heap.size W0 wx ∧ wx.cell? ⟨w.heap.size, 3, none⟩ = some (.int .i64 d) ∧ wx.cell? ⟨w.heap.size, 4, none⟩ = some (.int .i64 a)) W2.drew := ⟨B2.out.drew, q3, q4⟩
        dsimp only at hS0
        have r0 : W2.drew.ownsRow W0.heap.size 9 1 (.slice a2 3 c2) 3 [.string ⟨(Lib.itoa t).toArray⟩, .string ⟨(Lx.evWord (4 : Nat)).toArray⟩, .string x] := R2.out
        clear q0 q1 q2 q3 q4 q5 q6 q7 k1 q3z q4z
        go_region_held3 (fun wx => Below W0.heap.size W0 wx ∧ wx.cell? ⟨w.heap.size, 3, none⟩ = some (.int .i64 d) ∧ wx.cell? ⟨w.heap.size, 4, none⟩ = some (.int .i64 a))
          (first | assumption | (refine Lx.mkS HP.out ?_; repeat (first | assumption | exact Below.refl _ _ | apply Lx.bDrew | apply Lx.bAlloc | (apply Lx.bSet; (first | exact Nat.le_refl _ | assumption)))))
          (first
            | (go_at_call 50; with_reducible refine (HD.out _ ?_).mono ?_; exact (env.below (BC.out.trans (Below.mono (And.left (by assumption)) BC.out.size))); rintro e w2 ⟨rfl, cb⟩; have kb2 := Lx.bCall (P := fun wx => wx.cell? ⟨w.heap.size, 3, none⟩ = some (.int .i64 d) ∧ wx.cell? ⟨w.heap.size, 4, none⟩ = some (.int .i64 a)) (by assumption) cb; have hzz := kb2.size; have kS := Lx.mkS HP.out kb2; have r2 : w2.ownsRow W0.heap.size 9 1 (.slice a2 3 c2) 3 [.string ⟨(Lib.itoa t).toArray⟩, .string ⟨(Lx.evWord (4 : Nat)).toArray⟩, .string x] := Lx.ownBelowO (by assumption) cb; clear cb)
            | (go_at_call 50; with_reducible refine (HA.out _ ?_).mono ?_; exact (env.below (BC.out.trans (Below.mono (And.left (by assumption)) BC.out.size))); rintro e w3 ⟨rfl, cb⟩; have kb2 := Lx.bCall (P := fun wx => wx.cell? ⟨w.heap.size, 3, none⟩ = some (.int .i64 d) ∧ wx.cell? ⟨w.heap.size, 4, none⟩ = some (.int .i64 a)) (by assumption) cb; have hzz := kb2.size; have kS := Lx.mkS HP.out kb2; have r2 : w3.ownsRow W0.heap.size 9 1 (.slice a2 3 c2) 3 [.string ⟨(Lib.itoa t).toArray⟩, .string ⟨(Lx.evWord (4 : Nat)).toArray⟩, .string x] := Lx.ownBelowO (by assumption) cb; clear cb)
            | (refine step_append_lies _ (by rfl) _ _ _ (by rfl) W0.heap.size 9 i0 _ 1 16 Tryz.underlying22 hi hz0 hz1 hz2 rfl (by decide) (.slice a2 3 c2) 3 [.string ⟨(Lib.itoa t).toArray⟩, .string ⟨(Lx.evWord (4 : Nat)).toArray⟩, .string x] (by rfl) (Lx.ownAllocO (by assumption)) ⟨w3.heap.size, 0, none⟩ 2 2 [.string ⟨(Lib.itoa d).toArray⟩, .string ⟨(Lib.itoa a).toArray⟩] (by rfl) (by rfl) (Lx.cellNew2 w3 _ _ _) (by simp [Value.oneCell']) (by omega) (by unfold maxLen; omega) (by omega) (Nat.le_trans hzz (by simp)) (w3.heap.size + 1) (by simp) ?_; intro g cap w4 hown4 hgrow hat hlt; have kb4 := Below.grown (Lx.bLeft (P := fun wx => wx.cell? ⟨w.heap.size, 3, none⟩ = some (.int .i64 d) ∧ wx.cell? ⟨w.heap.size, 4, none⟩ = some (.int .i64 a)) (by assumption)) hgrow (Nat.le_trans hzz (by simp)) (Lx.ownBase r2); have kS := Lx.mkS HP.out kb4))
        all_goals (go_wp2_with fail; go_meet)
        all_goals exact ⟨by assumption, And.left (by assumption)⟩
      case rest =>
        obtain ⟨W3, rfl⟩ : ∃ W, W = wc := ⟨_, rfl⟩
        obtain ⟨a3, c3, rfl⟩ := Lx.ownSlice hcut.1
        have B3 := Lib.hid hcut.2
        have R3 := Lib.hid hcut.1
        clear hcut q0 q1 q2 q3 q4 q5 q6 q7 k1 R2 q3z q4z
        obtain ⟨q0, q1, q2, q3, q4, q5, q6, q7⟩ := (BO.out.below B3.out).eight
        have k1 := (B3.out.cell (p := ⟨kb, 1, none⟩) hkl).trans k1'
        go_wp2_with fail
        refine (HN.out _ (env.below (BC.out.trans (B3.out.mono BC.out.size)))).mono ?_
        rintro e W4 ⟨rfl, c4⟩
        have R4 := Lib.hid (Lx.ownBelowO R3.out c4)
        have B4 := Lib.hid (B3.out.trans (c4.mono B3.out.size))
        clear c4 q0 q1 q2 q3 q4 q5 q6 q7 k1 R3
        obtain ⟨q0, q1, q2, q3, q4, q5, q6, q7⟩ := (BO.out.below B4.out).eight
        have k1 := (B4.out.cell (p := ⟨kb, 1, none⟩) hkl).trans k1'
        go_wp2_with (at_builtin; refine wpList_append_own _ rfl _ _ 22 rfl W0.heap.size 9 i0 _ 1 16 Tryz.underlying22 hi hz0 hz1 hz2 rfl (by decide) _ _ _ rfl (R4.out.alloc _) ⟨W4.heap.size, 0, none⟩ 1 1 [.string (bs (Lx.untilW n))] rfl rfl (Lx.cellNew W4 (.string (bs (Lx.untilW n))) 9) (by simp [Value.oneCell']) (by unfold maxLen; omega) (by omega) ((B4.out.alloc B4.out.size _).size) ?_)
        intro v' W5 hown5 hgrow _
        obtain ⟨a5, c5, rfl⟩ := Lx.ownSlice hown5
        have R5 := Lib.hid hown5
        have B5 := Lib.hid ((B4.out.alloc B4.out.size (.cells #[.string (bs (Lx.untilW n))] 9)).grown hgrow (B4.out.alloc B4.out.size _).size (Lx.ownBase R4.out))
        clear hgrow hown5 q0 q1 q2 q3 q4 q5 q6 q7 k1 R4
        obtain ⟨q0, q1, q2, q3, q4, q5, q6, q7⟩ := (BO.out.below B5.out).eight
        have k1 := (B5.out.cell (p := ⟨kb, 1, none⟩) hkl).trans k1'
        obtain ⟨g8, c8, he8, lt8, hc8⟩ := Lx.ownPos R5.out (by omega)
        obtain ⟨rfl, rfl⟩ : a5 = some ⟨g8, 0, none⟩ ∧ c5 = c8 := by simpa using he8
        have hcap := Lx.ownCap R5.out
        clear he8
        go_wp2_with fail
        refine (Tryz.strings_Join g8 0 c5 [⟨(Lib.itoa t).toArray⟩, ⟨(Lx.evWord (4 : Nat)).toArray⟩, x, ⟨(Lib.itoa d).toArray⟩, ⟨(Lib.itoa a).toArray⟩, (bs (Lx.untilW n))] ⟨#[32]⟩ _ ?_ lt8 (by simp) hcap ?_).mono ?_
        · intro j z hz; rw [Nat.zero_add]; exact hc8 j _ (by
        have h9 : (([⟨(Lib.itoa t).toArray⟩, ⟨(Lx.evWord (4 : Nat)).toArray⟩, x, ⟨(Lib.itoa d).toArray⟩, ⟨(Lib.itoa a).toArray⟩, (bs (Lx.untilW n))] : List ByteArray).map Value.string)[j]? = some (.string z) := by rw [List.getElem?_map, hz]; rfl
        exact h9)
        · rw [show (⟨#[32]⟩ : ByteArray).data.toList = [32] from rfl, Lx.join_joinSp]; exact HLEN.out
        rintro e W9 ⟨rfl, c9⟩
        go_wp2_with fail
        go_ret2
        exact ⟨Lx.ret_t2 (Lx.v_str (congrArg (fun l : List UInt8 => (⟨l.toArray⟩ : ByteArray)) (Lx.join_joinSp _))) rfl, (BC.out.trans (B5.out.mono BC.out.size)).trans (c9.mono (BC.out.trans (B5.out.mono BC.out.size)).size)⟩
set_option maxRecDepth 100000 in
set_option maxHeartbeats 1600000 in
theorem write_5 (t d a y : Int) (p : Nat) (x : ByteArray) (hxs : x.size ≤ 24) (ad : Option Addr) (m cap : Nat) (NS : List ByteArray) (w : World) (env : EEnv w)  (h : Lx.IsNames w ad m NS) (hx : NS[p]? = some x) (g : Lx.Good ⟨5, t, (p : Nat), d, a, 0, y, 0⟩) :
    Calls Tryz.prog 30 #[.agg #[.int .i64 5, .int .i64 t, .int .i64 (p : Nat), .int .i64 d, .int .i64 a, .int .i64 0, .int .i64 y, .int .i64 0], .slice ad m cap] w (WriteIs (Lx.evText ⟨5, t, (p : Nat), d, a, 0, y, 0⟩ x.data.toList) 0 w) := by
  have HC := Lib.hid (fun W => evcheck_any ⟨5, t, (p : Nat), d, a, 0, y, 0⟩ W)
  rw [(Lx.evErr_good _).2 g] at HC
  unfold Lx.EvV.val EvCheckIs at HC
  have gi := Lx.good_in g
  have HT := Lib.hid (fun W (E : EEnv W) => digits_any t W gi.2.1.1 gi.2.1.2 E.env)
  have HD := Lib.hid (fun W (E : EEnv W) => digits_any d W gi.2.2.2.1.1 gi.2.2.2.1.2 E.env)
  have HA := Lib.hid (fun W (E : EEnv W) => digits_any a W gi.2.2.2.2.1.1 gi.2.2.2.2.1.2 E.env)
  dsimp only at HC HT HD HA
  have hba : Below w.heap.size w (w.alloc (.cells #[.int .i64 5, .int .i64 t, .int .i64 (p : Nat), .int .i64 d, .int .i64 a, .int .i64 0, .int .i64 y, .int .i64 0] 26)) := (Below.refl _ w).alloc (Nat.le_refl _) _
  have BO0 := Lib.hid (Lx.EvBox.new w 5 t (p : Nat) d a 0 y 0 26)
  have B0 := Lib.hid hba
  have hpm : p < m := by rw [← h.1]; exact (List.getElem?_eq_some_iff.1 hx).1
  obtain ⟨gn, offn, rfl, ltn, hcn⟩ := h.2 (by omega)
  have HNM := Lib.hid (show ∀ W, Below w.heap.size w W → W.cell? ⟨gn, offn + p, none⟩ = some (.string x) from fun W hb => (hb.cell (p := ⟨gn, offn + p, none⟩) ltn).trans (hcn p x hx))
  have hpi : (p : Int) < (m : Int) := by omega
  have hpd : decide ((m : Int) ≤ (p : Int)) = false := decide_eq_false (by omega)
  clear hcn hx
  have HLEN := Lib.hid (show (Lx.evText ⟨5, t, (p : Nat), d, a, 0, y, 0⟩ x.data.toList).length ≤ 140737488355328 from by have := Lx.evText_len g (nm := x.data.toList) (by rw [← Lib.size_eq]; exact hxs); omega)
  obtain ⟨i0, hi, hz0, hz1, hz2⟩ := info_parts infoS
  obtain ⟨yn, rfl⟩ : ∃ yn : Nat, y = yn := ⟨y.toNat, by unfold Lx.Good at g; simp only at g; omega⟩
  have hy7 : yn < 7 := by unfold Lx.Good at g; simp only at g; omega
  have hy7i : (yn : Int) < 7 := by omega
  clear g
  clear hba gi h
  go_enter Tryz.func30, Tryz.ntmps30
  obtain ⟨q0, q1, q2, q3, q4, q5, q6, q7⟩ := BO0.out.eight
  go_wp2_with fail
  refine (HC.out _).mono ?_
  rintro e w1 ⟨rfl, c1⟩
  have BO1 := Lib.hid (BO0.out.below c1)
  have B1 := Lib.hid (B0.out.trans (c1.mono B0.out.size))
  clear BO0 B0 c1 q0 q1 q2 q3 q4 q5 q6 q7
  obtain ⟨q0, -, -, -, -, -, -, -⟩ := BO1.out.eight
  have hl1 := BO1.out.1
  go_upto_region 4 with (fail)
  go_cut [7] (fun s7 wx => ∃ kb : Nat, s7 = .pointer (some ⟨kb, 0, none⟩) ∧ w.heap.size < kb ∧ Lx.KBox wx kb 5 ∧ Below w1.heap.size w1 wx)
  case first =>
    have HP := Lib.hid (fun W (hb : Below w1.heap.size w1 W) => (hb.cell (p := ⟨w.heap.size, 0, none⟩) hl1).trans q0)
    have hS0 : (fun wx => Below w1.heap.size w1 wx ∧ wx.cell? ⟨w.heap.size, 0, none⟩ = some (.int .i64 5)) w1.drew := ⟨(Below.refl _ _).drew, q0⟩
    dsimp only at hS0
    refine wp_region_held_drew (S := (fun wx => Below w1.heap.size w1 wx ∧ wx.cell? ⟨w.heap.size, 0, none⟩ = some (.int .i64 5))) (by kernel_rfl) ?_ (fun hHeld => ?_)
    · exact hS0
    refine' wpAnyH_take (i := 1) (oi := _) (v := _) ?hiz53 (by kernel_rfl) (by kernel_rfl) (by kernel_rfl) ?hqz53 ?hyz53 (by assumption) ?rez53
    case hiz53 => simp only [List.getElem?_toArray, List.getElem?_cons_succ, List.getElem?_cons_zero]; rfl
    case hqz53 => exact fun _ _ _ h => h
    case hyz53 =>
      refine Or.inl ⟨by rfl, ?_⟩
      intro w hSw; (try dsimp only at hSw); go_simp; try with_reducible rfl
    case rez53 =>
      try simp only [Act.put, List.setIfInBounds_toArray, List.set_cons_zero, List.set_cons_succ]
      refine' wpAnyH_take (i := 2) (oi := _) (v := _) ?hiz54 (by kernel_rfl) (by kernel_rfl) (by kernel_rfl) ?hqz54 ?hyz54 (by assumption) ?rez54
      case hiz54 => simp only [List.getElem?_toArray, List.getElem?_cons_succ, List.getElem?_cons_zero]; rfl
      case hqz54 => exact fun _ _ _ h => h
      case hyz54 =>
        refine Or.inl ⟨by rfl, ?_⟩
        intro w hSw; (try dsimp only at hSw); go_simp; try with_reducible rfl
      case rez54 =>
        try simp only [Act.put, List.setIfInBounds_toArray, List.set_cons_zero, List.set_cons_succ]
        refine wpAnyH_ready (rs := [0, 5]) (by kernel_rfl) (by simp) ?_
        refine' AllReadyH.cons (o := _) ?hi0z55 (fun K hK => ?st0z55) (AllReadyH.cons (o := _) ?hi5z55 (fun K hK => ?st5z55) AllReadyH.nil)
        case hi0z55 => simp only [List.getElem?_toArray, List.getElem?_cons_zero]; rfl
        case hi5z55 => simp only [List.getElem?_toArray, List.getElem?_cons_succ, List.getElem?_cons_zero]; rfl
        case st0z55 =>
          go_simp
          go_at_call 37; refine (kinds_any _).mono ?_; rintro e w2 ⟨g, rfl, hg, hk, c2⟩; obtain ⟨k0, k1, k2⟩ := hk.2 5 (by omega); have hgl := hk.1; clear hk hg; have kb := Lx.bCall (P := fun wx => wx.cell? ⟨w.heap.size, 0, none⟩ = some (.int .i64 5)) (by assumption) c2; have hz2 := kb.size; have hs2 := c2.size; simp at hs2; have kS := Lx.mkS HP.out kb; have b0 := fun i => c2.cell (p := ⟨w1.heap.size, i, none⟩); have f0 := fun i => c2.frozen (p := ⟨w1.heap.size, i, none⟩)
          try go_wp2_with fail
          refine hK.out _ _ ?_ (fun hHeld => ?_)
          · (first | assumption | (refine Lx.mkS HP.out ?_; repeat (first | assumption | exact Below.refl _ _ | apply Lx.bDrew | apply Lx.bAlloc | (apply Lx.bSet; (first | exact Nat.le_refl _ | assumption)))))
          clear hK K
          try simp only [Act.put, List.setIfInBounds_toArray, List.set_cons_zero, List.set_cons_succ]
          refine' wpAnyH_take (i := 3) (oi := _) (v := _) ?hiz56 (by kernel_rfl) (by kernel_rfl) (by kernel_rfl) ?hqz56 ?hyz56 (by assumption) ?rez56
          case hiz56 => simp only [List.getElem?_toArray, List.getElem?_cons_succ, List.getElem?_cons_zero]; rfl
          case hqz56 => exact fun _ _ _ h => h
          case hyz56 =>
            refine Or.inl ⟨by rfl, ?_⟩
            intro w hSw; (try dsimp only at hSw); go_simp; try with_reducible rfl
          case rez56 =>
            try simp only [Act.put, List.setIfInBounds_toArray, List.set_cons_zero, List.set_cons_succ]
            refine wpAnyH_ready (rs := [4, 5]) (by kernel_rfl) (by simp) ?_
            refine' AllReadyH.cons (o := _) ?hi4z57 (fun K hK => ?st4z57) (AllReadyH.cons (o := _) ?hi5z57 (fun K hK => ?st5z57) AllReadyH.nil)
            case hi4z57 => simp only [List.getElem?_toArray, List.getElem?_cons_succ, List.getElem?_cons_zero]; rfl
            case hi5z57 => simp only [List.getElem?_toArray, List.getElem?_cons_succ, List.getElem?_cons_zero]; rfl
            case st4z57 =>
              go_simp
              try go_wp2_with fail
              refine hK.out _ _ ?_ (fun hHeld => ?_)
              · (first | assumption | (refine Lx.mkS HP.out ?_; repeat (first | assumption | exact Below.refl _ _ | apply Lx.bDrew | apply Lx.bAlloc | (apply Lx.bSet; (first | exact Nat.le_refl _ | assumption)))))
              clear hK K
              try simp only [Act.put, List.setIfInBounds_toArray, List.set_cons_zero, List.set_cons_succ]
              refine wpAnyH_ready (rs := [5]) (by kernel_rfl) (by simp) ?_
              refine' AllReadyH.cons (o := _) ?hi5z58 (fun K hK => ?st5z58) AllReadyH.nil
              case hi5z58 => simp only [List.getElem?_toArray, List.getElem?_cons_succ, List.getElem?_cons_zero]; rfl
              case st5z58 =>
                go_simp
                try go_wp2_with fail
                refine hK.out _ _ ?_ (fun hHeld => ?_)
                · (first | assumption | (refine Lx.mkS HP.out ?_; repeat (first | assumption | exact Below.refl _ _ | apply Lx.bDrew | apply Lx.bAlloc | (apply Lx.bSet; (first | exact Nat.le_refl _ | assumption)))))
                clear hK K
                try simp only [Act.put, List.setIfInBounds_toArray, List.set_cons_zero, List.set_cons_succ]
                refine wpAnyH_ready (rs := [6]) (by kernel_rfl) (by simp) ?_
                refine' AllReadyH.cons (o := _) ?hi6z59 (fun K hK => ?st6z59) AllReadyH.nil
                case hi6z59 => simp only [List.getElem?_toArray, List.getElem?_cons_succ, List.getElem?_cons_zero]; rfl
                case st6z59 =>
                  go_simp
                  try go_wp2_with fail
                  refine hK.out _ _ ?_ (fun hHeld => ?_)
                  · (first | assumption | (refine Lx.mkS HP.out ?_; repeat (first | assumption | exact Below.refl _ _ | apply Lx.bDrew | apply Lx.bAlloc | (apply Lx.bSet; (first | exact Nat.le_refl _ | assumption)))))
                  clear hK K
                  try simp only [Act.put, List.setIfInBounds_toArray, List.set_cons_zero, List.set_cons_succ]
                  refine wpAnyH_done (by kernel_rfl) ?_ _
                  go_wp2_with fail
                  go_meet
                  first | exact ⟨_, rfl, by omega, ⟨by simp, by simp, by simp, by simp⟩, And.left (by assumption)⟩ | (refine ⟨_, rfl, hl1, ⟨?_, ?_, ?_, ?_⟩, And.left (by assumption)⟩ <;> first | (go_simp; done) | (rw [Lx.size_set, Lx.size_set, Lx.size_set]; omega))
            case st5z57 =>
              go_simp
              try go_wp2_with fail
              refine hK.out _ _ ?_ (fun hHeld => ?_)
              · (first | assumption | (refine Lx.mkS HP.out ?_; repeat (first | assumption | exact Below.refl _ _ | apply Lx.bDrew | apply Lx.bAlloc | (apply Lx.bSet; (first | exact Nat.le_refl _ | assumption)))))
              clear hK K
              try simp only [Act.put, List.setIfInBounds_toArray, List.set_cons_zero, List.set_cons_succ]
              refine wpAnyH_ready (rs := [4]) (by kernel_rfl) (by simp) ?_
              refine' AllReadyH.cons (o := _) ?hi4z60 (fun K hK => ?st4z60) AllReadyH.nil
              case hi4z60 => simp only [List.getElem?_toArray, List.getElem?_cons_succ, List.getElem?_cons_zero]; rfl
              case st4z60 =>
                go_simp
                try go_wp2_with fail
                refine hK.out _ _ ?_ (fun hHeld => ?_)
                · (first | assumption | (refine Lx.mkS HP.out ?_; repeat (first | assumption | exact Below.refl _ _ | apply Lx.bDrew | apply Lx.bAlloc | (apply Lx.bSet; (first | exact Nat.le_refl _ | assumption)))))
                clear hK K
                try simp only [Act.put, List.setIfInBounds_toArray, List.set_cons_zero, List.set_cons_succ]
                refine wpAnyH_ready (rs := [6]) (by kernel_rfl) (by simp) ?_
                refine' AllReadyH.cons (o := _) ?hi6z61 (fun K hK => ?st6z61) AllReadyH.nil
                case hi6z61 => simp only [List.getElem?_toArray, List.getElem?_cons_succ, List.getElem?_cons_zero]; rfl
                case st6z61 =>
                  go_simp
                  try go_wp2_with fail
                  refine hK.out _ _ ?_ (fun hHeld => ?_)
                  · (first | assumption | (refine Lx.mkS HP.out ?_; repeat (first | assumption | exact Below.refl _ _ | apply Lx.bDrew | apply Lx.bAlloc | (apply Lx.bSet; (first | exact Nat.le_refl _ | assumption)))))
                  clear hK K
                  try simp only [Act.put, List.setIfInBounds_toArray, List.set_cons_zero, List.set_cons_succ]
                  refine wpAnyH_done (by kernel_rfl) ?_ _
                  go_wp2_with fail
                  go_meet
                  first | exact ⟨_, rfl, by omega, ⟨by simp, by simp, by simp, by simp⟩, And.left (by assumption)⟩ | (refine ⟨_, rfl, hl1, ⟨?_, ?_, ?_, ?_⟩, And.left (by assumption)⟩ <;> first | (go_simp; done) | (rw [Lx.size_set, Lx.size_set, Lx.size_set]; omega))
        case st5z55 =>
          go_simp
          try go_wp2_with fail
          refine hK.out _ _ ?_ (fun hHeld => ?_)
          · (first | assumption | (refine Lx.mkS HP.out ?_; repeat (first | assumption | exact Below.refl _ _ | apply Lx.bDrew | apply Lx.bAlloc | (apply Lx.bSet; (first | exact Nat.le_refl _ | assumption)))))
          clear hK K
          try simp only [Act.put, List.setIfInBounds_toArray, List.set_cons_zero, List.set_cons_succ]
          refine wpAnyH_ready (rs := [0]) (by kernel_rfl) (by simp) ?_
          refine' AllReadyH.cons (o := _) ?hi0z62 (fun K hK => ?st0z62) AllReadyH.nil
          case hi0z62 => simp only [List.getElem?_toArray, List.getElem?_cons_zero]; rfl
          case st0z62 =>
            go_simp
            go_at_call 37; refine (kinds_any _).mono ?_; rintro e w2 ⟨g, rfl, hg, hk, c2⟩; obtain ⟨k0, k1, k2⟩ := hk.2 5 (by omega); have hgl := hk.1; clear hk hg; have kb := Lx.bCall (P := fun wx => wx.cell? ⟨w.heap.size, 0, none⟩ = some (.int .i64 5)) (by assumption) c2; have hz2 := kb.size; have hs2 := c2.size; simp at hs2; have kS := Lx.mkS HP.out kb; have b0 := fun i => c2.cell (p := ⟨w1.heap.size, i, none⟩); have f0 := fun i => c2.frozen (p := ⟨w1.heap.size, i, none⟩)
            try go_wp2_with fail
            refine hK.out _ _ ?_ (fun hHeld => ?_)
            · (first | assumption | (refine Lx.mkS HP.out ?_; repeat (first | assumption | exact Below.refl _ _ | apply Lx.bDrew | apply Lx.bAlloc | (apply Lx.bSet; (first | exact Nat.le_refl _ | assumption)))))
            clear hK K
            try simp only [Act.put, List.setIfInBounds_toArray, List.set_cons_zero, List.set_cons_succ]
            refine' wpAnyH_take (i := 3) (oi := _) (v := _) ?hiz63 (by kernel_rfl) (by kernel_rfl) (by kernel_rfl) ?hqz63 ?hyz63 (by assumption) ?rez63
            case hiz63 => simp only [List.getElem?_toArray, List.getElem?_cons_succ, List.getElem?_cons_zero]; rfl
            case hqz63 => exact fun _ _ _ h => h
            case hyz63 =>
              refine Or.inl ⟨by rfl, ?_⟩
              intro w hSw; (try dsimp only at hSw); go_simp; try with_reducible rfl
            case rez63 =>
              try simp only [Act.put, List.setIfInBounds_toArray, List.set_cons_zero, List.set_cons_succ]
              refine wpAnyH_ready (rs := [4]) (by kernel_rfl) (by simp) ?_
              refine' AllReadyH.cons (o := _) ?hi4z64 (fun K hK => ?st4z64) AllReadyH.nil
              case hi4z64 => simp only [List.getElem?_toArray, List.getElem?_cons_succ, List.getElem?_cons_zero]; rfl
              case st4z64 =>
                go_simp
                try go_wp2_with fail
                refine hK.out _ _ ?_ (fun hHeld => ?_)
                · (first | assumption | (refine Lx.mkS HP.out ?_; repeat (first | assumption | exact Below.refl _ _ | apply Lx.bDrew | apply Lx.bAlloc | (apply Lx.bSet; (first | exact Nat.le_refl _ | assumption)))))
                clear hK K
                try simp only [Act.put, List.setIfInBounds_toArray, List.set_cons_zero, List.set_cons_succ]
                refine wpAnyH_ready (rs := [6]) (by kernel_rfl) (by simp) ?_
                refine' AllReadyH.cons (o := _) ?hi6z65 (fun K hK => ?st6z65) AllReadyH.nil
                case hi6z65 => simp only [List.getElem?_toArray, List.getElem?_cons_succ, List.getElem?_cons_zero]; rfl
                case st6z65 =>
                  go_simp
                  try go_wp2_with fail
                  refine hK.out _ _ ?_ (fun hHeld => ?_)
                  · (first | assumption | (refine Lx.mkS HP.out ?_; repeat (first | assumption | exact Below.refl _ _ | apply Lx.bDrew | apply Lx.bAlloc | (apply Lx.bSet; (first | exact Nat.le_refl _ | assumption)))))
                  clear hK K
                  try simp only [Act.put, List.setIfInBounds_toArray, List.set_cons_zero, List.set_cons_succ]
                  refine wpAnyH_done (by kernel_rfl) ?_ _
                  go_wp2_with fail
                  go_meet
                  first | exact ⟨_, rfl, by omega, ⟨by simp, by simp, by simp, by simp⟩, And.left (by assumption)⟩ | (refine ⟨_, rfl, hl1, ⟨?_, ?_, ?_, ?_⟩, And.left (by assumption)⟩ <;> first | (go_simp; done) | (rw [Lx.size_set, Lx.size_set, Lx.size_set]; omega))
  case rest =>
    obtain ⟨kb, rfl, hkb, ⟨hkl, k0, k1, k2⟩, hbc⟩ := hcut
    obtain ⟨W0, rfl⟩ : ∃ W, W = wc := ⟨_, rfl⟩
    have BO := Lib.hid (BO1.out.below hbc)
    have BC := Lib.hid (B1.out.trans (hbc.mono B1.out.size))
    have hl := BO.out.1
    clear BO1 B1 hbc q0 hl1 HC
    obtain ⟨q0, q1, q2, q3, q4, q5, q6, q7⟩ := BO.out.eight
    go_upto_region 5 with (fail)
    go_cut [8] (fun s8 wx => wx.ownsRow W0.heap.size 9 1 s8 2 [.string ⟨(Lib.itoa t).toArray⟩, .string ⟨(Lx.evWord (5 : Nat)).toArray⟩] ∧ Below W0.heap.size W0 wx)
    case first =>
      have HP := Lib.hid (fun W (hb : Below W0.heap.size W0 W) => And.intro ((hb.cell (p := ⟨w.heap.size, 1, none⟩) hl).trans q1) ((hb.cell (p := ⟨kb, 0, none⟩) hkl).trans k0))
      have hS0 : (fun wx => Below W0.heap.size W0 wx ∧ wx.cell? ⟨w.heap.size, 1, none⟩ = some (.int .i64 t) ∧ wx.cell? ⟨kb, 0, none⟩ = some (.string ⟨(Lx.evWord (5 : Nat)).toArray⟩)) W0.drew := ⟨(Below.refl _ _).drew, q1, k0⟩
      dsimp only at hS0
      go_region_held3 (fun wx => Below W0.heap.size W0 wx ∧ wx.cell? ⟨w.heap.size, 1, none⟩ = some (.int .i64 t) ∧ wx.cell? ⟨kb, 0, none⟩ = some (.string ⟨(Lx.evWord (5 : Nat)).toArray⟩))
        (first | assumption | (refine Lx.mkS HP.out ?_; repeat (first | assumption | exact Below.refl _ _ | apply Lx.bDrew | apply Lx.bAlloc | (apply Lx.bSet; (first | exact Nat.le_refl _ | assumption)))))
        (first
          | (go_at_call 50; refine (HT.out _ (env.below (BC.out.trans (Below.mono (And.left (by assumption)) BC.out.size)))).mono ?_; rintro e w2 ⟨rfl, c2⟩; have kb2 := Lx.bCall (P := fun wx => wx.cell? ⟨w.heap.size, 1, none⟩ = some (.int .i64 t) ∧ wx.cell? ⟨kb, 0, none⟩ = some (.string ⟨(Lx.evWord (5 : Nat)).toArray⟩)) (by assumption) c2; have hz2 := kb2.size; have kS := Lx.mkS HP.out kb2))
      all_goals (go_wp2_with fail; go_meet)
      all_goals exact ⟨Lx.ownLit _ _ (by assumption) [.string ⟨(Lib.itoa t).toArray⟩, .string ⟨(Lx.evWord (5 : Nat)).toArray⟩] 9 (by unfold maxLen; simp), And.left (by assumption)⟩
    case rest =>
      obtain ⟨W1, rfl⟩ : ∃ W, W = wc := ⟨_, rfl⟩
      have k1' : W0.cell? ⟨kb, 1, none⟩ = some (.int .i64 19) := k1
      have B1 := Lib.hid hcut.2
      obtain ⟨a1, c1, rfl⟩ := Lx.ownSlice hcut.1
      have R1 := Lib.hid hcut.1
      clear hcut q0 q1 q2 q3 q4 q5 q6 q7 k0 k1 k2 HT
      obtain ⟨q0, q1, q2, q3, q4, q5, q6, q7⟩ := (BO.out.below B1.out).eight
      have k1 := (B1.out.cell (p := ⟨kb, 1, none⟩) hkl).trans k1'
      have xn := HNM.out W1 (BC.out.trans (B1.out.mono BC.out.size))
      go_wp2_with (at_builtin; refine wpList_append_own _ rfl _ _ 22 rfl W0.heap.size 9 i0 _ 1 16 Tryz.underlying22 hi hz0 hz1 hz2 rfl (by decide) _ _ _ rfl (R1.out.alloc _) ⟨W1.heap.size, 0, none⟩ 1 1 [.string x] rfl rfl (Lx.cellNew W1 (.string x) 9) (by simp [Value.oneCell']) (by unfold maxLen; omega) (by omega) ((B1.out.alloc B1.out.size _).size) ?_)
      intro v' W2 hown2 hgrow _
      obtain ⟨a2, c2, rfl⟩ := Lx.ownSlice hown2
      have R2 := Lib.hid hown2
      have B2 := Lib.hid ((B1.out.alloc B1.out.size (.cells #[.string x] 9)).grown hgrow (B1.out.alloc B1.out.size _).size (Lx.ownBase R1.out))
      clear hgrow hown2 q0 q1 q2 q3 q4 q5 q6 q7 k1 R1
      clear xn
      obtain ⟨q0, q1, q2, q3, q4, q5, q6, q7⟩ := (BO.out.below B2.out).eight
      have k1 := (B2.out.cell (p := ⟨kb, 1, none⟩) hkl).trans k1'
      have q3z := (BO.out.eight).2.2.2.1
      have q4z := (BO.out.eight).2.2.2.2.1
      go_upto_region 11 with (fail)
      go_cut [8] (fun s8 wx => wx.ownsRow W0.heap.size 9 1 s8 5 [.string ⟨(Lib.itoa t).toArray⟩, .string ⟨(Lx.evWord (5 : Nat)).toArray⟩, .string x, .string ⟨(Lib.itoa d).toArray⟩, .string ⟨(Lib.itoa a).toArray⟩] ∧ Below W0.heap.size W0 wx)
      case first =>
        have HP := Lib.hid (fun W (hb : Below W0.heap.size W0 W) => And.intro ((hb.cell (p := ⟨w.heap.size, 3, none⟩) hl).trans q3z) ((hb.cell (p := ⟨w.heap.size, 4, none⟩) hl).trans q4z))
        have hS0 : (fun wx => Below W0.heap.size W0 wx ∧ wx.cell? ⟨w.heap.size, 3, none⟩ = some (.int .i64 d) ∧ wx.cell? ⟨w.heap.size, 4, none⟩ = some (.int .i64 a)) W2.drew := ⟨B2.out.drew, q3, q4⟩
        dsimp only at hS0
        have r0 : W2.drew.ownsRow W0.heap.size 9 1 (.slice a2 3 c2) 3 [.string ⟨(Lib.itoa t).toArray⟩, .string ⟨(Lx.evWord (5 : Nat)).toArray⟩, .string x] := R2.out
        clear q0 q1 q2 q3 q4 q5 q6 q7 k1 q3z q4z
        go_region_held3 (fun wx => Below W0.heap.size W0 wx ∧ wx.cell? ⟨w.heap.size, 3, none⟩ = some (.int .i64 d) ∧ wx.cell? ⟨w.heap.size, 4, none⟩ = some (.int .i64 a))
          (first | assumption | (refine Lx.mkS HP.out ?_; repeat (first | assumption | exact Below.refl _ _ | apply Lx.bDrew | apply Lx.bAlloc | (apply Lx.bSet; (first | exact Nat.le_refl _ | assumption)))))
          (first
            | (go_at_call 50; with_reducible refine (HD.out _ ?_).mono ?_; exact (env.below (BC.out.trans (Below.mono (And.left (by assumption)) BC.out.size))); rintro e w2 ⟨rfl, cb⟩; have kb2 := Lx.bCall (P := fun wx => wx.cell? ⟨w.heap.size, 3, none⟩ = some (.int .i64 d) ∧ wx.cell? ⟨w.heap.size, 4, none⟩ = some (.int .i64 a)) (by assumption) cb; have hzz := kb2.size; have kS := Lx.mkS HP.out kb2; have r2 : w2.ownsRow W0.heap.size 9 1 (.slice a2 3 c2) 3 [.string ⟨(Lib.itoa t).toArray⟩, .string ⟨(Lx.evWord (5 : Nat)).toArray⟩, .string x] := Lx.ownBelowO (by assumption) cb; clear cb)
            | (go_at_call 50; with_reducible refine (HA.out _ ?_).mono ?_; exact (env.below (BC.out.trans (Below.mono (And.left (by assumption)) BC.out.size))); rintro e w3 ⟨rfl, cb⟩; have kb2 := Lx.bCall (P := fun wx => wx.cell? ⟨w.heap.size, 3, none⟩ = some (.int .i64 d) ∧ wx.cell? ⟨w.heap.size, 4, none⟩ = some (.int .i64 a)) (by assumption) cb; have hzz := kb2.size; have kS := Lx.mkS HP.out kb2; have r2 : w3.ownsRow W0.heap.size 9 1 (.slice a2 3 c2) 3 [.string ⟨(Lib.itoa t).toArray⟩, .string ⟨(Lx.evWord (5 : Nat)).toArray⟩, .string x] := Lx.ownBelowO (by assumption) cb; clear cb)
            | (refine step_append_lies _ (by rfl) _ _ _ (by rfl) W0.heap.size 9 i0 _ 1 16 Tryz.underlying22 hi hz0 hz1 hz2 rfl (by decide) (.slice a2 3 c2) 3 [.string ⟨(Lib.itoa t).toArray⟩, .string ⟨(Lx.evWord (5 : Nat)).toArray⟩, .string x] (by rfl) (Lx.ownAllocO (by assumption)) ⟨w3.heap.size, 0, none⟩ 2 2 [.string ⟨(Lib.itoa d).toArray⟩, .string ⟨(Lib.itoa a).toArray⟩] (by rfl) (by rfl) (Lx.cellNew2 w3 _ _ _) (by simp [Value.oneCell']) (by omega) (by unfold maxLen; omega) (by omega) (Nat.le_trans hzz (by simp)) (w3.heap.size + 1) (by simp) ?_; intro g cap w4 hown4 hgrow hat hlt; have kb4 := Below.grown (Lx.bLeft (P := fun wx => wx.cell? ⟨w.heap.size, 3, none⟩ = some (.int .i64 d) ∧ wx.cell? ⟨w.heap.size, 4, none⟩ = some (.int .i64 a)) (by assumption)) hgrow (Nat.le_trans hzz (by simp)) (Lx.ownBase r2); have kS := Lx.mkS HP.out kb4))
        all_goals (go_wp2_with fail; go_meet)
        all_goals exact ⟨by assumption, And.left (by assumption)⟩
      case rest =>
        obtain ⟨W3, rfl⟩ : ∃ W, W = wc := ⟨_, rfl⟩
        obtain ⟨a3, c3, rfl⟩ := Lx.ownSlice hcut.1
        have B3 := Lib.hid hcut.2
        have R3 := Lib.hid hcut.1
        clear hcut q0 q1 q2 q3 q4 q5 q6 q7 k1 R2 q3z q4z
        obtain ⟨q0, q1, q2, q3, q4, q5, q6, q7⟩ := (BO.out.below B3.out).eight
        have k1 := (B3.out.cell (p := ⟨kb, 1, none⟩) hkl).trans k1'
        have rn := (env.below (BC.out.trans (B3.out.mono BC.out.size))).rs yn hy7
        go_wp2_with (at_builtin; refine wpList_append_own _ rfl _ _ 22 rfl W0.heap.size 9 i0 _ 1 16 Tryz.underlying22 hi hz0 hz1 hz2 rfl (by decide) _ _ _ rfl (R3.out.alloc _) ⟨W3.heap.size, 0, none⟩ 1 1 [.string ⟨(Lx.reasonW (yn : Nat)).toArray⟩] rfl rfl (Lx.cellNew W3 (.string ⟨(Lx.reasonW (yn : Nat)).toArray⟩) 9) (by simp [Value.oneCell']) (by unfold maxLen; omega) (by omega) ((B3.out.alloc B3.out.size _).size) ?_)
        intro v' W4 hown4 hgrow _
        obtain ⟨a4, c4, rfl⟩ := Lx.ownSlice hown4
        have R4 := Lib.hid hown4
        have B4 := Lib.hid ((B3.out.alloc B3.out.size (.cells #[.string ⟨(Lx.reasonW (yn : Nat)).toArray⟩] 9)).grown hgrow (B3.out.alloc B3.out.size _).size (Lx.ownBase R3.out))
        clear hgrow hown4 q0 q1 q2 q3 q4 q5 q6 q7 k1 R3
        clear rn
        obtain ⟨q0, q1, q2, q3, q4, q5, q6, q7⟩ := (BO.out.below B4.out).eight
        have k1 := (B4.out.cell (p := ⟨kb, 1, none⟩) hkl).trans k1'
        obtain ⟨g8, c8, he8, lt8, hc8⟩ := Lx.ownPos R4.out (by omega)
        obtain ⟨rfl, rfl⟩ : a4 = some ⟨g8, 0, none⟩ ∧ c4 = c8 := by simpa using he8
        have hcap := Lx.ownCap R4.out
        clear he8
        go_wp2_with fail
        refine (Tryz.strings_Join g8 0 c4 [⟨(Lib.itoa t).toArray⟩, ⟨(Lx.evWord (5 : Nat)).toArray⟩, x, ⟨(Lib.itoa d).toArray⟩, ⟨(Lib.itoa a).toArray⟩, ⟨(Lx.reasonW (yn : Nat)).toArray⟩] ⟨#[32]⟩ _ ?_ lt8 (by simp) hcap ?_).mono ?_
        · intro j z hz; rw [Nat.zero_add]; exact hc8 j _ (by
        have h9 : (([⟨(Lib.itoa t).toArray⟩, ⟨(Lx.evWord (5 : Nat)).toArray⟩, x, ⟨(Lib.itoa d).toArray⟩, ⟨(Lib.itoa a).toArray⟩, ⟨(Lx.reasonW (yn : Nat)).toArray⟩] : List ByteArray).map Value.string)[j]? = some (.string z) := by rw [List.getElem?_map, hz]; rfl
        exact h9)
        · rw [show (⟨#[32]⟩ : ByteArray).data.toList = [32] from rfl, Lx.join_joinSp]; exact HLEN.out
        rintro e W9 ⟨rfl, c9⟩
        go_wp2_with fail
        go_ret2
        exact ⟨Lx.ret_t2 (Lx.v_str (congrArg (fun l : List UInt8 => (⟨l.toArray⟩ : ByteArray)) (Lx.join_joinSp _))) rfl, (BC.out.trans (B4.out.mono BC.out.size)).trans (c9.mono (BC.out.trans (B4.out.mono BC.out.size)).size)⟩
set_option maxRecDepth 100000 in
set_option maxHeartbeats 1600000 in
theorem write_6 (t y : Int) (x : ByteArray) (hxs : x.size ≤ 24) (ad : Option Addr) (m cap : Nat) (w : World) (env : EEnv w)  (g : Lx.Good ⟨6, t, 0, 0, 0, 0, y, 0⟩) :
    Calls Tryz.prog 30 #[.agg #[.int .i64 6, .int .i64 t, .int .i64 0, .int .i64 0, .int .i64 0, .int .i64 0, .int .i64 y, .int .i64 0], .slice ad m cap] w (WriteIs (Lx.evText ⟨6, t, 0, 0, 0, 0, y, 0⟩ x.data.toList) 0 w) := by
  have HC := Lib.hid (fun W => evcheck_any ⟨6, t, 0, 0, 0, 0, y, 0⟩ W)
  rw [(Lx.evErr_good _).2 g] at HC
  unfold Lx.EvV.val EvCheckIs at HC
  have gi := Lx.good_in g
  have HT := Lib.hid (fun W (E : EEnv W) => digits_any t W gi.2.1.1 gi.2.1.2 E.env)
  have HY := Lib.hid (fun W (E : EEnv W) => digits_any y W gi.2.2.2.2.2.2.1.1 gi.2.2.2.2.2.2.1.2 E.env)
  dsimp only at HC HT HY
  have hba : Below w.heap.size w (w.alloc (.cells #[.int .i64 6, .int .i64 t, .int .i64 0, .int .i64 0, .int .i64 0, .int .i64 0, .int .i64 y, .int .i64 0] 26)) := (Below.refl _ w).alloc (Nat.le_refl _) _
  have BO0 := Lib.hid (Lx.EvBox.new w 6 t 0 0 0 0 y 0 26)
  have B0 := Lib.hid hba
  have HLEN := Lib.hid (show (Lx.evText ⟨6, t, 0, 0, 0, 0, y, 0⟩ x.data.toList).length ≤ 140737488355328 from by have := Lx.evText_len g (nm := x.data.toList) (by rw [← Lib.size_eq]; exact hxs); omega)
  obtain ⟨i0, hi, hz0, hz1, hz2⟩ := info_parts infoS
  clear g
  clear hba gi
  go_enter Tryz.func30, Tryz.ntmps30
  obtain ⟨q0, q1, q2, q3, q4, q5, q6, q7⟩ := BO0.out.eight
  go_wp2_with fail
  refine (HC.out _).mono ?_
  rintro e w1 ⟨rfl, c1⟩
  have BO1 := Lib.hid (BO0.out.below c1)
  have B1 := Lib.hid (B0.out.trans (c1.mono B0.out.size))
  clear BO0 B0 c1 q0 q1 q2 q3 q4 q5 q6 q7
  obtain ⟨q0, -, -, -, -, -, -, -⟩ := BO1.out.eight
  have hl1 := BO1.out.1
  go_upto_region 4 with (fail)
  go_cut [7] (fun s7 wx => ∃ kb : Nat, s7 = .pointer (some ⟨kb, 0, none⟩) ∧ w.heap.size < kb ∧ Lx.KBox wx kb 6 ∧ Below w1.heap.size w1 wx)
  case first =>
    have HP := Lib.hid (fun W (hb : Below w1.heap.size w1 W) => (hb.cell (p := ⟨w.heap.size, 0, none⟩) hl1).trans q0)
    have hS0 : (fun wx => Below w1.heap.size w1 wx ∧ wx.cell? ⟨w.heap.size, 0, none⟩ = some (.int .i64 6)) w1.drew := ⟨(Below.refl _ _).drew, q0⟩
    dsimp only at hS0
    refine wp_region_held_drew (S := (fun wx => Below w1.heap.size w1 wx ∧ wx.cell? ⟨w.heap.size, 0, none⟩ = some (.int .i64 6))) (by kernel_rfl) ?_ (fun hHeld => ?_)
    · exact hS0
    refine' wpAnyH_take (i := 1) (oi := _) (v := _) ?hiz66 (by kernel_rfl) (by kernel_rfl) (by kernel_rfl) ?hqz66 ?hyz66 (by assumption) ?rez66
    case hiz66 => simp only [List.getElem?_toArray, List.getElem?_cons_succ, List.getElem?_cons_zero]; rfl
    case hqz66 => exact fun _ _ _ h => h
    case hyz66 =>
      refine Or.inl ⟨by rfl, ?_⟩
      intro w hSw; (try dsimp only at hSw); go_simp; try with_reducible rfl
    case rez66 =>
      try simp only [Act.put, List.setIfInBounds_toArray, List.set_cons_zero, List.set_cons_succ]
      refine' wpAnyH_take (i := 2) (oi := _) (v := _) ?hiz67 (by kernel_rfl) (by kernel_rfl) (by kernel_rfl) ?hqz67 ?hyz67 (by assumption) ?rez67
      case hiz67 => simp only [List.getElem?_toArray, List.getElem?_cons_succ, List.getElem?_cons_zero]; rfl
      case hqz67 => exact fun _ _ _ h => h
      case hyz67 =>
        refine Or.inl ⟨by rfl, ?_⟩
        intro w hSw; (try dsimp only at hSw); go_simp; try with_reducible rfl
      case rez67 =>
        try simp only [Act.put, List.setIfInBounds_toArray, List.set_cons_zero, List.set_cons_succ]
        refine wpAnyH_ready (rs := [0, 5]) (by kernel_rfl) (by simp) ?_
        refine' AllReadyH.cons (o := _) ?hi0z68 (fun K hK => ?st0z68) (AllReadyH.cons (o := _) ?hi5z68 (fun K hK => ?st5z68) AllReadyH.nil)
        case hi0z68 => simp only [List.getElem?_toArray, List.getElem?_cons_zero]; rfl
        case hi5z68 => simp only [List.getElem?_toArray, List.getElem?_cons_succ, List.getElem?_cons_zero]; rfl
        case st0z68 =>
          go_simp
          go_at_call 37; refine (kinds_any _).mono ?_; rintro e w2 ⟨g, rfl, hg, hk, c2⟩; obtain ⟨k0, k1, k2⟩ := hk.2 6 (by omega); have hgl := hk.1; clear hk hg; have kb := Lx.bCall (P := fun wx => wx.cell? ⟨w.heap.size, 0, none⟩ = some (.int .i64 6)) (by assumption) c2; have hz2 := kb.size; have hs2 := c2.size; simp at hs2; have kS := Lx.mkS HP.out kb; have b0 := fun i => c2.cell (p := ⟨w1.heap.size, i, none⟩); have f0 := fun i => c2.frozen (p := ⟨w1.heap.size, i, none⟩)
          try go_wp2_with fail
          refine hK.out _ _ ?_ (fun hHeld => ?_)
          · (first | assumption | (refine Lx.mkS HP.out ?_; repeat (first | assumption | exact Below.refl _ _ | apply Lx.bDrew | apply Lx.bAlloc | (apply Lx.bSet; (first | exact Nat.le_refl _ | assumption)))))
          clear hK K
          try simp only [Act.put, List.setIfInBounds_toArray, List.set_cons_zero, List.set_cons_succ]
          refine' wpAnyH_take (i := 3) (oi := _) (v := _) ?hiz69 (by kernel_rfl) (by kernel_rfl) (by kernel_rfl) ?hqz69 ?hyz69 (by assumption) ?rez69
          case hiz69 => simp only [List.getElem?_toArray, List.getElem?_cons_succ, List.getElem?_cons_zero]; rfl
          case hqz69 => exact fun _ _ _ h => h
          case hyz69 =>
            refine Or.inl ⟨by rfl, ?_⟩
            intro w hSw; (try dsimp only at hSw); go_simp; try with_reducible rfl
          case rez69 =>
            try simp only [Act.put, List.setIfInBounds_toArray, List.set_cons_zero, List.set_cons_succ]
            refine wpAnyH_ready (rs := [4, 5]) (by kernel_rfl) (by simp) ?_
            refine' AllReadyH.cons (o := _) ?hi4z70 (fun K hK => ?st4z70) (AllReadyH.cons (o := _) ?hi5z70 (fun K hK => ?st5z70) AllReadyH.nil)
            case hi4z70 => simp only [List.getElem?_toArray, List.getElem?_cons_succ, List.getElem?_cons_zero]; rfl
            case hi5z70 => simp only [List.getElem?_toArray, List.getElem?_cons_succ, List.getElem?_cons_zero]; rfl
            case st4z70 =>
              go_simp
              try go_wp2_with fail
              refine hK.out _ _ ?_ (fun hHeld => ?_)
              · (first | assumption | (refine Lx.mkS HP.out ?_; repeat (first | assumption | exact Below.refl _ _ | apply Lx.bDrew | apply Lx.bAlloc | (apply Lx.bSet; (first | exact Nat.le_refl _ | assumption)))))
              clear hK K
              try simp only [Act.put, List.setIfInBounds_toArray, List.set_cons_zero, List.set_cons_succ]
              refine wpAnyH_ready (rs := [5]) (by kernel_rfl) (by simp) ?_
              refine' AllReadyH.cons (o := _) ?hi5z71 (fun K hK => ?st5z71) AllReadyH.nil
              case hi5z71 => simp only [List.getElem?_toArray, List.getElem?_cons_succ, List.getElem?_cons_zero]; rfl
              case st5z71 =>
                go_simp
                try go_wp2_with fail
                refine hK.out _ _ ?_ (fun hHeld => ?_)
                · (first | assumption | (refine Lx.mkS HP.out ?_; repeat (first | assumption | exact Below.refl _ _ | apply Lx.bDrew | apply Lx.bAlloc | (apply Lx.bSet; (first | exact Nat.le_refl _ | assumption)))))
                clear hK K
                try simp only [Act.put, List.setIfInBounds_toArray, List.set_cons_zero, List.set_cons_succ]
                refine wpAnyH_ready (rs := [6]) (by kernel_rfl) (by simp) ?_
                refine' AllReadyH.cons (o := _) ?hi6z72 (fun K hK => ?st6z72) AllReadyH.nil
                case hi6z72 => simp only [List.getElem?_toArray, List.getElem?_cons_succ, List.getElem?_cons_zero]; rfl
                case st6z72 =>
                  go_simp
                  try go_wp2_with fail
                  refine hK.out _ _ ?_ (fun hHeld => ?_)
                  · (first | assumption | (refine Lx.mkS HP.out ?_; repeat (first | assumption | exact Below.refl _ _ | apply Lx.bDrew | apply Lx.bAlloc | (apply Lx.bSet; (first | exact Nat.le_refl _ | assumption)))))
                  clear hK K
                  try simp only [Act.put, List.setIfInBounds_toArray, List.set_cons_zero, List.set_cons_succ]
                  refine wpAnyH_done (by kernel_rfl) ?_ _
                  go_wp2_with fail
                  go_meet
                  first | exact ⟨_, rfl, by omega, ⟨by simp, by simp, by simp, by simp⟩, And.left (by assumption)⟩ | (refine ⟨_, rfl, hl1, ⟨?_, ?_, ?_, ?_⟩, And.left (by assumption)⟩ <;> first | (go_simp; done) | (rw [Lx.size_set, Lx.size_set, Lx.size_set]; omega))
            case st5z70 =>
              go_simp
              try go_wp2_with fail
              refine hK.out _ _ ?_ (fun hHeld => ?_)
              · (first | assumption | (refine Lx.mkS HP.out ?_; repeat (first | assumption | exact Below.refl _ _ | apply Lx.bDrew | apply Lx.bAlloc | (apply Lx.bSet; (first | exact Nat.le_refl _ | assumption)))))
              clear hK K
              try simp only [Act.put, List.setIfInBounds_toArray, List.set_cons_zero, List.set_cons_succ]
              refine wpAnyH_ready (rs := [4]) (by kernel_rfl) (by simp) ?_
              refine' AllReadyH.cons (o := _) ?hi4z73 (fun K hK => ?st4z73) AllReadyH.nil
              case hi4z73 => simp only [List.getElem?_toArray, List.getElem?_cons_succ, List.getElem?_cons_zero]; rfl
              case st4z73 =>
                go_simp
                try go_wp2_with fail
                refine hK.out _ _ ?_ (fun hHeld => ?_)
                · (first | assumption | (refine Lx.mkS HP.out ?_; repeat (first | assumption | exact Below.refl _ _ | apply Lx.bDrew | apply Lx.bAlloc | (apply Lx.bSet; (first | exact Nat.le_refl _ | assumption)))))
                clear hK K
                try simp only [Act.put, List.setIfInBounds_toArray, List.set_cons_zero, List.set_cons_succ]
                refine wpAnyH_ready (rs := [6]) (by kernel_rfl) (by simp) ?_
                refine' AllReadyH.cons (o := _) ?hi6z74 (fun K hK => ?st6z74) AllReadyH.nil
                case hi6z74 => simp only [List.getElem?_toArray, List.getElem?_cons_succ, List.getElem?_cons_zero]; rfl
                case st6z74 =>
                  go_simp
                  try go_wp2_with fail
                  refine hK.out _ _ ?_ (fun hHeld => ?_)
                  · (first | assumption | (refine Lx.mkS HP.out ?_; repeat (first | assumption | exact Below.refl _ _ | apply Lx.bDrew | apply Lx.bAlloc | (apply Lx.bSet; (first | exact Nat.le_refl _ | assumption)))))
                  clear hK K
                  try simp only [Act.put, List.setIfInBounds_toArray, List.set_cons_zero, List.set_cons_succ]
                  refine wpAnyH_done (by kernel_rfl) ?_ _
                  go_wp2_with fail
                  go_meet
                  first | exact ⟨_, rfl, by omega, ⟨by simp, by simp, by simp, by simp⟩, And.left (by assumption)⟩ | (refine ⟨_, rfl, hl1, ⟨?_, ?_, ?_, ?_⟩, And.left (by assumption)⟩ <;> first | (go_simp; done) | (rw [Lx.size_set, Lx.size_set, Lx.size_set]; omega))
        case st5z68 =>
          go_simp
          try go_wp2_with fail
          refine hK.out _ _ ?_ (fun hHeld => ?_)
          · (first | assumption | (refine Lx.mkS HP.out ?_; repeat (first | assumption | exact Below.refl _ _ | apply Lx.bDrew | apply Lx.bAlloc | (apply Lx.bSet; (first | exact Nat.le_refl _ | assumption)))))
          clear hK K
          try simp only [Act.put, List.setIfInBounds_toArray, List.set_cons_zero, List.set_cons_succ]
          refine wpAnyH_ready (rs := [0]) (by kernel_rfl) (by simp) ?_
          refine' AllReadyH.cons (o := _) ?hi0z75 (fun K hK => ?st0z75) AllReadyH.nil
          case hi0z75 => simp only [List.getElem?_toArray, List.getElem?_cons_zero]; rfl
          case st0z75 =>
            go_simp
            go_at_call 37; refine (kinds_any _).mono ?_; rintro e w2 ⟨g, rfl, hg, hk, c2⟩; obtain ⟨k0, k1, k2⟩ := hk.2 6 (by omega); have hgl := hk.1; clear hk hg; have kb := Lx.bCall (P := fun wx => wx.cell? ⟨w.heap.size, 0, none⟩ = some (.int .i64 6)) (by assumption) c2; have hz2 := kb.size; have hs2 := c2.size; simp at hs2; have kS := Lx.mkS HP.out kb; have b0 := fun i => c2.cell (p := ⟨w1.heap.size, i, none⟩); have f0 := fun i => c2.frozen (p := ⟨w1.heap.size, i, none⟩)
            try go_wp2_with fail
            refine hK.out _ _ ?_ (fun hHeld => ?_)
            · (first | assumption | (refine Lx.mkS HP.out ?_; repeat (first | assumption | exact Below.refl _ _ | apply Lx.bDrew | apply Lx.bAlloc | (apply Lx.bSet; (first | exact Nat.le_refl _ | assumption)))))
            clear hK K
            try simp only [Act.put, List.setIfInBounds_toArray, List.set_cons_zero, List.set_cons_succ]
            refine' wpAnyH_take (i := 3) (oi := _) (v := _) ?hiz76 (by kernel_rfl) (by kernel_rfl) (by kernel_rfl) ?hqz76 ?hyz76 (by assumption) ?rez76
            case hiz76 => simp only [List.getElem?_toArray, List.getElem?_cons_succ, List.getElem?_cons_zero]; rfl
            case hqz76 => exact fun _ _ _ h => h
            case hyz76 =>
              refine Or.inl ⟨by rfl, ?_⟩
              intro w hSw; (try dsimp only at hSw); go_simp; try with_reducible rfl
            case rez76 =>
              try simp only [Act.put, List.setIfInBounds_toArray, List.set_cons_zero, List.set_cons_succ]
              refine wpAnyH_ready (rs := [4]) (by kernel_rfl) (by simp) ?_
              refine' AllReadyH.cons (o := _) ?hi4z77 (fun K hK => ?st4z77) AllReadyH.nil
              case hi4z77 => simp only [List.getElem?_toArray, List.getElem?_cons_succ, List.getElem?_cons_zero]; rfl
              case st4z77 =>
                go_simp
                try go_wp2_with fail
                refine hK.out _ _ ?_ (fun hHeld => ?_)
                · (first | assumption | (refine Lx.mkS HP.out ?_; repeat (first | assumption | exact Below.refl _ _ | apply Lx.bDrew | apply Lx.bAlloc | (apply Lx.bSet; (first | exact Nat.le_refl _ | assumption)))))
                clear hK K
                try simp only [Act.put, List.setIfInBounds_toArray, List.set_cons_zero, List.set_cons_succ]
                refine wpAnyH_ready (rs := [6]) (by kernel_rfl) (by simp) ?_
                refine' AllReadyH.cons (o := _) ?hi6z78 (fun K hK => ?st6z78) AllReadyH.nil
                case hi6z78 => simp only [List.getElem?_toArray, List.getElem?_cons_succ, List.getElem?_cons_zero]; rfl
                case st6z78 =>
                  go_simp
                  try go_wp2_with fail
                  refine hK.out _ _ ?_ (fun hHeld => ?_)
                  · (first | assumption | (refine Lx.mkS HP.out ?_; repeat (first | assumption | exact Below.refl _ _ | apply Lx.bDrew | apply Lx.bAlloc | (apply Lx.bSet; (first | exact Nat.le_refl _ | assumption)))))
                  clear hK K
                  try simp only [Act.put, List.setIfInBounds_toArray, List.set_cons_zero, List.set_cons_succ]
                  refine wpAnyH_done (by kernel_rfl) ?_ _
                  go_wp2_with fail
                  go_meet
                  first | exact ⟨_, rfl, by omega, ⟨by simp, by simp, by simp, by simp⟩, And.left (by assumption)⟩ | (refine ⟨_, rfl, hl1, ⟨?_, ?_, ?_, ?_⟩, And.left (by assumption)⟩ <;> first | (go_simp; done) | (rw [Lx.size_set, Lx.size_set, Lx.size_set]; omega))
  case rest =>
    obtain ⟨kb, rfl, hkb, ⟨hkl, k0, k1, k2⟩, hbc⟩ := hcut
    obtain ⟨W0, rfl⟩ : ∃ W, W = wc := ⟨_, rfl⟩
    have BO := Lib.hid (BO1.out.below hbc)
    have BC := Lib.hid (B1.out.trans (hbc.mono B1.out.size))
    have hl := BO.out.1
    clear BO1 B1 hbc q0 hl1 HC
    obtain ⟨q0, q1, q2, q3, q4, q5, q6, q7⟩ := BO.out.eight
    go_upto_region 5 with (fail)
    go_cut [8] (fun s8 wx => wx.ownsRow W0.heap.size 9 1 s8 2 [.string ⟨(Lib.itoa t).toArray⟩, .string ⟨(Lx.evWord (6 : Nat)).toArray⟩] ∧ Below W0.heap.size W0 wx)
    case first =>
      have HP := Lib.hid (fun W (hb : Below W0.heap.size W0 W) => And.intro ((hb.cell (p := ⟨w.heap.size, 1, none⟩) hl).trans q1) ((hb.cell (p := ⟨kb, 0, none⟩) hkl).trans k0))
      have hS0 : (fun wx => Below W0.heap.size W0 wx ∧ wx.cell? ⟨w.heap.size, 1, none⟩ = some (.int .i64 t) ∧ wx.cell? ⟨kb, 0, none⟩ = some (.string ⟨(Lx.evWord (6 : Nat)).toArray⟩)) W0.drew := ⟨(Below.refl _ _).drew, q1, k0⟩
      dsimp only at hS0
      go_region_held3 (fun wx => Below W0.heap.size W0 wx ∧ wx.cell? ⟨w.heap.size, 1, none⟩ = some (.int .i64 t) ∧ wx.cell? ⟨kb, 0, none⟩ = some (.string ⟨(Lx.evWord (6 : Nat)).toArray⟩))
        (first | assumption | (refine Lx.mkS HP.out ?_; repeat (first | assumption | exact Below.refl _ _ | apply Lx.bDrew | apply Lx.bAlloc | (apply Lx.bSet; (first | exact Nat.le_refl _ | assumption)))))
        (first
          | (go_at_call 50; refine (HT.out _ (env.below (BC.out.trans (Below.mono (And.left (by assumption)) BC.out.size)))).mono ?_; rintro e w2 ⟨rfl, c2⟩; have kb2 := Lx.bCall (P := fun wx => wx.cell? ⟨w.heap.size, 1, none⟩ = some (.int .i64 t) ∧ wx.cell? ⟨kb, 0, none⟩ = some (.string ⟨(Lx.evWord (6 : Nat)).toArray⟩)) (by assumption) c2; have hz2 := kb2.size; have kS := Lx.mkS HP.out kb2))
      all_goals (go_wp2_with fail; go_meet)
      all_goals exact ⟨Lx.ownLit _ _ (by assumption) [.string ⟨(Lib.itoa t).toArray⟩, .string ⟨(Lx.evWord (6 : Nat)).toArray⟩] 9 (by unfold maxLen; simp), And.left (by assumption)⟩
    case rest =>
      obtain ⟨W1, rfl⟩ : ∃ W, W = wc := ⟨_, rfl⟩
      have k1' : W0.cell? ⟨kb, 1, none⟩ = some (.int .i64 16) := k1
      have B1 := Lib.hid hcut.2
      obtain ⟨a1, c1, rfl⟩ := Lx.ownSlice hcut.1
      have R1 := Lib.hid hcut.1
      clear hcut q0 q1 q2 q3 q4 q5 q6 q7 k0 k1 k2 HT
      obtain ⟨q0, q1, q2, q3, q4, q5, q6, q7⟩ := (BO.out.below B1.out).eight
      have k1 := (B1.out.cell (p := ⟨kb, 1, none⟩) hkl).trans k1'
      go_wp2_with fail
      refine (HY.out _ (env.below (BC.out.trans (B1.out.mono BC.out.size)))).mono ?_
      rintro e W2 ⟨rfl, c2⟩
      have R2 := Lib.hid (Lx.ownBelowO R1.out c2)
      have B2 := Lib.hid (B1.out.trans (c2.mono B1.out.size))
      clear c2 q0 q1 q2 q3 q4 q5 q6 q7 k1 R1
      obtain ⟨q0, q1, q2, q3, q4, q5, q6, q7⟩ := (BO.out.below B2.out).eight
      have k1 := (B2.out.cell (p := ⟨kb, 1, none⟩) hkl).trans k1'
      go_wp2_with (at_builtin; refine wpList_append_own _ rfl _ _ 22 rfl W0.heap.size 9 i0 _ 1 16 Tryz.underlying22 hi hz0 hz1 hz2 rfl (by decide) _ _ _ rfl (R2.out.alloc _) ⟨W2.heap.size, 0, none⟩ 1 1 [.string ⟨(Lib.itoa y).toArray⟩] rfl rfl (Lx.cellNew W2 (.string ⟨(Lib.itoa y).toArray⟩) 9) (by simp [Value.oneCell']) (by unfold maxLen; omega) (by omega) ((B2.out.alloc B2.out.size _).size) ?_)
      intro v' W3 hown3 hgrow _
      obtain ⟨a3, c3, rfl⟩ := Lx.ownSlice hown3
      have R3 := Lib.hid hown3
      have B3 := Lib.hid ((B2.out.alloc B2.out.size (.cells #[.string ⟨(Lib.itoa y).toArray⟩] 9)).grown hgrow (B2.out.alloc B2.out.size _).size (Lx.ownBase R2.out))
      clear hgrow hown3 q0 q1 q2 q3 q4 q5 q6 q7 k1 R2
      obtain ⟨q0, q1, q2, q3, q4, q5, q6, q7⟩ := (BO.out.below B3.out).eight
      have k1 := (B3.out.cell (p := ⟨kb, 1, none⟩) hkl).trans k1'
      obtain ⟨g8, c8, he8, lt8, hc8⟩ := Lx.ownPos R3.out (by omega)
      obtain ⟨rfl, rfl⟩ : a3 = some ⟨g8, 0, none⟩ ∧ c3 = c8 := by simpa using he8
      have hcap := Lx.ownCap R3.out
      clear he8
      go_wp2_with fail
      refine (Tryz.strings_Join g8 0 c3 [⟨(Lib.itoa t).toArray⟩, ⟨(Lx.evWord (6 : Nat)).toArray⟩, ⟨(Lib.itoa y).toArray⟩] ⟨#[32]⟩ _ ?_ lt8 (by simp) hcap ?_).mono ?_
      · intro j z hz; rw [Nat.zero_add]; exact hc8 j _ (by
        have h9 : (([⟨(Lib.itoa t).toArray⟩, ⟨(Lx.evWord (6 : Nat)).toArray⟩, ⟨(Lib.itoa y).toArray⟩] : List ByteArray).map Value.string)[j]? = some (.string z) := by rw [List.getElem?_map, hz]; rfl
        exact h9)
      · rw [show (⟨#[32]⟩ : ByteArray).data.toList = [32] from rfl, Lx.join_joinSp]; exact HLEN.out
      rintro e W9 ⟨rfl, c9⟩
      go_wp2_with fail
      go_ret2
      exact ⟨Lx.ret_t2 (Lx.v_str (congrArg (fun l : List UInt8 => (⟨l.toArray⟩ : ByteArray)) (Lx.join_joinSp _))) rfl, (BC.out.trans (B3.out.mono BC.out.size)).trans (c9.mono (BC.out.trans (B3.out.mono BC.out.size)).size)⟩
set_option maxRecDepth 100000 in
set_option maxHeartbeats 1600000 in
theorem write_7 (t n : Int) (p : Nat) (x : ByteArray) (hxs : x.size ≤ 24) (ad : Option Addr) (m cap : Nat) (NS : List ByteArray) (w : World) (env : EEnv w)  (h : Lx.IsNames w ad m NS) (hx : NS[p]? = some x) (g : Lx.Good ⟨7, t, (p : Nat), 0, 0, 0, 0, n⟩) :
    Calls Tryz.prog 30 #[.agg #[.int .i64 7, .int .i64 t, .int .i64 (p : Nat), .int .i64 0, .int .i64 0, .int .i64 0, .int .i64 0, .int .i64 n], .slice ad m cap] w (WriteIs (Lx.evText ⟨7, t, (p : Nat), 0, 0, 0, 0, n⟩ x.data.toList) 0 w) := by
  have HC := Lib.hid (fun W => evcheck_any ⟨7, t, (p : Nat), 0, 0, 0, 0, n⟩ W)
  rw [(Lx.evErr_good _).2 g] at HC
  unfold Lx.EvV.val EvCheckIs at HC
  have gi := Lx.good_in g
  have HT := Lib.hid (fun W (E : EEnv W) => digits_any t W gi.2.1.1 gi.2.1.2 E.env)
  have HN := Lib.hid (fun W (E : EEnv W) => until_any n W E.env gi.2.2.2.2.2.2.2)
  dsimp only at HC HT HN
  have hba : Below w.heap.size w (w.alloc (.cells #[.int .i64 7, .int .i64 t, .int .i64 (p : Nat), .int .i64 0, .int .i64 0, .int .i64 0, .int .i64 0, .int .i64 n] 26)) := (Below.refl _ w).alloc (Nat.le_refl _) _
  have BO0 := Lib.hid (Lx.EvBox.new w 7 t (p : Nat) 0 0 0 0 n 26)
  have B0 := Lib.hid hba
  have hpm : p < m := by rw [← h.1]; exact (List.getElem?_eq_some_iff.1 hx).1
  obtain ⟨gn, offn, rfl, ltn, hcn⟩ := h.2 (by omega)
  have HNM := Lib.hid (show ∀ W, Below w.heap.size w W → W.cell? ⟨gn, offn + p, none⟩ = some (.string x) from fun W hb => (hb.cell (p := ⟨gn, offn + p, none⟩) ltn).trans (hcn p x hx))
  have hpi : (p : Int) < (m : Int) := by omega
  have hpd : decide ((m : Int) ≤ (p : Int)) = false := decide_eq_false (by omega)
  clear hcn hx
  have HLEN := Lib.hid (show (Lx.evText ⟨7, t, (p : Nat), 0, 0, 0, 0, n⟩ x.data.toList).length ≤ 140737488355328 from by have := Lx.evText_len g (nm := x.data.toList) (by rw [← Lib.size_eq]; exact hxs); omega)
  obtain ⟨i0, hi, hz0, hz1, hz2⟩ := info_parts infoS
  clear g
  clear hba gi h
  go_enter Tryz.func30, Tryz.ntmps30
  obtain ⟨q0, q1, q2, q3, q4, q5, q6, q7⟩ := BO0.out.eight
  go_wp2_with fail
  refine (HC.out _).mono ?_
  rintro e w1 ⟨rfl, c1⟩
  have BO1 := Lib.hid (BO0.out.below c1)
  have B1 := Lib.hid (B0.out.trans (c1.mono B0.out.size))
  clear BO0 B0 c1 q0 q1 q2 q3 q4 q5 q6 q7
  obtain ⟨q0, -, -, -, -, -, -, -⟩ := BO1.out.eight
  have hl1 := BO1.out.1
  go_upto_region 4 with (fail)
  go_cut [7] (fun s7 wx => ∃ kb : Nat, s7 = .pointer (some ⟨kb, 0, none⟩) ∧ w.heap.size < kb ∧ Lx.KBox wx kb 7 ∧ Below w1.heap.size w1 wx)
  case first =>
    have HP := Lib.hid (fun W (hb : Below w1.heap.size w1 W) => (hb.cell (p := ⟨w.heap.size, 0, none⟩) hl1).trans q0)
    have hS0 : (fun wx => Below w1.heap.size w1 wx ∧ wx.cell? ⟨w.heap.size, 0, none⟩ = some (.int .i64 7)) w1.drew := ⟨(Below.refl _ _).drew, q0⟩
    dsimp only at hS0
    refine wp_region_held_drew (S := (fun wx => Below w1.heap.size w1 wx ∧ wx.cell? ⟨w.heap.size, 0, none⟩ = some (.int .i64 7))) (by kernel_rfl) ?_ (fun hHeld => ?_)
    · exact hS0
    refine' wpAnyH_take (i := 1) (oi := _) (v := _) ?hiz79 (by kernel_rfl) (by kernel_rfl) (by kernel_rfl) ?hqz79 ?hyz79 (by assumption) ?rez79
    case hiz79 => simp only [List.getElem?_toArray, List.getElem?_cons_succ, List.getElem?_cons_zero]; rfl
    case hqz79 => exact fun _ _ _ h => h
    case hyz79 =>
      refine Or.inl ⟨by rfl, ?_⟩
      intro w hSw; (try dsimp only at hSw); go_simp; try with_reducible rfl
    case rez79 =>
      try simp only [Act.put, List.setIfInBounds_toArray, List.set_cons_zero, List.set_cons_succ]
      refine' wpAnyH_take (i := 2) (oi := _) (v := _) ?hiz80 (by kernel_rfl) (by kernel_rfl) (by kernel_rfl) ?hqz80 ?hyz80 (by assumption) ?rez80
      case hiz80 => simp only [List.getElem?_toArray, List.getElem?_cons_succ, List.getElem?_cons_zero]; rfl
      case hqz80 => exact fun _ _ _ h => h
      case hyz80 =>
        refine Or.inl ⟨by rfl, ?_⟩
        intro w hSw; (try dsimp only at hSw); go_simp; try with_reducible rfl
      case rez80 =>
        try simp only [Act.put, List.setIfInBounds_toArray, List.set_cons_zero, List.set_cons_succ]
        refine wpAnyH_ready (rs := [0, 5]) (by kernel_rfl) (by simp) ?_
        refine' AllReadyH.cons (o := _) ?hi0z81 (fun K hK => ?st0z81) (AllReadyH.cons (o := _) ?hi5z81 (fun K hK => ?st5z81) AllReadyH.nil)
        case hi0z81 => simp only [List.getElem?_toArray, List.getElem?_cons_zero]; rfl
        case hi5z81 => simp only [List.getElem?_toArray, List.getElem?_cons_succ, List.getElem?_cons_zero]; rfl
        case st0z81 =>
          go_simp
          go_at_call 37; refine (kinds_any _).mono ?_; rintro e w2 ⟨g, rfl, hg, hk, c2⟩; obtain ⟨k0, k1, k2⟩ := hk.2 7 (by omega); have hgl := hk.1; clear hk hg; have kb := Lx.bCall (P := fun wx => wx.cell? ⟨w.heap.size, 0, none⟩ = some (.int .i64 7)) (by assumption) c2; have hz2 := kb.size; have hs2 := c2.size; simp at hs2; have kS := Lx.mkS HP.out kb; have b0 := fun i => c2.cell (p := ⟨w1.heap.size, i, none⟩); have f0 := fun i => c2.frozen (p := ⟨w1.heap.size, i, none⟩)
          try go_wp2_with fail
          refine hK.out _ _ ?_ (fun hHeld => ?_)
          · (first | assumption | (refine Lx.mkS HP.out ?_; repeat (first | assumption | exact Below.refl _ _ | apply Lx.bDrew | apply Lx.bAlloc | (apply Lx.bSet; (first | exact Nat.le_refl _ | assumption)))))
          clear hK K
          try simp only [Act.put, List.setIfInBounds_toArray, List.set_cons_zero, List.set_cons_succ]
          refine' wpAnyH_take (i := 3) (oi := _) (v := _) ?hiz82 (by kernel_rfl) (by kernel_rfl) (by kernel_rfl) ?hqz82 ?hyz82 (by assumption) ?rez82
          case hiz82 => simp only [List.getElem?_toArray, List.getElem?_cons_succ, List.getElem?_cons_zero]; rfl
          case hqz82 => exact fun _ _ _ h => h
          case hyz82 =>
            refine Or.inl ⟨by rfl, ?_⟩
            intro w hSw; (try dsimp only at hSw); go_simp; try with_reducible rfl
          case rez82 =>
            try simp only [Act.put, List.setIfInBounds_toArray, List.set_cons_zero, List.set_cons_succ]
            refine wpAnyH_ready (rs := [4, 5]) (by kernel_rfl) (by simp) ?_
            refine' AllReadyH.cons (o := _) ?hi4z83 (fun K hK => ?st4z83) (AllReadyH.cons (o := _) ?hi5z83 (fun K hK => ?st5z83) AllReadyH.nil)
            case hi4z83 => simp only [List.getElem?_toArray, List.getElem?_cons_succ, List.getElem?_cons_zero]; rfl
            case hi5z83 => simp only [List.getElem?_toArray, List.getElem?_cons_succ, List.getElem?_cons_zero]; rfl
            case st4z83 =>
              go_simp
              try go_wp2_with fail
              refine hK.out _ _ ?_ (fun hHeld => ?_)
              · (first | assumption | (refine Lx.mkS HP.out ?_; repeat (first | assumption | exact Below.refl _ _ | apply Lx.bDrew | apply Lx.bAlloc | (apply Lx.bSet; (first | exact Nat.le_refl _ | assumption)))))
              clear hK K
              try simp only [Act.put, List.setIfInBounds_toArray, List.set_cons_zero, List.set_cons_succ]
              refine wpAnyH_ready (rs := [5]) (by kernel_rfl) (by simp) ?_
              refine' AllReadyH.cons (o := _) ?hi5z84 (fun K hK => ?st5z84) AllReadyH.nil
              case hi5z84 => simp only [List.getElem?_toArray, List.getElem?_cons_succ, List.getElem?_cons_zero]; rfl
              case st5z84 =>
                go_simp
                try go_wp2_with fail
                refine hK.out _ _ ?_ (fun hHeld => ?_)
                · (first | assumption | (refine Lx.mkS HP.out ?_; repeat (first | assumption | exact Below.refl _ _ | apply Lx.bDrew | apply Lx.bAlloc | (apply Lx.bSet; (first | exact Nat.le_refl _ | assumption)))))
                clear hK K
                try simp only [Act.put, List.setIfInBounds_toArray, List.set_cons_zero, List.set_cons_succ]
                refine wpAnyH_ready (rs := [6]) (by kernel_rfl) (by simp) ?_
                refine' AllReadyH.cons (o := _) ?hi6z85 (fun K hK => ?st6z85) AllReadyH.nil
                case hi6z85 => simp only [List.getElem?_toArray, List.getElem?_cons_succ, List.getElem?_cons_zero]; rfl
                case st6z85 =>
                  go_simp
                  try go_wp2_with fail
                  refine hK.out _ _ ?_ (fun hHeld => ?_)
                  · (first | assumption | (refine Lx.mkS HP.out ?_; repeat (first | assumption | exact Below.refl _ _ | apply Lx.bDrew | apply Lx.bAlloc | (apply Lx.bSet; (first | exact Nat.le_refl _ | assumption)))))
                  clear hK K
                  try simp only [Act.put, List.setIfInBounds_toArray, List.set_cons_zero, List.set_cons_succ]
                  refine wpAnyH_done (by kernel_rfl) ?_ _
                  go_wp2_with fail
                  go_meet
                  first | exact ⟨_, rfl, by omega, ⟨by simp, by simp, by simp, by simp⟩, And.left (by assumption)⟩ | (refine ⟨_, rfl, hl1, ⟨?_, ?_, ?_, ?_⟩, And.left (by assumption)⟩ <;> first | (go_simp; done) | (rw [Lx.size_set, Lx.size_set, Lx.size_set]; omega))
            case st5z83 =>
              go_simp
              try go_wp2_with fail
              refine hK.out _ _ ?_ (fun hHeld => ?_)
              · (first | assumption | (refine Lx.mkS HP.out ?_; repeat (first | assumption | exact Below.refl _ _ | apply Lx.bDrew | apply Lx.bAlloc | (apply Lx.bSet; (first | exact Nat.le_refl _ | assumption)))))
              clear hK K
              try simp only [Act.put, List.setIfInBounds_toArray, List.set_cons_zero, List.set_cons_succ]
              refine wpAnyH_ready (rs := [4]) (by kernel_rfl) (by simp) ?_
              refine' AllReadyH.cons (o := _) ?hi4z86 (fun K hK => ?st4z86) AllReadyH.nil
              case hi4z86 => simp only [List.getElem?_toArray, List.getElem?_cons_succ, List.getElem?_cons_zero]; rfl
              case st4z86 =>
                go_simp
                try go_wp2_with fail
                refine hK.out _ _ ?_ (fun hHeld => ?_)
                · (first | assumption | (refine Lx.mkS HP.out ?_; repeat (first | assumption | exact Below.refl _ _ | apply Lx.bDrew | apply Lx.bAlloc | (apply Lx.bSet; (first | exact Nat.le_refl _ | assumption)))))
                clear hK K
                try simp only [Act.put, List.setIfInBounds_toArray, List.set_cons_zero, List.set_cons_succ]
                refine wpAnyH_ready (rs := [6]) (by kernel_rfl) (by simp) ?_
                refine' AllReadyH.cons (o := _) ?hi6z87 (fun K hK => ?st6z87) AllReadyH.nil
                case hi6z87 => simp only [List.getElem?_toArray, List.getElem?_cons_succ, List.getElem?_cons_zero]; rfl
                case st6z87 =>
                  go_simp
                  try go_wp2_with fail
                  refine hK.out _ _ ?_ (fun hHeld => ?_)
                  · (first | assumption | (refine Lx.mkS HP.out ?_; repeat (first | assumption | exact Below.refl _ _ | apply Lx.bDrew | apply Lx.bAlloc | (apply Lx.bSet; (first | exact Nat.le_refl _ | assumption)))))
                  clear hK K
                  try simp only [Act.put, List.setIfInBounds_toArray, List.set_cons_zero, List.set_cons_succ]
                  refine wpAnyH_done (by kernel_rfl) ?_ _
                  go_wp2_with fail
                  go_meet
                  first | exact ⟨_, rfl, by omega, ⟨by simp, by simp, by simp, by simp⟩, And.left (by assumption)⟩ | (refine ⟨_, rfl, hl1, ⟨?_, ?_, ?_, ?_⟩, And.left (by assumption)⟩ <;> first | (go_simp; done) | (rw [Lx.size_set, Lx.size_set, Lx.size_set]; omega))
        case st5z81 =>
          go_simp
          try go_wp2_with fail
          refine hK.out _ _ ?_ (fun hHeld => ?_)
          · (first | assumption | (refine Lx.mkS HP.out ?_; repeat (first | assumption | exact Below.refl _ _ | apply Lx.bDrew | apply Lx.bAlloc | (apply Lx.bSet; (first | exact Nat.le_refl _ | assumption)))))
          clear hK K
          try simp only [Act.put, List.setIfInBounds_toArray, List.set_cons_zero, List.set_cons_succ]
          refine wpAnyH_ready (rs := [0]) (by kernel_rfl) (by simp) ?_
          refine' AllReadyH.cons (o := _) ?hi0z88 (fun K hK => ?st0z88) AllReadyH.nil
          case hi0z88 => simp only [List.getElem?_toArray, List.getElem?_cons_zero]; rfl
          case st0z88 =>
            go_simp
            go_at_call 37; refine (kinds_any _).mono ?_; rintro e w2 ⟨g, rfl, hg, hk, c2⟩; obtain ⟨k0, k1, k2⟩ := hk.2 7 (by omega); have hgl := hk.1; clear hk hg; have kb := Lx.bCall (P := fun wx => wx.cell? ⟨w.heap.size, 0, none⟩ = some (.int .i64 7)) (by assumption) c2; have hz2 := kb.size; have hs2 := c2.size; simp at hs2; have kS := Lx.mkS HP.out kb; have b0 := fun i => c2.cell (p := ⟨w1.heap.size, i, none⟩); have f0 := fun i => c2.frozen (p := ⟨w1.heap.size, i, none⟩)
            try go_wp2_with fail
            refine hK.out _ _ ?_ (fun hHeld => ?_)
            · (first | assumption | (refine Lx.mkS HP.out ?_; repeat (first | assumption | exact Below.refl _ _ | apply Lx.bDrew | apply Lx.bAlloc | (apply Lx.bSet; (first | exact Nat.le_refl _ | assumption)))))
            clear hK K
            try simp only [Act.put, List.setIfInBounds_toArray, List.set_cons_zero, List.set_cons_succ]
            refine' wpAnyH_take (i := 3) (oi := _) (v := _) ?hiz89 (by kernel_rfl) (by kernel_rfl) (by kernel_rfl) ?hqz89 ?hyz89 (by assumption) ?rez89
            case hiz89 => simp only [List.getElem?_toArray, List.getElem?_cons_succ, List.getElem?_cons_zero]; rfl
            case hqz89 => exact fun _ _ _ h => h
            case hyz89 =>
              refine Or.inl ⟨by rfl, ?_⟩
              intro w hSw; (try dsimp only at hSw); go_simp; try with_reducible rfl
            case rez89 =>
              try simp only [Act.put, List.setIfInBounds_toArray, List.set_cons_zero, List.set_cons_succ]
              refine wpAnyH_ready (rs := [4]) (by kernel_rfl) (by simp) ?_
              refine' AllReadyH.cons (o := _) ?hi4z90 (fun K hK => ?st4z90) AllReadyH.nil
              case hi4z90 => simp only [List.getElem?_toArray, List.getElem?_cons_succ, List.getElem?_cons_zero]; rfl
              case st4z90 =>
                go_simp
                try go_wp2_with fail
                refine hK.out _ _ ?_ (fun hHeld => ?_)
                · (first | assumption | (refine Lx.mkS HP.out ?_; repeat (first | assumption | exact Below.refl _ _ | apply Lx.bDrew | apply Lx.bAlloc | (apply Lx.bSet; (first | exact Nat.le_refl _ | assumption)))))
                clear hK K
                try simp only [Act.put, List.setIfInBounds_toArray, List.set_cons_zero, List.set_cons_succ]
                refine wpAnyH_ready (rs := [6]) (by kernel_rfl) (by simp) ?_
                refine' AllReadyH.cons (o := _) ?hi6z91 (fun K hK => ?st6z91) AllReadyH.nil
                case hi6z91 => simp only [List.getElem?_toArray, List.getElem?_cons_succ, List.getElem?_cons_zero]; rfl
                case st6z91 =>
                  go_simp
                  try go_wp2_with fail
                  refine hK.out _ _ ?_ (fun hHeld => ?_)
                  · (first | assumption | (refine Lx.mkS HP.out ?_; repeat (first | assumption | exact Below.refl _ _ | apply Lx.bDrew | apply Lx.bAlloc | (apply Lx.bSet; (first | exact Nat.le_refl _ | assumption)))))
                  clear hK K
                  try simp only [Act.put, List.setIfInBounds_toArray, List.set_cons_zero, List.set_cons_succ]
                  refine wpAnyH_done (by kernel_rfl) ?_ _
                  go_wp2_with fail
                  go_meet
                  first | exact ⟨_, rfl, by omega, ⟨by simp, by simp, by simp, by simp⟩, And.left (by assumption)⟩ | (refine ⟨_, rfl, hl1, ⟨?_, ?_, ?_, ?_⟩, And.left (by assumption)⟩ <;> first | (go_simp; done) | (rw [Lx.size_set, Lx.size_set, Lx.size_set]; omega))
  case rest =>
    obtain ⟨kb, rfl, hkb, ⟨hkl, k0, k1, k2⟩, hbc⟩ := hcut
    obtain ⟨W0, rfl⟩ : ∃ W, W = wc := ⟨_, rfl⟩
    have BO := Lib.hid (BO1.out.below hbc)
    have BC := Lib.hid (B1.out.trans (hbc.mono B1.out.size))
    have hl := BO.out.1
    clear BO1 B1 hbc q0 hl1 HC
    obtain ⟨q0, q1, q2, q3, q4, q5, q6, q7⟩ := BO.out.eight
    go_upto_region 5 with (fail)
    go_cut [8] (fun s8 wx => wx.ownsRow W0.heap.size 9 1 s8 2 [.string ⟨(Lib.itoa t).toArray⟩, .string ⟨(Lx.evWord (7 : Nat)).toArray⟩] ∧ Below W0.heap.size W0 wx)
    case first =>
      have HP := Lib.hid (fun W (hb : Below W0.heap.size W0 W) => And.intro ((hb.cell (p := ⟨w.heap.size, 1, none⟩) hl).trans q1) ((hb.cell (p := ⟨kb, 0, none⟩) hkl).trans k0))
      have hS0 : (fun wx => Below W0.heap.size W0 wx ∧ wx.cell? ⟨w.heap.size, 1, none⟩ = some (.int .i64 t) ∧ wx.cell? ⟨kb, 0, none⟩ = some (.string ⟨(Lx.evWord (7 : Nat)).toArray⟩)) W0.drew := ⟨(Below.refl _ _).drew, q1, k0⟩
      dsimp only at hS0
      go_region_held3 (fun wx => Below W0.heap.size W0 wx ∧ wx.cell? ⟨w.heap.size, 1, none⟩ = some (.int .i64 t) ∧ wx.cell? ⟨kb, 0, none⟩ = some (.string ⟨(Lx.evWord (7 : Nat)).toArray⟩))
        (first | assumption | (refine Lx.mkS HP.out ?_; repeat (first | assumption | exact Below.refl _ _ | apply Lx.bDrew | apply Lx.bAlloc | (apply Lx.bSet; (first | exact Nat.le_refl _ | assumption)))))
        (first
          | (go_at_call 50; refine (HT.out _ (env.below (BC.out.trans (Below.mono (And.left (by assumption)) BC.out.size)))).mono ?_; rintro e w2 ⟨rfl, c2⟩; have kb2 := Lx.bCall (P := fun wx => wx.cell? ⟨w.heap.size, 1, none⟩ = some (.int .i64 t) ∧ wx.cell? ⟨kb, 0, none⟩ = some (.string ⟨(Lx.evWord (7 : Nat)).toArray⟩)) (by assumption) c2; have hz2 := kb2.size; have kS := Lx.mkS HP.out kb2))
      all_goals (go_wp2_with fail; go_meet)
      all_goals exact ⟨Lx.ownLit _ _ (by assumption) [.string ⟨(Lib.itoa t).toArray⟩, .string ⟨(Lx.evWord (7 : Nat)).toArray⟩] 9 (by unfold maxLen; simp), And.left (by assumption)⟩
    case rest =>
      obtain ⟨W1, rfl⟩ : ∃ W, W = wc := ⟨_, rfl⟩
      have k1' : W0.cell? ⟨kb, 1, none⟩ = some (.int .i64 9) := k1
      have B1 := Lib.hid hcut.2
      obtain ⟨a1, c1, rfl⟩ := Lx.ownSlice hcut.1
      have R1 := Lib.hid hcut.1
      clear hcut q0 q1 q2 q3 q4 q5 q6 q7 k0 k1 k2 HT
      obtain ⟨q0, q1, q2, q3, q4, q5, q6, q7⟩ := (BO.out.below B1.out).eight
      have k1 := (B1.out.cell (p := ⟨kb, 1, none⟩) hkl).trans k1'
      have xn := HNM.out W1 (BC.out.trans (B1.out.mono BC.out.size))
      go_wp2_with (at_builtin; refine wpList_append_own _ rfl _ _ 22 rfl W0.heap.size 9 i0 _ 1 16 Tryz.underlying22 hi hz0 hz1 hz2 rfl (by decide) _ _ _ rfl (R1.out.alloc _) ⟨W1.heap.size, 0, none⟩ 1 1 [.string x] rfl rfl (Lx.cellNew W1 (.string x) 9) (by simp [Value.oneCell']) (by unfold maxLen; omega) (by omega) ((B1.out.alloc B1.out.size _).size) ?_)
      intro v' W2 hown2 hgrow _
      obtain ⟨a2, c2, rfl⟩ := Lx.ownSlice hown2
      have R2 := Lib.hid hown2
      have B2 := Lib.hid ((B1.out.alloc B1.out.size (.cells #[.string x] 9)).grown hgrow (B1.out.alloc B1.out.size _).size (Lx.ownBase R1.out))
      clear hgrow hown2 q0 q1 q2 q3 q4 q5 q6 q7 k1 R1
      clear xn
      obtain ⟨q0, q1, q2, q3, q4, q5, q6, q7⟩ := (BO.out.below B2.out).eight
      have k1 := (B2.out.cell (p := ⟨kb, 1, none⟩) hkl).trans k1'
      go_wp2_with fail
      refine (HN.out _ (env.below (BC.out.trans (B2.out.mono BC.out.size)))).mono ?_
      rintro e W3 ⟨rfl, c3⟩
      have R3 := Lib.hid (Lx.ownBelowO R2.out c3)
      have B3 := Lib.hid (B2.out.trans (c3.mono B2.out.size))
      clear c3 q0 q1 q2 q3 q4 q5 q6 q7 k1 R2
      obtain ⟨q0, q1, q2, q3, q4, q5, q6, q7⟩ := (BO.out.below B3.out).eight
      have k1 := (B3.out.cell (p := ⟨kb, 1, none⟩) hkl).trans k1'
      go_wp2_with (at_builtin; refine wpList_append_own _ rfl _ _ 22 rfl W0.heap.size 9 i0 _ 1 16 Tryz.underlying22 hi hz0 hz1 hz2 rfl (by decide) _ _ _ rfl (R3.out.alloc _) ⟨W3.heap.size, 0, none⟩ 1 1 [.string (bs (Lx.untilW n))] rfl rfl (Lx.cellNew W3 (.string (bs (Lx.untilW n))) 9) (by simp [Value.oneCell']) (by unfold maxLen; omega) (by omega) ((B3.out.alloc B3.out.size _).size) ?_)
      intro v' W4 hown4 hgrow _
      obtain ⟨a4, c4, rfl⟩ := Lx.ownSlice hown4
      have R4 := Lib.hid hown4
      have B4 := Lib.hid ((B3.out.alloc B3.out.size (.cells #[.string (bs (Lx.untilW n))] 9)).grown hgrow (B3.out.alloc B3.out.size _).size (Lx.ownBase R3.out))
      clear hgrow hown4 q0 q1 q2 q3 q4 q5 q6 q7 k1 R3
      obtain ⟨q0, q1, q2, q3, q4, q5, q6, q7⟩ := (BO.out.below B4.out).eight
      have k1 := (B4.out.cell (p := ⟨kb, 1, none⟩) hkl).trans k1'
      obtain ⟨g8, c8, he8, lt8, hc8⟩ := Lx.ownPos R4.out (by omega)
      obtain ⟨rfl, rfl⟩ : a4 = some ⟨g8, 0, none⟩ ∧ c4 = c8 := by simpa using he8
      have hcap := Lx.ownCap R4.out
      clear he8
      go_wp2_with fail
      refine (Tryz.strings_Join g8 0 c4 [⟨(Lib.itoa t).toArray⟩, ⟨(Lx.evWord (7 : Nat)).toArray⟩, x, (bs (Lx.untilW n))] ⟨#[32]⟩ _ ?_ lt8 (by simp) hcap ?_).mono ?_
      · intro j z hz; rw [Nat.zero_add]; exact hc8 j _ (by
        have h9 : (([⟨(Lib.itoa t).toArray⟩, ⟨(Lx.evWord (7 : Nat)).toArray⟩, x, (bs (Lx.untilW n))] : List ByteArray).map Value.string)[j]? = some (.string z) := by rw [List.getElem?_map, hz]; rfl
        exact h9)
      · rw [show (⟨#[32]⟩ : ByteArray).data.toList = [32] from rfl, Lx.join_joinSp]; exact HLEN.out
      rintro e W9 ⟨rfl, c9⟩
      go_wp2_with fail
      go_ret2
      exact ⟨Lx.ret_t2 (Lx.v_str (congrArg (fun l : List UInt8 => (⟨l.toArray⟩ : ByteArray)) (Lx.join_joinSp _))) rfl, (BC.out.trans (B4.out.mono BC.out.size)).trans (c9.mono (BC.out.trans (B4.out.mono BC.out.size)).size)⟩
set_option maxRecDepth 100000 in
set_option maxHeartbeats 1600000 in
theorem write_8 (t : Int) (p : Nat) (x : ByteArray) (hxs : x.size ≤ 24) (ad : Option Addr) (m cap : Nat) (NS : List ByteArray) (w : World) (env : EEnv w)  (h : Lx.IsNames w ad m NS) (hx : NS[p]? = some x) (g : Lx.Good ⟨8, t, (p : Nat), 0, 0, 0, 0, 0⟩) :
    Calls Tryz.prog 30 #[.agg #[.int .i64 8, .int .i64 t, .int .i64 (p : Nat), .int .i64 0, .int .i64 0, .int .i64 0, .int .i64 0, .int .i64 0], .slice ad m cap] w (WriteIs (Lx.evText ⟨8, t, (p : Nat), 0, 0, 0, 0, 0⟩ x.data.toList) 0 w) := by
  have HC := Lib.hid (fun W => evcheck_any ⟨8, t, (p : Nat), 0, 0, 0, 0, 0⟩ W)
  rw [(Lx.evErr_good _).2 g] at HC
  unfold Lx.EvV.val EvCheckIs at HC
  have gi := Lx.good_in g
  have HT := Lib.hid (fun W (E : EEnv W) => digits_any t W gi.2.1.1 gi.2.1.2 E.env)
  dsimp only at HC HT
  have hba : Below w.heap.size w (w.alloc (.cells #[.int .i64 8, .int .i64 t, .int .i64 (p : Nat), .int .i64 0, .int .i64 0, .int .i64 0, .int .i64 0, .int .i64 0] 26)) := (Below.refl _ w).alloc (Nat.le_refl _) _
  have BO0 := Lib.hid (Lx.EvBox.new w 8 t (p : Nat) 0 0 0 0 0 26)
  have B0 := Lib.hid hba
  have hpm : p < m := by rw [← h.1]; exact (List.getElem?_eq_some_iff.1 hx).1
  obtain ⟨gn, offn, rfl, ltn, hcn⟩ := h.2 (by omega)
  have HNM := Lib.hid (show ∀ W, Below w.heap.size w W → W.cell? ⟨gn, offn + p, none⟩ = some (.string x) from fun W hb => (hb.cell (p := ⟨gn, offn + p, none⟩) ltn).trans (hcn p x hx))
  have hpi : (p : Int) < (m : Int) := by omega
  have hpd : decide ((m : Int) ≤ (p : Int)) = false := decide_eq_false (by omega)
  clear hcn hx
  have HLEN := Lib.hid (show (Lx.evText ⟨8, t, (p : Nat), 0, 0, 0, 0, 0⟩ x.data.toList).length ≤ 140737488355328 from by have := Lx.evText_len g (nm := x.data.toList) (by rw [← Lib.size_eq]; exact hxs); omega)
  obtain ⟨i0, hi, hz0, hz1, hz2⟩ := info_parts infoS
  clear g
  clear hba gi h
  go_enter Tryz.func30, Tryz.ntmps30
  obtain ⟨q0, q1, q2, q3, q4, q5, q6, q7⟩ := BO0.out.eight
  go_wp2_with fail
  refine (HC.out _).mono ?_
  rintro e w1 ⟨rfl, c1⟩
  have BO1 := Lib.hid (BO0.out.below c1)
  have B1 := Lib.hid (B0.out.trans (c1.mono B0.out.size))
  clear BO0 B0 c1 q0 q1 q2 q3 q4 q5 q6 q7
  obtain ⟨q0, -, -, -, -, -, -, -⟩ := BO1.out.eight
  have hl1 := BO1.out.1
  go_upto_region 4 with (fail)
  go_cut [7] (fun s7 wx => ∃ kb : Nat, s7 = .pointer (some ⟨kb, 0, none⟩) ∧ w.heap.size < kb ∧ Lx.KBox wx kb 8 ∧ Below w1.heap.size w1 wx)
  case first =>
    have HP := Lib.hid (fun W (hb : Below w1.heap.size w1 W) => (hb.cell (p := ⟨w.heap.size, 0, none⟩) hl1).trans q0)
    have hS0 : (fun wx => Below w1.heap.size w1 wx ∧ wx.cell? ⟨w.heap.size, 0, none⟩ = some (.int .i64 8)) w1.drew := ⟨(Below.refl _ _).drew, q0⟩
    dsimp only at hS0
    refine wp_region_held_drew (S := (fun wx => Below w1.heap.size w1 wx ∧ wx.cell? ⟨w.heap.size, 0, none⟩ = some (.int .i64 8))) (by kernel_rfl) ?_ (fun hHeld => ?_)
    · exact hS0
    refine' wpAnyH_take (i := 1) (oi := _) (v := _) ?hiz92 (by kernel_rfl) (by kernel_rfl) (by kernel_rfl) ?hqz92 ?hyz92 (by assumption) ?rez92
    case hiz92 => simp only [List.getElem?_toArray, List.getElem?_cons_succ, List.getElem?_cons_zero]; rfl
    case hqz92 => exact fun _ _ _ h => h
    case hyz92 =>
      refine Or.inl ⟨by rfl, ?_⟩
      intro w hSw; (try dsimp only at hSw); go_simp; try with_reducible rfl
    case rez92 =>
      try simp only [Act.put, List.setIfInBounds_toArray, List.set_cons_zero, List.set_cons_succ]
      refine' wpAnyH_take (i := 2) (oi := _) (v := _) ?hiz93 (by kernel_rfl) (by kernel_rfl) (by kernel_rfl) ?hqz93 ?hyz93 (by assumption) ?rez93
      case hiz93 => simp only [List.getElem?_toArray, List.getElem?_cons_succ, List.getElem?_cons_zero]; rfl
      case hqz93 => exact fun _ _ _ h => h
      case hyz93 =>
        refine Or.inl ⟨by rfl, ?_⟩
        intro w hSw; (try dsimp only at hSw); go_simp; try with_reducible rfl
      case rez93 =>
        try simp only [Act.put, List.setIfInBounds_toArray, List.set_cons_zero, List.set_cons_succ]
        refine wpAnyH_ready (rs := [0, 5]) (by kernel_rfl) (by simp) ?_
        refine' AllReadyH.cons (o := _) ?hi0z94 (fun K hK => ?st0z94) (AllReadyH.cons (o := _) ?hi5z94 (fun K hK => ?st5z94) AllReadyH.nil)
        case hi0z94 => simp only [List.getElem?_toArray, List.getElem?_cons_zero]; rfl
        case hi5z94 => simp only [List.getElem?_toArray, List.getElem?_cons_succ, List.getElem?_cons_zero]; rfl
        case st0z94 =>
          go_simp
          go_at_call 37; refine (kinds_any _).mono ?_; rintro e w2 ⟨g, rfl, hg, hk, c2⟩; obtain ⟨k0, k1, k2⟩ := hk.2 8 (by omega); have hgl := hk.1; clear hk hg; have kb := Lx.bCall (P := fun wx => wx.cell? ⟨w.heap.size, 0, none⟩ = some (.int .i64 8)) (by assumption) c2; have hz2 := kb.size; have hs2 := c2.size; simp at hs2; have kS := Lx.mkS HP.out kb; have b0 := fun i => c2.cell (p := ⟨w1.heap.size, i, none⟩); have f0 := fun i => c2.frozen (p := ⟨w1.heap.size, i, none⟩)
          try go_wp2_with fail
          refine hK.out _ _ ?_ (fun hHeld => ?_)
          · (first | assumption | (refine Lx.mkS HP.out ?_; repeat (first | assumption | exact Below.refl _ _ | apply Lx.bDrew | apply Lx.bAlloc | (apply Lx.bSet; (first | exact Nat.le_refl _ | assumption)))))
          clear hK K
          try simp only [Act.put, List.setIfInBounds_toArray, List.set_cons_zero, List.set_cons_succ]
          refine' wpAnyH_take (i := 3) (oi := _) (v := _) ?hiz95 (by kernel_rfl) (by kernel_rfl) (by kernel_rfl) ?hqz95 ?hyz95 (by assumption) ?rez95
          case hiz95 => simp only [List.getElem?_toArray, List.getElem?_cons_succ, List.getElem?_cons_zero]; rfl
          case hqz95 => exact fun _ _ _ h => h
          case hyz95 =>
            refine Or.inl ⟨by rfl, ?_⟩
            intro w hSw; (try dsimp only at hSw); go_simp; try with_reducible rfl
          case rez95 =>
            try simp only [Act.put, List.setIfInBounds_toArray, List.set_cons_zero, List.set_cons_succ]
            refine wpAnyH_ready (rs := [4, 5]) (by kernel_rfl) (by simp) ?_
            refine' AllReadyH.cons (o := _) ?hi4z96 (fun K hK => ?st4z96) (AllReadyH.cons (o := _) ?hi5z96 (fun K hK => ?st5z96) AllReadyH.nil)
            case hi4z96 => simp only [List.getElem?_toArray, List.getElem?_cons_succ, List.getElem?_cons_zero]; rfl
            case hi5z96 => simp only [List.getElem?_toArray, List.getElem?_cons_succ, List.getElem?_cons_zero]; rfl
            case st4z96 =>
              go_simp
              try go_wp2_with fail
              refine hK.out _ _ ?_ (fun hHeld => ?_)
              · (first | assumption | (refine Lx.mkS HP.out ?_; repeat (first | assumption | exact Below.refl _ _ | apply Lx.bDrew | apply Lx.bAlloc | (apply Lx.bSet; (first | exact Nat.le_refl _ | assumption)))))
              clear hK K
              try simp only [Act.put, List.setIfInBounds_toArray, List.set_cons_zero, List.set_cons_succ]
              refine wpAnyH_ready (rs := [5]) (by kernel_rfl) (by simp) ?_
              refine' AllReadyH.cons (o := _) ?hi5z97 (fun K hK => ?st5z97) AllReadyH.nil
              case hi5z97 => simp only [List.getElem?_toArray, List.getElem?_cons_succ, List.getElem?_cons_zero]; rfl
              case st5z97 =>
                go_simp
                try go_wp2_with fail
                refine hK.out _ _ ?_ (fun hHeld => ?_)
                · (first | assumption | (refine Lx.mkS HP.out ?_; repeat (first | assumption | exact Below.refl _ _ | apply Lx.bDrew | apply Lx.bAlloc | (apply Lx.bSet; (first | exact Nat.le_refl _ | assumption)))))
                clear hK K
                try simp only [Act.put, List.setIfInBounds_toArray, List.set_cons_zero, List.set_cons_succ]
                refine wpAnyH_ready (rs := [6]) (by kernel_rfl) (by simp) ?_
                refine' AllReadyH.cons (o := _) ?hi6z98 (fun K hK => ?st6z98) AllReadyH.nil
                case hi6z98 => simp only [List.getElem?_toArray, List.getElem?_cons_succ, List.getElem?_cons_zero]; rfl
                case st6z98 =>
                  go_simp
                  try go_wp2_with fail
                  refine hK.out _ _ ?_ (fun hHeld => ?_)
                  · (first | assumption | (refine Lx.mkS HP.out ?_; repeat (first | assumption | exact Below.refl _ _ | apply Lx.bDrew | apply Lx.bAlloc | (apply Lx.bSet; (first | exact Nat.le_refl _ | assumption)))))
                  clear hK K
                  try simp only [Act.put, List.setIfInBounds_toArray, List.set_cons_zero, List.set_cons_succ]
                  refine wpAnyH_done (by kernel_rfl) ?_ _
                  go_wp2_with fail
                  go_meet
                  first | exact ⟨_, rfl, by omega, ⟨by simp, by simp, by simp, by simp⟩, And.left (by assumption)⟩ | (refine ⟨_, rfl, hl1, ⟨?_, ?_, ?_, ?_⟩, And.left (by assumption)⟩ <;> first | (go_simp; done) | (rw [Lx.size_set, Lx.size_set, Lx.size_set]; omega))
            case st5z96 =>
              go_simp
              try go_wp2_with fail
              refine hK.out _ _ ?_ (fun hHeld => ?_)
              · (first | assumption | (refine Lx.mkS HP.out ?_; repeat (first | assumption | exact Below.refl _ _ | apply Lx.bDrew | apply Lx.bAlloc | (apply Lx.bSet; (first | exact Nat.le_refl _ | assumption)))))
              clear hK K
              try simp only [Act.put, List.setIfInBounds_toArray, List.set_cons_zero, List.set_cons_succ]
              refine wpAnyH_ready (rs := [4]) (by kernel_rfl) (by simp) ?_
              refine' AllReadyH.cons (o := _) ?hi4z99 (fun K hK => ?st4z99) AllReadyH.nil
              case hi4z99 => simp only [List.getElem?_toArray, List.getElem?_cons_succ, List.getElem?_cons_zero]; rfl
              case st4z99 =>
                go_simp
                try go_wp2_with fail
                refine hK.out _ _ ?_ (fun hHeld => ?_)
                · (first | assumption | (refine Lx.mkS HP.out ?_; repeat (first | assumption | exact Below.refl _ _ | apply Lx.bDrew | apply Lx.bAlloc | (apply Lx.bSet; (first | exact Nat.le_refl _ | assumption)))))
                clear hK K
                try simp only [Act.put, List.setIfInBounds_toArray, List.set_cons_zero, List.set_cons_succ]
                refine wpAnyH_ready (rs := [6]) (by kernel_rfl) (by simp) ?_
                refine' AllReadyH.cons (o := _) ?hi6z100 (fun K hK => ?st6z100) AllReadyH.nil
                case hi6z100 => simp only [List.getElem?_toArray, List.getElem?_cons_succ, List.getElem?_cons_zero]; rfl
                case st6z100 =>
                  go_simp
                  try go_wp2_with fail
                  refine hK.out _ _ ?_ (fun hHeld => ?_)
                  · (first | assumption | (refine Lx.mkS HP.out ?_; repeat (first | assumption | exact Below.refl _ _ | apply Lx.bDrew | apply Lx.bAlloc | (apply Lx.bSet; (first | exact Nat.le_refl _ | assumption)))))
                  clear hK K
                  try simp only [Act.put, List.setIfInBounds_toArray, List.set_cons_zero, List.set_cons_succ]
                  refine wpAnyH_done (by kernel_rfl) ?_ _
                  go_wp2_with fail
                  go_meet
                  first | exact ⟨_, rfl, by omega, ⟨by simp, by simp, by simp, by simp⟩, And.left (by assumption)⟩ | (refine ⟨_, rfl, hl1, ⟨?_, ?_, ?_, ?_⟩, And.left (by assumption)⟩ <;> first | (go_simp; done) | (rw [Lx.size_set, Lx.size_set, Lx.size_set]; omega))
        case st5z94 =>
          go_simp
          try go_wp2_with fail
          refine hK.out _ _ ?_ (fun hHeld => ?_)
          · (first | assumption | (refine Lx.mkS HP.out ?_; repeat (first | assumption | exact Below.refl _ _ | apply Lx.bDrew | apply Lx.bAlloc | (apply Lx.bSet; (first | exact Nat.le_refl _ | assumption)))))
          clear hK K
          try simp only [Act.put, List.setIfInBounds_toArray, List.set_cons_zero, List.set_cons_succ]
          refine wpAnyH_ready (rs := [0]) (by kernel_rfl) (by simp) ?_
          refine' AllReadyH.cons (o := _) ?hi0z101 (fun K hK => ?st0z101) AllReadyH.nil
          case hi0z101 => simp only [List.getElem?_toArray, List.getElem?_cons_zero]; rfl
          case st0z101 =>
            go_simp
            go_at_call 37; refine (kinds_any _).mono ?_; rintro e w2 ⟨g, rfl, hg, hk, c2⟩; obtain ⟨k0, k1, k2⟩ := hk.2 8 (by omega); have hgl := hk.1; clear hk hg; have kb := Lx.bCall (P := fun wx => wx.cell? ⟨w.heap.size, 0, none⟩ = some (.int .i64 8)) (by assumption) c2; have hz2 := kb.size; have hs2 := c2.size; simp at hs2; have kS := Lx.mkS HP.out kb; have b0 := fun i => c2.cell (p := ⟨w1.heap.size, i, none⟩); have f0 := fun i => c2.frozen (p := ⟨w1.heap.size, i, none⟩)
            try go_wp2_with fail
            refine hK.out _ _ ?_ (fun hHeld => ?_)
            · (first | assumption | (refine Lx.mkS HP.out ?_; repeat (first | assumption | exact Below.refl _ _ | apply Lx.bDrew | apply Lx.bAlloc | (apply Lx.bSet; (first | exact Nat.le_refl _ | assumption)))))
            clear hK K
            try simp only [Act.put, List.setIfInBounds_toArray, List.set_cons_zero, List.set_cons_succ]
            refine' wpAnyH_take (i := 3) (oi := _) (v := _) ?hiz102 (by kernel_rfl) (by kernel_rfl) (by kernel_rfl) ?hqz102 ?hyz102 (by assumption) ?rez102
            case hiz102 => simp only [List.getElem?_toArray, List.getElem?_cons_succ, List.getElem?_cons_zero]; rfl
            case hqz102 => exact fun _ _ _ h => h
            case hyz102 =>
              refine Or.inl ⟨by rfl, ?_⟩
              intro w hSw; (try dsimp only at hSw); go_simp; try with_reducible rfl
            case rez102 =>
              try simp only [Act.put, List.setIfInBounds_toArray, List.set_cons_zero, List.set_cons_succ]
              refine wpAnyH_ready (rs := [4]) (by kernel_rfl) (by simp) ?_
              refine' AllReadyH.cons (o := _) ?hi4z103 (fun K hK => ?st4z103) AllReadyH.nil
              case hi4z103 => simp only [List.getElem?_toArray, List.getElem?_cons_succ, List.getElem?_cons_zero]; rfl
              case st4z103 =>
                go_simp
                try go_wp2_with fail
                refine hK.out _ _ ?_ (fun hHeld => ?_)
                · (first | assumption | (refine Lx.mkS HP.out ?_; repeat (first | assumption | exact Below.refl _ _ | apply Lx.bDrew | apply Lx.bAlloc | (apply Lx.bSet; (first | exact Nat.le_refl _ | assumption)))))
                clear hK K
                try simp only [Act.put, List.setIfInBounds_toArray, List.set_cons_zero, List.set_cons_succ]
                refine wpAnyH_ready (rs := [6]) (by kernel_rfl) (by simp) ?_
                refine' AllReadyH.cons (o := _) ?hi6z104 (fun K hK => ?st6z104) AllReadyH.nil
                case hi6z104 => simp only [List.getElem?_toArray, List.getElem?_cons_succ, List.getElem?_cons_zero]; rfl
                case st6z104 =>
                  go_simp
                  try go_wp2_with fail
                  refine hK.out _ _ ?_ (fun hHeld => ?_)
                  · (first | assumption | (refine Lx.mkS HP.out ?_; repeat (first | assumption | exact Below.refl _ _ | apply Lx.bDrew | apply Lx.bAlloc | (apply Lx.bSet; (first | exact Nat.le_refl _ | assumption)))))
                  clear hK K
                  try simp only [Act.put, List.setIfInBounds_toArray, List.set_cons_zero, List.set_cons_succ]
                  refine wpAnyH_done (by kernel_rfl) ?_ _
                  go_wp2_with fail
                  go_meet
                  first | exact ⟨_, rfl, by omega, ⟨by simp, by simp, by simp, by simp⟩, And.left (by assumption)⟩ | (refine ⟨_, rfl, hl1, ⟨?_, ?_, ?_, ?_⟩, And.left (by assumption)⟩ <;> first | (go_simp; done) | (rw [Lx.size_set, Lx.size_set, Lx.size_set]; omega))
  case rest =>
    obtain ⟨kb, rfl, hkb, ⟨hkl, k0, k1, k2⟩, hbc⟩ := hcut
    obtain ⟨W0, rfl⟩ : ∃ W, W = wc := ⟨_, rfl⟩
    have BO := Lib.hid (BO1.out.below hbc)
    have BC := Lib.hid (B1.out.trans (hbc.mono B1.out.size))
    have hl := BO.out.1
    clear BO1 B1 hbc q0 hl1 HC
    obtain ⟨q0, q1, q2, q3, q4, q5, q6, q7⟩ := BO.out.eight
    go_upto_region 5 with (fail)
    go_cut [8] (fun s8 wx => wx.ownsRow W0.heap.size 9 1 s8 2 [.string ⟨(Lib.itoa t).toArray⟩, .string ⟨(Lx.evWord (8 : Nat)).toArray⟩] ∧ Below W0.heap.size W0 wx)
    case first =>
      have HP := Lib.hid (fun W (hb : Below W0.heap.size W0 W) => And.intro ((hb.cell (p := ⟨w.heap.size, 1, none⟩) hl).trans q1) ((hb.cell (p := ⟨kb, 0, none⟩) hkl).trans k0))
      have hS0 : (fun wx => Below W0.heap.size W0 wx ∧ wx.cell? ⟨w.heap.size, 1, none⟩ = some (.int .i64 t) ∧ wx.cell? ⟨kb, 0, none⟩ = some (.string ⟨(Lx.evWord (8 : Nat)).toArray⟩)) W0.drew := ⟨(Below.refl _ _).drew, q1, k0⟩
      dsimp only at hS0
      go_region_held3 (fun wx => Below W0.heap.size W0 wx ∧ wx.cell? ⟨w.heap.size, 1, none⟩ = some (.int .i64 t) ∧ wx.cell? ⟨kb, 0, none⟩ = some (.string ⟨(Lx.evWord (8 : Nat)).toArray⟩))
        (first | assumption | (refine Lx.mkS HP.out ?_; repeat (first | assumption | exact Below.refl _ _ | apply Lx.bDrew | apply Lx.bAlloc | (apply Lx.bSet; (first | exact Nat.le_refl _ | assumption)))))
        (first
          | (go_at_call 50; refine (HT.out _ (env.below (BC.out.trans (Below.mono (And.left (by assumption)) BC.out.size)))).mono ?_; rintro e w2 ⟨rfl, c2⟩; have kb2 := Lx.bCall (P := fun wx => wx.cell? ⟨w.heap.size, 1, none⟩ = some (.int .i64 t) ∧ wx.cell? ⟨kb, 0, none⟩ = some (.string ⟨(Lx.evWord (8 : Nat)).toArray⟩)) (by assumption) c2; have hz2 := kb2.size; have kS := Lx.mkS HP.out kb2))
      all_goals (go_wp2_with fail; go_meet)
      all_goals exact ⟨Lx.ownLit _ _ (by assumption) [.string ⟨(Lib.itoa t).toArray⟩, .string ⟨(Lx.evWord (8 : Nat)).toArray⟩] 9 (by unfold maxLen; simp), And.left (by assumption)⟩
    case rest =>
      obtain ⟨W1, rfl⟩ : ∃ W, W = wc := ⟨_, rfl⟩
      have k1' : W0.cell? ⟨kb, 1, none⟩ = some (.int .i64 1) := k1
      have B1 := Lib.hid hcut.2
      obtain ⟨a1, c1, rfl⟩ := Lx.ownSlice hcut.1
      have R1 := Lib.hid hcut.1
      clear hcut q0 q1 q2 q3 q4 q5 q6 q7 k0 k1 k2 HT
      obtain ⟨q0, q1, q2, q3, q4, q5, q6, q7⟩ := (BO.out.below B1.out).eight
      have k1 := (B1.out.cell (p := ⟨kb, 1, none⟩) hkl).trans k1'
      have xn := HNM.out W1 (BC.out.trans (B1.out.mono BC.out.size))
      go_wp2_with (at_builtin; refine wpList_append_own _ rfl _ _ 22 rfl W0.heap.size 9 i0 _ 1 16 Tryz.underlying22 hi hz0 hz1 hz2 rfl (by decide) _ _ _ rfl (R1.out.alloc _) ⟨W1.heap.size, 0, none⟩ 1 1 [.string x] rfl rfl (Lx.cellNew W1 (.string x) 9) (by simp [Value.oneCell']) (by unfold maxLen; omega) (by omega) ((B1.out.alloc B1.out.size _).size) ?_)
      intro v' W2 hown2 hgrow _
      obtain ⟨a2, c2, rfl⟩ := Lx.ownSlice hown2
      have R2 := Lib.hid hown2
      have B2 := Lib.hid ((B1.out.alloc B1.out.size (.cells #[.string x] 9)).grown hgrow (B1.out.alloc B1.out.size _).size (Lx.ownBase R1.out))
      clear hgrow hown2 q0 q1 q2 q3 q4 q5 q6 q7 k1 R1
      clear xn
      obtain ⟨q0, q1, q2, q3, q4, q5, q6, q7⟩ := (BO.out.below B2.out).eight
      have k1 := (B2.out.cell (p := ⟨kb, 1, none⟩) hkl).trans k1'
      obtain ⟨g8, c8, he8, lt8, hc8⟩ := Lx.ownPos R2.out (by omega)
      obtain ⟨rfl, rfl⟩ : a2 = some ⟨g8, 0, none⟩ ∧ c2 = c8 := by simpa using he8
      have hcap := Lx.ownCap R2.out
      clear he8
      go_wp2_with fail
      refine (Tryz.strings_Join g8 0 c2 [⟨(Lib.itoa t).toArray⟩, ⟨(Lx.evWord (8 : Nat)).toArray⟩, x] ⟨#[32]⟩ _ ?_ lt8 (by simp) hcap ?_).mono ?_
      · intro j z hz; rw [Nat.zero_add]; exact hc8 j _ (by
        have h9 : (([⟨(Lib.itoa t).toArray⟩, ⟨(Lx.evWord (8 : Nat)).toArray⟩, x] : List ByteArray).map Value.string)[j]? = some (.string z) := by rw [List.getElem?_map, hz]; rfl
        exact h9)
      · rw [show (⟨#[32]⟩ : ByteArray).data.toList = [32] from rfl, Lx.join_joinSp]; exact HLEN.out
      rintro e W9 ⟨rfl, c9⟩
      go_wp2_with fail
      go_ret2
      exact ⟨Lx.ret_t2 (Lx.v_str (congrArg (fun l : List UInt8 => (⟨l.toArray⟩ : ByteArray)) (Lx.join_joinSp _))) rfl, (BC.out.trans (B2.out.mono BC.out.size)).trans (c9.mono (BC.out.trans (B2.out.mono BC.out.size)).size)⟩
set_option maxRecDepth 100000 in
set_option maxHeartbeats 1600000 in
theorem write_range (q : Nat) (t d a r n y : Int) (p : Nat) (ad : Option Addr) (m cap : Nat) (w : World) (env : EEnv w) (h1 : 1 ≤ q) (h9 : q < 9) (h6 : q ≠ 6) (hmp : m ≤ p) (g : Lx.Good ⟨(q : Nat), t, (p : Nat), d, a, r, y, n⟩) :
    Calls Tryz.prog 30 #[.agg #[.int .i64 (q : Nat), .int .i64 t, .int .i64 (p : Nat), .int .i64 d, .int .i64 a, .int .i64 r, .int .i64 y, .int .i64 n], .slice ad m cap] w (WriteIs [] 3 w) := by
  have HC := Lib.hid (fun W => evcheck_any ⟨(q : Nat), t, (p : Nat), d, a, r, y, n⟩ W)
  rw [(Lx.evErr_good _).2 g] at HC
  unfold Lx.EvV.val EvCheckIs at HC
  have gi := Lx.good_in g
  have HT := Lib.hid (fun W (E : EEnv W) => digits_any t W gi.2.1.1 gi.2.1.2 E.env)
  dsimp only at HC HT
  have hba : Below w.heap.size w (w.alloc (.cells #[.int .i64 (q : Nat), .int .i64 t, .int .i64 (p : Nat), .int .i64 d, .int .i64 a, .int .i64 r, .int .i64 y, .int .i64 n] 26)) := (Below.refl _ w).alloc (Nat.le_refl _) _
  have BO0 := Lib.hid (Lx.EvBox.new w (q : Nat) t (p : Nat) d a r y n 26)
  have B0 := Lib.hid hba
  have hq9 : (q : Int) < 9 := by omega
  have hmpi : (m : Int) ≤ (p : Int) := by omega
  have hub : (bits .and .i64 (Lx.usesN q) 1 != 0) = true := by
    rcases Lx.nine h9 with rfl | rfl | rfl | rfl | rfl | rfl | rfl | rfl | rfl <;> first | omega | decide +kernel
  clear hba gi g
  go_enter Tryz.func30, Tryz.ntmps30
  obtain ⟨q0, q1, q2, q3, q4, q5, q6, q7⟩ := BO0.out.eight
  go_wp2_with fail
  refine (HC.out _).mono ?_
  rintro e w1 ⟨rfl, c1⟩
  have BO1 := Lib.hid (BO0.out.below c1)
  have B1 := Lib.hid (B0.out.trans (c1.mono B0.out.size))
  clear BO0 B0 c1 q0 q1 q2 q3 q4 q5 q6 q7
  obtain ⟨q0, -, -, -, -, -, -, -⟩ := BO1.out.eight
  have hl1 := BO1.out.1
  go_upto_region 4 with (fail)
  go_cut [7] (fun s7 wx => ∃ kb : Nat, s7 = .pointer (some ⟨kb, 0, none⟩) ∧ w.heap.size < kb ∧ Lx.KBox wx kb q ∧ Below w1.heap.size w1 wx)
  case first =>
    have HP := Lib.hid (fun W (hb : Below w1.heap.size w1 W) => (hb.cell (p := ⟨w.heap.size, 0, none⟩) hl1).trans q0)
    have hS0 : (fun wx => Below w1.heap.size w1 wx ∧ wx.cell? ⟨w.heap.size, 0, none⟩ = some (.int .i64 (q : Nat))) w1.drew := ⟨(Below.refl _ _).drew, q0⟩
    dsimp only at hS0
    refine wp_region_held_drew (S := (fun wx => Below w1.heap.size w1 wx ∧ wx.cell? ⟨w.heap.size, 0, none⟩ = some (.int .i64 (q : Nat)))) (by kernel_rfl) ?_ (fun hHeld => ?_)
    · exact hS0
    refine' wpAnyH_take (i := 1) (oi := _) (v := _) ?hiz105 (by kernel_rfl) (by kernel_rfl) (by kernel_rfl) ?hqz105 ?hyz105 (by assumption) ?rez105
    case hiz105 => simp only [List.getElem?_toArray, List.getElem?_cons_succ, List.getElem?_cons_zero]; rfl
    case hqz105 => exact fun _ _ _ h => h
    case hyz105 =>
      refine Or.inl ⟨by rfl, ?_⟩
      intro w hSw; (try dsimp only at hSw); go_simp; try with_reducible rfl
    case rez105 =>
      try simp only [Act.put, List.setIfInBounds_toArray, List.set_cons_zero, List.set_cons_succ]
      refine' wpAnyH_take (i := 2) (oi := _) (v := _) ?hiz106 (by kernel_rfl) (by kernel_rfl) (by kernel_rfl) ?hqz106 ?hyz106 (by assumption) ?rez106
      case hiz106 => simp only [List.getElem?_toArray, List.getElem?_cons_succ, List.getElem?_cons_zero]; rfl
      case hqz106 => exact fun _ _ _ h => h
      case hyz106 =>
        refine Or.inl ⟨by rfl, ?_⟩
        intro w hSw; (try dsimp only at hSw); go_simp; try with_reducible rfl
      case rez106 =>
        try simp only [Act.put, List.setIfInBounds_toArray, List.set_cons_zero, List.set_cons_succ]
        refine wpAnyH_ready (rs := [0, 5]) (by kernel_rfl) (by simp) ?_
        refine' AllReadyH.cons (o := _) ?hi0z107 (fun K hK => ?st0z107) (AllReadyH.cons (o := _) ?hi5z107 (fun K hK => ?st5z107) AllReadyH.nil)
        case hi0z107 => simp only [List.getElem?_toArray, List.getElem?_cons_zero]; rfl
        case hi5z107 => simp only [List.getElem?_toArray, List.getElem?_cons_succ, List.getElem?_cons_zero]; rfl
        case st0z107 =>
          go_simp
          go_at_call 37; refine (kinds_any _).mono ?_; rintro e w2 ⟨g, rfl, hg, hk, c2⟩; obtain ⟨k0, k1, k2⟩ := hk.2 q (by omega); have hgl := hk.1; clear hk hg; have kb := Lx.bCall (P := fun wx => wx.cell? ⟨w.heap.size, 0, none⟩ = some (.int .i64 (q : Nat))) (by assumption) c2; have hz2 := kb.size; have hs2 := c2.size; simp at hs2; have kS := Lx.mkS HP.out kb; have b0 := fun i => c2.cell (p := ⟨w1.heap.size, i, none⟩); have f0 := fun i => c2.frozen (p := ⟨w1.heap.size, i, none⟩)
          try go_wp2_with fail
          refine hK.out _ _ ?_ (fun hHeld => ?_)
          · (first | assumption | (refine Lx.mkS HP.out ?_; repeat (first | assumption | exact Below.refl _ _ | apply Lx.bDrew | apply Lx.bAlloc | (apply Lx.bSet; (first | exact Nat.le_refl _ | assumption)))))
          clear hK K
          try simp only [Act.put, List.setIfInBounds_toArray, List.set_cons_zero, List.set_cons_succ]
          refine' wpAnyH_take (i := 3) (oi := _) (v := _) ?hiz108 (by kernel_rfl) (by kernel_rfl) (by kernel_rfl) ?hqz108 ?hyz108 (by assumption) ?rez108
          case hiz108 => simp only [List.getElem?_toArray, List.getElem?_cons_succ, List.getElem?_cons_zero]; rfl
          case hqz108 => exact fun _ _ _ h => h
          case hyz108 =>
            refine Or.inl ⟨by rfl, ?_⟩
            intro w hSw; (try dsimp only at hSw); go_simp; try with_reducible rfl
          case rez108 =>
            try simp only [Act.put, List.setIfInBounds_toArray, List.set_cons_zero, List.set_cons_succ]
            refine wpAnyH_ready (rs := [4, 5]) (by kernel_rfl) (by simp) ?_
            refine' AllReadyH.cons (o := _) ?hi4z109 (fun K hK => ?st4z109) (AllReadyH.cons (o := _) ?hi5z109 (fun K hK => ?st5z109) AllReadyH.nil)
            case hi4z109 => simp only [List.getElem?_toArray, List.getElem?_cons_succ, List.getElem?_cons_zero]; rfl
            case hi5z109 => simp only [List.getElem?_toArray, List.getElem?_cons_succ, List.getElem?_cons_zero]; rfl
            case st4z109 =>
              go_simp
              try go_wp2_with fail
              refine hK.out _ _ ?_ (fun hHeld => ?_)
              · (first | assumption | (refine Lx.mkS HP.out ?_; repeat (first | assumption | exact Below.refl _ _ | apply Lx.bDrew | apply Lx.bAlloc | (apply Lx.bSet; (first | exact Nat.le_refl _ | assumption)))))
              clear hK K
              try simp only [Act.put, List.setIfInBounds_toArray, List.set_cons_zero, List.set_cons_succ]
              refine wpAnyH_ready (rs := [5]) (by kernel_rfl) (by simp) ?_
              refine' AllReadyH.cons (o := _) ?hi5z110 (fun K hK => ?st5z110) AllReadyH.nil
              case hi5z110 => simp only [List.getElem?_toArray, List.getElem?_cons_succ, List.getElem?_cons_zero]; rfl
              case st5z110 =>
                go_simp
                try go_wp2_with fail
                refine hK.out _ _ ?_ (fun hHeld => ?_)
                · (first | assumption | (refine Lx.mkS HP.out ?_; repeat (first | assumption | exact Below.refl _ _ | apply Lx.bDrew | apply Lx.bAlloc | (apply Lx.bSet; (first | exact Nat.le_refl _ | assumption)))))
                clear hK K
                try simp only [Act.put, List.setIfInBounds_toArray, List.set_cons_zero, List.set_cons_succ]
                refine wpAnyH_ready (rs := [6]) (by kernel_rfl) (by simp) ?_
                refine' AllReadyH.cons (o := _) ?hi6z111 (fun K hK => ?st6z111) AllReadyH.nil
                case hi6z111 => simp only [List.getElem?_toArray, List.getElem?_cons_succ, List.getElem?_cons_zero]; rfl
                case st6z111 =>
                  go_simp
                  try go_wp2_with fail
                  refine hK.out _ _ ?_ (fun hHeld => ?_)
                  · (first | assumption | (refine Lx.mkS HP.out ?_; repeat (first | assumption | exact Below.refl _ _ | apply Lx.bDrew | apply Lx.bAlloc | (apply Lx.bSet; (first | exact Nat.le_refl _ | assumption)))))
                  clear hK K
                  try simp only [Act.put, List.setIfInBounds_toArray, List.set_cons_zero, List.set_cons_succ]
                  refine wpAnyH_done (by kernel_rfl) ?_ _
                  go_wp2_with fail
                  go_meet
                  first | exact ⟨_, rfl, by omega, ⟨by simp, by simp, by simp, by simp⟩, And.left (by assumption)⟩ | (refine ⟨_, rfl, hl1, ⟨?_, ?_, ?_, ?_⟩, And.left (by assumption)⟩ <;> first | (go_simp; done) | (rw [Lx.size_set, Lx.size_set, Lx.size_set]; omega))
            case st5z109 =>
              go_simp
              try go_wp2_with fail
              refine hK.out _ _ ?_ (fun hHeld => ?_)
              · (first | assumption | (refine Lx.mkS HP.out ?_; repeat (first | assumption | exact Below.refl _ _ | apply Lx.bDrew | apply Lx.bAlloc | (apply Lx.bSet; (first | exact Nat.le_refl _ | assumption)))))
              clear hK K
              try simp only [Act.put, List.setIfInBounds_toArray, List.set_cons_zero, List.set_cons_succ]
              refine wpAnyH_ready (rs := [4]) (by kernel_rfl) (by simp) ?_
              refine' AllReadyH.cons (o := _) ?hi4z112 (fun K hK => ?st4z112) AllReadyH.nil
              case hi4z112 => simp only [List.getElem?_toArray, List.getElem?_cons_succ, List.getElem?_cons_zero]; rfl
              case st4z112 =>
                go_simp
                try go_wp2_with fail
                refine hK.out _ _ ?_ (fun hHeld => ?_)
                · (first | assumption | (refine Lx.mkS HP.out ?_; repeat (first | assumption | exact Below.refl _ _ | apply Lx.bDrew | apply Lx.bAlloc | (apply Lx.bSet; (first | exact Nat.le_refl _ | assumption)))))
                clear hK K
                try simp only [Act.put, List.setIfInBounds_toArray, List.set_cons_zero, List.set_cons_succ]
                refine wpAnyH_ready (rs := [6]) (by kernel_rfl) (by simp) ?_
                refine' AllReadyH.cons (o := _) ?hi6z113 (fun K hK => ?st6z113) AllReadyH.nil
                case hi6z113 => simp only [List.getElem?_toArray, List.getElem?_cons_succ, List.getElem?_cons_zero]; rfl
                case st6z113 =>
                  go_simp
                  try go_wp2_with fail
                  refine hK.out _ _ ?_ (fun hHeld => ?_)
                  · (first | assumption | (refine Lx.mkS HP.out ?_; repeat (first | assumption | exact Below.refl _ _ | apply Lx.bDrew | apply Lx.bAlloc | (apply Lx.bSet; (first | exact Nat.le_refl _ | assumption)))))
                  clear hK K
                  try simp only [Act.put, List.setIfInBounds_toArray, List.set_cons_zero, List.set_cons_succ]
                  refine wpAnyH_done (by kernel_rfl) ?_ _
                  go_wp2_with fail
                  go_meet
                  first | exact ⟨_, rfl, by omega, ⟨by simp, by simp, by simp, by simp⟩, And.left (by assumption)⟩ | (refine ⟨_, rfl, hl1, ⟨?_, ?_, ?_, ?_⟩, And.left (by assumption)⟩ <;> first | (go_simp; done) | (rw [Lx.size_set, Lx.size_set, Lx.size_set]; omega))
        case st5z107 =>
          go_simp
          try go_wp2_with fail
          refine hK.out _ _ ?_ (fun hHeld => ?_)
          · (first | assumption | (refine Lx.mkS HP.out ?_; repeat (first | assumption | exact Below.refl _ _ | apply Lx.bDrew | apply Lx.bAlloc | (apply Lx.bSet; (first | exact Nat.le_refl _ | assumption)))))
          clear hK K
          try simp only [Act.put, List.setIfInBounds_toArray, List.set_cons_zero, List.set_cons_succ]
          refine wpAnyH_ready (rs := [0]) (by kernel_rfl) (by simp) ?_
          refine' AllReadyH.cons (o := _) ?hi0z114 (fun K hK => ?st0z114) AllReadyH.nil
          case hi0z114 => simp only [List.getElem?_toArray, List.getElem?_cons_zero]; rfl
          case st0z114 =>
            go_simp
            go_at_call 37; refine (kinds_any _).mono ?_; rintro e w2 ⟨g, rfl, hg, hk, c2⟩; obtain ⟨k0, k1, k2⟩ := hk.2 q (by omega); have hgl := hk.1; clear hk hg; have kb := Lx.bCall (P := fun wx => wx.cell? ⟨w.heap.size, 0, none⟩ = some (.int .i64 (q : Nat))) (by assumption) c2; have hz2 := kb.size; have hs2 := c2.size; simp at hs2; have kS := Lx.mkS HP.out kb; have b0 := fun i => c2.cell (p := ⟨w1.heap.size, i, none⟩); have f0 := fun i => c2.frozen (p := ⟨w1.heap.size, i, none⟩)
            try go_wp2_with fail
            refine hK.out _ _ ?_ (fun hHeld => ?_)
            · (first | assumption | (refine Lx.mkS HP.out ?_; repeat (first | assumption | exact Below.refl _ _ | apply Lx.bDrew | apply Lx.bAlloc | (apply Lx.bSet; (first | exact Nat.le_refl _ | assumption)))))
            clear hK K
            try simp only [Act.put, List.setIfInBounds_toArray, List.set_cons_zero, List.set_cons_succ]
            refine' wpAnyH_take (i := 3) (oi := _) (v := _) ?hiz115 (by kernel_rfl) (by kernel_rfl) (by kernel_rfl) ?hqz115 ?hyz115 (by assumption) ?rez115
            case hiz115 => simp only [List.getElem?_toArray, List.getElem?_cons_succ, List.getElem?_cons_zero]; rfl
            case hqz115 => exact fun _ _ _ h => h
            case hyz115 =>
              refine Or.inl ⟨by rfl, ?_⟩
              intro w hSw; (try dsimp only at hSw); go_simp; try with_reducible rfl
            case rez115 =>
              try simp only [Act.put, List.setIfInBounds_toArray, List.set_cons_zero, List.set_cons_succ]
              refine wpAnyH_ready (rs := [4]) (by kernel_rfl) (by simp) ?_
              refine' AllReadyH.cons (o := _) ?hi4z116 (fun K hK => ?st4z116) AllReadyH.nil
              case hi4z116 => simp only [List.getElem?_toArray, List.getElem?_cons_succ, List.getElem?_cons_zero]; rfl
              case st4z116 =>
                go_simp
                try go_wp2_with fail
                refine hK.out _ _ ?_ (fun hHeld => ?_)
                · (first | assumption | (refine Lx.mkS HP.out ?_; repeat (first | assumption | exact Below.refl _ _ | apply Lx.bDrew | apply Lx.bAlloc | (apply Lx.bSet; (first | exact Nat.le_refl _ | assumption)))))
                clear hK K
                try simp only [Act.put, List.setIfInBounds_toArray, List.set_cons_zero, List.set_cons_succ]
                refine wpAnyH_ready (rs := [6]) (by kernel_rfl) (by simp) ?_
                refine' AllReadyH.cons (o := _) ?hi6z117 (fun K hK => ?st6z117) AllReadyH.nil
                case hi6z117 => simp only [List.getElem?_toArray, List.getElem?_cons_succ, List.getElem?_cons_zero]; rfl
                case st6z117 =>
                  go_simp
                  try go_wp2_with fail
                  refine hK.out _ _ ?_ (fun hHeld => ?_)
                  · (first | assumption | (refine Lx.mkS HP.out ?_; repeat (first | assumption | exact Below.refl _ _ | apply Lx.bDrew | apply Lx.bAlloc | (apply Lx.bSet; (first | exact Nat.le_refl _ | assumption)))))
                  clear hK K
                  try simp only [Act.put, List.setIfInBounds_toArray, List.set_cons_zero, List.set_cons_succ]
                  refine wpAnyH_done (by kernel_rfl) ?_ _
                  go_wp2_with fail
                  go_meet
                  first | exact ⟨_, rfl, by omega, ⟨by simp, by simp, by simp, by simp⟩, And.left (by assumption)⟩ | (refine ⟨_, rfl, hl1, ⟨?_, ?_, ?_, ?_⟩, And.left (by assumption)⟩ <;> first | (go_simp; done) | (rw [Lx.size_set, Lx.size_set, Lx.size_set]; omega))
  case rest =>
    obtain ⟨kb, rfl, hkb, ⟨hkl, k0, k1, k2⟩, hbc⟩ := hcut
    obtain ⟨W0, rfl⟩ : ∃ W, W = wc := ⟨_, rfl⟩
    have BO := Lib.hid (BO1.out.below hbc)
    have BC := Lib.hid (B1.out.trans (hbc.mono B1.out.size))
    have hl := BO.out.1
    clear BO1 B1 hbc q0 hl1 HC
    obtain ⟨q0, q1, q2, q3, q4, q5, q6, q7⟩ := BO.out.eight
    go_upto_region 5 with (fail)
    go_cut [8] (fun s8 wx => wx.ownsRow W0.heap.size 9 1 s8 2 [.string ⟨(Lib.itoa t).toArray⟩, .string ⟨(Lx.evWord (q : Nat)).toArray⟩] ∧ Below W0.heap.size W0 wx)
    case first =>
      have HP := Lib.hid (fun W (hb : Below W0.heap.size W0 W) => And.intro ((hb.cell (p := ⟨w.heap.size, 1, none⟩) hl).trans q1) ((hb.cell (p := ⟨kb, 0, none⟩) hkl).trans k0))
      have hS0 : (fun wx => Below W0.heap.size W0 wx ∧ wx.cell? ⟨w.heap.size, 1, none⟩ = some (.int .i64 t) ∧ wx.cell? ⟨kb, 0, none⟩ = some (.string ⟨(Lx.evWord (q : Nat)).toArray⟩)) W0.drew := ⟨(Below.refl _ _).drew, q1, k0⟩
      dsimp only at hS0
      go_region_held3 (fun wx => Below W0.heap.size W0 wx ∧ wx.cell? ⟨w.heap.size, 1, none⟩ = some (.int .i64 t) ∧ wx.cell? ⟨kb, 0, none⟩ = some (.string ⟨(Lx.evWord (q : Nat)).toArray⟩))
        (first | assumption | (refine Lx.mkS HP.out ?_; repeat (first | assumption | exact Below.refl _ _ | apply Lx.bDrew | apply Lx.bAlloc | (apply Lx.bSet; (first | exact Nat.le_refl _ | assumption)))))
        (first
          | (go_at_call 50; refine (HT.out _ (env.below (BC.out.trans (Below.mono (And.left (by assumption)) BC.out.size)))).mono ?_; rintro e w2 ⟨rfl, c2⟩; have kb2 := Lx.bCall (P := fun wx => wx.cell? ⟨w.heap.size, 1, none⟩ = some (.int .i64 t) ∧ wx.cell? ⟨kb, 0, none⟩ = some (.string ⟨(Lx.evWord (q : Nat)).toArray⟩)) (by assumption) c2; have hz2 := kb2.size; have kS := Lx.mkS HP.out kb2))
      all_goals (go_wp2_with fail; go_meet)
      all_goals exact ⟨Lx.ownLit _ _ (by assumption) [.string ⟨(Lib.itoa t).toArray⟩, .string ⟨(Lx.evWord (q : Nat)).toArray⟩] 9 (by unfold maxLen; simp), And.left (by assumption)⟩
    case rest =>
      obtain ⟨W1, rfl⟩ : ∃ W, W = wc := ⟨_, rfl⟩
      have k1' : W0.cell? ⟨kb, 1, none⟩ = some (.int .i64 (Lx.usesN q)) := k1
      have B1 := Lib.hid hcut.2
      obtain ⟨a1, c1, rfl⟩ := Lx.ownSlice hcut.1
      have R1 := Lib.hid hcut.1
      clear hcut q0 q1 q2 q3 q4 q5 q6 q7 k0 k1 k2 HT
      obtain ⟨q0, q1, q2, q3, q4, q5, q6, q7⟩ := (BO.out.below B1.out).eight
      have k1 := (B1.out.cell (p := ⟨kb, 1, none⟩) hkl).trans k1'
      go_wp2_with fail
      go_ret2
      exact ⟨rfl, BC.out.trans (B1.out.mono BC.out.size)⟩
theorem write_bad (o : Lx.EvV) (ad : Option Addr) (m cap : Nat) (w : World) (h : Lx.evErr o ≠ 0) :
    Calls Tryz.prog 30 #[o.val, .slice ad m cap] w (WriteIs [] (Lx.evErr o) w) := by
  have HC := Lib.hid (fun W => evcheck_any o W)
  unfold EvCheckIs at HC
  have he : (Lx.evErr o != 0) = true := by rw [bne_iff_ne]; exact h
  generalize Lx.evErr o = x at *
  obtain ⟨k, t, j, d, a, r, y, n⟩ := o
  unfold Lx.EvV.val at HC ⊢
  dsimp only at HC ⊢
  have hba : Below w.heap.size w (w.alloc (.cells #[.int .i64 k, .int .i64 t, .int .i64 j, .int .i64 d, .int .i64 a, .int .i64 r, .int .i64 y, .int .i64 n] 26)) := (Below.refl _ w).alloc (Nat.le_refl _) _
  have BO0 := Lib.hid (Lx.EvBox.new w k t j d a r y n 26)
  have B0 := Lib.hid hba
  clear h hba
  go_enter Tryz.func30, Tryz.ntmps30
  obtain ⟨q0, q1, q2, q3, q4, q5, q6, q7⟩ := BO0.out.eight
  go_wp2_with fail
  refine (HC.out _).mono ?_
  rintro e w1 ⟨rfl, c1⟩
  go_wp2_with fail
  go_ret2
  exact ⟨rfl, B0.out.trans (c1.mono B0.out.size)⟩
end Go.Proofs.YtmpcekpdnikghaaGreatDoor
