/- Plain: policies (chapter 14): which are valid, their values as texts, what a value is read as. No program in sight. Plain facts on the spans of policies, and on policies with one field beyond its range. No program in sight. Plain: the pieces of a text between slashes. No program in sight. Plain: what a value of a key is read as (policies), and that the values of a policy are read back. No program in sight. Plain: the words of a text between blanks, rune by rune and byte by byte. No program in sight. Plain: the text of a policy, and how a text is read as a policy. No program in sight. -/
import Derived.Test.YtpjocfkolnfjiaaGreatDoorUnSpec
import Derived.Test.YtpjocfkolnfjiaaGreatDoorUnLx
import Derived.Test.YtpjocfkolnfjiaaGreatDoorDigitsP
import Derived.Lib.SplitLaws
import Derived.Lib.Join
import Derived.Test.YtpjocfkolnfjiaaGreatDoorIntLx
import Derived.Test.YtpjocfkolnfjiaaGreatDoorUnFacts2
import Derived.Test.YtpjocfkolnfjiaaGreatDoorUnBackLx
import Derived.Test.YtpjocfkolnfjiaaGreatDoorLx
import Derived.Lib.FieldsP
import Derived.Lib.DecodeN
import Derived.Laws.RangeAny
namespace Go.Proofs.YtpjocfkolnfjiaaGreatDoor.Lx
open Go Go.RowKit

structure PolV where
  cap : Int
  pri : Int
  spl : Int
  dl : Int
  mis : Int
  keep : Int
  lt : Int
  lu : Int
  bf : Int
  bo : Int
  bp : Int
  rm : Int
  rb : Int
  rc : Int
  rj : Int
def PolV.cells (p : PolV) : List Value := [.int .i64 p.cap, .int .i64 p.pri, .int .i64 p.spl, .int .i64 p.dl, .int .i64 p.mis, .int .i64 p.keep, .int .i64 p.lt, .int .i64 p.lu, .int .i64 p.bf, .int .i64 p.bo, .int .i64 p.bp, .int .i64 p.rm, .int .i64 p.rb, .int .i64 p.rc, .int .i64 p.rj]
def PolV.val (p : PolV) : Value := .agg #[.int .i64 p.cap, .int .i64 p.pri, .int .i64 p.spl, .int .i64 p.dl, .int .i64 p.mis, .int .i64 p.keep, .int .i64 p.lt, .int .i64 p.lu, .int .i64 p.bf, .int .i64 p.bo, .int .i64 p.bp, .int .i64 p.rm, .int .i64 p.rb, .int .i64 p.rc, .int .i64 p.rj]
def polZ : PolV := ⟨0, 0, 0, 0, 0, 0, 0, 0, 0, 0, 0, 0, 0, 0, 0⟩
/-- The policy of a job for which nothing is said. -/
def polD : PolV := ⟨1, 50, 0, 3600, 0, 0, 0, 0, 0, 0, 0, 0, 0, 0, 0⟩
def inI (n lo hi : Int) : Bool := decide (lo ≤ n ∧ n ≤ hi)
def misOk (k q : Int) : Bool := if k = 3 then inI q 1 100 else inI k 0 2 && decide (q = 0)
def brZ (f o p : Int) : Bool := decide (f = 0 ∧ o = 0 ∧ p = 0)
def brOk (f o p : Int) : Bool := brZ f o p || (inI f 1 100 && (inI o 1 68719476736 && inI p 1 100))
def reZ (m b c j : Int) : Bool := decide (m = 0 ∧ b = 0 ∧ c = 0 ∧ j = 0)
def reOk (m b c j : Int) : Bool := reZ m b c j || (inI m 1 20 && (inI b 1 68719476736 && (inI c b 68719476736 && inI j 0 68719476736)))
def fldOk (p : PolV) : Bool := inI p.cap 1 1000 && (inI p.pri 0 100 && (inI p.spl 0 68719476736 && inI p.dl 0 68719476736))
def polOk (p : PolV) : Bool := fldOk p && (misOk p.mis p.keep && (limOk p.lt p.lu && (brOk p.bf p.bo p.bp && reOk p.rm p.rb p.rc p.rj)))
def polE (p : PolV) : Int := if polOk p = true then 0 else 16
def limErr (t u : Int) : Int := if limOk t u = true then 0 else 16
def brErr (f o p : Int) : Int := if brOk f o p = true then 0 else 16
def reErr (m b c j : Int) : Int := if reOk m b c j = true then 0 else 16
def misErr (k q : Int) : Int := if misOk k q = true then 0 else 16
def ruleE (b : Bool) : Int := if b = true then 0 else 16
/-- The error of some parts. -/
def firstE (l : List Int) : Int := if 10 ∈ l then 10 else if l.all (· == 0) = true then 0 else 16
/-! ### the values as texts -/
def noneW : List UInt8 := [110, 111, 110, 101]
def someW : List UInt8 := [115, 111, 109, 101, 58]
def misW (k : Int) : List UInt8 := if k = 0 then [100, 114, 111, 112] else if k = 1 then [108, 97, 115, 116] else [97, 108, 108]
def misS (k q : Int) : List UInt8 := if k = 3 then someW ++ Lib.itoa q else misW k
def brS (f o p : Int) : List UInt8 := if brZ f o p = true then noneW else Lib.itoa f ++ [47] ++ prnV o ++ [47] ++ Lib.itoa p
def reS (m b c j : Int) : List UInt8 := if reZ m b c j = true then noneW else Lib.itoa m ++ [47] ++ prnV b ++ [47] ++ prnV c ++ [47] ++ prnV j
def keyW (k : Nat) : List UInt8 := match k with
  | 0 => [99, 97, 112]
  | 1 => [112, 114, 105, 111, 114, 105, 116, 121]
  | 2 => [115, 112, 108, 97, 121]
  | 3 => [100, 101, 97, 100, 108, 105, 110, 101]
  | 4 => [109, 105, 115, 102, 105, 114, 101]
  | 5 => [108, 105, 109, 105, 116]
  | 6 => [98, 114, 101, 97, 107, 101, 114]
  | _ => [114, 101, 116, 114, 121]
def valS (k : Nat) (p : PolV) : List UInt8 := match k with
  | 0 => Lib.itoa p.cap
  | 1 => Lib.itoa p.pri
  | 2 => prnV p.spl
  | 3 => prnV p.dl
  | 4 => misS p.mis p.keep
  | 5 => plimS p.lt p.lu
  | 6 => brS p.bf p.bo p.bp
  | _ => reS p.rm p.rb p.rc p.rj
/-- Which key a text is: 8, none. -/
def keyIx (l : List UInt8) : Nat := if l = keyW 0 then 0 else if l = keyW 1 then 1 else if l = keyW 2 then 2 else if l = keyW 3 then 3 else if l = keyW 4 then 4 else if l = keyW 5 then 5 else if l = keyW 6 then 6 else if l = keyW 7 then 7 else 8
theorem keyIx_key {k : Nat} (h : k < 8) : keyIx (keyW k) = k := by
  obtain h | h | h | h | h | h | h | h : k = 0 ∨ k = 1 ∨ k = 2 ∨ k = 3 ∨ k = 4 ∨ k = 5 ∨ k = 6 ∨ k = 7 := by omega
  all_goals (subst h; decide)
theorem keyIx_back {l : List UInt8} (h : keyIx l < 8) : l = keyW (keyIx l) := by
  unfold keyIx at h ⊢
  (repeat' split) <;> simp_all
/-! ### the length of a span -/
/-- What the waits of k further attempts come to, from the wait w on. -/
def waits (c j d : Int) : Nat → Int → Int
  | 0, _ => 0
  | k + 1, w => (w + max (j - 1) 0 + d + 1) + waits c j d k (min (2 * w) c)
def spanV (p : PolV) : Int := if polOk p = true then p.dl + 1 + waits p.rc p.rj p.dl p.rm.toNat p.rb else 0
end Go.Proofs.YtpjocfkolnfjiaaGreatDoor.Lx
namespace Go.Proofs.YtpjocfkolnfjiaaGreatDoor.Lx
open Go Go.RowKit

/-- The wait ahead of further attempt k. -/
def waitAt (c : Int) : Nat → Int → Int
  | 0, w => w
  | k + 1, w => waitAt c k (min (2 * w) c)
theorem waits_snoc (c j d : Int) : ∀ (k : Nat) (w : Int), waits c j d (k + 1) w = waits c j d k w + (waitAt c k w + max (j - 1) 0 + d + 1)
  | 0, w => by simp [waits, waitAt]
  | k + 1, w => by
    have ih := waits_snoc c j d k (min (2 * w) c)
    rw [show waits c j d (k + 1 + 1) w = (w + max (j - 1) 0 + d + 1) + waits c j d (k + 1) (min (2 * w) c) from rfl, ih, show waits c j d (k + 1) w = (w + max (j - 1) 0 + d + 1) + waits c j d k (min (2 * w) c) from rfl, show waitAt c (k + 1) w = waitAt c k (min (2 * w) c) from rfl]
    omega
theorem waitAt_bd (c : Int) : ∀ (k : Nat) (w : Int), 0 ≤ w → w ≤ c → w ≤ waitAt c k w ∧ waitAt c k w ≤ c
  | 0, w, _, h1 => ⟨Int.le_refl _, h1⟩
  | k + 1, w, h0, h1 => by
    have := waitAt_bd c k (min (2 * w) c) (by omega) (by omega)
    show w ≤ waitAt c k (min (2 * w) c) ∧ waitAt c k (min (2 * w) c) ≤ c
    omega
theorem waits_dl (c j d : Int) : ∀ (k : Nat) (w : Int), waits c j (d + 1) k w = waits c j d k w + k
  | 0, w => by simp [waits]
  | k + 1, w => by
    have ih := waits_dl c j d k (min (2 * w) c)
    show (w + max (j - 1) 0 + (d + 1) + 1) + waits c j (d + 1) k (min (2 * w) c) = (w + max (j - 1) 0 + d + 1) + waits c j d k (min (2 * w) c) + ((k + 1 : Nat) : Int)
    rw [ih]
    omega
theorem waits_pos (c j d : Int) (hd : 0 ≤ d) : ∀ (k : Nat) (w : Int), 0 ≤ w → 0 ≤ c → 0 ≤ waits c j d k w
  | 0, w, _, _ => Int.le_refl _
  | k + 1, w, h0, hc => by
    have ih := waits_pos c j d hd k (min (2 * w) c) (by omega) hc
    show 0 ≤ (w + max (j - 1) 0 + d + 1) + waits c j d k (min (2 * w) c)
    omega
theorem waits_bd (c j d : Int) (hd : 0 ≤ d ∧ d ≤ 68719476736) (hj : 0 ≤ j ∧ j ≤ 68719476736) : ∀ (k : Nat) (w : Int), 0 ≤ w → w ≤ 68719476736 → c ≤ 68719476736 → 0 ≤ c → waits c j d k w ≤ 206158430209 * k
  | 0, w, _, _, _, _ => by simp [waits]
  | k + 1, w, h0, h1, hc, hc0 => by
    have ih := waits_bd c j d hd hj k (min (2 * w) c) (by omega) (by omega) hc hc0
    show (w + max (j - 1) 0 + d + 1) + waits c j d k (min (2 * w) c) ≤ 206158430209 * ((k + 1 : Nat) : Int)
    push_cast
    omega
theorem pol_parts {p : PolV} (h : polOk p = true) : (1 ≤ p.cap ∧ p.cap ≤ 1000) ∧ (0 ≤ p.pri ∧ p.pri ≤ 100) ∧ (0 ≤ p.spl ∧ p.spl ≤ 68719476736) ∧ (0 ≤ p.dl ∧ p.dl ≤ 68719476736) ∧
    (p.mis = 3 ∧ 1 ≤ p.keep ∧ p.keep ≤ 100 ∨ (0 ≤ p.mis ∧ p.mis ≤ 2) ∧ p.keep = 0) ∧
    (0 ≤ p.lt ∧ p.lt ≤ 68719476736 ∧ 0 ≤ p.lu ∧ p.lu ≤ 68719476736 ∧ (0 < p.lt ∨ p.lu = 0)) ∧
    ((p.bf = 0 ∧ p.bo = 0 ∧ p.bp = 0) ∨ (1 ≤ p.bf ∧ p.bf ≤ 100) ∧ (1 ≤ p.bo ∧ p.bo ≤ 68719476736) ∧ (1 ≤ p.bp ∧ p.bp ≤ 100)) ∧
    ((p.rm = 0 ∧ p.rb = 0 ∧ p.rc = 0 ∧ p.rj = 0) ∨ (1 ≤ p.rm ∧ p.rm ≤ 20) ∧ (1 ≤ p.rb ∧ p.rb ≤ 68719476736) ∧ (p.rb ≤ p.rc ∧ p.rc ≤ 68719476736) ∧ (0 ≤ p.rj ∧ p.rj ≤ 68719476736)) := by
  unfold polOk fldOk misOk limOk brOk reOk brZ reZ inI at h
  by_cases h3 : p.mis = 3
  · simp [h3] at h
    omega
  · simp [h3] at h
    omega
theorem polOk_of {p : PolV} (h1 : 1 ≤ p.cap ∧ p.cap ≤ 1000) (h2 : 0 ≤ p.pri ∧ p.pri ≤ 100) (h3 : 0 ≤ p.spl ∧ p.spl ≤ 68719476736) (h4 : 0 ≤ p.dl ∧ p.dl ≤ 68719476736)
    (h5 : p.mis = 3 ∧ 1 ≤ p.keep ∧ p.keep ≤ 100 ∨ (0 ≤ p.mis ∧ p.mis ≤ 2) ∧ p.keep = 0)
    (h6 : 0 ≤ p.lt ∧ p.lt ≤ 68719476736 ∧ 0 ≤ p.lu ∧ p.lu ≤ 68719476736 ∧ (0 < p.lt ∨ p.lu = 0))
    (h7 : (p.bf = 0 ∧ p.bo = 0 ∧ p.bp = 0) ∨ (1 ≤ p.bf ∧ p.bf ≤ 100) ∧ (1 ≤ p.bo ∧ p.bo ≤ 68719476736) ∧ (1 ≤ p.bp ∧ p.bp ≤ 100))
    (h8 : (p.rm = 0 ∧ p.rb = 0 ∧ p.rc = 0 ∧ p.rj = 0) ∨ (1 ≤ p.rm ∧ p.rm ≤ 20) ∧ (1 ≤ p.rb ∧ p.rb ≤ 68719476736) ∧ (p.rb ≤ p.rc ∧ p.rc ≤ 68719476736) ∧ (0 ≤ p.rj ∧ p.rj ≤ 68719476736)) : polOk p = true := by
  unfold polOk fldOk misOk limOk brOk reOk brZ reZ inI
  have e6 : decide (0 ≤ p.lt ∧ p.lt ≤ 68719476736 ∧ 0 ≤ p.lu ∧ p.lu ≤ 68719476736 ∧ (0 < p.lt ∨ p.lu = 0)) = true := decide_eq_true h6
  rw [e6, decide_eq_true h1, decide_eq_true h2, decide_eq_true h3, decide_eq_true h4]
  have e7 : (decide (p.bf = 0 ∧ p.bo = 0 ∧ p.bp = 0) || (decide (1 ≤ p.bf ∧ p.bf ≤ 100) && (decide (1 ≤ p.bo ∧ p.bo ≤ 68719476736) && decide (1 ≤ p.bp ∧ p.bp ≤ 100)))) = true := by
    rcases h7 with h | ⟨a, b, c⟩
    · rw [decide_eq_true h]; rfl
    · rw [decide_eq_true a, decide_eq_true b, decide_eq_true c]; exact Bool.or_true _
  have e8 : (decide (p.rm = 0 ∧ p.rb = 0 ∧ p.rc = 0 ∧ p.rj = 0) || (decide (1 ≤ p.rm ∧ p.rm ≤ 20) && (decide (1 ≤ p.rb ∧ p.rb ≤ 68719476736) && (decide (p.rb ≤ p.rc ∧ p.rc ≤ 68719476736) && decide (0 ≤ p.rj ∧ p.rj ≤ 68719476736))))) = true := by
    rcases h8 with h | ⟨a, b, c, d⟩
    · rw [decide_eq_true h]; rfl
    · rw [decide_eq_true a, decide_eq_true b, decide_eq_true c, decide_eq_true d]; exact Bool.or_true _
  rw [e7, e8]
  rcases h5 with ⟨a, b⟩ | ⟨a, b⟩
  · rw [if_pos a, decide_eq_true b]; rfl
  · rw [if_neg (by omega), decide_eq_true a, decide_eq_true b]; rfl
/-- Without further attempts; with a deadline greater by one; with one attempt less. -/
theorem span_facts {p : PolV} (h : polOk p = true) :
    p.dl + 1 ≤ spanV p ∧ (p.rm = 0 → spanV p = p.dl + 1) ∧
    (p.dl < 68719476736 → polOk { p with dl := p.dl + 1 } = true ∧ spanV { p with dl := p.dl + 1 } = spanV p + p.rm + 1) ∧
    (1 < p.rm → polOk { p with rm := p.rm - 1 } = true ∧ p.dl + 1 + p.rb ≤ spanV p - spanV { p with rm := p.rm - 1 } ∧ spanV p - spanV { p with rm := p.rm - 1 } ≤ p.dl + 1 + p.rc + p.rj) := by
  obtain ⟨a1, a2, a3, a4, a5, a6, a7, a8⟩ := pol_parts h
  have hrc : 0 ≤ p.rc := by omega
  have hrb : 0 ≤ p.rb := by omega
  have e : spanV p = p.dl + 1 + waits p.rc p.rj p.dl p.rm.toNat p.rb := by unfold spanV; rw [if_pos h]
  refine ⟨?_, fun h0 => ?_, fun hd => ?_, fun hm => ?_⟩
  · have := waits_pos p.rc p.rj p.dl a4.1 p.rm.toNat p.rb hrb hrc
    omega
  · rw [e, h0]; simp [waits]
  · have hok : polOk { p with dl := p.dl + 1 } = true := polOk_of a1 a2 a3 (by dsimp only; omega) a5 a6 a7 a8
    refine ⟨hok, ?_⟩
    unfold spanV
    rw [if_pos hok, if_pos h]
    dsimp only
    rw [waits_dl]
    omega
  · have hok : polOk { p with rm := p.rm - 1 } = true := polOk_of a1 a2 a3 a4 a5 a6 a7 (by dsimp only; omega)
    refine ⟨hok, ?_⟩
    have e2 : spanV { p with rm := p.rm - 1 } = p.dl + 1 + waits p.rc p.rj p.dl (p.rm - 1).toNat p.rb := by unfold spanV; rw [if_pos hok]
    have e3 : p.rm.toNat = (p.rm - 1).toNat + 1 := by omega
    rw [e, e2, e3, waits_snoc]
    have hb := waitAt_bd p.rc (p.rm - 1).toNat p.rb hrb (by omega)
    omega
end Go.Proofs.YtpjocfkolnfjiaaGreatDoor.Lx
namespace Go.Proofs.YtpjocfkolnfjiaaGreatDoor.Lx
open Go Go.RowKit

theorem split_sl {a b a' b' : List UInt8} (h : (47 : UInt8) ∉ a) (h' : (47 : UInt8) ∉ a') (e : a ++ 47 :: b = a' ++ 47 :: b') : a = a' ∧ b = b' := by
  induction a generalizing a' with
  | nil =>
    cases a' with
    | nil => exact ⟨rfl, (List.cons.inj e).2⟩
    | cons c a' => exfalso; apply h'; rw [List.nil_append, List.cons_append] at e; rw [← (List.cons.inj e).1]; exact List.mem_cons_self
  | cons c a ih =>
    cases a' with
    | nil => exfalso; apply h; rw [List.nil_append, List.cons_append] at e; rw [(List.cons.inj e).1]; exact List.mem_cons_self
    | cons c' a' =>
      rw [List.cons_append, List.cons_append] at e
      obtain ⟨e1, e2⟩ := List.cons.inj e
      obtain ⟨r1, r2⟩ := ih (fun m => h (List.mem_cons_of_mem _ m)) (fun m => h' (List.mem_cons_of_mem _ m)) e2
      exact ⟨by rw [e1, r1], r2⟩
def joinSl : List (List UInt8) → List UInt8
  | [] => []
  | [a] => a
  | a :: b :: r => a ++ 47 :: joinSl (b :: r)
def Pcl (l : List UInt8) (P : List (List UInt8)) : Prop := P ≠ [] ∧ (∀ p ∈ P, (47 : UInt8) ∉ p) ∧ joinSl P = l
theorem joinSl_cons (a : List UInt8) {r : List (List UInt8)} (h : r ≠ []) : joinSl (a :: r) = a ++ 47 :: joinSl r := by
  cases r with
  | nil => exact absurd rfl h
  | cons b r => rfl
theorem pcl_one : ∀ {P P' : List (List UInt8)} {l : List UInt8}, Pcl l P → Pcl l P' → P = P'
  | [], _, _, h, _ => absurd rfl h.1
  | _ :: _, [], _, _, h' => absurd rfl h'.1
  | [a], [a'], l, h, h' => by rw [show a = l from h.2.2, show a' = l from h'.2.2]
  | [a], a' :: b' :: r', l, h, h' => by
    exfalso
    have e : a = a' ++ 47 :: joinSl (b' :: r') := (show a = l from h.2.2).trans h'.2.2.symm
    exact h.2.1 a List.mem_cons_self (by rw [e]; exact List.mem_append_right _ List.mem_cons_self)
  | a :: b :: r, [a'], l, h, h' => by
    exfalso
    have e : a' = a ++ 47 :: joinSl (b :: r) := (show a' = l from h'.2.2).trans h.2.2.symm
    exact h'.2.1 a' List.mem_cons_self (by rw [e]; exact List.mem_append_right _ List.mem_cons_self)
  | a :: b :: r, a' :: b' :: r', l, h, h' => by
    have e : a ++ 47 :: joinSl (b :: r) = a' ++ 47 :: joinSl (b' :: r') := h.2.2.trans h'.2.2.symm
    obtain ⟨e1, e2⟩ := split_sl (h.2.1 a List.mem_cons_self) (h'.2.1 a' List.mem_cons_self) e
    have := pcl_one (l := joinSl (b :: r)) ⟨by simp, fun p hp => h.2.1 p (List.mem_cons_of_mem _ hp), rfl⟩ ⟨by simp, fun p hp => h'.2.1 p (List.mem_cons_of_mem _ hp), e2.symm⟩
    rw [e1, this]
theorem join_joinSl : ∀ P : List (List UInt8), Lib.join P [47] = joinSl P
  | [] => rfl
  | [a] => Lib.join_one _ _
  | a :: b :: r => by
    have ih := join_joinSl (b :: r)
    rw [Lib.join_cons] at ih ⊢
    rw [joinSl_cons a (by simp), ← ih]
    simp [Lib.joinTail]
theorem index_sl : ∀ (l : List UInt8), (Lib.index l [47] = -1 ∧ (47 : UInt8) ∉ l) ∨ ∃ i : Nat, Lib.index l [47] = i ∧ i < l.length ∧ (47 : UInt8) ∉ l.take i ∧ l = l.take i ++ 47 :: l.drop (i + 1)
  | [] => .inl ⟨rfl, by simp⟩
  | c :: l => by
    by_cases hc : c = 47
    · subst hc
      right
      refine ⟨0, ?_, by simp, by simp, by simp⟩
      unfold Lib.index
      rw [if_pos (by simp [List.isPrefixOf])]
      rfl
    · have hp : ¬ ([47] : List UInt8).isPrefixOf (c :: l) = true := by
        simp [List.isPrefixOf]; exact fun e => hc e.symm
      rcases index_sl l with ⟨h, hn⟩ | ⟨i, h, hl, hn, he⟩
      · left
        refine ⟨?_, ?_⟩
        · unfold Lib.index; rw [if_neg hp, h]; rfl
        · intro hm; rcases List.mem_cons.1 hm with e | e
          · exact hc e.symm
          · exact hn e
      · right
        refine ⟨i + 1, ?_, by simp; omega, ?_, ?_⟩
        · unfold Lib.index
          rw [if_neg hp, h, if_neg (by rw [beq_iff_eq]; omega)]; rfl
        · rw [List.take_succ_cons]
          intro hm; rcases List.mem_cons.1 hm with e | e
          · exact hc e.symm
          · exact hn e
        · rw [List.take_succ_cons, List.drop_succ_cons, List.cons_append, ← he]
theorem splitK_pcl : ∀ (k : Nat) (l : List UInt8), Lib.count l [47] = k → Pcl l (Lib.splitK [47] 0 k l)
  | 0, l, h => by
    refine ⟨by simp [Lib.splitK], ?_, rfl⟩
    intro p hp
    rcases index_sl l with ⟨_, hn⟩ | ⟨i, hi, _⟩
    · simp [Lib.splitK] at hp; rw [hp]; exact hn
    · have := Lib.count_hit (s := l) (sub := [47]) (by simp) hi; omega
  | k + 1, l, h => by
    rcases index_sl l with ⟨hi, _⟩ | ⟨i, hi, hl, hn, he⟩
    · have := Lib.count_miss hi; omega
    · have hc := Lib.count_hit (s := l) (sub := [47]) (by simp) hi
      have ih := splitK_pcl k (l.drop (i + 1)) (by simp at hc; omega)
      have e : Lib.splitK [47] 0 (k + 1) l = l.take i :: Lib.splitK [47] 0 k (l.drop (i + 1)) := by
        rw [Lib.splitK, if_neg (by rw [beq_iff_eq, hi]; omega), hi]; rfl
      rw [e]
      refine ⟨by simp, ?_, ?_⟩
      · intro p hp
        rcases List.mem_cons.1 hp with rfl | hp
        · exact hn
        · exact ih.2.1 p hp
      · rw [joinSl_cons _ ih.1, ih.2.2, ← he]
def slS (s : ByteArray) : List ByteArray := Lib.splitB ⟨#[47]⟩ 0 (Lib.countB s ⟨#[47]⟩) s
def blS (P : List ByteArray) : List (List UInt8) := P.map (·.data.toList)
theorem slS_pcl (s : ByteArray) : Pcl s.data.toList (blS (slS s)) := by
  unfold slS blS
  rw [Lib.splitB_data]
  exact splitK_pcl _ _ rfl
theorem slS_len (s : ByteArray) : (slS s).length = Lib.countB s ⟨#[47]⟩ + 1 := Lib.splitB_all _ (by decide) 0 _ s rfl
theorem joinSl_len : ∀ (P : List (List UInt8)), (∀ p ∈ P, p.length ≤ (joinSl P).length) ∧ P.length ≤ (joinSl P).length + 1
  | [] => ⟨fun _ h => by simp at h, by simp⟩
  | [a] => ⟨fun p h => by simp at h; subst h; exact Nat.le_refl _, by simp⟩
  | a :: b :: r => by
    obtain ⟨h1, h2⟩ := joinSl_len (b :: r)
    rw [joinSl_cons a (by simp), List.length_append, List.length_cons]
    refine ⟨fun p hp => ?_, by rw [List.length_cons]; omega⟩
    rcases List.mem_cons.1 hp with rfl | hp
    · omega
    · have := h1 p hp; omega
theorem slS_bd (s : ByteArray) : (∀ x ∈ slS s, x.size ≤ s.size) ∧ (slS s).length ≤ s.size + 1 := by
  have h := joinSl_len (blS (slS s))
  rw [(slS_pcl s).2.2] at h
  unfold blS at h
  rw [List.length_map] at h
  refine ⟨fun x hx => ?_, by rw [Lib.size_eq s]; exact h.2⟩
  have := h.1 x.data.toList (List.mem_map.2 ⟨x, hx, rfl⟩)
  rw [Lib.size_eq x, Lib.size_eq s]; exact this
end Go.Proofs.YtpjocfkolnfjiaaGreatDoor.Lx
namespace Go.Proofs.YtpjocfkolnfjiaaGreatDoor.Lx
open Go Go.RowKit

/-- q with the fields of key k as p has them. -/
def updK (k : Nat) (p q : PolV) : PolV := match k with
  | 0 => { q with cap := p.cap }
  | 1 => { q with pri := p.pri }
  | 2 => { q with spl := p.spl }
  | 3 => { q with dl := p.dl }
  | 4 => { q with mis := p.mis, keep := p.keep }
  | 5 => { q with lt := p.lt, lu := p.lu }
  | 6 => { q with bf := p.bf, bo := p.bo, bp := p.bp }
  | _ => { q with rm := p.rm, rb := p.rb, rc := p.rc, rj := p.rj }
/-- The fields of key k are as they have to be. -/
def okK (k : Nat) (p : PolV) : Bool := match k with
  | 0 => inI p.cap 1 1000
  | 1 => inI p.pri 0 100
  | 2 => inI p.spl 0 68719476736
  | 3 => inI p.dl 0 68719476736
  | 4 => misOk p.mis p.keep
  | 5 => limOk p.lt p.lu
  | 6 => brOk p.bf p.bo p.bp
  | _ => reOk p.rm p.rb p.rc p.rj
theorem cases8 {k : Nat} (h : k < 8) : k = 0 ∨ k = 1 ∨ k = 2 ∨ k = 3 ∨ k = 4 ∨ k = 5 ∨ k = 6 ∨ k = 7 := by omega
theorem polOk_all (p : PolV) : polOk p = true ↔ ∀ k, k < 8 → okK k p = true := by
  constructor
  · intro h k hk
    unfold polOk fldOk at h
    simp only [Bool.and_eq_true] at h
    obtain ⟨⟨h0, h1, h2, h3⟩, h4, h5, h6, h7⟩ := h
    rcases cases8 hk with rfl | rfl | rfl | rfl | rfl | rfl | rfl | rfl <;> assumption
  · intro h
    unfold polOk fldOk
    simp only [Bool.and_eq_true]
    exact ⟨⟨h 0 (by omega), h 1 (by omega), h 2 (by omega), h 3 (by omega)⟩, h 4 (by omega), h 5 (by omega), h 6 (by omega), h 7 (by omega)⟩
theorem ok_upd {k j : Nat} (p q : PolV) (hk : k < 8) (hj : j < 8) : okK j (updK k p q) = if j = k then okK k p else okK j q := by
  rcases cases8 hk with rfl | rfl | rfl | rfl | rfl | rfl | rfl | rfl <;> rcases cases8 hj with rfl | rfl | rfl | rfl | rfl | rfl | rfl | rfl <;> rfl
theorem val_upd {k j : Nat} (p q : PolV) (hk : k < 8) (hj : j < 8) : valS j (updK k p q) = if j = k then valS k p else valS j q := by
  rcases cases8 hk with rfl | rfl | rfl | rfl | rfl | rfl | rfl | rfl <;> rcases cases8 hj with rfl | rfl | rfl | rfl | rfl | rfl | rfl | rfl <;> rfl
theorem upd_upd {k : Nat} (hk : k < 8) (p p' q : PolV) : updK k p (updK k p' q) = updK k p q := by
  rcases cases8 hk with rfl | rfl | rfl | rfl | rfl | rfl | rfl | rfl <;> rfl
theorem upd_same {k : Nat} (hk : k < 8) (p : PolV) : updK k p p = p := by
  rcases cases8 hk with rfl | rfl | rfl | rfl | rfl | rfl | rfl | rfl <;> rfl
theorem upd_comm {k j : Nat} (hkj : k ≠ j) (hk : k < 8) (hj : j < 8) (p p' q : PolV) : updK k p (updK j p' q) = updK j p' (updK k p q) := by
  rcases cases8 hk with rfl | rfl | rfl | rfl | rfl | rfl | rfl | rfl <;> rcases cases8 hj with rfl | rfl | rfl | rfl | rfl | rfl | rfl | rfl <;> first | rfl | exact absurd rfl hkj
theorem upd_ok {k : Nat} (p q : PolV) (hk : k < 8) (h : okK k p = true) (hq : polOk q = true) : polOk (updK k p q) = true := by
  rw [polOk_all] at hq ⊢
  intro j hj
  rw [ok_upd p q hk hj]
  split
  · exact h
  · exact hq j hj
/-! ### the values of keys, read -/
def pnS (P : List ByteArray) (i : Nat) : List UInt8 := (P.getD i ⟨#[]⟩).data.toList
theorem pnS_bl (P : List ByteArray) (i : Nat) : pnS P i = (blS P).getD i [] := by
  unfold pnS blS
  rw [List.getD_eq_getElem?_getD, List.getD_eq_getElem?_getD, List.getElem?_map]
  cases P[i]? <;> rfl
def misIx (l : List UInt8) : Nat := if l = misW 0 then 0 else if l = misW 1 then 1 else if l = misW 2 then 2 else 3
def rdMis (l : List UInt8) : PolV × Int := if misIx l < 3 then ({ polZ with mis := misIx l }, 0) else if l.take 5 = someW then ({ polZ with mis := 3, keep := intV (l.drop 5) 1 100 }, intE (l.drop 5) 1 100) else (polZ, 10)
def rdLim (s : ByteArray) : PolV × Int := ({ polZ with lt := limT s, lu := limU s }, firstE [limE s, limErr (limT s) (limU s)])
def br3 (a b c : List UInt8) : PolV × Int := ({ polZ with bf := intV a 1 100, bo := parV b, bp := intV c 1 100 }, firstE [firstE [intE a 1 100, parE b, intE c 1 100], brErr (intV a 1 100) (parV b) (intV c 1 100)])
def re4 (a b c d : List UInt8) : PolV × Int := ({ polZ with rm := intV a 1 20, rb := parV b, rc := parV c, rj := parV d }, firstE [firstE [intE a 1 20, parE b, parE c, parE d], reErr (intV a 1 20) (parV b) (parV c) (parV d)])
def rdBr (s : ByteArray) : PolV × Int := if s.data.toList = noneW then (polZ, 0) else if (slS s).length ≠ 3 then (polZ, 10) else br3 (pnS (slS s) 0) (pnS (slS s) 1) (pnS (slS s) 2)
def rdRe (s : ByteArray) : PolV × Int := if s.data.toList = noneW then (polZ, 0) else if (slS s).length ≠ 4 then (polZ, 10) else re4 (pnS (slS s) 0) (pnS (slS s) 1) (pnS (slS s) 2) (pnS (slS s) 3)
/-- What a text is read as, as the value of key k: the fields of this key, and an error. -/
def rdK (k : Nat) (s : ByteArray) : PolV × Int := match k with
  | 0 => ({ polZ with cap := intV s.data.toList 1 1000 }, intE s.data.toList 1 1000)
  | 1 => ({ polZ with pri := intV s.data.toList 0 100 }, intE s.data.toList 0 100)
  | 2 => ({ polZ with spl := parV s.data.toList }, parE s.data.toList)
  | 3 => ({ polZ with dl := parV s.data.toList }, parE s.data.toList)
  | 4 => rdMis s.data.toList
  | 5 => rdLim s
  | 6 => rdBr s
  | _ => rdRe s
/-- A policy with another value. -/
def setK (k : Nat) (s : ByteArray) (q : PolV) : PolV × Int := if (rdK k s).2 = 0 then (updK k (rdK k s).1 q, 0) else (polZ, firstE [(rdK k s).2])
def setPol (q : PolV) (key s : ByteArray) : PolV × Int := if keyIx key.data.toList < 8 then setK (keyIx key.data.toList) s q else (polZ, 15)
theorem firstE_zero {l : List Int} : firstE l = 0 ↔ ∀ x ∈ l, x = 0 := by
  unfold firstE
  constructor
  · intro h
    split at h
    · cases h
    · split at h
      · rename_i h2
        intro x hx
        have := List.all_eq_true.1 h2 x hx
        exact eq_of_beq this
      · cases h
  · intro h
    rw [if_neg (fun c => absurd (h 10 c) (by decide)), if_pos (List.all_eq_true.2 fun x hx => by rw [h x hx]; rfl)]
theorem firstE_three (l : List Int) : firstE l = 0 ∨ firstE l = 10 ∨ firstE l = 16 := by
  unfold firstE; split
  · exact .inr (.inl rfl)
  · split
    · exact .inl rfl
    · exact .inr (.inr rfl)
theorem int_zero {l : List UInt8} {lo hi : Int} (h : intE l lo hi = 0) : lo ≤ intV l lo hi ∧ intV l lo hi ≤ hi := by
  unfold intE at h
  split at h
  · rename_i h2
    unfold intV
    rw [if_pos h2]
    have := of_decide_eq_true h2
    exact this.2
  · split at h <;> cases h
theorem par_bds (l : List UInt8) : 0 ≤ parV l ∧ parV l ≤ 68719476736 := par_bd l
theorem br3_ok {a b c : List UInt8} (h : (br3 a b c).2 = 0) : brOk (intV a 1 100) (parV b) (intV c 1 100) = true := by
  have h2 := firstE_zero.1 h (brErr (intV a 1 100) (parV b) (intV c 1 100)) (by simp)
  unfold brErr at h2
  split at h2
  · assumption
  · cases h2
theorem re4_ok {a b c d : List UInt8} (h : (re4 a b c d).2 = 0) : reOk (intV a 1 20) (parV b) (parV c) (parV d) = true := by
  have h2 := firstE_zero.1 h (reErr (intV a 1 20) (parV b) (parV c) (parV d)) (by simp)
  unfold reErr at h2
  split at h2
  · assumption
  · cases h2
/-- What is read without an error is as it has to be. -/
theorem rd_ok {k : Nat} {s : ByteArray} (hk : k < 8) (h : (rdK k s).2 = 0) : okK k (rdK k s).1 = true := by
  rcases cases8 hk with rfl | rfl | rfl | rfl | rfl | rfl | rfl | rfl
  · exact decide_eq_true (int_zero h)
  · exact decide_eq_true (int_zero h)
  · exact decide_eq_true (par_bd _)
  · exact decide_eq_true (par_bd _)
  · show misOk (rdMis s.data.toList).1.mis (rdMis s.data.toList).1.keep = true
    have h : (rdMis s.data.toList).2 = 0 := h
    unfold rdMis at h ⊢
    split
    · rename_i h3
      have : misIx s.data.toList = 0 ∨ misIx s.data.toList = 1 ∨ misIx s.data.toList = 2 := by omega
      rcases this with e | e | e <;> rw [e] <;> decide
    · rename_i h3
      rw [if_neg h3] at h
      split
      · rename_i h4
        rw [if_pos h4] at h
        unfold misOk
        dsimp only at h ⊢
        rw [if_pos rfl]
        exact decide_eq_true (int_zero h)
      · rename_i h4
        rw [if_neg h4] at h
        cases h
  · show limOk (limT s) (limU s) = true
    have h2 := firstE_zero.1 (show firstE [limE s, limErr (limT s) (limU s)] = 0 from h) (limErr (limT s) (limU s)) (by simp)
    unfold limErr at h2
    split at h2
    · assumption
    · cases h2
  · show brOk (rdBr s).1.bf (rdBr s).1.bo (rdBr s).1.bp = true
    have h : (rdBr s).2 = 0 := h
    unfold rdBr at h ⊢
    split
    · rfl
    · rename_i h3
      rw [if_neg h3] at h
      split
      · rename_i h4
        rw [if_pos h4] at h
        cases h
      · rename_i h4
        rw [if_neg h4] at h
        exact br3_ok h
  · show reOk (rdRe s).1.rm (rdRe s).1.rb (rdRe s).1.rc (rdRe s).1.rj = true
    have h : (rdRe s).2 = 0 := h
    unfold rdRe at h ⊢
    split
    · rfl
    · rename_i h3
      rw [if_neg h3] at h
      split
      · rename_i h4
        rw [if_pos h4] at h
        cases h
      · rename_i h4
        rw [if_neg h4] at h
        exact re4_ok h
theorem int_back {n lo hi : Int} (h0 : -9223372036854775808 ≤ n) (h1 : n ≤ 9223372036854775807) (h : lo ≤ n ∧ n ≤ hi) : intV (Lib.itoa n) lo hi = n ∧ intE (Lib.itoa n) lo hi = 0 := by
  obtain ⟨e1, e2⟩ := it_num n h0 h1
  have := int_good (l := Lib.itoa n) (lo := lo) (hi := hi) ⟨e2, by omega, by omega⟩
  rw [e1] at this
  exact this
theorem par_back {d : Int} (h : 0 ≤ d ∧ d ≤ 68719476736) : parV (prnV d) = d ∧ parE (prnV d) = 0 := by
  rw [(prn_in h).1]
  obtain ⟨e1, e2, _⟩ := par_prn d.toNat (by omega)
  exact ⟨by rw [e1]; omega, e2⟩
theorem it_nosl (n : Int) (h : 0 ≤ n) : (47 : UInt8) ∉ Lib.itoa n := by
  rw [itoa_pos h]
  intro hm
  have := List.all_eq_true.1 (dd_all n.natAbs) 47 hm
  revert this; decide
theorem prn_nosl {d : Int} : (47 : UInt8) ∉ prnV d := by
  unfold prnV
  split
  · exact prn_no _ 47 (by decide) (by decide)
  · simp
theorem sl_one {s : ByteArray} {P : List (List UInt8)} (h : s.data.toList = joinSl P) (hne : P ≠ []) (hP : ∀ p ∈ P, (47 : UInt8) ∉ p) : blS (slS s) = P := pcl_one (slS_pcl s) ⟨hne, hP, h.symm⟩
theorem bl_len {s : ByteArray} {P : List (List UInt8)} (h : blS (slS s) = P) : (slS s).length = P.length := by rw [← h]; unfold blS; rw [List.length_map]
/-- The values of a valid policy are read back. -/
theorem rd_back {k : Nat} {s : ByteArray} {p : PolV} (hk : k < 8) (hp : polOk p = true) (hs : s.data.toList = valS k p) (q : PolV) : (rdK k s).2 = 0 ∧ updK k (rdK k s).1 q = updK k p q := by
  obtain ⟨a0, a1, a2, a3, a4, a5, a6, a7⟩ := pol_parts hp
  have hp8 := (polOk_all p).1 hp
  rcases cases8 hk with rfl | rfl | rfl | rfl | rfl | rfl | rfl | rfl
  · have h := int_back (n := p.cap) (lo := 1) (hi := 1000) (by omega) (by omega) a0
    show intE s.data.toList 1 1000 = 0 ∧ ({ q with cap := intV s.data.toList 1 1000 } : PolV) = { q with cap := p.cap }
    rw [hs, show valS 0 p = Lib.itoa p.cap from rfl, h.1, h.2]; exact ⟨rfl, rfl⟩
  · have h := int_back (n := p.pri) (lo := 0) (hi := 100) (by omega) (by omega) a1
    show intE s.data.toList 0 100 = 0 ∧ ({ q with pri := intV s.data.toList 0 100 } : PolV) = { q with pri := p.pri }
    rw [hs, show valS 1 p = Lib.itoa p.pri from rfl, h.1, h.2]; exact ⟨rfl, rfl⟩
  · have h := par_back a2
    show parE s.data.toList = 0 ∧ ({ q with spl := parV s.data.toList } : PolV) = { q with spl := p.spl }
    rw [hs, show valS 2 p = prnV p.spl from rfl, h.1, h.2]; exact ⟨rfl, rfl⟩
  · have h := par_back a3
    show parE s.data.toList = 0 ∧ ({ q with dl := parV s.data.toList } : PolV) = { q with dl := p.dl }
    rw [hs, show valS 3 p = prnV p.dl from rfl, h.1, h.2]; exact ⟨rfl, rfl⟩
  · show (rdMis s.data.toList).2 = 0 ∧ ({ q with mis := (rdMis s.data.toList).1.mis, keep := (rdMis s.data.toList).1.keep } : PolV) = { q with mis := p.mis, keep := p.keep }
    rw [hs, show valS 4 p = misS p.mis p.keep from rfl]
    rcases a4 with ⟨h3, h0⟩ | ⟨h3, h0⟩
    · have h := int_back (n := p.keep) (lo := 1) (hi := 100) (by omega) (by omega) h0
      have e : rdMis (misS p.mis p.keep) = ({ polZ with mis := 3, keep := p.keep }, 0) := by
        unfold misS
        rw [if_pos h3]
        unfold rdMis
        rw [if_neg (by simp [misIx, misW, someW]), if_pos (by simp [someW]), show List.drop 5 (someW ++ Lib.itoa p.keep) = Lib.itoa p.keep by simp [someW], h.1, h.2]
      rw [e, h3]; exact ⟨rfl, rfl⟩
    · have e : rdMis (misS p.mis p.keep) = ({ polZ with mis := p.mis }, 0) := by
        unfold misS
        rw [if_neg (by omega)]
        obtain h | h | h : p.mis = 0 ∨ p.mis = 1 ∨ p.mis = 2 := by omega
        all_goals (rw [h]; rfl)
      rw [e, h0]; exact ⟨rfl, rfl⟩
  · show firstE [limE s, limErr (limT s) (limU s)] = 0 ∧ ({ q with lt := limT s, lu := limU s } : PolV) = { q with lt := p.lt, lu := p.lu }
    have hl : limOk p.lt p.lu = true := hp8 5 (by omega)
    have ht : s.data.toList = limTx p.lt.toNat p.lu.toNat := by
      rw [hs, show valS 5 p = plimS p.lt p.lu from rfl]
      unfold plimS limTx
      rw [if_pos hl]
      by_cases h0 : p.lt = 0
      · rw [if_pos h0, if_pos (by omega)]
      · rw [if_neg h0, if_neg (by omega)]; simp
    have hb := lim_in (lim_back s p.lt.toNat p.lu.toNat ht (by omega)) (by omega) (by omega)
    rw [hb.1, hb.2.1, hb.2.2, show ((p.lt.toNat : Nat) : Int) = p.lt by omega, show ((p.lu.toNat : Nat) : Int) = p.lu by omega]
    refine ⟨firstE_zero.2 fun x hx => ?_, rfl⟩
    simp only [List.mem_cons, List.not_mem_nil, or_false] at hx
    rcases hx with rfl | rfl
    · rfl
    · unfold limErr; rw [if_pos hl]
  · show (rdBr s).2 = 0 ∧ ({ q with bf := (rdBr s).1.bf, bo := (rdBr s).1.bo, bp := (rdBr s).1.bp } : PolV) = { q with bf := p.bf, bo := p.bo, bp := p.bp }
    have hs : s.data.toList = brS p.bf p.bo p.bp := hs
    by_cases hz : brZ p.bf p.bo p.bp = true
    · obtain ⟨z1, z2, z3⟩ := of_decide_eq_true hz
      unfold brS at hs
      rw [if_pos hz] at hs
      have e : rdBr s = (polZ, 0) := by unfold rdBr; rw [if_pos hs]
      rw [e, z1, z2, z3]; exact ⟨rfl, rfl⟩
    · have hn : ¬ (p.bf = 0 ∧ p.bo = 0 ∧ p.bp = 0) := fun c => hz (decide_eq_true c)
      unfold brS at hs
      rw [if_neg hz] at hs
      have hj : s.data.toList = joinSl [Lib.itoa p.bf, prnV p.bo, Lib.itoa p.bp] := by rw [hs]; simp [joinSl]
      have hP := sl_one hj (by simp) (by
        intro x hx
        simp only [List.mem_cons, List.not_mem_nil, or_false] at hx
        rcases hx with rfl | rfl | rfl
        · exact it_nosl _ (by omega)
        · exact prn_nosl
        · exact it_nosl _ (by omega))
      have hnn : s.data.toList ≠ noneW := by
        intro c
        have hm : (47 : UInt8) ∈ s.data.toList := by rw [hs]; simp
        rw [c] at hm; revert hm; decide
      have i1 := int_back (n := p.bf) (lo := 1) (hi := 100) (by omega) (by omega) (by omega)
      have i2 := par_back (d := p.bo) (by omega)
      have i3 := int_back (n := p.bp) (lo := 1) (hi := 100) (by omega) (by omega) (by omega)
      have e : rdBr s = ({ polZ with bf := p.bf, bo := p.bo, bp := p.bp }, 0) := by
        unfold rdBr
        rw [if_neg hnn, if_neg (by rw [bl_len hP]; exact fun c => c rfl), pnS_bl, pnS_bl, pnS_bl, hP]
        show br3 (Lib.itoa p.bf) (prnV p.bo) (Lib.itoa p.bp) = _
        unfold br3
        rw [i1.1, i1.2, i2.1, i2.2, i3.1, i3.2]
        unfold brErr
        rw [if_pos (show brOk p.bf p.bo p.bp = true from hp8 6 (by omega))]
        rfl
      rw [e]; exact ⟨rfl, rfl⟩
  · show (rdRe s).2 = 0 ∧ ({ q with rm := (rdRe s).1.rm, rb := (rdRe s).1.rb, rc := (rdRe s).1.rc, rj := (rdRe s).1.rj } : PolV) = { q with rm := p.rm, rb := p.rb, rc := p.rc, rj := p.rj }
    have hs : s.data.toList = reS p.rm p.rb p.rc p.rj := hs
    by_cases hz : reZ p.rm p.rb p.rc p.rj = true
    · obtain ⟨z1, z2, z3, z4⟩ := of_decide_eq_true hz
      unfold reS at hs
      rw [if_pos hz] at hs
      have e : rdRe s = (polZ, 0) := by unfold rdRe; rw [if_pos hs]
      rw [e, z1, z2, z3, z4]; exact ⟨rfl, rfl⟩
    · have hn : ¬ (p.rm = 0 ∧ p.rb = 0 ∧ p.rc = 0 ∧ p.rj = 0) := fun c => hz (decide_eq_true c)
      unfold reS at hs
      rw [if_neg hz] at hs
      have hj : s.data.toList = joinSl [Lib.itoa p.rm, prnV p.rb, prnV p.rc, prnV p.rj] := by rw [hs]; simp [joinSl]
      have hP := sl_one hj (by simp) (by
        intro x hx
        simp only [List.mem_cons, List.not_mem_nil, or_false] at hx
        rcases hx with rfl | rfl | rfl | rfl
        · exact it_nosl _ (by omega)
        · exact prn_nosl
        · exact prn_nosl
        · exact prn_nosl)
      have hnn : s.data.toList ≠ noneW := by
        intro c
        have hm : (47 : UInt8) ∈ s.data.toList := by rw [hs]; simp
        rw [c] at hm; revert hm; decide
      have i1 := int_back (n := p.rm) (lo := 1) (hi := 20) (by omega) (by omega) (by omega)
      have i2 := par_back (d := p.rb) (by omega)
      have i3 := par_back (d := p.rc) (by omega)
      have i4 := par_back (d := p.rj) (by omega)
      have e : rdRe s = ({ polZ with rm := p.rm, rb := p.rb, rc := p.rc, rj := p.rj }, 0) := by
        unfold rdRe
        rw [if_neg hnn, if_neg (by rw [bl_len hP]; exact fun c => c rfl), pnS_bl, pnS_bl, pnS_bl, pnS_bl, hP]
        show re4 (Lib.itoa p.rm) (prnV p.rb) (prnV p.rc) (prnV p.rj) = _
        unfold re4
        rw [i1.1, i1.2, i2.1, i2.2, i3.1, i3.2, i4.1, i4.2]
        unfold reErr
        rw [if_pos (show reOk p.rm p.rb p.rc p.rj = true from hp8 7 (by omega))]
        rfl
      rw [e]; exact ⟨rfl, rfl⟩
theorem set_back {k : Nat} {s : ByteArray} {p : PolV} (hk : k < 8) (hp : polOk p = true) (hs : s.data.toList = valS k p) (q : PolV) : setK k s q = (updK k p q, 0) := by
  obtain ⟨h1, h2⟩ := rd_back hk hp hs q
  unfold setK; rw [if_pos h1, h2]
theorem set_ok {k : Nat} {s : ByteArray} {q : PolV} (hk : k < 8) (hq : polOk q = true) (h : (setK k s q).2 = 0) : polOk (setK k s q).1 = true ∧ (setK k s q).1 = updK k (rdK k s).1 q := by
  unfold setK at h ⊢
  split at h
  · rename_i h2
    rw [if_pos h2]
    exact ⟨upd_ok _ _ hk (rd_ok hk h2) hq, rfl⟩
  · rename_i h2
    have := (firstE_zero.1 h) _ List.mem_cons_self
    exact absurd this h2
end Go.Proofs.YtpjocfkolnfjiaaGreatDoor.Lx
namespace Go.Proofs.YtpjocfkolnfjiaaGreatDoor.Lx
open Go Go.RowKit

def isBl (c : UInt8) : Bool := c == 32 || c == 9
def isBlR (x : Nat) : Bool := x == 32 || x == 9
/-- The words that end before k, and where the one begins that k lies in. -/
def wsTo (s : ByteArray) : Nat → List (Nat × Nat) × Option Nat
  | 0 => ([], none)
  | k + 1 => if isBl s.data[k]! = true then (match (wsTo s k).2 with
      | some a => ((wsTo s k).1 ++ [(a, k)], none)
      | none => ((wsTo s k).1, none)) else ((wsTo s k).1, some ((wsTo s k).2.getD k))
theorem ws_hit_some {s : ByteArray} {k a : Nat} (h : isBl s.data[k]! = true) (e : (wsTo s k).2 = some a) : wsTo s (k + 1) = ((wsTo s k).1 ++ [(a, k)], none) := by
  rw [wsTo, if_pos h, e]
theorem ws_hit_none {s : ByteArray} {k : Nat} (h : isBl s.data[k]! = true) (e : (wsTo s k).2 = none) : wsTo s (k + 1) = ((wsTo s k).1, none) := by
  rw [wsTo, if_pos h, e]
theorem ws_miss {s : ByteArray} {k : Nat} (h : isBl s.data[k]! = false) : wsTo s (k + 1) = ((wsTo s k).1, some ((wsTo s k).2.getD k)) := by
  rw [wsTo, if_neg (by rw [h]; decide)]
theorem isBl_high {c : UInt8} (h : 128 ≤ c.toNat) : isBl c = false := by
  unfold isBl
  rw [Bool.or_eq_false_iff, beq_eq_false_iff_ne, beq_eq_false_iff_ne]
  constructor <;> (intro e; subst e; revert h; decide)
theorem isBlR_low (c : UInt8) : isBlR c.toNat = isBl c := by
  unfold isBlR isBl
  congr 1
  · by_cases h : c = 32
    · subst h; rfl
    · rw [beq_eq_false_iff_ne.2 h, beq_eq_false_iff_ne]; intro e; exact h (UInt8.toNat_inj.1 e)
  · by_cases h : c = 9
    · subst h; rfl
    · rw [beq_eq_false_iff_ne.2 h, beq_eq_false_iff_ne]; intro e; exact h (UInt8.toNat_inj.1 e)
theorem isBlR_high {x : Nat} (h : 128 ≤ x) : isBlR x = false := by
  unfold isBlR
  rw [Bool.or_eq_false_iff, beq_eq_false_iff_ne, beq_eq_false_iff_ne]
  constructor <;> omega
theorem get_data {s : ByteArray} {k : Nat} (h : k < s.size) : s.data[k]! = s[k] := by
  show s.data[k]! = s.data[k]
  exact getElem!_pos s.data k h
theorem get_bang {s : ByteArray} {k : Nat} (h : k < s.size) : s.get! k = s[k] := by
  have := get_at s k h
  simpa using this
/-- Over bytes that are no blanks. -/
theorem ws_over {s : ByteArray} {k : Nat} : ∀ (d : Nat), (∀ j, j < d + 1 → isBl s.data[k + j]! = false) → wsTo s (k + (d + 1)) = ((wsTo s k).1, some ((wsTo s k).2.getD k))
  | 0, h => ws_miss (h 0 (by omega))
  | d + 1, h => by
    have ih := ws_over (s := s) (k := k) d (fun j hj => h j (by omega))
    have e := ws_miss (s := s) (k := k + (d + 1)) (h (d + 1) (by omega))
    rw [show k + (d + 1 + 1) = k + (d + 1) + 1 by omega, e, ih]
    rfl
/-- A rune beyond ASCII takes bytes beyond ASCII alone. -/
theorem high_run {s : ByteArray} {k : Nat} (hk : k < s.size) (h : 128 ≤ (s[k]'hk).toNat) : ∃ d, (Utf8.decode s k).2 = d + 1 ∧ k + (d + 1) ≤ s.size ∧ ∀ j, j < d + 1 → isBl s.data[k + j]! = false := by
  have h0 : isBl s.data[k]! = false := by rw [get_data hk]; exact isBl_high h
  have hn : ¬ (s.get! k).toNat < 128 := by rw [get_bang hk]; omega
  have hc : ∀ j, k + j < s.size → (s.get! (k + j)).toNat / 64 = 2 → isBl s.data[k + j]! = false := by
    intro j hj e
    rw [get_data hj]
    rw [get_bang hj] at e
    exact isBl_high (by omega)
  rw [Lib.decode_at, Lib.decodeN, if_neg hn]
  have one : ∃ d, (65533, 1).2 = d + 1 ∧ k + (d + 1) ≤ s.size ∧ ∀ j, j < d + 1 → isBl s.data[k + j]! = false := ⟨0, rfl, by omega, fun j hj => by
    have e0 : j = 0 := by omega
    subst e0; exact h0⟩
  split
  · rename_i h2
    split
    · refine ⟨1, rfl, by omega, fun j hj => ?_⟩
      obtain rfl | rfl : j = 0 ∨ j = 1 := by omega
      · exact h0
      · exact hc 1 (by omega) h2.2.2
    · exact one
  · split
    · rename_i h3
      split
      · refine ⟨2, rfl, by omega, fun j hj => ?_⟩
        obtain rfl | rfl | rfl : j = 0 ∨ j = 1 ∨ j = 2 := by omega
        · exact h0
        · exact hc 1 (by omega) h3.2.1.2
        · exact hc 2 (by omega) h3.2.2.2
      · exact one
    · split
      · rename_i h4
        split
        · refine ⟨3, rfl, by omega, fun j hj => ?_⟩
          obtain rfl | rfl | rfl | rfl : j = 0 ∨ j = 1 ∨ j = 2 ∨ j = 3 := by omega
          · exact h0
          · exact hc 1 (by omega) h4.2.1.2
          · exact hc 2 (by omega) h4.2.2.1.2
          · exact hc 3 (by omega) h4.2.2.2.2
        · exact one
      · exact one
theorem spans_ws (s : ByteArray) : ∀ (f k : Nat), k ≤ s.size → s.size ≤ k + f → Lib.spansFromP isBlR s f k (wsTo s k).2 (wsTo s k).1 = wsTo s s.size
  | 0, k, h1, h2 => by
    obtain rfl : k = s.size := by omega
    rfl
  | f + 1, k, h1, h2 => by
    by_cases hk : k < s.size
    · unfold Lib.spansFromP
      rw [if_pos hk]
      by_cases ha : (s[k]'hk).toNat < 128
      · rw [decode_ascii s k hk ha]
        have ih := spans_ws s f (k + 1) (by omega) (by omega)
        dsimp only
        rw [isBlR_low]
        by_cases hb : isBl (s[k]'hk) = true
        · have hb' : isBl s.data[k]! = true := by rw [get_data hk]; exact hb
          rw [if_pos hb]
          cases e : (wsTo s k).2 with
          | none => rw [ws_hit_none hb' e] at ih; exact ih
          | some a => rw [ws_hit_some hb' e] at ih; exact ih
        · have hb' : isBl s.data[k]! = false := by rw [get_data hk]; simpa using hb
          rw [if_neg hb]
          rw [ws_miss hb'] at ih
          cases e : (wsTo s k).2 with
          | none => rw [e] at ih; exact ih
          | some a => rw [e] at ih; exact ih
      · obtain ⟨g1, _⟩ := decode_high s k hk (by omega)
        obtain ⟨d, e1, e2, e3⟩ := high_run hk (by omega)
        have ih := spans_ws s f (k + (d + 1)) e2 (by omega)
        rw [ws_over d e3] at ih
        rw [isBlR_high g1, e1]
        simp only [Bool.false_eq_true, if_false]
        cases e : (wsTo s k).2 with
        | none => rw [e] at ih; exact ih
        | some a => rw [e] at ih; exact ih
    · obtain rfl : k = s.size := by omega
      rw [Lib.spansFromP_end _ _ _ _ _ _ (by omega)]
/-- The words of a text. -/
def wdsB (s : ByteArray) : List ByteArray := Lib.goFieldsP isBlR s
theorem wds_spans (s : ByteArray) : Lib.spansOfP isBlR s = Lib.closeSpans s (wsTo s s.size) := by
  have h := spans_ws s s.size 0 (by omega) (by omega)
  unfold Lib.spansOfP
  exact congrArg _ h
/-! ### words as lists -/
def wdsA : List UInt8 → List UInt8 → List (List UInt8)
  | cur, [] => if cur = [] then [] else [cur]
  | cur, c :: r => if isBl c = true then (if cur = [] then wdsA [] r else cur :: wdsA [] r) else wdsA (cur ++ [c]) r
def wds (l : List UInt8) : List (List UInt8) := wdsA [] l
def curOf (s : ByteArray) (k : Nat) : List UInt8 := match (wsTo s k).2 with
  | none => []
  | some a => (s.data.toList.drop a).take (k - a)
theorem ws_lt (s : ByteArray) : ∀ k, k ≤ s.size → (∀ a, (wsTo s k).2 = some a → a < k) ∧ ∀ x ∈ (wsTo s k).1, x.1 < x.2 ∧ x.2 ≤ k
  | 0, _ => ⟨fun a h => (by cases h), fun x h => (by cases h)⟩
  | k + 1, hk => by
    obtain ⟨i1, i2⟩ := ws_lt s k (by omega)
    by_cases hb : isBl s.data[k]! = true
    · cases e : (wsTo s k).2 with
      | none =>
        rw [ws_hit_none hb e]
        exact ⟨fun a h => (by cases h), fun x h => ⟨(i2 x h).1, by have := (i2 x h).2; omega⟩⟩
      | some a =>
        rw [ws_hit_some hb e]
        refine ⟨fun a h => (by cases h), fun x h => ?_⟩
        rcases List.mem_append.1 h with h | h
        · exact ⟨(i2 x h).1, by have := (i2 x h).2; omega⟩
        · rw [List.mem_singleton] at h; subst h
          exact ⟨i1 a e, Nat.le_succ k⟩
    · rw [ws_miss (by simpa using hb)]
      refine ⟨fun a h => ?_, fun x h => ⟨(i2 x h).1, by have := (i2 x h).2; omega⟩⟩
      cases e : (wsTo s k).2 with
      | none => rw [e] at h; injection h with h; simp at h; omega
      | some b => rw [e] at h; injection h with h; simp at h; have := i1 b e; omega
theorem data_take {s : ByteArray} {a b : Nat} : (s.extract a b).data.toList = (s.data.toList.drop a).take (b - a) := by
  rw [Lib.extract_data]
theorem list_get {s : ByteArray} {k : Nat} (hk : k < s.size) : s.data.toList[k]? = some (s.data[k]!) := by
  rw [getElem!_pos s.data k hk, Array.getElem?_toList, Array.getElem?_eq_getElem hk]
theorem drop_at {s : ByteArray} {k : Nat} (hk : k < s.size) : s.data.toList.drop k = s.data[k]! :: s.data.toList.drop (k + 1) := by
  have hl : k < s.data.toList.length := by rw [← Lib.size_eq]; exact hk
  rw [List.drop_eq_getElem_cons hl]
  congr 1
  have := list_get hk
  rw [List.getElem?_eq_getElem hl] at this
  exact Option.some.inj this
theorem take_next {s : ByteArray} {a k : Nat} (hk : k < s.size) (ha : a ≤ k) : (s.data.toList.drop a).take (k + 1 - a) = (s.data.toList.drop a).take (k - a) ++ [s.data[k]!] := by
  rw [show k + 1 - a = (k - a) + 1 by omega, List.take_add_one, List.getElem?_drop, show a + (k - a) = k by omega, list_get hk]
  rfl
theorem wds_to (s : ByteArray) : ∀ k, k ≤ s.size → wds s.data.toList = (wsTo s k).1.map (fun x => (s.extract x.1 x.2).data.toList) ++ wdsA (curOf s k) (s.data.toList.drop k)
  | 0, _ => by simp [wsTo, curOf, wds]
  | k + 1, hk => by
    have ih := wds_to s k (by omega)
    have hlt := (ws_lt s k (by omega)).1
    rw [ih, drop_at (show k < s.size by omega)]
    by_cases hb : isBl s.data[k]! = true
    · rw [wdsA, if_pos hb]
      cases e : (wsTo s k).2 with
      | none =>
        have h1 : curOf s k = [] := by unfold curOf; rw [e]
        have h2 : curOf s (k + 1) = [] := by unfold curOf; rw [ws_hit_none hb e]
        rw [h1, if_pos rfl, h2, ws_hit_none hb e]
      | some a =>
        have ha := hlt a e
        have h1 : curOf s k = (s.data.toList.drop a).take (k - a) := by unfold curOf; rw [e]
        have h2 : curOf s (k + 1) = [] := by unfold curOf; rw [ws_hit_some hb e]
        have h3 : (s.data.toList.drop a).take (k - a) ≠ [] := by
          intro c
          have := congrArg List.length c
          rw [List.length_take, List.length_drop, ← Lib.size_eq] at this
          simp at this; omega
        rw [h1, if_neg h3, h2, ws_hit_some hb e, List.map_append, List.append_assoc]
        congr 1
        show _ :: _ = [(s.extract a k).data.toList] ++ _
        rw [data_take]; rfl
    · have hb' : isBl s.data[k]! = false := by simpa using hb
      rw [wdsA, if_neg hb]
      have h2 : curOf s (k + 1) = curOf s k ++ [s.data[k]!] := by
        unfold curOf
        rw [ws_miss hb']
        cases e : (wsTo s k).2 with
        | none =>
          show (s.data.toList.drop k).take (k + 1 - k) = [] ++ [s.data[k]!]
          rw [take_next (by omega) (Nat.le_refl k)]; simp
        | some a =>
          have ha := hlt a e
          show (s.data.toList.drop a).take (k + 1 - a) = _
          rw [take_next (by omega) (by omega)]
      rw [h2, ws_miss hb']
theorem wdsB_data (s : ByteArray) : (wdsB s).map (·.data.toList) = wds s.data.toList := by
  unfold wdsB Lib.goFieldsP
  rw [wds_spans, wds_to s s.size (Nat.le_refl _), List.map_map]
  have hl := (ws_lt s s.size (Nat.le_refl _)).1
  rw [show List.drop s.size s.data.toList = [] by rw [List.drop_eq_nil_iff, ← Lib.size_eq]; exact Nat.le_refl _, wdsA]
  unfold Lib.closeSpans curOf
  cases e : (wsTo s s.size).2 with
  | none => simp
  | some a =>
    have ha := hl a e
    have h3 : (s.data.toList.drop a).take (s.size - a) ≠ [] := by
      intro c
      have := congrArg List.length c
      rw [List.length_take, List.length_drop, ← Lib.size_eq] at this
      simp at this; omega
    dsimp only
    rw [if_neg h3, List.map_append]
    congr 1
    show [(s.extract a s.size).data.toList] = _
    rw [data_take]
theorem wdsA_word : ∀ (p : List UInt8) (cur r : List UInt8), (∀ c ∈ p, isBl c = false) → wdsA cur (p ++ r) = wdsA (cur ++ p) r
  | [], cur, r, _ => by simp
  | c :: p, cur, r, h => by
    rw [List.cons_append, wdsA, if_neg (by rw [h c List.mem_cons_self]; decide), wdsA_word p _ r (fun d hd => h d (List.mem_cons_of_mem _ hd))]
    simp
theorem wdsA_bl {c : UInt8} (h : isBl c = true) (r : List UInt8) : wdsA [] (c :: r) = wdsA [] r := by rw [wdsA, if_pos h, if_pos rfl]
theorem wdsA_end {c : UInt8} {p : List UInt8} (h : isBl c = true) (hp : p ≠ []) (r : List UInt8) : wdsA p (c :: r) = p :: wdsA [] r := by rw [wdsA, if_pos h, if_neg hp]
/-- A blank, a word, and then a blank or nothing. -/
theorem wds_next (p r : List UInt8) (hp : p ≠ []) (hb : ∀ c ∈ p, isBl c = false) (hr : r = [] ∨ ∃ c t, r = c :: t ∧ isBl c = true) : wds (p ++ r) = p :: wds r := by
  unfold wds
  rw [wdsA_word p [] r hb, List.nil_append]
  rcases hr with rfl | ⟨c, t, rfl, hc⟩
  · rw [wdsA, if_neg hp, wdsA, if_pos rfl]
  · rw [wdsA_end hc hp, wdsA_bl hc]
theorem wds_blank (c : UInt8) (r : List UInt8) (h : isBl c = true) : wds (c :: r) = wds r := wdsA_bl h r
/-- Words, each behind a blank. -/
def spaced (P : List (List UInt8)) : List UInt8 := P.flatMap fun p => 32 :: p
theorem wds_spaced (P : List (List UInt8)) (h : ∀ p ∈ P, p ≠ [] ∧ ∀ c ∈ p, isBl c = false) (t : List UInt8) (ht : t = [] ∨ ∃ c r, t = c :: r ∧ isBl c = true) : wds (spaced P ++ t) = P ++ wds t := by
  induction P with
  | nil => rfl
  | cons p P ih =>
    have hp := h p List.mem_cons_self
    have ih := ih (fun q hq => h q (List.mem_cons_of_mem _ hq))
    rw [show spaced (p :: P) ++ t = 32 :: (p ++ (spaced P ++ t)) by simp [spaced], wds_blank 32 _ (by decide), wds_next p _ hp.1 hp.2 ?_, ih]
    · rfl
    · cases P with
      | nil => exact ht
      | cons q Q => exact .inr ⟨32, q ++ (spaced Q ++ t), by simp [spaced], by decide⟩
theorem wds_nil : wds [] = [] := rfl
end Go.Proofs.YtpjocfkolnfjiaaGreatDoor.Lx
namespace Go.Proofs.YtpjocfkolnfjiaaGreatDoor.Lx
open Go Go.RowKit

/-! ### texts -/
def pairW (k : Nat) (p : PolV) : List UInt8 := keyW k ++ 61 :: valS k p
def prTo (p : PolV) : Nat → List (List UInt8)
  | 0 => []
  | k + 1 => if valS k p = valS k polD then prTo p k else prTo p k ++ [pairW k p]
/-- The pairs that are written. -/
def prL (p : PolV) : List (List UInt8) := prTo p 8
def prS (p : PolV) : List UInt8 := if polOk p = true then Lib.join (prL p) [32] else []
def prE (p : PolV) : Int := polE p
/-! ### reading -/
def parL : List ByteArray → PolV → List Nat → Nat → PolV × Nat × Int
  | [], p, _, _ => (p, 0, 0)
  | s :: r, p, had, i =>
    if pairE s ≠ 0 then (polZ, i, 10)
    else if ¬ keyIx (pairK s).data.toList < 8 then (polZ, i, 15)
    else if keyIx (pairK s).data.toList ∈ had then (polZ, i, 6)
    else if (setK (keyIx (pairK s).data.toList) (pairV s) p).2 ≠ 0 then (polZ, i, (setK (keyIx (pairK s).data.toList) (pairV s) p).2)
    else parL r (setK (keyIx (pairK s).data.toList) (pairV s) p).1 (keyIx (pairK s).data.toList :: had) (i + 1)
def parP (s : ByteArray) : PolV × Nat × Int := if s.size > 65536 then (polZ, 0, 11) else parL (wdsB s) polD [] 0
/-! ### facts -/
def foldK (p : PolV) : List Nat → PolV → PolV
  | [], q => q
  | k :: K, q => foldK p K (updK k p q)
theorem pol_ext {p q : PolV} (h : ∀ k, k < 8 → updK k p q = q) : q = p := by
  have e : p = updK 0 p (updK 1 p (updK 2 p (updK 3 p (updK 4 p (updK 5 p (updK 6 p (updK 7 p q))))))) := rfl
  rw [h 7 (by omega), h 6 (by omega), h 5 (by omega), h 4 (by omega), h 3 (by omega), h 2 (by omega), h 1 (by omega), h 0 (by omega)] at e
  exact e.symm
theorem fold_all (p : PolV) : ∀ (K : List Nat) (q : PolV), (∀ k ∈ K, k < 8) → (∀ j, j < 8 → j ∈ K ∨ updK j p q = q) → foldK p K q = p
  | [], q, _, h => pol_ext fun k hk => (h k hk).resolve_left (by simp)
  | k :: K, q, h8, h => by
    have hk := h8 k List.mem_cons_self
    refine fold_all p K _ (fun j hj => h8 j (List.mem_cons_of_mem _ hj)) fun j hj => ?_
    by_cases e : j = k
    · subst e; exact .inr (upd_upd hj p p q)
    · rcases h j hj with h | h
      · rcases List.mem_cons.1 h with h | h
        · exact absurd h e
        · exact .inl h
      · exact .inr (by rw [upd_comm e hj hk, h])
theorem polD_ok : polOk polD = true := by decide
theorem firstE_ne {x : Int} (h : x ≠ 0) : firstE [x] ≠ 0 := fun c => h (firstE_zero.1 c x List.mem_cons_self)
/-- The letters of keys. -/
theorem keyW_low {k : Nat} (h : k < 8) : keyW k ≠ [] ∧ (keyW k).all isLow = true ∧ (61 : UInt8) ∉ keyW k ∧ (keyW k).length ≤ 8 := by
  rcases cases8 h with rfl | rfl | rfl | rfl | rfl | rfl | rfl | rfl <;> decide
theorem pair_at {s : ByteArray} {k : Nat} {v : List UInt8} (hk : k < 8) (h : s.data.toList = keyW k ++ 61 :: v) : pairE s = 0 ∧ (pairK s).data.toList = keyW k ∧ (pairV s).data.toList = v := by
  obtain ⟨h1, h2, h3, _⟩ := keyW_low hk
  obtain ⟨c1, c2, c3⟩ := cut_at s 61 (keyW k) v h h3
  have hok : pairOk s = true := by
    unfold pairOk
    rw [c1, c2, h2]
    cases e : (keyW k).isEmpty
    · rfl
    · exact absurd (List.isEmpty_iff.1 e) h1
  obtain ⟨g1, g2, g3⟩ := pair_good hok
  rw [g1, g2, g3]
  exact ⟨rfl, c2, c3⟩
/-- Texts of pairs of a valid policy, of keys that were not had yet, are read as its fields. -/
theorem parL_pairs {p : PolV} (hp : polOk p = true) (rest : List ByteArray) : ∀ (K : List Nat) (L : List ByteArray) (q : PolV) (had : List Nat) (i : Nat), (∀ k ∈ K, k < 8) → K.Nodup → (∀ k ∈ K, k ∉ had) →
    L.map (·.data.toList) = K.map (fun k => pairW k p) → parL (L ++ rest) q had i = parL rest (foldK p K q) (K.reverse ++ had) (i + K.length)
  | [], [], q, had, i, _, _, _, _ => rfl
  | [], _ :: _, q, had, i, _, _, _, h => by simp at h
  | _ :: _, [], q, had, i, _, _, _, h => by simp at h
  | k :: K, s :: L, q, had, i, h8, hn, hh, h => by
    rw [List.map_cons, List.map_cons] at h
    obtain ⟨e1, e2⟩ := List.cons.inj h
    have hk := h8 k List.mem_cons_self
    obtain ⟨a1, a2, a3⟩ := pair_at hk e1
    rw [List.nodup_cons] at hn
    rw [List.cons_append, parL, a1, a2, keyIx_key hk, if_neg (fun c => c rfl), if_neg (fun c => c hk), if_neg (hh k List.mem_cons_self), set_back hk hp a3 q, if_neg (fun c => c rfl)]
    rw [parL_pairs hp rest K L _ _ _ (fun j hj => h8 j (List.mem_cons_of_mem _ hj)) hn.2 (fun j hj c => by
      rcases List.mem_cons.1 c with c | c
      · subst c; exact hn.1 hj
      · exact hh j (List.mem_cons_of_mem _ hj) c) e2]
    show parL rest (foldK p K (updK k p q)) (K.reverse ++ k :: had) (i + 1 + K.length) = parL rest (foldK p K (updK k p q)) ((k :: K).reverse ++ had) (i + (k :: K).length)
    rw [List.reverse_cons, List.append_assoc, List.length_cons, show i + 1 + K.length = i + (K.length + 1) by omega]
    rfl
/-- A pair of a key that was had. -/
theorem parL_twice {p : PolV} {k : Nat} (hk : k < 8) {s : ByteArray} (hs : s.data.toList = pairW k p) (rest : List ByteArray) (q : PolV) (had : List Nat) (i : Nat) (h : k ∈ had) : parL (s :: rest) q had i = (polZ, i, 6) := by
  obtain ⟨a1, a2, _⟩ := pair_at hk hs
  rw [parL, a1, a2, keyIx_key hk, if_neg (fun c => c rfl), if_neg (fun c => c hk), if_pos h]
/-- What is read is valid; what is not read is nothing. -/
theorem parL_facts : ∀ (L : List ByteArray) (q : PolV) (had : List Nat) (i : Nat), polOk q = true →
    ((parL L q had i).2.2 = 0 ∧ polOk (parL L q had i).1 = true ∧ (parL L q had i).2.1 = 0) ∨ ((parL L q had i).2.2 ≠ 0 ∧ (parL L q had i).1 = polZ ∧ i ≤ (parL L q had i).2.1 ∧ (parL L q had i).2.1 < i + L.length)
  | [], q, _, _, h => .inl ⟨rfl, h, rfl⟩
  | s :: r, q, had, i, h => by
    rw [parL]
    split
    · exact .inr ⟨show (10 : Int) ≠ 0 by decide, rfl, Nat.le_refl _, by simp⟩
    · split
      · exact .inr ⟨show (15 : Int) ≠ 0 by decide, rfl, Nat.le_refl _, by simp⟩
      · rename_i h8
        have h8 : keyIx (pairK s).data.toList < 8 := Decidable.not_not.1 h8
        split
        · exact .inr ⟨show (6 : Int) ≠ 0 by decide, rfl, Nat.le_refl _, by simp⟩
        · split
          · rename_i h4
            exact .inr ⟨h4, rfl, Nat.le_refl _, by simp⟩
          · rename_i h4
            have hok := set_ok h8 h (Decidable.not_not.1 h4)
            rcases parL_facts r _ (keyIx (pairK s).data.toList :: had) (i + 1) hok.1 with h | ⟨a, b, c, d⟩
            · exact .inl h
            · exact .inr ⟨a, b, by omega, by rw [List.length_cons]; omega⟩
theorem wdsA_len : ∀ (l cur : List UInt8), (wdsA cur l).length ≤ l.length + (if cur = [] then 0 else 1)
  | [], cur => by
    rw [wdsA]; split <;> simp
  | c :: r, cur => by
    have h1 := wdsA_len r []
    have h2 := wdsA_len r (cur ++ [c])
    rw [if_pos rfl] at h1
    rw [if_neg (by simp)] at h2
    rw [wdsA]
    split
    · split
      · simp; omega
      · simp; omega
    · rw [List.length_cons]; omega
theorem wdsB_len (s : ByteArray) : (wdsB s).length ≤ s.size := by
  have h := wdsA_len s.data.toList []
  have e := congrArg List.length (wdsB_data s)
  rw [List.length_map] at e
  rw [if_pos rfl, ← Lib.size_eq] at h
  unfold wds at e
  omega
theorem parP_facts (s : ByteArray) : ((parP s).2.2 = 0 ∧ polOk (parP s).1 = true ∧ (parP s).2.1 = 0) ∨ ((parP s).2.2 ≠ 0 ∧ (parP s).1 = polZ ∧ (parP s).2.1 ≤ s.size) := by
  unfold parP
  split
  · exact .inr ⟨by decide, rfl, Nat.zero_le _⟩
  · rcases parL_facts (wdsB s) polD [] 0 polD_ok with h | ⟨a, b, _, d⟩
    · exact .inl h
    · exact .inr ⟨a, b, by have := wdsB_len s; omega⟩
/-! ### the bytes of values -/
theorem pdd_len (n : Nat) (h : n ≤ 68719476736) : (Lib.decDigits n).length ≤ 11 := by
  rw [Lib.decDigits_length]; exact nDigits_le 10 n (by omega)
theorem ppiece_len (k d : Nat) (h : d ≤ 68719476736) : (piece k d).length ≤ 12 := by
  unfold piece
  have : d / secs k ≤ d := Nat.div_le_self _ _
  split
  · simp
  · rw [List.length_append, List.length_singleton]; have := pdd_len (d / secs k) (by omega); omega
theorem pleft_le : ∀ k d, leftAt d k ≤ d
  | 0, _ => Nat.le_refl _
  | k + 1, d => Nat.le_trans (Nat.mod_le _ _) (pleft_le k d)
theorem ptext_len (d : Nat) (h : d ≤ 68719476736) : ∀ k, (textTo d k).length ≤ 12 * k
  | 0 => by simp [textTo]
  | k + 1 => by
    rw [textTo, List.length_append]
    have h1 := ptext_len d h k
    have h2 := ppiece_len k (leftAt d k) (Nat.le_trans (pleft_le k d) h)
    omega
theorem pprn_size (d : Nat) (h : d ≤ 68719476736) : (prnS d).length ≤ 48 := by
  unfold prnS
  split
  · decide
  · have := ptext_len d h 4; omega
theorem it_nobl {n : Int} (h : 0 ≤ n) : ∀ c ∈ Lib.itoa n, isBl c = false := by
  rw [itoa_pos h]
  intro c hc
  have := List.all_eq_true.1 (dd_all n.natAbs) c hc
  cases e : isBl c
  · rfl
  · unfold isBl at e
    rw [Bool.or_eq_true, beq_iff_eq, beq_iff_eq] at e
    rcases e with rfl | rfl <;> revert this <;> decide
theorem prn_nobl {d : Int} : ∀ c ∈ prnV d, isBl c = false := by
  unfold prnV
  split
  · intro c hc
    cases e : isBl c
    · rfl
    · unfold isBl at e
      rw [Bool.or_eq_true, beq_iff_eq, beq_iff_eq] at e
      rcases e with rfl | rfl
      · exact absurd hc (prn_no _ 32 (by decide) (by decide))
      · exact absurd hc (prn_no _ 9 (by decide) (by decide))
  · intro c hc; cases hc
theorem app_nobl {a b : List UInt8} (h1 : ∀ c ∈ a, isBl c = false) (h2 : ∀ c ∈ b, isBl c = false) : ∀ c ∈ a ++ b, isBl c = false := fun c hc => (List.mem_append.1 hc).elim (h1 c) (h2 c)
theorem lit_nobl {a : List UInt8} (h : a.all (fun c => !isBl c) = true) : ∀ c ∈ a, isBl c = false := fun c hc => by
  have := List.all_eq_true.1 h c hc
  simpa using this
theorem it_len {n : Int} (h0 : 0 ≤ n) (h1 : n ≤ 1000000) : (Lib.itoa n).length ≤ 11 := by
  rw [itoa_pos h0]; exact pdd_len _ (by omega)
theorem prn_len {d : Int} (h : 0 ≤ d ∧ d ≤ 68719476736) : (prnV d).length ≤ 100 := by
  rw [(prn_in h).1]; exact Nat.le_trans (pprn_size _ (by omega)) (by omega)
/-- The values of a valid policy have no blanks, and are short. -/
theorem val_bytes {k : Nat} {p : PolV} (hk : k < 8) (hp : polOk p = true) : (∀ c ∈ valS k p, isBl c = false) ∧ (valS k p).length ≤ 400 := by
  obtain ⟨a0, a1, a2, a3, a4, a5, a6, a7⟩ := pol_parts hp
  rcases cases8 hk with rfl | rfl | rfl | rfl | rfl | rfl | rfl | rfl
  · exact ⟨it_nobl (by omega), Nat.le_trans (it_len (by omega) (by omega)) (by omega)⟩
  · exact ⟨it_nobl (by omega), Nat.le_trans (it_len (by omega) (by omega)) (by omega)⟩
  · exact ⟨prn_nobl, Nat.le_trans (prn_len a2) (by omega)⟩
  · exact ⟨prn_nobl, Nat.le_trans (prn_len a3) (by omega)⟩
  · show (∀ c ∈ misS p.mis p.keep, isBl c = false) ∧ (misS p.mis p.keep).length ≤ 400
    unfold misS misW
    split
    · have := it_len (n := p.keep) (by omega) (by omega)
      exact ⟨app_nobl (lit_nobl (by decide)) (it_nobl (by omega)), by rw [List.length_append, show someW.length = 5 from rfl]; omega⟩
    · (repeat' split) <;> exact ⟨lit_nobl (by decide), by decide⟩
  · show (∀ c ∈ plimS p.lt p.lu, isBl c = false) ∧ (plimS p.lt p.lu).length ≤ 400
    unfold plimS
    split
    · split
      · exact ⟨lit_nobl (by decide), by decide⟩
      · have h1 := prn_len (d := p.lt) (by omega)
        have h2 := prn_len (d := p.lu) (by omega)
        have g1 := prn_nobl (d := p.lt)
        have g2 := prn_nobl (d := p.lu)
        rw [(prn_in (d := p.lt) (by omega)).1] at h1 g1
        rw [(prn_in (d := p.lu) (by omega)).1] at h2 g2
        exact ⟨app_nobl (app_nobl (app_nobl (lit_nobl (by decide)) g1) (lit_nobl (by decide))) g2, by simp; omega⟩
    · exact ⟨fun c hc => (by cases hc), by decide⟩
  · show (∀ c ∈ brS p.bf p.bo p.bp, isBl c = false) ∧ (brS p.bf p.bo p.bp).length ≤ 400
    unfold brS
    split
    · exact ⟨lit_nobl (by decide), by decide⟩
    · have h1 := it_len (n := p.bf) (by omega) (by omega)
      have h2 := prn_len (d := p.bo) (by omega)
      have h3 := it_len (n := p.bp) (by omega) (by omega)
      exact ⟨app_nobl (app_nobl (app_nobl (app_nobl (it_nobl (by omega)) (lit_nobl (by decide))) prn_nobl) (lit_nobl (by decide))) (it_nobl (by omega)), by simp; omega⟩
  · show (∀ c ∈ reS p.rm p.rb p.rc p.rj, isBl c = false) ∧ (reS p.rm p.rb p.rc p.rj).length ≤ 400
    unfold reS
    split
    · exact ⟨lit_nobl (by decide), by decide⟩
    · have h1 := it_len (n := p.rm) (by omega) (by omega)
      have h2 := prn_len (d := p.rb) (by omega)
      have h3 := prn_len (d := p.rc) (by omega)
      have h4 := prn_len (d := p.rj) (by omega)
      exact ⟨app_nobl (app_nobl (app_nobl (app_nobl (app_nobl (app_nobl (it_nobl (by omega)) (lit_nobl (by decide))) prn_nobl) (lit_nobl (by decide))) prn_nobl) (lit_nobl (by decide))) prn_nobl, by simp; omega⟩
theorem keyW_nobl {k : Nat} (h : k < 8) : ∀ c ∈ keyW k, isBl c = false := by
  rcases cases8 h with rfl | rfl | rfl | rfl | rfl | rfl | rfl | rfl <;> exact lit_nobl (by decide)
theorem pairW_bytes {k : Nat} {p : PolV} (hk : k < 8) (hp : polOk p = true) : pairW k p ≠ [] ∧ (∀ c ∈ pairW k p, isBl c = false) ∧ (pairW k p).length ≤ 409 := by
  obtain ⟨h1, h2⟩ := val_bytes hk hp
  have h3 := (keyW_low hk).2.2.2
  refine ⟨?_, ?_, ?_⟩
  · unfold pairW; simp
  · unfold pairW
    rw [show keyW k ++ 61 :: valS k p = keyW k ++ ([61] ++ valS k p) from rfl]
    exact app_nobl (keyW_nobl hk) (app_nobl (lit_nobl (by decide)) h1)
  · unfold pairW; rw [List.length_append, List.length_cons]; omega
/-! ### the text of a policy is read as this policy -/
def prK (p : PolV) : List Nat := (List.range 8).filter fun k => !decide (valS k p = valS k polD)
theorem prTo_map (p : PolV) : ∀ n, prTo p n = ((List.range n).filter fun k => !decide (valS k p = valS k polD)).map fun k => pairW k p
  | 0 => rfl
  | n + 1 => by
    rw [prTo, prTo_map p n, List.range_succ, List.filter_append]
    by_cases h : valS n p = valS n polD
    · rw [if_pos h, List.filter_cons_of_neg (by simp [h])]; simp
    · rw [if_neg h, List.filter_cons_of_pos (by simp [h])]; simp
theorem prL_map (p : PolV) : prL p = (prK p).map fun k => pairW k p := prTo_map p 8
theorem prK_lt {p : PolV} : ∀ k ∈ prK p, k < 8 := fun _ hk => List.mem_range.1 (List.mem_filter.1 hk).1
theorem prK_nodup (p : PolV) : (prK p).Nodup := List.nodup_range.filter _
theorem spaced_join : ∀ (P : List (List UInt8)), spaced P = if P = [] then [] else 32 :: Lib.join P [32]
  | [] => rfl
  | [a] => by rw [if_neg (by simp), Lib.join_one]; simp [spaced]
  | a :: b :: r => by
    have ih := spaced_join (b :: r)
    rw [if_neg (by simp)] at ih ⊢
    rw [Lib.join_cons] at ih ⊢
    rw [show spaced (a :: b :: r) = 32 :: (a ++ spaced (b :: r)) by simp [spaced], ih]
    simp [Lib.joinTail]
theorem wds_join {P : List (List UInt8)} (h : ∀ p ∈ P, p ≠ [] ∧ ∀ c ∈ p, isBl c = false) (t : List UInt8) (ht : t = [] ∨ ∃ c r, t = c :: r ∧ isBl c = true) : wds (Lib.join P [32] ++ t) = P ++ wds t := by
  by_cases hP : P = []
  · subst hP; rw [show Lib.join [] [32] = [] from rfl]; rfl
  · have e := wds_spaced P h t ht
    rw [spaced_join, if_neg hP, List.cons_append, wds_blank 32 _ (by decide)] at e
    exact e
theorem bl_map {L : List ByteArray} {P : List (List UInt8)} (h : L.map (·.data.toList) = P) : L = P.map fun p => (⟨p.toArray⟩ : ByteArray) := by
  rw [← h, List.map_map]
  have : ((fun p : List UInt8 => (⟨p.toArray⟩ : ByteArray)) ∘ fun s : ByteArray => s.data.toList) = id := by
    funext s; exact Lib.mk_data s
  rw [this, List.map_id]
/-- From the words of a text that are pairs of a valid policy. -/
theorem par_words {p : PolV} (hp : polOk p = true) {s : ByteArray} (hs : s.size ≤ 65536) (K : List Nat) (h8 : ∀ k ∈ K, k < 8) (hn : K.Nodup) (hw : wds s.data.toList = K.map fun k => pairW k p)
    (ha : ∀ j, j < 8 → j ∈ K ∨ updK j p polD = polD) : parP s = (p, 0, 0) := by
  unfold parP
  rw [if_neg (by omega)]
  have h := parL_pairs hp [] K (wdsB s) polD [] 0 h8 hn (fun _ _ c => by cases c) (by rw [wdsB_data, hw])
  rw [List.append_nil] at h
  rw [h, fold_all p K polD h8 ha]
  rfl
theorem prK_all {p : PolV} (hp : polOk p = true) : ∀ j, j < 8 → j ∈ prK p ∨ updK j p polD = polD := by
  intro j hj
  by_cases h : valS j p = valS j polD
  · right
    have h1 := (rd_back (s := ⟨(valS j p).toArray⟩) hj hp rfl polD).2
    have h2 := (rd_back (s := ⟨(valS j p).toArray⟩) hj polD_ok h polD).2
    rw [← h1, h2, upd_same hj]
  · left
    unfold prK
    rw [List.mem_filter, List.mem_range]
    exact ⟨hj, by simp [h]⟩
theorem pairs_len {p : PolV} (hp : polOk p = true) : ∀ K : List Nat, (∀ k ∈ K, k < 8) → (spaced (K.map fun k => pairW k p)).length ≤ 410 * K.length
  | [], _ => by simp [spaced]
  | k :: K, h => by
    have ih := pairs_len hp K (fun j hj => h j (List.mem_cons_of_mem _ hj))
    have h1 := (pairW_bytes (h k List.mem_cons_self) hp).2.2
    have e : spaced ((k :: K).map fun k => pairW k p) = 32 :: (pairW k p ++ spaced (K.map fun k => pairW k p)) := by simp [spaced]
    rw [e, List.length_cons, List.length_append, List.length_cons]
    omega
theorem prK_len (p : PolV) : (prK p).length ≤ 8 := by
  have := List.length_filter_le (fun k => !decide (valS k p = valS k polD)) (List.range 8)
  rw [List.length_range] at this; exact this
theorem prS_len {p : PolV} (hp : polOk p = true) : (prS p).length ≤ 3280 := by
  have h := pairs_len hp (prK p) prK_lt
  have h2 := prK_len p
  rw [← prL_map] at h
  unfold prS
  rw [if_pos hp]
  by_cases e : prL p = []
  · rw [e]; simp [Lib.join]
  · rw [spaced_join, if_neg e, List.length_cons] at h
    omega
theorem prL_bytes {p : PolV} (hp : polOk p = true) : ∀ x ∈ prL p, x ≠ [] ∧ ∀ c ∈ x, isBl c = false := by
  intro x hx
  rw [prL_map] at hx
  obtain ⟨k, hk, rfl⟩ := List.mem_map.1 hx
  have := pairW_bytes (prK_lt k hk) hp
  exact ⟨this.1, this.2.1⟩
/-- The text of a policy, between blanks or not, is read as this policy. -/
theorem par_print {p : PolV} (hp : polOk p = true) {s : ByteArray} (hs : s.data.toList = prS p) : parP s = (p, 0, 0) := by
  have hl := prS_len hp
  refine par_words hp (by rw [Lib.size_eq, hs]; omega) (prK p) prK_lt (prK_nodup p) ?_ (prK_all hp)
  have h := wds_join (prL_bytes hp) [] (.inl rfl)
  rw [List.append_nil, wds_nil, List.append_nil] at h
  rw [hs, prS, if_pos hp, h, prL_map]
theorem par_print_bl {p : PolV} (hp : polOk p = true) {s : ByteArray} (hs : s.data.toList = 32 :: (prS p ++ [32])) : parP s = (p, 0, 0) := by
  have hl := prS_len hp
  refine par_words hp (by rw [Lib.size_eq, hs]; simp; omega) (prK p) prK_lt (prK_nodup p) ?_ (prK_all hp)
  have h := wds_join (prL_bytes hp) [32] (.inr ⟨32, [], rfl, by decide⟩)
  rw [show wds [32] = [] from rfl, List.append_nil] at h
  rw [hs, wds_blank 32 _ (by decide), prS, if_pos hp, h, prL_map]
end Go.Proofs.YtpjocfkolnfjiaaGreatDoor.Lx
