import Derived.Test.YtbcjfjldmfljgaaGreatGaK
import Derived.Test.YtbcjfjldmfljgaaGreatItk
import Derived.Test.YtbcjfjldmfljgaaGreatPrE
import Derived.Test.YtbcjfjldmfljgaaGreatMaps
set_option maxRecDepth 100000
namespace Go.Proofs.YtbcjfjldmfljgaaGreat
theorem rise_len {n m : Nat} {X Y : Int → Int} (hX : Rise n X) (hY : Rise m Y) (h : ∀ i : Int, (∃ j : Int, (0 ≤ j ∧ j < n) ∧ X j = i) → ∃ j : Int, (0 ≤ j ∧ j < m) ∧ Y j = i) : n ≤ m := by
 have hex : ∀ j : Int, ∃ a : Int, 0 ≤ j → j < n → (0 ≤ a ∧ a < m) ∧ Y a = X j := fun j => by
  by_cases c : 0 ≤ j ∧ j < n
  ·obtain ⟨a, ha, e⟩ := h (X j) ⟨j, c, rfl⟩
   exact ⟨a, fun _ _ => ⟨ha, e⟩⟩
  ·exact ⟨0, fun a b => absurd ⟨a, b⟩ c⟩
 refine pigeonG (e := fun j => Classical.choose (hex j)) (fun j j0 j1 => (Classical.choose_spec (hex j) j0 j1).1) (fun a b a0 a1 b0 b1 e => ?_)
 have h1 := (Classical.choose_spec (hex a) a0 a1).2
 have h2 := (Classical.choose_spec (hex b) b0 b1).2
 have e' : Classical.choose (hex a) = Classical.choose (hex b) := e
 rw [e'] at h1
 have h3 : X a = X b := h1.symm.trans h2
 rcases Int.lt_trichotomy a b with d | d | d
 ·have := hX.inc a b a0 d b1; omega
 ·exact d
 ·have := hX.inc b a b0 d a1; omega
theorem rise_uniq {n m : Nat} {X Y : Int → Int} (hX : Rise n X) (hY : Rise m Y) (h : ∀ i : Int, (∃ j : Int, (0 ≤ j ∧ j < n) ∧ X j = i) ↔ ∃ j : Int, (0 ≤ j ∧ j < m) ∧ Y j = i) : n = m ∧ ∀ j : Int, 0 ≤ j → j < n → X j = Y j := by
 have hnm : n = m := Nat.le_antisymm (rise_len hX hY fun i => (h i).1) (rise_len hY hX fun i => (h i).2)
 subst hnm
 refine ⟨rfl, ?_⟩
 have key : ∀ q : Nat, ∀ j : Int, 0 ≤ j → j < q → j < n → X j = Y j := by
  intro q
  induction q with
  | zero => intro j j0 j1 _; omega
  | succ q ih =>
   intro j j0 j1 j2
   by_cases c : j < q
   ·exact ih j j0 c j2
   ·have hjq : j = q := by omega
    obtain ⟨a, ha, ea⟩ := (h (X j)).1 ⟨j, ⟨j0, j2⟩, rfl⟩
    obtain ⟨b, hb, eb⟩ := (h (Y j)).2 ⟨j, ⟨j0, j2⟩, rfl⟩
    have h1 : j ≤ a := Classical.byContradiction fun hn => by
     have e := ih a ha.1 (by omega) ha.2
     have := hX.inc a j ha.1 (by omega) j2
     omega
    have h2 : j ≤ b := Classical.byContradiction fun hn => by
     have e := ih b hb.1 (by omega) hb.2
     have := hY.inc b j hb.1 (by omega) j2
     omega
    have h3 : Y j ≤ Y a := by
     by_cases e : j = a
     ·rw [e]; exact Int.le_refl _
     ·have := hY.inc j a j0 (by omega) ha.2; omega
    have h4 : X j ≤ X b := by
     by_cases e : j = b
     ·rw [e]; exact Int.le_refl _
     ·have := hX.inc j b j0 (by omega) hb.2; omega
    omega
 exact fun j j0 j1 => key n j j0 j1 j1
end Go.Proofs.YtbcjfjldmfljgaaGreat
set_option maxRecDepth 100000
namespace Go.Proofs.YtbcjfjldmfljgaaGreat
open Go.RowKit Go.Proofs Go.MapKept
def mkS (N : Nat) (i : Int) : Int := if i < N then 1 else 2
def mkP (N : Nat) (v : Int → Int) (i : Int) : Int := if i < N then v i else 1
def mkQ (N n : Nat) (i : Int) : Int := if i < N then 1 else n
def bdF (N n : Nat) (v : Int → Int) : Int → List Value := fun i => [iv (mkS N i), iv (mkP N v i), iv (mkQ N n i)]
def dnF (v : Int → Int) (k x : Int) : Int := sm (fun j => if v j + 1 = x then 1 else 0) k
theorem dnF_succ (v : Int → Int) {k : Int} (k0 : 0 ≤ k) (x : Int) : dnF v (k + 1) x = dnF v k x + if v k + 1 = x then 1 else 0 := sm_succ _ k0
def MI (L : List (Int × Value)) (g : Int → Int) : Prop := ∀ x : Int, (lkp L x).getD (iv 0) = iv (g x)
theorem MI.put {L : List (Int × Value)} {g h : Int → Int} (hL : MI L g) (k y : Int) (e : ∀ x, h x = if x = k then y else g x) : MI (mput L k (iv y)) h := fun x => by
 rw [lkp_mput, e x]
 by_cases c : x = k
 ·rw [if_pos c, if_pos c]; rfl
 ·rw [if_neg c, if_neg c]; exact hL x
theorem ov_lookupP {P : Program} {N : Nat} {o : Oper} {F : Fr} {w : World} {T kt et : TypeId} {x ix : Operand} {z v : Value} {b : Nat} {i : Int} {L : List (Int × Value)} (ho : o.op = .lookup T x ix false) (hT : P.underlying T = some (.map kt et)) (hk : P.underlying kt = some (.int .i64)) (hz : (P.info? et).map (·.zero) = some (some z))
  (hx : Fr.ev F x = some (.map (some b))) (hi : Fr.ev F ix = some (.int .i64 i)) (hm : w.heap[b]? = some (.map (ents L 0).toArray L.length)) (hv : (lkp L i).getD z = v) : OpV P N o F w v := by
 have h := ov_lookup (P := P) (N := N) (o := o) (F := F) ho hT hk hz hx hi hm
 rw [hv] at h
 exact h
def zS (N : Nat) (v Z : Int → Int) (k : Int) : Int := if k = 0 then 1 else v (Z (N - k)) + 1
def zT (N : Nat) (v Z : Int → Int) (k : Int) : Int := if k < N then v (Z (N - k - 1)) else 1000000
def zonesL (N n : Nat) (v Z : Int → Int) : Zns := ⟨N + 1, zS N v Z, zT N v Z, fun k => N - k, fun _ => n⟩
section
variable {N n : Nat} {v Z : Int → Int}
theorem zS_rise (h : Bds N v Z) : Rise (N + 1) (zS N v Z) := ⟨fun a b a0 ab b1 => by
 unfold zS
 rw [if_neg (show ¬ b = 0 by omega)]
 have hb := h.rng (N - b) (by omega) (by omega)
 have hb1 := h.p1 _ hb.1 hb.2
 by_cases c : a = 0
 ·rw [if_pos c]; omega
 ·rw [if_neg c]
  have := h.dn (N - b) (N - a) (by omega) (by omega) (by omega)
  omega⟩
def chX (N : Nat) (v : Int → Int) (j : Int) : Int := if j = 0 then 1 else if j - 1 < N then v (j - 1) + 1 else 1
theorem zS_same (h : Bds N v Z) (x : Int) : (∃ j : Int, (0 ≤ j ∧ j < ((N + 1 : Nat) : Int)) ∧ zS N v Z j = x) ↔ ∃ j : Int, (0 ≤ j ∧ j < ((N + 2 : Nat) : Int)) ∧ chX N v j = x := by
 constructor
 ·rintro ⟨j, hj, e⟩
  unfold zS at e
  by_cases c : j = 0
  ·rw [if_pos c] at e
   exact ⟨0, by omega, by unfold chX; rw [if_pos rfl]; exact e⟩
  ·rw [if_neg c] at e
   have hr := h.rng (N - j) (by omega) (by omega)
   exact ⟨Z (N - j) + 1, by omega, by unfold chX; rw [if_neg (by omega), if_pos (by omega), show Z (N - j) + 1 - 1 = Z (N - j) by omega]; exact e⟩
 ·rintro ⟨j, hj, e⟩
  unfold chX at e
  by_cases c : j = 0
  ·rw [if_pos c] at e
   exact ⟨0, by omega, by unfold zS; rw [if_pos rfl]; exact e⟩
  ·rw [if_neg c] at e
   by_cases d : j - 1 < N
   ·rw [if_pos d] at e
    obtain ⟨q, hq, eq⟩ := h.ex (j - 1) (by omega) d
    exact ⟨N - q, by omega, by unfold zS; rw [if_neg (by omega), show (N : Int) - (N - q) = q by omega, eq]; exact e⟩
   ·rw [if_neg d] at e
    exact ⟨0, by omega, by unfold zS; rw [if_pos rfl]; exact e⟩
theorem dnF_zero (h : Bds N v Z) : dnF v N 1 = 0 := by
 unfold dnF
 rw [sm_congr (g := fun _ => 0) fun j j0 j1 => if_neg (by have := h.p1 j j0 j1; omega), sm_const 0 (by omega)]
 omega
theorem dnF_one (h : Bds N v Z) {k : Int} (k0 : 1 ≤ k) (k1 : k ≤ N) : dnF v N (zS N v Z k) = 1 := by
 unfold dnF zS
 rw [if_neg (by omega)]
 have hr := h.rng (N - k) (by omega) (by omega)
 rw [sm_one1 (f := fun j => if v j + 1 = v (Z (N - k)) + 1 then (1 : Int) else 0) hr.1 hr.2 fun j j0 j1 hne => if_neg fun e => ?_, if_pos rfl]
 obtain ⟨q, hq, eq⟩ := h.ex j j0 j1
 have := h.inj hq.1 hq.2 (show (0 : Int) ≤ N - k by omega) (by omega) (by rw [eq]; omega)
 rw [this] at eq
 exact hne eq.symm
theorem dnF_rng (v : Int → Int) {k : Int} (k0 : 0 ≤ k) (x : Int) : 0 ≤ dnF v k x ∧ dnF v k x ≤ k := by
 refine ⟨sm_nonneg fun j _ _ => by split <;> omega, ?_⟩
 have := sm_bound (f := fun j => if v j + 1 = x then (1 : Int) else 0) 1 k0 fun j _ _ => by split <;> omega
 unfold dnF
 omega
end
end Go.Proofs.YtbcjfjldmfljgaaGreat
