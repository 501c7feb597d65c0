import Derived.Test.YtlldeifbfpmbaaaGreatFhA
import Derived.Test.YtlldeifbfpmbaaaGreatSum
set_option maxRecDepth 100000
namespace Go.Proofs.YtlldeifbfpmbaaaGreat
open Go.RowKit Go.Proofs
theorem val_split {M : Nat} {s : Int → Int} {q : Nat} : ∀ d : Nat, Dig M (q + d) s → val M s q * (M + 1) ^ d ≤ val M s (q + d) ∧ val M s (q + d) < (val M s q + 1) * (M + 1) ^ d
 | 0, _ => ⟨by rw [Nat.pow_zero, Nat.mul_one]; exact Nat.le_refl _, by rw [Nat.pow_zero, Nat.mul_one]; exact Nat.lt_succ_self _⟩
 | d + 1, h => by
  have ih := val_split (M := M) (s := s) (q := q) d fun i i0 i1 => h i i0 (by omega)
  have hd := h ((q + d : Nat) : Int) (by omega) (by omega)
  have e : val M s (q + (d + 1)) = val M s (q + d) * (M + 1) + (s ((q + d : Nat) : Int) + 1).toNat := rfl
  have hdig : (s ((q + d : Nat) : Int) + 1).toNat ≤ M := by omega
  rw [e, Nat.pow_succ, ← Nat.mul_assoc, ← Nat.mul_assoc]
  generalize (s ((q + d : Nat) : Int) + 1).toNat = x at hdig ⊢
  generalize val M s (q + d) = v at ih ⊢
  generalize val M s q * (M + 1) ^ d = a at ih ⊢
  generalize (val M s q + 1) * (M + 1) ^ d = b at ih ⊢
  refine ⟨Nat.le_trans (Nat.mul_le_mul_right _ ih.1) (Nat.le_add_right _ _), ?_⟩
  have h1 : (v + 1) * (M + 1) ≤ b * (M + 1) := Nat.mul_le_mul_right _ ih.2
  rw [Nat.add_mul] at h1
  omega
theorem val_between {M n q c c' : Nat} {l s : Int → Int} (hq : q < n) (hl : Dig M q l) (hs : Dig M n s) (hc : c' ≤ M + 1) (h1 : (val M l q * (M + 1) + c) * (M + 1) ^ (n - q - 1) ≤ val M s n) (h2 : val M s n < (val M l q * (M + 1) + c') * (M + 1) ^ (n - q - 1)) : (∀ i : Int, 0 ≤ i → i < q → l i = s i) ∧ (c : Int) ≤ s q + 1 ∧ s q + 1 < c' := by
 obtain ⟨d, hd⟩ : ∃ d, d = n - q - 1 := ⟨_, rfl⟩
 have hn : n = (q + 1) + d := by omega
 rw [← hd] at h1 h2
 have hsp := val_split (M := M) (s := s) (q := q + 1) d (by rw [← hn]; exact hs)
 rw [← hn] at hsp
 have hP : 0 < (M + 1) ^ d := Nat.pow_pos (by omega)
 have e : val M s (q + 1) = val M s q * (M + 1) + (s (q : Int) + 1).toNat := rfl
 have hdg := hs (q : Int) (by omega) (by omega)
 have a1 : val M l q * (M + 1) + c < val M s (q + 1) + 1 := Nat.lt_of_mul_lt_mul_right (Nat.lt_of_le_of_lt h1 hsp.2)
 have a2 : val M s (q + 1) < val M l q * (M + 1) + c' := Nat.lt_of_mul_lt_mul_right (Nat.lt_of_le_of_lt hsp.1 h2)
 rw [e] at a1 a2
 have hx : (s (q : Int) + 1).toNat ≤ M := by omega
 have hv : val M l q = val M s q := by
  rcases Nat.lt_trichotomy (val M l q) (val M s q) with h | h | h
  ·have := Nat.mul_le_mul_right (M + 1) (show val M l q + 1 ≤ val M s q from h)
   rw [Nat.add_mul] at this
   omega
  ·exact h
  ·have := Nat.mul_le_mul_right (M + 1) (show val M s q + 1 ≤ val M l q from h)
   rw [Nat.add_mul] at this
   omega
 rw [hv] at a1 a2
 exact ⟨val_inj hl (fun i i0 i1 => hs i i0 (by omega)) hv, by omega, by omega⟩
namespace Fair
theorem AllTo.jump {f : Fair} {N : Nat} {A : Nat → Int → Int} {V V' : Nat} (h : f.AllTo N A V) (hle : V ≤ V') (hno : ∀ s, f.Stab s → V ≤ val f.m s f.n → ¬ val f.m s f.n < V') : f.AllTo N A V' :=
 ⟨h.st, h.inc, fun j hj => Nat.lt_of_lt_of_le (h.lt j hj) hle, fun s hs hv => h.all s hs (Nat.lt_of_not_le fun hn => hno s hs hn hv), Nat.le_trans h.len hle⟩
theorem AllTo.digit {f : Fair} {N q c c' : Nat} {A : Nat → Int → Int} {l : Int → Int} (h : f.AllTo N A ((val f.m l q * (f.m + 1) + c) * (f.m + 1) ^ (f.n - q - 1))) (hq : q < f.n) (hl : Dig f.m q l) (hcc : c ≤ c') (hc : c' ≤ f.m + 1) (hno : ∀ s, f.Stab s → (∀ i : Int, 0 ≤ i → i < q → s i = l i) → (c : Int) ≤ s q + 1 → ¬ s q + 1 < c') : f.AllTo N A ((val f.m l q * (f.m + 1) + c') * (f.m + 1) ^ (f.n - q - 1)) :=
 h.jump (Nat.mul_le_mul_right _ (by omega)) fun s hs h1 h2 => by
  obtain ⟨e1, e2, e3⟩ := val_between hq hl hs.dig hc h1 h2
  exact hno s hs (fun i i0 i1 => (e1 i i0 i1).symm) e2 e3
theorem at_first {f : Fair} {q : Nat} {l : Int → Int} (hq : q < f.n) : val f.m l q * (f.m + 1) ^ (f.n - q) = (val f.m l q * (f.m + 1) + 0) * (f.m + 1) ^ (f.n - q - 1) := by
 obtain ⟨d, h1, h2⟩ : ∃ d, f.n - q = d + 1 ∧ f.n - q - 1 = d := ⟨f.n - q - 1, by omega, rfl⟩
 rw [h2, h1, Nat.add_zero (val f.m l q * (f.m + 1)), Nat.pow_succ, Nat.mul_comm ((f.m + 1) ^ d), ← Nat.mul_assoc]
theorem at_last {f : Fair} {q : Nat} {l : Int → Int} (hq : q < f.n) : (val f.m l q + 1) * (f.m + 1) ^ (f.n - q) = (val f.m l q * (f.m + 1) + (f.m + 1)) * (f.m + 1) ^ (f.n - q - 1) := by
 obtain ⟨d, h1, h2⟩ : ∃ d, f.n - q = d + 1 ∧ f.n - q - 1 = d := ⟨f.n - q - 1, by omega, rfl⟩
 rw [h2, h1, show val f.m l q * (f.m + 1) + (f.m + 1) = (val f.m l q + 1) * (f.m + 1) by rw [Nat.add_mul, Nat.one_mul], Nat.pow_succ, Nat.mul_comm ((f.m + 1) ^ d), ← Nat.mul_assoc]
theorem val_longer {f : Fair} {q : Nat} {l : Int → Int} {b : Int} : val f.m (upd l q b) (q + 1) = val f.m l q * (f.m + 1) + (b + 1).toNat := by
 show val f.m (upd l q b) q * (f.m + 1) + (upd l (q : Int) b (q : Int) + 1).toNat = _
 rw [upd_same, val_congr (l := upd l q b) (s := l) fun i i0 i1 => upd_ne _ _ (by omega)]
end Fair
end Go.Proofs.YtlldeifbfpmbaaaGreat
set_option maxRecDepth 100000
namespace Go.Proofs.YtlldeifbfpmbaaaGreat
open Go.RowKit Go.Proofs Go.MapKept
theorem IRow.pop {a : Option Addr} {n cap : Nat} {E : TypeId} {G : Int → Value} {c : Option Blk} (h : IRow (.slice a (n + 1) cap) E (n + 1) G c) : IRow (.slice a n cap) E n G c := by
 obtain ⟨b, G', rfl, h1, h2, rfl, h3⟩ := h.asV (by omega)
 exact IRow.ofV (by omega) h2 fun i i0 i1 => h3 i i0 (by omega)
theorem IAt.cellA {B : Nat} {w : World} {b n : Nat} {G : Int → Value} (h : IAt B w (some ⟨b, 0, none⟩) n G) {i : Int} (i0 : 0 ≤ i) (i1 : i < n) : w.cell? ⟨b, 0 + i.toNat, none⟩ = some (G i) := by
 obtain ⟨b', o', e, r⟩ := h.open
 cases e (by omega)
 exact r _ (Below.refl _ _) i i0 i1
abbrev Kp := Nat → (Nat → Int → Int) → List (Option Blk) → Prop
def YieldOk (l B : Nat) (w0 : World) (n most : Nat) (K : Kp) : Prop :=
 ∀ (N : Nat) (A : Nat → Int → Int) (KL T : List (Option Blk)) (w : World) (x : Value) (s : Int → Int) (c : Option Blk), K N A KL → N < most → IRow x 3 n (fun g => iv (s g)) c → Own B w0 w (c :: (KL ++ T)) →
  YieldAt (FW none) 0 Tryz.prog l #[x] w fun e w' => ∃ v, e = .returned v ∧ ∃ (A' : Nat → Int → Int) (KL' : List (Option Blk)), v = .bool (decide (N + 1 ≠ most)) ∧ K (N + 1) A' KL' ∧ (∀ j : Nat, j < N → A' j = A j) ∧ A' N = s ∧ Own B w0 w' (KL' ++ T)
def Found (f : Fair) (K : Kp) (most : Nat) (V1 : Nat) (b : Bool) (KL : List (Option Blk)) : Prop :=
 ∃ (N : Nat) (A : Nat → Int → Int), K N A KL ∧ (b = true → N < most ∧ f.AllTo N A V1) ∧ (b = false → N = most ∧ ∃ V, V ≤ V1 ∧ f.AllTo N A V)
theorem Found.more {f : Fair} {K : Kp} {most V1 V2 : Nat} {KL : List (Option Blk)} (h : Found f K most V1 false KL) (hle : V1 ≤ V2) : Found f K most V2 false KL := by
 obtain ⟨N, A, h1, _, h3⟩ := h
 obtain ⟨h4, V, h5, h6⟩ := h3 rfl
 exact ⟨N, A, h1, fun e => Bool.noConfusion e, fun _ => ⟨h4, V, Nat.le_trans h5 hle, h6⟩⟩
end Go.Proofs.YtlldeifbfpmbaaaGreat
