import Derived.Test.YtlldeifbfpmbaaaFnG
set_option maxRecDepth 100000
namespace Go.Proofs.Ytlldeifbfpmbaaa
open Go.RowKit Go.Proofs
theorem core_noCoal {n : Nat} {L : Int → Nat} {E : Int → Int → Int} {o t : Int → Int} (hC : (wishOf n L E).Cert o t) {I : Int → Prop} (hI : ∀ x : Int, I x → 0 ≤ x ∧ x < n) : ¬ Coal (lik5 L E) o I := by
 classical
 rintro ⟨w, hw, σ, h1, h2⟩
 have hkey : ∀ x : Int, I x → t (σ x) ≤ t x ∧ ((wishOf n L E).rk x (σ x) < (wishOf n L E).rk x (o x) → t (σ x) < t x) := fun x hx => by
  obtain ⟨x0, x1⟩ := hI x hx
  have hon := hC.on x x0 x1
  have hst : (wishOf n L E).rk x (σ x) < (wishOf n L E).rk x (o x) → t (σ x) < t x := fun hlt => by
   have hr := rk_rng ((wishOf n L E).e x) (σ x) ((wishOf n L E).l x)
   have hb := hC.best x ((wishOf n L E).rk x (σ x)) x0 x1 hr.1 hlt
   rw [show (wishOf n L E).e x ((wishOf n L E).rk x (σ x)) = σ x from rk_at (by unfold Wish.rk at hlt hon; omega)] at hb
   exact hb
  refine ⟨?_, hst⟩
  rcases (h1 x hx).2.2 with h | h
  ·exact Int.le_of_lt (hst (lik_lt.1 h))
  ·have he := (lik_eq (n := n)).1 h.2
   have q1 : (wishOf n L E).e x ((wishOf n L E).rk x (o x)) = o x := rk_at hon
   have q2 : (wishOf n L E).e x ((wishOf n L E).rk x (σ x)) = σ x := rk_at (by unfold Wish.rk at he hon; omega)
   have q3 : σ x = o x := by rw [← q1, ← q2, he]
   rw [q3, hC.lev x x0 x1]
   exact Int.le_refl _
 obtain ⟨τ, hτ⟩ : ∃ τ : Int → Int, τ = fun x => if I x then σ x else x := ⟨_, rfl⟩
 have hin : ∀ x, I x → τ x = σ x := fun x hx => by rw [hτ]; exact if_pos hx
 have hout : ∀ x, ¬ I x → τ x = x := fun x hx => by rw [hτ]; exact if_neg hx
 have hrng : ∀ i : Int, 0 ≤ i → i < n → 0 ≤ τ i ∧ τ i < n := fun i i0 i1 => by
  by_cases c : I i
  ·rw [hin i c]; exact hI _ (h1 i c).2.1
  ·rw [hout i c]; exact ⟨i0, i1⟩
 have hinj : ∀ i j : Int, 0 ≤ i → i < n → 0 ≤ j → j < n → τ i = τ j → i = j := fun i j i0 i1 j0 j1 e => by
  by_cases c : I i <;> by_cases d : I j
  ·rw [hin i c, hin j d] at e; exact h2 i j c d e
  ·rw [hin i c, hout j d] at e; exact absurd (e ▸ (h1 i c).2.1) d
  ·rw [hout i c, hin j d] at e; exact absurd (e.symm ▸ (h1 j d).2.1) c
  ·rw [hout i c, hout j d] at e; exact e
 have hs := sm_perm (n := n) (by omega) hrng hinj t
 have hle : ∀ i : Int, 0 ≤ i → i < n → t (τ i) ≤ t i := fun i i0 i1 => by
  by_cases c : I i
  ·rw [hin i c]; exact (hkey i c).1
  ·rw [hout i c]; exact Int.le_refl _
 have hwr := hI w hw
 have he := sm_eq (f := fun i => t (τ i)) (g := t) hle (by rw [hs]; exact Int.le_refl _) hwr.1 hwr.2
 have h3 : t (τ w) = t w := he
 rw [hin w hw] at h3
 have h4 := (hkey w hw).2 (by
  rcases (h1 w hw).2.2 with h | h
  ·exact lik_lt.1 h
  ·exact absurd rfl h.1)
 omega
theorem core_isL {n : Nat} {L : Int → Nat} {E : Int → Int → Int} {o t : Int → Int} (hC : (wishOf n L E).Cert o t) : IsL n o n := ⟨fun i i0 i1 => hC.rng i i0 i1, fun a b a0 a1 b0 b1 e => hC.inj a b a0 a1 b0 b1 e⟩
theorem core_own {n : Nat} {L : Int → Nat} {E : Int → Int → Int} {o t : Int → Int} (hC : (wishOf n L E).Cert o t) {i : Int} (i0 : 0 ≤ i) (i1 : i < n) : lik5 L E i (o i) ≤ lik5 L E i i := by
 refine Int.not_lt.1 fun h => ?_
 have h1 := (lik_lt (n := n)).1 h
 have h2 := hC.on i i0 i1
 have h3 := wrk_lik n L E i i
 have ha := rk_rng (E i) i (L i)
 have h4 : lik5 L E i i = rk (E i) (L i) i := if_pos rfl
 have hl : (wishOf n L E).l i = (rk (E i) (L i) i).toNat + 1 := rfl
 omega
end Go.Proofs.Ytlldeifbfpmbaaa
