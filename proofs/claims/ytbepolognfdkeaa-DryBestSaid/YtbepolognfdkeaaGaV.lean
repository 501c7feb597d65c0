import Derived.Test.YtbepolognfdkeaaGaU
set_option maxRecDepth 100000
namespace Go.Proofs.Ytbepolognfdkeaa
def grd (l : Lds) (k : Int) (Z : Int → Int) : Nat → Int → Prop
 | 0 => fun _ => False
 | p + 1 => fun i => grd l k Z p i ∨ (i = Z p ∧ CanM l k fun j => grd l k Z p j ∨ j = Z p)
def SrtW (l : Lds) (Z : Int → Int) : Prop := SrtS (fun i => -(l.wo i)) (fun i => i) l.n Z l.n
section
variable {l : Lds} {k : Int} {Z : Int → Int}
theorem SrtW.rng (h : SrtW l Z) {p : Int} (p0 : 0 ≤ p) (p1 : p < l.n) : 0 ≤ Z p ∧ Z p < l.n := by
 obtain ⟨a, ha, e⟩ := (h.same (Z p)).1 ⟨p, ⟨p0, p1⟩, rfl⟩
 have e' : a = Z p := e
 omega
theorem SrtW.ex (h : SrtW l Z) {i : Int} (i0 : 0 ≤ i) (i1 : i < l.n) : ∃ p : Int, (0 ≤ p ∧ p < l.n) ∧ Z p = i := (h.same i).2 ⟨i, ⟨i0, i1⟩, rfl⟩
theorem SrtW.ne (h : SrtW l Z) (a b : Int) (a0 : 0 ≤ a) (ab : a < b) (b1 : b < l.n) : Z a ≠ Z b := fun e => by
 have := h.srt a b a0 ab b1
 rw [e] at this
 exact lex_irr this
theorem grd_mono : ∀ {q p : Nat} {i : Int}, p ≤ q → grd l k Z p i → grd l k Z q i
 | 0, p, i, h, hg => by
  obtain rfl : p = 0 := by omega
  exact hg
 | q + 1, p, i, h, hg => by
  by_cases c : p = q + 1
  ·rw [c] at hg; exact hg
  ·exact .inl (grd_mono (by omega) hg)
theorem grd_in : ∀ {p : Nat} {i : Int}, grd l k Z p i → ∃ q : Int, (0 ≤ q ∧ q < p) ∧ Z q = i
 | 0, i, h => h.elim
 | p + 1, i, h => by
  rcases h with h | h
  ·obtain ⟨q, hq, e⟩ := grd_in h
   exact ⟨q, by omega, e⟩
  ·exact ⟨p, by omega, h.1.symm⟩
theorem grd_can (hk : 0 ≤ k) : ∀ p : Nat, CanM l k (grd l k Z p)
 | 0 => ⟨fun _ => 0, fun _ _ _ h => h.elim, fun t => by rw [show cntE l (grd l k Z 0) (fun _ => 0) t = 0 from sm_zeroG fun i _ _ => ind_f fun e => e.1]; exact hk⟩
 | p + 1 => by
  by_cases c : CanM l k fun j => grd l k Z p j ∨ j = Z p
  ·exact c.sub fun i _ _ h => h.imp id fun a => a.1
  ·exact (grd_can hk p).sub fun i _ _ h => h.elim id fun a => absurd a.2 c
theorem grd_back (h : SrtW l Z) : ∀ {n p : Nat}, n ≤ l.n → p ≤ n → ∀ {q : Int}, 0 ≤ q → q < p → grd l k Z n (Z q) → grd l k Z p (Z q)
 | 0, p, _, hp, q, q0, q1, hg => by omega
 | n + 1, p, hn, hp, q, q0, q1, hg => by
  by_cases c : p = n + 1
  ·rw [c]; exact hg
  ·rcases hg with hg | hg
   ·exact grd_back h (by omega) (by omega) q0 q1 hg
   ·exact absurd hg.1 (h.ne q n q0 (by omega) (by omega))
theorem grd_max (hV : l.Valid) (hk : 0 ≤ k) (h : SrtW l Z) {p : Nat} (hp : p ≤ l.n) {F : Int → Prop} (hF : CanM l k F) (hin : ∀ i : Int, 0 ≤ i → i < l.n → F i → ∃ q : Int, (0 ≤ q ∧ q < p) ∧ Z q = i) : sm (fun i => ind (F i)) l.n ≤ sm (fun i => ind (grd l k Z p i)) l.n := by
 refine canM_max hk (grd_can hk p) hF (fun i i0 i1 => ⟨(hV i i0 i1).1, (hV i i0 i1).2.2.1⟩) fun i i0 i1 hFi => ?_
 obtain ⟨q, hq, e⟩ := hin i i0 i1 hFi
 obtain ⟨a, rfl⟩ := Int.eq_ofNat_of_zero_le hq.1
 by_cases c : CanM l k fun j => grd l k Z a j ∨ j = Z a
 ·exact .inl (grd_mono (show a + 1 ≤ p by omega) (.inr ⟨e.symm, c⟩))
 ·refine .inr ?_
  obtain ⟨u, v, huv, hb⟩ := (can_or_viol hV hk fun j => grd l k Z a j ∨ j = Z a).resolve_left c
  have h1 := ins7_le (grd_can (l := l) (Z := Z) hk a) huv
  have h2 : ins7 l (fun j => grd l k Z a j ∨ j = Z a) u v ≤ ins7 l (grd l k Z a) u v + ind (u ≤ l.r i ∧ l.d i ≤ v) := by
   have e9 : sm (fun j => ind (grd l k Z a j ∧ u ≤ l.r j ∧ l.d j ≤ v) + ind (j = i ∧ u ≤ l.r i ∧ l.d i ≤ v)) l.n = ins7 l (grd l k Z a) u v + ind (u ≤ l.r i ∧ l.d i ≤ v) := by
    rw [sm_add, sm_one1 (f := fun j => ind (j = i ∧ u ≤ l.r i ∧ l.d i ≤ v)) i0 i1 fun j _ _ hne => ind_f fun q => hne q.1]
    rw [ind_congr (p := i = i ∧ u ≤ l.r i ∧ l.d i ≤ v) (q := u ≤ l.r i ∧ l.d i ≤ v) ⟨And.right, fun q => ⟨rfl, q⟩⟩]; rfl
   rw [← e9]
   refine sm_le fun j _ _ => ?_
   have r1 := ind_rng (grd l k Z a j ∧ u ≤ l.r j ∧ l.d j ≤ v)
   have r2 := ind_rng (j = i ∧ u ≤ l.r i ∧ l.d i ≤ v)
   by_cases q : (grd l k Z a j ∨ j = Z a) ∧ u ≤ l.r j ∧ l.d j ≤ v
   ·rw [ind_t q]
    rcases q.1 with x | x
    ·rw [ind_t ⟨x, q.2⟩]; omega
    ·have x2 : j = i := x.trans e
     rw [ind_t (p := j = i ∧ u ≤ l.r i ∧ l.d i ≤ v) ⟨x2, by rw [← x2]; exact q.2⟩]; omega
   ·rw [ind_f q]; omega
  have h3 : u ≤ l.r i ∧ l.d i ≤ v := Classical.byContradiction fun hn => by rw [ind_f hn] at h2; omega
  rw [ind_t h3] at h2
  have h4 : ins7 l (grd l k Z a) u v ≤ ins7 l (grd l k Z p) u v := sm_le fun j _ _ => by
   by_cases q : grd l k Z a j ∧ u ≤ l.r j ∧ l.d j ≤ v
   ·rw [ind_t q, ind_t ⟨grd_mono (show a ≤ p by omega) q.1, q.2⟩]; exact Int.le_refl _
   ·rw [ind_f q]; exact (ind_rng _).1
  exact ⟨u, v, huv, h3, by omega⟩
theorem sm_ord (h : SrtW l Z) (f : Int → Int) : sm (fun p => f (Z p)) l.n = sm f l.n := by
 rw [sm_img (I := Z) (n := l.n) f l.n (fun p p0 p1 => h.rng p0 p1) fun a b a0 ab b1 => h.ne a b a0 ab b1]
 exact sm_congr fun i i0 i1 => by rw [ind_t (h.ex i0 i1), Int.one_mul]
theorem abel {w c : Int → Int} (n : Nat) (hw : ∀ p : Int, 0 ≤ p → p + 1 < n → w (p + 1) ≤ w p) (hw0 : ∀ p : Int, 0 ≤ p → p < n → 0 ≤ w p) (hc : ∀ p : Nat, p ≤ n → sm c p ≤ 0) : sm (fun p => w p * c p) n ≤ 0 := by
 have key : ∀ p : Nat, p + 1 ≤ n → sm (fun p => w p * c p) ((p + 1 : Nat) : Int) ≤ w p * sm c ((p + 1 : Nat) : Int) := by
  intro p
  induction p with
  | zero => intro _; rw [show ((0 + 1 : Nat) : Int) = 0 + 1 by omega, sm_succ _ (Int.le_refl 0), sm_succ _ (Int.le_refl 0), sm_zero, sm_zero, Int.zero_add, Int.zero_add]; exact Int.le_refl _
  | succ p ih =>
   intro hp
   have i1 := ih (by omega)
   have h1 := hw p (by omega) (by omega)
   have h2 := hc (p + 1) (by omega)
   rw [show ((p + 1 + 1 : Nat) : Int) = ((p + 1 : Nat) : Int) + 1 by omega, sm_succ _ (by omega), sm_succ _ (by omega), Int.mul_add]
   have e : (((p + 1 : Nat) : Int)) = (p : Int) + 1 := by omega
   have h3 : w p * sm c ((p + 1 : Nat) : Int) ≤ w ((p + 1 : Nat) : Int) * sm c ((p + 1 : Nat) : Int) := by
    rw [e] at h2 ⊢
    exact Int.mul_le_mul_of_nonpos_right h1 h2
   omega
 match n, hw, hw0, hc, key with
 | 0, _, _, _, _ => exact Int.le_refl _
 | m + 1, hw, hw0, hc, key =>
  have a := key m (Nat.le_refl _)
  have b := hc (m + 1) (Nat.le_refl _)
  have c0 := hw0 m (by omega) (by omega)
  have := Int.mul_nonpos_of_nonneg_of_nonpos c0 b
  omega
theorem grd_best (hV : l.Valid) (hk : 0 ≤ k) (h : SrtW l Z) {F : Int → Prop} (hF : CanM l k F) : sm (fun i => ind (F i) * l.wo i) l.n ≤ sm (fun i => ind (grd l k Z l.n i) * l.wo i) l.n := by
 have hc : ∀ p : Nat, p ≤ l.n → sm (fun q => ind (F (Z q)) - ind (grd l k Z l.n (Z q))) p ≤ 0 := fun p hp => by
  have m1 := grd_max hV hk h hp (F := fun i => F i ∧ ∃ q : Int, (0 ≤ q ∧ q < p) ∧ Z q = i) (hF.sub fun i _ _ a => a.1) fun i _ _ a => a.2
  have img : ∀ f : Int → Int, sm (fun q => f (Z q)) p = sm (fun i => ind (∃ q : Int, (0 ≤ q ∧ q < (p : Int)) ∧ Z q = i) * f i) l.n := fun f => sm_img (I := Z) (n := l.n) f p (fun q q0 q1 => h.rng q0 (by omega)) fun a b a0 ab b1 => h.ne a b a0 ab (by omega)
  have e1 := img fun i => ind (F i)
  have e2 := img fun i => ind (grd l k Z l.n i)
  rw [sm_sub, e1, e2]
  have e3 : sm (fun i => ind (∃ q : Int, (0 ≤ q ∧ q < (p : Int)) ∧ Z q = i) * ind (F i)) l.n = sm (fun i => ind (F i ∧ ∃ q : Int, (0 ≤ q ∧ q < (p : Int)) ∧ Z q = i)) l.n := sm_congr fun i _ _ => by rw [Int.mul_comm]; exact ind_and.symm
  have e4 : sm (fun i => ind (∃ q : Int, (0 ≤ q ∧ q < (p : Int)) ∧ Z q = i) * ind (grd l k Z l.n i)) l.n = sm (fun i => ind (grd l k Z p i)) l.n := sm_congr fun i _ _ => by
   rw [← ind_and]
   exact ind_congr ⟨fun ⟨⟨q, hq, e⟩, hg⟩ => by rw [← e] at hg ⊢; exact grd_back h (Nat.le_refl _) hp hq.1 hq.2 hg, fun hg => ⟨grd_in hg, grd_mono hp hg⟩⟩
  rw [e3, e4]
  omega
 have a := abel (w := fun p => l.wo (Z p)) (c := fun q => ind (F (Z q)) - ind (grd l k Z l.n (Z q))) l.n (fun p p0 p1 => by
  have h9 : -(l.wo (Z p)) < -(l.wo (Z (p + 1))) ∨ (-(l.wo (Z p)) = -(l.wo (Z (p + 1))) ∧ Z p < Z (p + 1)) := h.srt p (p + 1) p0 (by omega) p1
  show l.wo (Z (p + 1)) ≤ l.wo (Z p)
  omega) (fun p p0 p1 => by
  have hz := h.rng p0 p1
  have := hV (Z p) hz.1 hz.2
  unfold Lds.Val at this; omega) hc
 have o1 := sm_ord h fun i => ind (F i) * l.wo i
 have o2 := sm_ord h fun i => ind (grd l k Z l.n i) * l.wo i
 rw [← o1, ← o2]
 have e : sm (fun p => l.wo (Z p) * (ind (F (Z p)) - ind (grd l k Z l.n (Z p)))) l.n = sm (fun p => ind (F (Z p)) * l.wo (Z p)) l.n - sm (fun p => ind (grd l k Z l.n (Z p)) * l.wo (Z p)) l.n := by
  rw [← sm_sub]
  exact sm_congr fun p _ _ => by rw [Int.mul_sub, Int.mul_comm (l.wo (Z p)) (ind (F (Z p))), Int.mul_comm (l.wo (Z p)) (ind (grd l k Z l.n (Z p)))]
 rw [e] at a
 omega
end
end Go.Proofs.Ytbepolognfdkeaa
