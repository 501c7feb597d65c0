import Derived.Test.YtbepolognfdkeaaGaS
set_option maxRecDepth 100000
namespace Go.Proofs.Ytbepolognfdkeaa
noncomputable def wt7 (l : Lds) (S : Int → Prop) (out : Int → Int) : Int := sm (fun i => ind (S i ∧ out i = -1)) l.n
section
variable {l : Lds} {S : Int → Prop} {out : Int → Int}
theorem wt7_rng : 0 ≤ wt7 l S out ∧ wt7 l S out ≤ l.n := ⟨sm_nonneg fun _ _ _ => (ind_rng _).1, by
 have := sm_bound (f := fun i => ind (S i ∧ out i = -1)) (k := l.n) 1 (by omega) fun _ _ _ => (ind_rng _).2
 unfold wt7; omega⟩
theorem wt7_none (h : wt7 l S out ≤ 0) : ∀ i : Int, 0 ≤ i → i < l.n → S i → out i ≠ -1 := fun i i0 i1 hS e => by
 have := sm_pos (f := fun i => ind (S i ∧ out i = -1)) (k := l.n) (fun _ _ _ => (ind_rng _).1) i i0 i1
 have h2 : ind (S i ∧ out i = -1) = 1 := ind_t ⟨hS, e⟩
 unfold wt7 at h
 omega
theorem wt7_some (h : 0 < wt7 l S out) : ∃ i : Int, (0 ≤ i ∧ i < l.n) ∧ S i ∧ out i = -1 := Classical.byContradiction fun hn => by
 have : wt7 l S out = 0 := sm_zeroG fun i i0 i1 => ind_f fun e => hn ⟨i, ⟨i0, i1⟩, e.1, e.2⟩
 omega
theorem wt7_upd {b t : Int} (b0 : 0 ≤ b) (b1 : b < l.n) (hS : S b) (hb : out b = -1) (ht : t ≠ -1) : wt7 l S (upd out b t) = wt7 l S out - 1 := by
 unfold wt7
 have e : (fun j => ind (S j ∧ upd out b t j = -1)) = upd (fun j => ind (S j ∧ out j = -1)) b 0 := by
  funext j
  by_cases c : j = b
  ·rw [c, upd_same, upd_same, ind_f fun q => ht q.2]
  ·rw [upd_ne _ _ c, upd_ne _ _ c]
 rw [e, sm_upd _ b 0 b0 b1, ind_t ⟨hS, hb⟩]; omega
theorem wt7_all : wt7 l (fun _ => True) (fun _ => -1) = l.n := by
 unfold wt7
 rw [sm_congr (g := fun _ => 1) fun i _ _ => ind_t ⟨trivial, rfl⟩, sm_const _ (by omega)]; omega
theorem Ed.neg {k t : Int} (h : Ed l k S t out) (hV : l.Valid) {i : Int} (i0 : 0 ≤ i) (i1 : i < l.n) (hS : S i) : out i = -1 ∨ 0 ≤ out i := (h.rng i i0 i1 hS).imp id fun a => by have := (hV i i0 i1).1; omega
theorem EdI.neg {k t m : Int} (h : EdI l k S t m out) (hV : l.Valid) {i : Int} (i0 : 0 ≤ i) (i1 : i < l.n) (hS : S i) : out i = -1 ∨ 0 ≤ out i := (h.rng i i0 i1 hS).imp id fun a => by have := (hV i i0 i1).1; omega
end
noncomputable instance (l : Lds) (k : Int) (S : Int → Prop) : Decidable (CanM l k S) := Classical.propDecidable _
end Go.Proofs.Ytbepolognfdkeaa
