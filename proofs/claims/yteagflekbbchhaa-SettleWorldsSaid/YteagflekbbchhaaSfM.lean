import Derived.Test.YteagflekbbchhaaSfL
set_option maxRecDepth 100000
namespace Go.Proofs.Yteagflekbbchhaa
open Go.RowKit Go.Proofs
theorem sm_one {f g : Int → Int} {j : Int} {k : Int} (h0 : 0 ≤ j) (h1 : j < k) (h : ∀ i, i ≠ j → f i = g i) : sm g k = sm f k + (g j - f j) := by
 have key : ∀ n : Nat, ((n : Int) ≤ j → sm g n = sm f n) ∧ (j < n → sm g n = sm f n + (g j - f j)) := by
  intro n
  induction n with
  | zero => exact ⟨fun _ => rfl, fun hh => by omega⟩
  | succ n ih =>
   have e : ((n + 1 : Nat) : Int) = (n : Int) + 1 := by omega
   rw [e, sm_succ f (by omega), sm_succ g (by omega)]
   refine ⟨fun hh => ?_, fun hh => ?_⟩
   ·rw [ih.1 (by omega), h n (by omega)]
   ·by_cases q : (n : Int) = j
    ·rw [ih.1 (by omega), q]; omega
    ·rw [ih.2 (by omega), h n q]; omega
 have := (key k.toNat).2 (by omega)
 rwa [Int.toNat_of_nonneg (by omega)] at this
def okRec (X : MW) (n : Int) (a : List Rc) (r : Rc) : Prop :=
 (r.1 = 1 → ((1, r.2) ∉ a ∧ (2, r.2) ∉ a ∧ (3, r.2) ∉ a) ∧ X.amount n r.2 ≤ (X.accs n a).1 (X.payer n r.2) - (X.accs n a).2 (X.payer n r.2)) ∧
 (r.1 = 2 ∨ r.1 = 3 → (1, r.2) ∈ a ∧ (2, r.2) ∉ a ∧ (3, r.2) ∉ a)
inductive LOk (X : MW) (n : Int) : List Rc → Prop
 | nil : LOk X n []
 | snoc {a : List Rc} {r : Rc} : LOk X n a → okRec X n a r → LOk X n (a ++ [r])
def dlt (X : MW) (n : Int) (l : List Rc) (d i : Int) : Int := if (2, d) ∈ l then (if i = X.payee n d then X.amount n d else 0) - (if i = X.payer n d then X.amount n d else 0) else 0
def hld (X : MW) (n : Int) (l : List Rc) (d i : Int) : Int := if (1, d) ∈ l ∧ (2, d) ∉ l ∧ (3, d) ∉ l ∧ i = X.payer n d then X.amount n d else 0
theorem accs_form {X : MW} {n : Int} (hG : Good X) {l : List Rc} (h : LOk X n l) (hl : ∀ r ∈ l, (1 ≤ r.2 ∧ r.2 ≤ X.deals.length) ∧ 1 ≤ r.1 ∧ r.1 ≤ 3) : ∀ i, (X.accs n l).1 i = (X.fst n).getD i.toNat 0 + sm (fun j => dlt X n l (j + 1) i) X.deals.length ∧ (X.accs n l).2 i = sm (fun j => hld X n l (j + 1) i) X.deals.length := by
 induction h with
 | nil =>
  intro i
  have z : ∀ k : Int, 0 ≤ k → sm (fun _ => (0 : Int)) k = 0 := fun k hk => by rw [sm_const 0 hk]; simp
  have e1 : (fun j : Int => dlt X n [] (j + 1) i) = fun _ => 0 := by funext j; unfold dlt; rw [if_neg (by simp)]
  have e2 : (fun j : Int => hld X n [] (j + 1) i) = fun _ => 0 := by funext j; unfold hld; rw [if_neg (by simp)]
  rw [e1, e2, z _ (by omega)]
  exact ⟨(Int.add_zero _).symm, rfl⟩
 | @snoc a r h hr ih =>
  intro i
  have ih := ih (fun x hx => hl x (List.mem_append_left _ hx)) 
  have hrr := hl r (List.mem_append_right _ (List.mem_singleton.2 rfl))
  have hpy := hG.pays (n := n) hrr.1
  obtain ⟨k, d⟩ := r
  dsimp only at hrr hpy
  rw [accs_snoc]
  have nin : ∀ {q e : Int}, (q, e) ∈ a ++ [(k, d)] ↔ (q, e) ∈ a ∨ (q = k ∧ e = d) := fun {q e} => by simp
  have e1 : sm (fun j => dlt X n (a ++ [(k, d)]) (j + 1) i) X.deals.length = sm (fun j => dlt X n a (j + 1) i) X.deals.length + (dlt X n (a ++ [(k, d)]) d i - dlt X n a d i) := by
   have := sm_one (f := fun j => dlt X n a (j + 1) i) (g := fun j => dlt X n (a ++ [(k, d)]) (j + 1) i) (j := d - 1) (k := X.deals.length) (by omega) (by omega) (fun j hj => by
    have : ¬ (j + 1 = d) := by omega
    unfold dlt
    simp only [nin, this, and_false, or_false])
   rw [this]
   simp only [Int.sub_add_cancel]
  have e2 : sm (fun j => hld X n (a ++ [(k, d)]) (j + 1) i) X.deals.length = sm (fun j => hld X n a (j + 1) i) X.deals.length + (hld X n (a ++ [(k, d)]) d i - hld X n a d i) := by
   have := sm_one (f := fun j => hld X n a (j + 1) i) (g := fun j => hld X n (a ++ [(k, d)]) (j + 1) i) (j := d - 1) (k := X.deals.length) (by omega) (by omega) (fun j hj => by
    have : ¬ (j + 1 = d) := by omega
    unfold hld
    simp only [nin, this, and_false, or_false])
   rw [this]
   simp only [Int.sub_add_cancel]
  rw [e1, e2]
  have ihi := ih i
  have hk : k = 1 ∨ k = 2 ∨ k = 3 := by omega
  have u : ∀ (g : Int → Int) (p v x : Int), upd g p v x = if x = p then v else g x := fun _ _ _ _ => rfl
  unfold okRec at hr
  dsimp only at hr
  rcases hk with rfl | rfl | rfl
  ·obtain ⟨⟨h1, h2, h3⟩, _⟩ := hr.1 rfl
   unfold MW.acc1
   dsimp only
   rw [if_pos rfl]
   have d1 : dlt X n (a ++ [(1, d)]) d i = dlt X n a d i := by unfold dlt; simp only [nin]; simp [h2]
   have d2 : hld X n (a ++ [(1, d)]) d i = if i = X.payer n d then X.amount n d else 0 := by unfold hld; simp only [nin]; simp [h2, h3]
   have d3 : hld X n a d i = 0 := by unfold hld; simp [h1]
   rw [d1, d2, d3]
   dsimp only
   rw [u]
   have ihp := ih (X.payer n d)
   split
   ·next q => subst q; omega
   ·omega
  ·obtain ⟨h1, h2, h3⟩ := hr.2 (.inl rfl)
   unfold MW.acc1
   dsimp only
   rw [if_neg (by decide), if_pos rfl]
   have d1 : dlt X n (a ++ [(2, d)]) d i = (if i = X.payee n d then X.amount n d else 0) - (if i = X.payer n d then X.amount n d else 0) := by unfold dlt; simp only [nin]; simp
   have d0 : dlt X n a d i = 0 := by unfold dlt; simp [h2]
   have d2 : hld X n (a ++ [(2, d)]) d i = 0 := by unfold hld; simp only [nin]; simp
   have d3 : hld X n a d i = if i = X.payer n d then X.amount n d else 0 := by unfold hld; simp [h1, h2, h3]
   rw [d0, d1, d2, d3]
   have hne := hpy.2.2.1
   simp only [u]
   refine ⟨?_, ?_⟩
   ·by_cases q1 : i = X.payee n d
    ·have q2 : ¬ X.payee n d = X.payer n d := fun e => hne e.symm
     subst q1
     rw [if_pos rfl, if_neg q2, if_pos rfl, if_neg q2]
     omega
    ·rw [if_neg q1, if_neg q1]
     split
     ·next q => subst q; omega
     ·omega
   ·split
    ·next q => subst q; omega
    ·omega
  ·obtain ⟨h1, h2, h3⟩ := hr.2 (.inr rfl)
   unfold MW.acc1
   dsimp only
   rw [if_neg (by decide), if_neg (by decide), if_pos rfl]
   have d1 : dlt X n (a ++ [(3, d)]) d i = dlt X n a d i := by unfold dlt; simp only [nin]; simp [h2]
   have d2 : hld X n (a ++ [(3, d)]) d i = 0 := by unfold hld; simp only [nin]; simp
   have d3 : hld X n a d i = if i = X.payer n d then X.amount n d else 0 := by unfold hld; simp [h1, h2, h3]
   rw [d1, d2, d3]
   dsimp only
   rw [u]
   split
   ·next q => subst q; omega
   ·omega
def LInv (X : MW) : Prop := ∀ n, n = 1 ∨ n = 2 → LOk X n (X.lg n).recs
theorem LInv.init (mem pat : Int) (f1 f2 : List Int) : LInv (MW.init mem pat f1 f2) := fun n _ => by
 have hz : (MW.init mem pat f1 f2).lg n = Lg.z := by unfold MW.lg; split; rfl; split <;> rfl
 rw [hz]; exact LOk.nil
theorem srec {X : MW} (hG : Good X) {n : Int} (hn : n = 1 ∨ n = 2) : ∀ r ∈ (X.lg n).recs, (1 ≤ r.2 ∧ r.2 ≤ X.deals.length) ∧ 1 ≤ r.1 ∧ r.1 ≤ 3 := fun r hr => by
 have := hG.rc n (N3.s hn) r hr
 exact ⟨this.1, by omega⟩
end Go.Proofs.Yteagflekbbchhaa
