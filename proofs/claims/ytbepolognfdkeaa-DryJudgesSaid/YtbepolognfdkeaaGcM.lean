import Derived.Test.YtbepolognfdkeaaGbJ
import Derived.Test.YtbepolognfdkeaaGbM
set_option maxRecDepth 100000
namespace Go.Proofs.Ytbepolognfdkeaa
open Go.RowKit Go.Proofs Go.MapKept
def spn (T : List Trn) (r : Int) : List (Int × Int) := (T.filter fun t => decide (t.1 = r)).map (·.2)
theorem spn_same (T : List Trn) (t : Trn) : spn (T ++ [t]) t.1 = spn T t.1 ++ [t.2] := by
 unfold spn; rw [List.filter_append, List.map_append]; simp
theorem spn_ne (T : List Trn) (t : Trn) {r : Int} (h : r ≠ t.1) : spn (T ++ [t]) r = spn T r := by
 unfold spn; rw [List.filter_append, List.map_append]; simp; exact fun e => h e.symm
theorem spn_mem {T : List Trn} {r : Int} {a : Int × Int} (h : a ∈ spn T r) : (r, a) ∈ T := by
 unfold spn at h
 obtain ⟨t, ht, rfl⟩ := List.mem_map.1 h
 obtain ⟨h1, h2⟩ := List.mem_filter.1 ht
 have : t.1 = r := of_decide_eq_true h2
 rw [← this]; exact h1
theorem spn_len (T : List Trn) (r : Int) : (spn T r).length ≤ T.length := by
 unfold spn; rw [List.length_map]; exact List.length_filter_le _ _
def Apart (a b : Int × Int) : Prop := ¬ (b.1 ≤ a.1 ∧ a.1 < b.2) ∧ ¬ (a.1 ≤ b.1 ∧ b.1 < a.2)
def sumS : List (Int × Int) → Int
 | [] => 0
 | a :: A => (a.2 - a.1) + sumS A
theorem sumS_app : ∀ A B : List (Int × Int), sumS (A ++ B) = sumS A + sumS B
 | [], B => by show sumS B = 0 + sumS B; omega
 | a :: A, B => by show a.2 - a.1 + sumS (A ++ B) = a.2 - a.1 + sumS A + sumS B; rw [sumS_app A B]; omega
theorem sumS_perm {A B : List (Int × Int)} (h : A.Perm B) : sumS A = sumS B := by
 induction h with
 | nil => rfl
 | cons x _ ih => show _ + _ = _ + _; rw [ih]
 | swap x y l => show _ + (_ + _) = _ + (_ + _); omega
 | trans _ _ h1 h2 => rw [h1, h2]
theorem sumS_spn (r : Int) : ∀ T : List Trn, sumS (spn T r) = sL (fun t => ind (t.1 = r) * (t.2.2 - t.2.1)) T
 | [] => rfl
 | t :: T => by
  show _ = ind (t.1 = r) * (t.2.2 - t.2.1) + sL _ T
  rw [← sumS_spn r T]
  by_cases c : t.1 = r
  ·rw [ind_t c, Int.one_mul]
   have e : spn (t :: T) r = t.2 :: spn T r := by unfold spn; rw [List.filter_cons_of_pos (by simpa using c)]; rfl
   rw [e]; rfl
  ·rw [ind_f c, Int.zero_mul, Int.zero_add]
   have e : spn (t :: T) r = spn T r := by unfold spn; rw [List.filter_cons_of_neg (by simpa using c)]
   rw [e]
def qS (S : List (Int × Int)) (j : Int) : Int × Int := S.getD j.toNat (0, 0)
theorem qS_nat {S : List (Int × Int)} {j : Nat} (h : j < S.length) : qS S j = S[j] := by
 unfold qS
 rw [Int.toNat_natCast, List.getD_eq_getElem?_getD, List.getElem?_eq_getElem h]; rfl
theorem qS_mem {S : List (Int × Int)} {j : Int} (j0 : 0 ≤ j) (j1 : j < S.length) : qS S j ∈ S := by
 obtain ⟨a, rfl⟩ := Int.eq_ofNat_of_zero_le j0
 rw [qS_nat (by omega)]
 exact List.getElem_mem _
theorem sumS_take (S : List (Int × Int)) : ∀ k : Nat, k ≤ S.length → sm (fun j => (qS S j).2 - (qS S j).1) k = sumS (S.take k)
 | 0, _ => rfl
 | k + 1, h => by
  rw [show ((k + 1 : Nat) : Int) = (k : Int) + 1 by omega, sm_succ _ (by omega), sumS_take S k (by omega), qS_nat (by omega), List.take_add_one, List.getElem?_eq_getElem (by omega), sumS_app]
  show _ = _ + (_ + 0)
  omega
theorem sumS_sm (S : List (Int × Int)) : sm (fun j => (qS S j).2 - (qS S j).1) S.length = sumS S := by
 rw [sumS_take S _ (Nat.le_refl _), List.take_length]
theorem apart_iff {S : List (Int × Int)} (hw : ∀ a ∈ S, a.1 < a.2) (hs : S.Pairwise fun a b => a.1 ≤ b.1) : S.Pairwise Apart ↔ ∀ j : Int, 1 ≤ j → j < S.length → (qS S (j - 1)).2 ≤ (qS S j).1 := by
 constructor
 ·intro h j j0 j1
  have h1 := List.pairwise_iff_getElem.1 h (j.toNat - 1) j.toNat (by omega) (by omega) (by omega)
  have h2 := List.pairwise_iff_getElem.1 hs (j.toNat - 1) j.toNat (by omega) (by omega) (by omega)
  rw [← qS_nat, ← qS_nat, show ((j.toNat - 1 : Nat) : Int) = j - 1 by omega, show ((j.toNat : Nat) : Int) = j by omega] at h1 h2
  unfold Apart at h1
  omega
 ·intro h
  have key : ∀ (d i : Nat), i + d + 1 < S.length → (qS S i).2 ≤ (qS S ((i + d + 1 : Nat) : Int)).1 := by
   intro d
   induction d with
   | zero =>
    intro i hi
    have := h ((i + 0 + 1 : Nat) : Int) (by omega) (by omega)
    rw [show ((i + 0 + 1 : Nat) : Int) - 1 = (i : Int) by omega] at this
    exact this
   | succ d ih =>
    intro i hi
    have h1 := ih i (by omega)
    have h2 := hw _ (qS_mem (S := S) (j := ((i + d + 1 : Nat) : Int)) (by omega) (by omega))
    have h3 := h ((i + (d + 1) + 1 : Nat) : Int) (by omega) (by omega)
    rw [show ((i + (d + 1) + 1 : Nat) : Int) - 1 = ((i + d + 1 : Nat) : Int) by omega] at h3
    omega
  refine List.pairwise_iff_getElem.2 fun i j hi hj hij => ?_
  have h1 := key (j - i - 1) i (by omega)
  rw [show i + (j - i - 1) + 1 = j by omega, qS_nat hi, qS_nat hj] at h1
  have h2 := hw _ (List.getElem_mem hi)
  unfold Apart
  omega
structure PlanL (l : Lds) (kilns : Int) (T : List Trn) : Prop where
 ok : ∀ t ∈ T, OkT l t
 one : ∀ r : Int, 0 ≤ r → r < l.n → (spn T r).Pairwise Apart ∧ sumS (spn T r) = l.len r
 kil : ∀ x : Int, (∃ t ∈ T, x = t.2.1 ∨ x = t.2.2) → sL (fun u => ind (u.2.1 ≤ x ∧ x < u.2.2)) T ≤ kilns
theorem last_ex {p : Trn → Prop} : ∀ {T : List Trn}, (∃ t ∈ T, p t) → ∃ t ∈ T, p t ∧ ∀ u ∈ T, p u → u.2.1 ≤ t.2.1
 | [], ⟨_, h, _⟩ => nomatch h
 | a :: T, h => by
  by_cases hT : ∃ t ∈ T, p t
  ·obtain ⟨t, ht, hp, hm⟩ := last_ex hT
   by_cases c : p a ∧ t.2.1 < a.2.1
   ·exact ⟨a, List.mem_cons_self .., c.1, fun u hu hpu => by
     rcases List.mem_cons.1 hu with e | e
     ·rw [e]; exact Int.le_refl _
     ·have := hm u e hpu; omega⟩
   ·exact ⟨t, List.mem_cons_of_mem _ ht, hp, fun u hu hpu => by
     rcases List.mem_cons.1 hu with e | e
     ·rw [e] at hpu ⊢; exact Classical.byContradiction fun hn => c ⟨hpu, by omega⟩
     ·exact hm u e hpu⟩
  ·obtain ⟨t, ht, hp⟩ := h
   rcases List.mem_cons.1 ht with e | e
   ·subst e
    exact ⟨t, List.mem_cons_self .., hp, fun u hu hpu => by
     rcases List.mem_cons.1 hu with e | e
     ·rw [e]; exact Int.le_refl _
     ·exact absurd ⟨u, e, hpu⟩ hT⟩
   ·exact absurd ⟨t, e, hp⟩ hT
theorem sL_le {φ ψ : Arc → Int} : ∀ {A : List Arc}, (∀ a ∈ A, φ a ≤ ψ a) → sL φ A ≤ sL ψ A
 | [], _ => Int.le_refl _
 | a :: A, h => by
  have h1 := h a (List.mem_cons_self ..)
  have h2 := sL_le (A := A) fun b hb => h b (List.mem_cons_of_mem _ hb)
  show φ a + sL φ A ≤ ψ a + sL ψ A
  omega
theorem planL_iff {l : Lds} {kilns : Int} {T : List Trn} (hk : 0 ≤ kilns) : PlanL l kilns T ↔ PlanOk l kilns T := by
 constructor
 ·intro h
  refine ⟨h.ok, fun t ht => h.kil _ ⟨t, ht, .inl rfl⟩, ?_, fun i i0 i1 => by rw [← sumS_spn]; exact (h.one i i0 i1).2⟩
  refine List.pairwise_iff_getElem.2 fun i j hi hj hij e => ?_
  have ho := (h.ok _ (List.getElem_mem hi)).1
  have hp := (h.one _ ho.1 ho.2).1
  unfold spn at hp
  have h2 := List.pairwise_filter.1 (List.pairwise_map.1 hp)
  exact List.pairwise_iff_getElem.1 h2 i j hi hj hij (by simp) (by simp [e])
 ·intro h
  refine ⟨h.ok, fun r _ _ => ⟨?_, by rw [sumS_spn]; exact h.sum r (by assumption) (by assumption)⟩, fun x _ => ?_⟩
  ·unfold spn
   refine List.pairwise_map.2 (List.pairwise_filter.2 (h.one.imp fun {a b} hab ha hb => ?_))
   exact hab ((of_decide_eq_true ha).trans (of_decide_eq_true hb).symm)
  ·by_cases hx : ∃ t ∈ T, t.2.1 ≤ x ∧ x < t.2.2
   ·obtain ⟨t, ht, hp, hm⟩ := last_ex (p := fun t => t.2.1 ≤ x ∧ x < t.2.2) hx
    refine Int.le_trans (sL_le fun u hu => ?_) (h.kil t ht)
    by_cases c : u.2.1 ≤ x ∧ x < u.2.2
    ·have := hm u hu c
     rw [ind_t c, ind_t ⟨this, by omega⟩]; exact Int.le_refl _
    ·rw [ind_f c]; exact (ind_rng _).1
   ·rw [sL_cg (ψ := fun _ => 0) fun u hu => ind_f fun c => hx ⟨u, hu, c⟩, sL_zero]; exact hk
noncomputable def chg (T : List Trn) (x : Int) : Int := sL (fun t => ind (t.2.1 = x) - ind (t.2.2 = x)) T
theorem chg_snoc (T : List Trn) (t : Trn) (x : Int) : chg (T ++ [t]) x = chg T x + (ind (t.2.1 = x) - ind (t.2.2 = x)) := by
 unfold chg
 rw [sL_app]
 show _ + ((ind (t.2.1 = x) - ind (t.2.2 = x)) + 0) = _
 omega
theorem chg_rng (x : Int) : ∀ T : List Trn, -(T.length : Int) ≤ chg T x ∧ chg T x ≤ T.length
 | [] => by show -(0 : Int) ≤ 0 ∧ (0 : Int) ≤ 0; omega
 | t :: T => by
  have h := chg_rng x T
  have h1 := ind_rng (t.2.1 = x)
  have h2 := ind_rng (t.2.2 = x)
  have e : chg (t :: T) x = ind (t.2.1 = x) - ind (t.2.2 = x) + chg T x := rfl
  have e2 : ((t :: T).length : Int) = T.length + 1 := by simp
  rw [e, e2]
  omega
structure ChgI (T : List Trn) (M : List (Int × Value)) : Prop where
 nd : (M.map (·.1)).Nodup
 key : ∀ x : Int, x ∈ M.map (·.1) ↔ ∃ t ∈ T, x = t.2.1 ∨ x = t.2.2
 val : ∀ x : Int, (lkp M x).getD (iv 0) = iv (chg T x)
 le : M.length ≤ 2 * T.length
theorem ChgI.nil : ChgI [] [] := ⟨List.nodup_nil, fun x => ⟨fun h => (nomatch h), fun ⟨_, h, _⟩ => (nomatch h)⟩, fun _ => rfl, Nat.le_refl _⟩
theorem ChgI.step {T : List Trn} {M : List (Int × Value)} (h : ChgI T M) (t : Trn) (ht : t.2.1 < t.2.2) : ChgI (T ++ [t]) (mput (mput M t.2.1 (iv (chg T t.2.1 + 1))) t.2.2 (iv (chg T t.2.2 - 1))) := by
 refine ⟨mput_nodup _ _ (mput_nodup _ _ h.nd), fun x => ?_, fun x => ?_, ?_⟩
 ·rw [mput_mem, mput_mem, h.key x]
  constructor
  ·rintro (e | e | ⟨u, hu, e⟩)
   ·exact ⟨t, by simp, .inr e⟩
   ·exact ⟨t, by simp, .inl e⟩
   ·exact ⟨u, List.mem_append_left _ hu, e⟩
  ·rintro ⟨u, hu, e⟩
   rcases List.mem_append.1 hu with a | a
   ·exact .inr (.inr ⟨u, a, e⟩)
   ·rw [List.mem_singleton.1 a] at e
    exact e.elim (fun e => .inr (.inl e)) .inl
 ·rw [lkp_mput, lkp_mput, chg_snoc]
  by_cases a : x = t.2.2
  ·rw [if_pos a, a, ind_f (by omega), ind_t rfl]; exact congrArg iv (by omega)
  ·rw [if_neg a]
   by_cases b : x = t.2.1
   ·rw [if_pos b, b, ind_t rfl, ind_f (by omega)]; exact congrArg iv (by omega)
   ·rw [if_neg b, ind_f fun e => b e.symm, ind_f fun e => a e.symm, h.val x]; exact congrArg iv (by omega)
 ·have h1 := mput_lenM (mput M t.2.1 (iv (chg T t.2.1 + 1))) t.2.2 (iv (chg T t.2.2 - 1))
  have h2 := mput_lenM M t.2.1 (iv (chg T t.2.1 + 1))
  have h3 := h.le
  rw [List.length_append]
  simp only [List.length_cons, List.length_nil]
  omega
theorem sweep1 {N : Nat} {X : Int → Int} (hX : Rise N X) {k a : Int} (k0 : 0 ≤ k) (k1 : k < N) (ha : ∃ j : Int, (0 ≤ j ∧ j < N) ∧ X j = a) : sm (fun j => ind (a = X j)) (k + 1) = ind (a ≤ X k) := by
 obtain ⟨j, hj, rfl⟩ := ha
 have hm : ∀ i m : Int, 0 ≤ i → i ≤ m → m < N → X i ≤ X m := fun i m i0 im m1 => by
  by_cases e : i = m
  ·rw [e]; exact Int.le_refl _
  ·have := hX.inc i m i0 (by omega) m1; omega
 by_cases c : j ≤ k
 ·rw [sm_one1 hj.1 (by omega) fun i i0 i1 hne => ind_f fun e => ?_, ind_t rfl, ind_t (hm j k hj.1 c k1)]
  rcases Int.lt_trichotomy i j with d | d | d
  ·have := hX.inc i j i0 d hj.2; omega
  ·exact hne d
  ·have := hX.inc j i hj.1 d (by omega); omega
 ·rw [sm_zeroG fun i i0 i1 => ind_f fun e => ?_, ind_f fun e => ?_]
  ·have := hX.inc k j k0 (by omega) hj.2; omega
  ·have := hX.inc i j i0 (by omega) hj.2; omega
theorem sweep {T : List Trn} {N : Nat} {X : Int → Int} (hX : Rise N X) (hm : ∀ x : Int, (∃ j : Int, (0 ≤ j ∧ j < N) ∧ X j = x) ↔ ∃ t ∈ T, x = t.2.1 ∨ x = t.2.2) (hw : ∀ t ∈ T, t.2.1 < t.2.2) {k : Int} (k0 : 0 ≤ k) (k1 : k < N) :
  sm (fun j => chg T (X j)) (k + 1) = sL (fun u => ind (u.2.1 ≤ X k ∧ X k < u.2.2)) T := by
 show sm (fun j => sL (fun t => ind (t.2.1 = X j) - ind (t.2.2 = X j)) T) (k + 1) = _
 rw [← sL_sm (fun j t => ind (t.2.1 = X j) - ind (t.2.2 = X j))]
 refine sL_cg fun u hu => ?_
 rw [sm_sub, sweep1 hX k0 k1 ((hm _).2 ⟨u, hu, .inl rfl⟩), sweep1 hX k0 k1 ((hm _).2 ⟨u, hu, .inr rfl⟩)]
 have := hw u hu
 by_cases a : u.2.1 ≤ X k
 ·by_cases b : u.2.2 ≤ X k
  ·rw [ind_t a, ind_t b, ind_f (by omega)]; rfl
  ·rw [ind_t a, ind_f b, ind_t ⟨a, by omega⟩]; rfl
 ·rw [ind_f a, ind_f (by omega), ind_f fun e => a e.1]; rfl
end Go.Proofs.Ytbepolognfdkeaa
