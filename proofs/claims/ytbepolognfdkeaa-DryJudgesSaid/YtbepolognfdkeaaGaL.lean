import Derived.Test.YtbepolognfdkeaaGaK
set_option maxRecDepth 100000
namespace Go.Proofs.Ytbepolognfdkeaa
abbrev Trn := Int × Int × Int
theorem sL_perm (φ : Arc → Int) {A B : List Arc} (h : A.Perm B) : sL φ A = sL φ B := by
 induction h with
 | nil => rfl
 | cons x _ ih => show _ + _ = _ + _; rw [ih]
 | swap x y l => show _ + (_ + _) = _ + (_ + _); omega
 | trans _ _ h1 h2 => rw [h1, h2]
theorem sL_zero : ∀ A : List Arc, sL (fun _ => 0) A = 0
 | [] => rfl
 | a :: A => by show 0 + sL (fun _ => 0) A = 0; rw [sL_zero A]; rfl
theorem sL_nn {φ : Arc → Int} (h : ∀ a, 0 ≤ φ a) : ∀ A : List Arc, 0 ≤ sL φ A
 | [] => Int.le_refl _
 | a :: A => by
  have h1 := sL_nn h A
  have h2 := h a
  show 0 ≤ φ a + sL φ A
  omega
theorem sL_mem {φ : Arc → Int} (h : ∀ a, 0 ≤ φ a) {a : Arc} : ∀ {A : List Arc}, a ∈ A → φ a ≤ sL φ A
 | b :: A, hm => by
  show φ a ≤ φ b + sL φ A
  have h2 := h b
  rcases List.mem_cons.1 hm with e | e
  ·rw [← e]; have h1 := sL_nn h A; omega
  ·have := sL_mem h e; omega
theorem sL_cg {φ ψ : Arc → Int} : ∀ {A : List Arc}, (∀ a ∈ A, φ a = ψ a) → sL φ A = sL ψ A
 | [], _ => rfl
 | a :: A, h => by
  show φ a + sL φ A = ψ a + sL ψ A
  rw [h a (List.mem_cons_self ..), sL_cg fun b hb => h b (List.mem_cons_of_mem _ hb)]
theorem sL_sm (f : Int → Arc → Int) (n : Int) : ∀ A : List Arc, sL (fun u => sm (fun i => f i u) n) A = sm (fun i => sL (f i) A) n
 | [] => by
  show 0 = sm (fun _ => 0) n
  exact (sm_zeroG fun _ _ _ => rfl).symm
 | a :: A => by
  show sm (fun i => f i a) n + sL (fun u => sm (fun i => f i u) n) A = sm (fun i => f i a + sL (f i) A) n
  rw [sL_sm f n A, sm_add]
noncomputable def cvT (i h : Int) (t : Trn) : Int := ind (t.1 = i ∧ t.2.1 ≤ h ∧ h < t.2.2)
noncomputable def cv (T : List Trn) (i h : Int) : Int := sL (cvT i h) T
theorem cv_app (A B : List Trn) (i h : Int) : cv (A ++ B) i h = cv A i h + cv B i h := sL_app _ A B
theorem cvT_nn (i h : Int) (t : Trn) : 0 ≤ cvT i h t := (ind_rng _).1
structure PlanOk (l : Lds) (kilns : Int) (T : List Trn) : Prop where
 ok : ∀ t ∈ T, (0 ≤ t.1 ∧ t.1 < l.n) ∧ t.2.1 < t.2.2 ∧ l.r t.1 ≤ t.2.1 ∧ t.2.2 ≤ l.d t.1
 kil : ∀ t ∈ T, sL (fun u => ind (u.2.1 ≤ t.2.1 ∧ t.2.1 < u.2.2)) T ≤ kilns
 one : T.Pairwise fun t u => t.1 = u.1 → ¬ (u.2.1 ≤ t.2.1 ∧ t.2.1 < u.2.2) ∧ ¬ (t.2.1 ≤ u.2.1 ∧ u.2.1 < t.2.2)
 sum : ∀ i : Int, 0 ≤ i → i < l.n → sL (fun t => ind (t.1 = i) * (t.2.2 - t.2.1)) T = l.len i
theorem PlanOk.perm {l : Lds} {kilns : Int} {T T' : List Trn} (h : PlanOk l kilns T) (hp : T.Perm T') : PlanOk l kilns T' :=
 ⟨fun t ht => h.ok t (hp.mem_iff.2 ht), fun t ht => by rw [← sL_perm _ hp]; exact h.kil t (hp.mem_iff.2 ht),
  (hp.pairwise_iff fun {a b} hab e => ⟨(hab e.symm).2, (hab e.symm).1⟩).1 h.one, fun i i0 i1 => by rw [← sL_perm _ hp]; exact h.sum i i0 i1⟩
theorem cv_one : ∀ {T : List Trn}, (∀ i h : Int, cv T i h ≤ 1) → T.Pairwise fun t u => t.1 = u.1 → t.2.1 < t.2.2 ∧ u.2.1 < u.2.2 → ¬ (u.2.1 ≤ t.2.1 ∧ t.2.1 < u.2.2) ∧ ¬ (t.2.1 ≤ u.2.1 ∧ u.2.1 < t.2.2)
 | [], _ => List.Pairwise.nil
 | t :: T, h1 => by
  have ht : ∀ i h : Int, cvT i h t + cv T i h ≤ 1 := h1
  refine List.Pairwise.cons (fun u hu e hw => ⟨fun hc => ?_, fun hc => ?_⟩) (cv_one fun i h => ?_)
  ·have a := ht t.1 t.2.1
   have b : cvT t.1 t.2.1 u ≤ cv T t.1 t.2.1 := sL_mem (cvT_nn _ _) hu
   have c1 : cvT t.1 t.2.1 t = 1 := ind_t ⟨rfl, Int.le_refl _, hw.1⟩
   have c2 : cvT t.1 t.2.1 u = 1 := ind_t ⟨e.symm, hc.1, hc.2⟩
   omega
  ·have a := ht u.1 u.2.1
   have b : cvT u.1 u.2.1 u ≤ cv T u.1 u.2.1 := sL_mem (cvT_nn _ _) hu
   have c1 : cvT u.1 u.2.1 t = 1 := ind_t ⟨e, hc.1, hc.2⟩
   have c2 : cvT u.1 u.2.1 u = 1 := ind_t ⟨rfl, Int.le_refl _, hw.2⟩
   omega
  ·have a := ht i h
   have b := cvT_nn i h t
   omega
theorem Lds.Sched.plan {l : Lds} {M kilns : Int} {x : Int → Int → Int} (h : l.Sched M kilns x) {T : List Trn} (hT : ∀ t ∈ T, (0 ≤ t.1 ∧ t.1 < l.n) ∧ 0 ≤ t.2.1 ∧ t.2.1 < t.2.2 ∧ t.2.2 ≤ M) (hc : ∀ i t : Int, 0 ≤ i → i < l.n → 0 ≤ t → t < M → cv T i t = x i t) : PlanOk l kilns T := by
 have hz : ∀ i t : Int, ¬ ((0 ≤ i ∧ i < l.n) ∧ (0 ≤ t ∧ t < M)) → cv T i t = 0 := fun i t hn => by
  rw [← sL_zero T]
  exact sL_cg fun u hu => by
   have := hT u hu
   exact ind_f fun ⟨e1, e2, e3⟩ => hn (by omega)
 have hx : ∀ t ∈ T, ∀ q : Int, t.2.1 ≤ q → q < t.2.2 → x t.1 q ≠ 0 := fun t ht q q0 q1 => by
  have h1 := hT t ht
  have a := hc t.1 q h1.1.1 h1.1.2 (by omega) (by omega)
  have b : cvT t.1 q t ≤ cv T t.1 q := sL_mem (cvT_nn _ _) ht
  have c : cvT t.1 q t = 1 := ind_t ⟨rfl, q0, q1⟩
  omega
 have h1 : ∀ i t : Int, cv T i t ≤ 1 := fun i t => by
  by_cases e : (0 ≤ i ∧ i < l.n) ∧ (0 ≤ t ∧ t < M)
  ·rw [hc i t e.1.1 e.1.2 e.2.1 e.2.2]; exact (h.r01 i t e.1.1 e.1.2).2
  ·rw [hz i t e]; decide
 refine ⟨fun t ht => ?_, fun t ht => ?_, ?_, fun i i0 i1 => ?_⟩
 ·have a := hT t ht
  have b := h.win t.1 t.2.1 a.1.1 a.1.2 (hx t ht _ (Int.le_refl _) a.2.2.1)
  have c := h.win t.1 (t.2.2 - 1) a.1.1 a.1.2 (hx t ht _ (by omega) (by omega))
  exact ⟨a.1, a.2.2.1, b.1, by omega⟩
 ·have a := hT t ht
  have e : sL (fun u => ind (u.2.1 ≤ t.2.1 ∧ t.2.1 < u.2.2)) T = sm (fun i => cv T i t.2.1) l.n := by
   show _ = sm (fun i => sL (cvT i t.2.1) T) l.n
   rw [← sL_sm (fun i => cvT i t.2.1)]
   refine sL_cg fun u hu => ?_
   have b := hT u hu
   rw [sm_one1 (f := fun i => cvT i t.2.1 u) (a := u.1) b.1.1 b.1.2 fun i _ _ hne => ind_f fun e : u.1 = i ∧ u.2.1 ≤ t.2.1 ∧ t.2.1 < u.2.2 => hne e.1.symm]
   exact ind_congr ⟨fun e => ⟨rfl, e⟩, fun e => e.2⟩
  rw [e, sm_congr (g := fun i => x i t.2.1) fun i i0 i1 => hc i t.2.1 i0 i1 (by omega) (by omega)]
  exact h.most t.2.1 (by omega) (by omega)
 ·refine (cv_one h1).imp_of_mem fun {t u} ht hu hh e => hh e ⟨(hT t ht).2.2.1, (hT u hu).2.2.1⟩
 ·rw [← h.sum i i0 i1, sm_congr (g := fun t => cv T i t) fun t t0 t1 => (hc i t i0 i1 t0 t1).symm]
  show _ = sm (fun t => sL (cvT i t) T) M
  rw [← sL_sm (fun t => cvT i t)]
  refine sL_cg fun u hu => ?_
  have b := hT u hu
  show _ = sm (fun t => ind (u.1 = i ∧ u.2.1 ≤ t ∧ t < u.2.2)) M
  rw [sm_congr (g := fun t => ind (u.1 = i) * ind (u.2.1 ≤ t ∧ t < u.2.2)) fun t _ _ => ind_and, sm_mul, sm_span b.2.1 b.2.2.2, show max 0 (u.2.2 - u.2.1) = u.2.2 - u.2.1 by omega]
theorem cov_at {L q S n : Int} (S0 : 0 ≤ S) (n0 : 0 ≤ n) (n1 : n ≤ L) (q0 : 0 ≤ q) (q1 : q < L) : cov L q (S + n) - cov L q S = ind (S % L ≤ q ∧ q < S % L + min n (L - S % L)) + ind (q < n - min n (L - S % L)) := by
 have L0 : 0 < L := by omega
 have hs0 := Int.emod_nonneg S (show L ≠ 0 by omega)
 have hs1 := Int.emod_lt_of_pos S L0
 have hdm := Int.emod_add_mul_ediv S L
 have e : cov L q (S + n) - cov L q S = sm (fun i => ind ((S + i) % L = q)) n := by
  unfold cov
  rw [sm_shift _ S0 (show S ≤ S + n by omega), show S + n - S = n by omega]
  omega
 obtain ⟨i0, hi0, hi1, hi2, hi3⟩ : ∃ i0 : Int, 0 ≤ i0 ∧ i0 < L ∧ (S + i0) % L = q ∧ ((S % L ≤ q ∧ i0 = q - S % L) ∨ (q < S % L ∧ i0 = q - S % L + L)) := by
  by_cases c : S % L ≤ q
  ·refine ⟨q - S % L, by omega, by omega, ?_, .inl ⟨c, rfl⟩⟩
   rw [show S + (q - S % L) = q + L * (S / L) by omega, Int.add_mul_emod_self_left, Int.emod_eq_of_lt q0 q1]
  ·refine ⟨q - S % L + L, by omega, by omega, ?_, .inr ⟨by omega, rfl⟩⟩
   rw [show S + (q - S % L + L) = (q + L * (S / L)) + L by omega, Int.add_emod_right, Int.add_mul_emod_self_left, Int.emod_eq_of_lt q0 q1]
 have hu : ∀ i : Int, 0 ≤ i → i < n → (S + i) % L = q → i = i0 := fun i a b hq => by
  have := emod_inj L0 (hq.trans hi2.symm) (by omega) (by omega)
  omega
 rw [e]
 by_cases c : i0 < n
 ·rw [sm_one1 hi0 c fun i a b hne => ind_f fun hq => hne (hu i a b hq), ind_t hi2]
  rcases hi3 with ⟨a, b⟩ | ⟨a, b⟩
  ·rw [ind_t (by omega), ind_f (by omega)]; rfl
  ·rw [ind_f (by omega), ind_t (by omega)]; rfl
 ·rw [sm_zeroG fun i a b => ind_f fun hq => c (by rw [← hu i a b hq]; exact b)]
  rw [ind_f (by omega), ind_f (by omega)]; rfl
def pcs (i X L s n : Int) : List Trn := (i, X + s, X + s + min n (L - s)) :: if 0 < n - min n (L - s) then [(i, X, X + (n - min n (L - s)))] else []
theorem pcs_cv {i X L s n S : Int} (S0 : 0 ≤ S) (hs : s = S % L) (n0 : 0 < n) (n1 : n ≤ L) (j h : Int) : cv (pcs i X L s n) j h = ind (j = i) * ((cov L (h - X) (S + n) - cov L (h - X) S) * ind (X ≤ h ∧ h < X + L)) := by
 have L0 : 0 < L := by omega
 have hs0 := Int.emod_nonneg S (show L ≠ 0 by omega)
 have hs1 := Int.emod_lt_of_pos S L0
 have e0 : cv (pcs i X L s n) j h = ind (i = j ∧ X + s ≤ h ∧ h < X + s + min n (L - s)) + ind (i = j ∧ X ≤ h ∧ h < X + (n - min n (L - s))) := by
  unfold cv pcs
  by_cases c : 0 < n - min n (L - s)
  ·rw [if_pos c]
   show _ + (_ + 0) = _
   rw [Int.add_zero]; rfl
  ·rw [if_neg c]
   show _ + 0 = _
   rw [ind_f (p := i = j ∧ X ≤ h ∧ h < X + (n - min n (L - s))) (by omega)]; rfl
 rw [e0]
 by_cases cj : j = i
 ·rw [ind_t cj, Int.one_mul]
  by_cases ch : X ≤ h ∧ h < X + L
  ·rw [ind_t ch, Int.mul_one, cov_at S0 (by omega) n1 (by omega) (by omega), ← hs]
   congr 1 <;> exact ind_congr (by omega)
  ·rw [ind_f ch, Int.mul_zero, ind_f (by omega), ind_f (by omega)]; rfl
 ·rw [ind_f cj, Int.zero_mul, ind_f (by omega), ind_f (by omega)]; rfl
theorem pcs_ok {i X L s n : Int} (s0 : 0 ≤ s) (s1 : s < L) (n0 : 0 < n) (n1 : n ≤ L) : ∀ t ∈ pcs i X L s n, t.1 = i ∧ X ≤ t.2.1 ∧ t.2.1 < t.2.2 ∧ t.2.2 ≤ X + L := fun t ht => by
 unfold pcs at ht
 rcases List.mem_cons.1 ht with e | e
 ·rw [e]; exact ⟨rfl, by show X ≤ X + s; omega, by show X + s < X + s + min n (L - s); omega, by show X + s + min n (L - s) ≤ X + L; omega⟩
 ·by_cases c : 0 < n - min n (L - s)
  ·rw [if_pos c] at e
   rw [List.mem_singleton.1 e]
   exact ⟨rfl, Int.le_refl _, by show X < X + (n - min n (L - s)); omega, by show X + (n - min n (L - s)) ≤ X + L; omega⟩
  ·rw [if_neg c] at e; exact (nomatch e)
section
variable {l : Lds} {c : Nat} {X : Int → Int} {x : Int → Int → Int} {kilns M : Int}
noncomputable def gk (X : Int → Int) (x : Int → Int → Int) (k i h : Int) : Int := (cov (X (k + 1) - X k) (h - X k) (stt x k (i + 1)) - cov (X (k + 1) - X k) (h - X k) (stt x k i)) * sp X k h
structure DSpan (l : Lds) (X : Int → Int) (x : Int → Int → Int) (k b : Int) (T : List Trn) : Prop where
 ok : ∀ t ∈ T, (0 ≤ t.1 ∧ t.1 < l.n) ∧ X k ≤ t.2.1 ∧ t.2.1 < t.2.2 ∧ t.2.2 ≤ X (k + 1)
 cv : ∀ i h : Int, 0 ≤ i → i < l.n → Go.Proofs.Ytbepolognfdkeaa.cv T i h = if i < b then gk X x k i h else 0
theorem DSpan.nil (k : Int) : DSpan l X x k 0 [] := ⟨fun t ht => (nomatch ht), fun i h i0 _ => by rw [if_neg (by omega)]; rfl⟩
theorem stt_skip {k b b' : Int} (b0 : 0 ≤ b) (hb : b ≤ b') (hz : ∀ i : Int, b ≤ i → i < b' → x i k = 0) : stt x k b' = stt x k b := by
 unfold stt
 rw [sm_shift _ b0 hb, sm_zeroG (f := fun i => x (b + i) k) fun i i0 i1 => hz _ (by omega) (by omega)]; omega
theorem DSpan.skip {k b b' : Int} {T : List Trn} (h : DSpan l X x k b T) (b0 : 0 ≤ b) (hb : b ≤ b') (hz : ∀ i : Int, b ≤ i → i < b' → x i k = 0) : DSpan l X x k b' T :=
 ⟨h.ok, fun i t i0 i1 => by
  rw [h.cv i t i0 i1]
  by_cases c1 : i < b
  ·rw [if_pos c1, if_pos (by omega)]
  ·rw [if_neg c1]
   by_cases c2 : i < b'
   ·rw [if_pos c2]
    unfold gk
    rw [show stt x k (i + 1) = stt x k i by unfold stt; rw [sm_succ _ i0, hz i (by omega) c2]; omega, Int.sub_self, Int.zero_mul]
   ·rw [if_neg c2]⟩
theorem DSpan.step {k b : Int} {T : List Trn} (h : DSpan l X x k b T) (b0 : 0 ≤ b) (b1 : b < l.n) (hS : 0 ≤ stt x k b) (n0 : 0 < x b k) (n1 : x b k ≤ X (k + 1) - X k) : DSpan l X x k (b + 1) (T ++ pcs b (X k) (X (k + 1) - X k) (stt x k b % (X (k + 1) - X k)) (x b k)) := by
 have L0 : 0 < X (k + 1) - X k := by omega
 refine ⟨fun t ht => ?_, fun i t i0 i1 => ?_⟩
 ·rcases List.mem_append.1 ht with e | e
  ·exact h.ok t e
  ·have := pcs_ok (Int.emod_nonneg _ (by omega)) (Int.emod_lt_of_pos _ L0) n0 n1 t e
   omega
 ·rw [cv_app, h.cv i t i0 i1, pcs_cv hS rfl n0 n1]
  by_cases c0 : i = b
  ·rw [ind_t c0, if_neg (by omega), if_pos (by omega), Int.one_mul, Int.zero_add]
   unfold gk sp
   rw [c0, show stt x k (b + 1) = stt x k b + x b k from sm_succ _ b0]
   congr 1
   exact ind_congr (by omega)
  ·rw [ind_f c0, Int.zero_mul, Int.add_zero]
   by_cases c1 : i < b
   ·rw [if_pos c1, if_pos (by omega)]
   ·rw [if_neg c1, if_neg (by omega)]
structure DAll (l : Lds) (X : Int → Int) (x : Int → Int → Int) (M K : Int) (T : List Trn) : Prop where
 ok : ∀ t ∈ T, (0 ≤ t.1 ∧ t.1 < l.n) ∧ 0 ≤ t.2.1 ∧ t.2.1 < t.2.2 ∧ t.2.2 ≤ M
 cv : ∀ i h : Int, 0 ≤ i → i < l.n → Go.Proofs.Ytbepolognfdkeaa.cv T i h = sm (fun k => gk X x k i h) K
theorem DAll.nil : DAll l X x M 0 [] := ⟨fun t ht => (nomatch ht), fun _ _ _ _ => rfl⟩
theorem DAll.step {K : Int} {T T' : List Trn} (h : DAll l X x M K T) (h' : DSpan l X x K l.n T') (K0 : 0 ≤ K) (hX : 0 ≤ X K ∧ X (K + 1) ≤ M) : DAll l X x M (K + 1) (T ++ T') :=
 ⟨fun t ht => by
  rcases List.mem_append.1 ht with e | e
  ·exact h.ok t e
  ·have := h'.ok t e
   omega, fun i t i0 i1 => by
  rw [cv_app, h.cv i t i0 i1, h'.cv i t i0 i1, if_pos i1, sm_succ _ K0]⟩
theorem DAll.plan {T : List Trn} (h : DAll l X x M ((c - 1 : Nat) : Int) T) (hD : Deal l c X kilns x) (hC : Cuts l c X) (hF : l.Fit M) (hk : 0 ≤ kilns) : PlanOk l kilns T :=
 (hD.sched hC hF hk).plan h.ok fun i t i0 i1 _ _ => h.cv i t i0 i1
end
end Go.Proofs.Ytbepolognfdkeaa
